/-
  A23f, A23g, S2, one behind the other.
-/
import Derived.Test.YtjaicibmmcpeiaaG1
import Derived.Test.YtjaicibmmcpeiaaG0
import Derived.Test.YtjaicibmmcpeiaaLgK10
namespace Go.Proofs.Ytjaicibmmcpeiaa
open Go Go.Lg
set_option linter.unusedSimpArgs false
set_option linter.unusedVariables false
set_option maxHeartbeats 4000000
section
theorem u32_or_nat (a b:Nat) (ha:a<2^32) (hb:b<2^32):bits .or .u32 (a:Int) (b:Int)=((a ||| b:Nat):Int):=by
 have hx:a ||| b<2^32:=Nat.or_lt_two_pow ha hb
 show IntKind.u32.wrap ((BitVec.ofInt 32 (a:Int) ||| BitVec.ofInt 32 (b:Int)).toNat:Int)=_
 rw[BitVec.toNat_or]
 have h1:(BitVec.ofInt 32 (a:Int)).toNat=a:=by rw[BitVec.toNat_ofInt];omega
 have h2:(BitVec.ofInt 32 (b:Int)).toNat=b:=by rw[BitVec.toNat_ofInt];omega
 rw[h1,h2]
 simp only[IntKind.wrap,IntKind.signed,IntKind.bits,Bool.false_and,Bool.false_eq_true,if_false]
 omega
theorem u32_and_nat (a b:Nat) (ha:a<2^32) (hb:b<2^32):bits .and .u32 (a:Int) (b:Int)=((a &&& b:Nat):Int):=by
 have hx:a &&& b<2^32:=Nat.and_lt_two_pow _ hb
 show IntKind.u32.wrap ((BitVec.ofInt 32 (a:Int) &&& BitVec.ofInt 32 (b:Int)).toNat:Int)=_
 rw[BitVec.toNat_and]
 have h1:(BitVec.ofInt 32 (a:Int)).toNat=a:=by rw[BitVec.toNat_ofInt];omega
 have h2:(BitVec.ofInt 32 (b:Int)).toNat=b:=by rw[BitVec.toNat_ofInt];omega
 rw[h1,h2]
 simp only[IntKind.wrap,IntKind.signed,IntKind.bits,Bool.false_and,Bool.false_eq_true,if_false]
 omega
def maskN (s:List Int):Nat:=s.foldl (fun m q=>m ||| 2^q.toNat) 0
def maskI (s:List Int):Int:=(maskN s:Int)
def InS (s:List Int):Prop:=∀x∈s,0≤x∧x<16
theorem maskF_bit:∀(s:List Int) (m q:Nat),(s.foldl (fun m q=>m ||| 2^q.toNat) m).testBit q=(m.testBit q||decide (∃x∈s,x.toNat=q))
 | [],m,q=>by simp
 | x::s,m,q=>by
  rw[List.foldl_cons,maskF_bit s,Nat.testBit_or,Nat.testBit_two_pow]
  by_cases h:x.toNat=q<;>simp[h]
theorem maskN_bit {s:List Int} (hs:InS s) {q:Int} (h0:0≤q):(maskN s).testBit q.toNat=decide (q∈s):=by
 unfold maskN
 rw[maskF_bit,Nat.zero_testBit,Bool.false_or]
 congr 1
 refine propext ⟨?_,fun h=>⟨q,h,rfl⟩⟩
 rintro⟨x,hx,e⟩
 have:=hs x hx
 rwa [show q=x by omega]
theorem maskF_lt:∀(s:List Int) (m:Nat),InS s→m<2^16→s.foldl (fun m q=>m ||| 2^q.toNat) m<2^16
 | [],m,_,h=>h
 | x::s,m,hs,h=>by
  have hx:=hs x List.mem_cons_self
  exact maskF_lt s _ (fun y hy=>hs y (List.mem_cons_of_mem _ hy)) (Nat.or_lt_two_pow h (Nat.pow_lt_pow_right (by decide) (by omega)))
theorem maskN_lt {s:List Int} (hs:InS s):maskN s<2^16:=maskF_lt s 0 hs (by decide)
theorem maskN_snoc (s:List Int) (q:Int):maskN (s++[q])=maskN s ||| 2^q.toNat:=by unfold maskN;rw[List.foldl_append];rfl
theorem maskN_ext {s s':List Int} (h:∀x,x∈s↔x∈s'):maskN s=maskN s':=by
 refine Nat.eq_of_testBit_eq fun q=>?_
 unfold maskN
 rw[maskF_bit,maskF_bit]
 simp only[h]
theorem shl_one {q:Int} (h0:0≤q) (h1:q<16):IntKind.u32.wrap (2^q.toNat)=((2^q.toNat:Nat):Int):=by
 have h:(2:Nat)^q.toNat<2^16:=Nat.pow_lt_pow_right (by decide) (by omega)
 have e:((2:Int)^q.toNat)=((2^q.toNat:Nat):Int):=by norm_cast
 rw[e]
 generalize (2:Nat)^q.toNat=m at h
 simp only[IntKind.wrap,IntKind.signed,IntKind.bits,Bool.false_and,Bool.false_eq_true,if_false]
 omega
theorem mask_snoc {s:List Int} (hs:InS s) {q:Int} (h0:0≤q) (h1:q<16):bits .or .u32 (maskI s) (IntKind.u32.wrap (2^q.toNat))=maskI (s++[q]):=by
 have h:=maskN_lt hs
 have h2:(2:Nat)^q.toNat<2^16:=Nat.pow_lt_pow_right (by decide) (by omega)
 rw[shl_one h0 h1]
 unfold maskI
 rw[u32_or_nat _ _ (by omega) (by omega),maskN_snoc]
theorem mask_into {s:List Int} (hs:InS s) {q:Int} (h0:0≤q) (h1:q<16):bits .or .u32 (maskI s) (IntKind.u32.wrap (2^q.toNat))=maskI (intoL s q):=by
 rw[mask_snoc hs h0 h1]
 unfold maskI
 rw[maskN_ext fun x=>?_]
 rw[mem_intoL,List.mem_append,List.mem_singleton]
theorem mask_has {s:List Int} (hs:InS s) {q:Int} (h0:0≤q) (h1:q<16):bits .and .u32 (maskI s / 2^q.toNat) 1=1↔q∈s:=by
 have h:=maskN_lt hs
 have e:maskI s / 2^q.toNat=((maskN s / 2^q.toNat:Nat):Int):=by unfold maskI;norm_cast
 have h3:maskN s / 2^q.toNat≤maskN s:=Nat.div_le_self _ _
 rw[e,show (1:Int)=((1:Nat):Int) from rfl,u32_and_nat _ _ (by omega) (by omega)]
 have hb:=maskN_bit hs h0
 rw[Nat.testBit_eq_decide_div_mod_eq] at hb
 rw[Nat.and_one_is_mod]
 have:maskN s / 2^q.toNat%2=1↔q∈s:=by simpa using hb
 rw[←this];norm_cast
theorem mask_meets {s s':List Int} (hs:InS s) (hs':InS s'):¬bits .and .u32 (maskI s) (maskI s')=0↔∃x∈s,x∈s':=by
 have h:=maskN_lt hs
 have h':=maskN_lt hs'
 unfold maskI
 rw[u32_and_nat _ _ (by omega) (by omega)]
 constructor
 ·intro hn
  have hn:maskN s &&& maskN s'≠0:=fun e=>hn (by rw[e];rfl)
  obtain⟨i,hi⟩:=Nat.exists_testBit_of_ne_zero hn
  rw[Nat.testBit_and,Bool.and_eq_true] at hi
  obtain⟨a,b⟩:=hi
  have e:i=((i:Int)).toNat:=by omega
  rw[e,maskN_bit hs (by omega)] at a
  rw[e,maskN_bit hs' (by omega)] at b
  exact⟨i,of_decide_eq_true a,of_decide_eq_true b⟩
 ·rintro⟨x,hx,hx'⟩ e
  have e:maskN s &&& maskN s'=0:=by exact_mod_cast e
  have:=hs x hx
  have t:=Nat.testBit_and (maskN s) (maskN s') x.toNat
  rw[e,maskN_bit hs this.1,maskN_bit hs' this.1] at t
  simp[hx,hx'] at t
theorem intoL_len (n:Int):∀xs:List Int,(intoL xs n).length≤xs.length+1
 | []=>by simp[intoL]
 | x::r=>by
  have ih:=intoL_len n r
  unfold intoL
  split
  ·simp only[List.length_cons];omega
  ·split<;>simp only[List.length_cons]<;>omega
def FitA (r:TransT) (args:List (List Int)):Prop:=∀k<args.length,r.args.getD k default∈args.getD k default
open Classical in
noncomputable def imgS (sym:Int) (args:List (List Int)) (s:List Int) (r:TransT):List Int:=if r.sym=sym∧FitA r args then intoL s r.to else s
noncomputable def imgT (a:AutoT) (sym:Int) (args:List (List Int)) (i:Nat):List Int:=(a.rules.take i).foldl (imgS sym args) []
theorem imgT_succ (a:AutoT) (sym:Int) (args:List (List Int)) {i:Nat} (h:i<a.rules.length):imgT a sym args (i+1)=imgS sym args (imgT a sym args i) (a.rules.getD i default):=by
 unfold imgT
 rw[List.take_succ_eq_append_getElem h,List.foldl_append]
 simp[List.getD,h]
theorem imgS_yes {sym:Int} {args:List (List Int)} {s:List Int} {r:TransT} (h:r.sym=sym∧FitA r args):imgS sym args s r=intoL s r.to:=if_pos h
theorem imgS_no {sym:Int} {args:List (List Int)} {s:List Int} {r:TransT} (h:¬(r.sym=sym∧FitA r args)):imgS sym args s r=s:=if_neg h
theorem imgT_in {rs:List Int} {a:AutoT} (hA:AutoOkP rs a) (sym:Int) (args:List (List Int)):∀i≤a.rules.length,InS (imgT a sym args i)
 | 0,_=>by simp[imgT,InS]
 | i+1,hi=>by
  have ih:=imgT_in hA sym args i (by omega)
  rw[imgT_succ a sym args (by omega)]
  have ht:=(hA.2 i (by omega)).1.2.2.1
  have hs:=hA.1.2.1
  rcases Classical.em ((a.rules.getD i default).sym=sym∧FitA (a.rules.getD i default) args) with h|h
  ·rw[imgS_yes h]
   intro x hx
   rcases (mem_intoL _ _ _).1 hx with hx|rfl
   ·exact ih x hx
   ·omega
  ·rw[imgS_no h];exact ih
theorem imgT_len (a:AutoT) (sym:Int) (args:List (List Int)):∀i≤a.rules.length,(imgT a sym args i).length≤i
 | 0,_=>by simp[imgT]
 | i+1,hi=>by
  have ih:=imgT_len a sym args i (by omega)
  rw[imgT_succ a sym args (by omega)]
  rcases Classical.em ((a.rules.getD i default).sym=sym∧FitA (a.rules.getD i default) args) with h|h
  ·rw[imgS_yes h]
   have:=intoL_len (a.rules.getD i default).to (imgT a sym args i)
   omega
  ·rw[imgS_no h];omega
end
section
attribute [local irreducible] SW runL runQ runG runQG FC Ret1 RetN toF redoL
def kp43:List (Nat×List Nat):=[(0,[1,2,3]),(1,[1,2,3,7]),(2,[1,2,3,7,8]),(3,[1,2,3,7,8,17]),(5,[1,2,3,7,8,9]),(6,[1,2,3,7,8,9,10]),(7,[1,2,3,7,8,9,10,11]),(8,[1,2,3,7,8,9,10,11,35]),(10,[1,2,3,7,8,9,10,11]),(9,[1,2,3,7,8,9,10,11]),(11,[1,2,3,7,8,9,48]),(12,[1,2,3,7,8]),(4,[1,2,3,7,8]),(13,[6])]
attribute [go_sem] kp43 Try.results43 Try.ntmps43
theorem l23Image_fc (tk:Tk) (rs:List Int) (a:AutoT) (hA:AutoOkP rs a) (sym:Int) (args:List (List Int)) (hn:args.length≤100) (hf:∀i<a.rules.length,(a.rules.getD i default).sym=sym→(a.rules.getD i default).args.length=args.length):FC S 43 [] [] [] [AutoD a,.int .i64 sym,.sl tk (args.map IntsD)] (.sl .any ((imgT a sym args a.rules.length).map (.int .i64))) [] []:=by
 have hr:=hA.1.2.2.1
 refine FC.args (args':=[AutoD a,.int .i64 sym,.sl .any (args.map IntsD)]) ?_ (by simp only[go_sem])
 refine fcb Try.func43 fun B=>?_
 refine sw_bndg 2 fun hb2=>?_
 repeat' first|exact h.elim|refine sw_n ?_|refine sw_go 0 kp43 fun K hK=>?_|refine fun (K:KT) (hK:KOk S 0 _ _ _ K)=>?_|refine sw_goD kp43 (by kernel_rfl) fun K hK=>?_|refine runL_g ?_|refine runQ_g ?_|refine sw_retg0 ?_|refine sw_retg ?_|(refine hK.n0 ?_;clear hK K)|refine runG_fk (fun h=>?_) fun h=>?_|refine runQG_fk (fun h=>?_) fun h=>?_|refine sw_condg rfl (fun h=>?_) fun h=>?_|refine hK.skp rfl rfl ?_|refine sw_exit rfl ?_|refine sw_loopEnd ?_|(refine hK.fork rfl rfl rfl ?_ ?_<;>intro h<;>try simp (disch:=(refine Om.mk ?_;omega)) only[go_sem] at h)|with_reducible refine and_o ?_|((with_reducible refine And.intro ?_ ?_);· first|(intro x hx;subst hx;rfl)|(intro x;refine And.intro ?_ ?_<;>(intros;subst_vars;rfl)))|apply tTT
 refine sw_loopU (ι:=Nat) (fun p=>[(8,.int .i64 p),(7,.sl .any ((imgT a sym args p).map (.int .i64)))]) (fun p=>[]) (fun p=>p≤a.rules.length) (fun p=>a.rules.length-p) 0 cvB ?_ (fun p hp=>?_)
 rotate_left
 simp only[go_sem]
 have hl:=imgT_len a sym args p hp
 have hs:=fun h=>imgT_succ a sym args (i:=p) h
 have hf:=hf p
 have hto:=fun h=>(hA.2 p h).1.2.2.1
 repeat' first|exact h.elim|refine sw_n ?_|refine sw_go 0 kp43 fun K hK=>?_|refine fun (K:KT) (hK:KOk S 0 _ _ _ K)=>?_|refine sw_goD kp43 (by kernel_rfl) fun K hK=>?_|refine runL_g ?_|refine runQ_g ?_|refine sw_retg0 ?_|refine sw_retg ?_|(refine hK.n0 ?_;clear hK K)|refine runG_fk (fun h=>?_) fun h=>?_|refine runQG_fk (fun h=>?_) fun h=>?_|refine sw_condg rfl (fun h=>?_) fun h=>?_|refine hK.skp rfl rfl ?_|refine sw_exit rfl ?_|refine sw_loopEnd ?_|(refine hK.fork rfl rfl rfl ?_ ?_<;>intro h<;>try simp (disch:=(refine Om.mk ?_;omega)) only[go_sem] at h)|with_reducible refine and_o ?_|((with_reducible refine And.intro ?_ ?_);· first|(intro x hx;subst hx;rfl)|(intro x;refine And.intro ?_ ?_<;>(intros;subst_vars;rfl)))|apply tTT
 ·generalize hrd:a.rules.getD p default=r at *
  refine sw_loopT (ι:=Nat) (fun k=>[(11,.int .i64 k),(10,.bool (tst (r.sym=sym∧∀j<k,r.args.getD j default∈args.getD j default)))]) (fun _=>[]) (fun _=>[]) (fun k=>k≤args.length) (fun k=>args.length-k) 0 (by(refine covers_mk0 rfl rfl ?_ ?_ ?_ ?_<;>simp (disch:=(refine Om.mk ?_;omega)) only[go_sem]<;>(try omega));all_goals exact⟨⟨fun h=>⟨h,fun j hj=>absurd hj (by omega)⟩,fun h=>h.1⟩,rfl⟩) (by omega) (fun k hk=>?_)
  simp only[go_sem]
  by_cases hsy:r.sym=sym
  ·have hlen:=hf (by omega) hsy
   repeat' first|exact h.elim|refine sw_n ?_|refine sw_go 0 kp43 fun K hK=>?_|refine fun (K:KT) (hK:KOk S 0 _ _ _ K)=>?_|refine sw_goD kp43 (by kernel_rfl) fun K hK=>?_|refine runL_g ?_|refine runQ_g ?_|refine sw_retg0 ?_|refine sw_retg ?_|(refine hK.n0 ?_;clear hK K)|refine runG_fk (fun h=>?_) fun h=>?_|refine runQG_fk (fun h=>?_) fun h=>?_|refine sw_condg rfl (fun h=>?_) fun h=>?_|refine hK.skp rfl rfl ?_|refine sw_exit rfl ?_|refine sw_loopEnd ?_|refine hK.c1 rfl rfl rfl (l1Has_fc _ (args.getD k default) (r.args.getD k default)) ?_|refine hK.c1 rfl rfl rfl (l1Into_fc _ (imgT a sym args p) r.to (by omega)) ?_|(refine hK.fork rfl rfl rfl ?_ ?_<;>intro h<;>try simp (disch:=(refine Om.mk ?_;omega)) only[go_sem] at h)|with_reducible refine and_o ?_|((with_reducible refine And.intro ?_ ?_);· first|(intro x hx;subst hx;rfl)|(intro x;refine And.intro ?_ ?_<;>(intros;subst_vars;rfl)))|apply tTT
   ·have hh:r.sym=sym∧∀j<k,r.args.getD j default∈args.getD j default:=by assumption
    exact⟨k+1,(by(refine covers_mk0 rfl rfl ?_ ?_ ?_ ?_<;>simp (disch:=(refine Om.mk ?_;omega)) only[go_sem]<;>(try omega));refine⟨⟨fun hm=>⟨hh.1,upto_succ hh.2 hm⟩,fun hm=>hm.2 k (by omega)⟩,?_⟩;omega),by omega,by omega⟩
   ·exact absurd h (by assumption)
   ·have hnf:¬(r.sym=sym∧FitA r args):=fun e=>h ⟨e.1,fun j hj=>e.2 j (by omega)⟩
    exact⟨p+1,(by rw[hs (by omega),imgS_no hnf];(refine covers_mk0 rfl rfl ?_ ?_ ?_ ?_<;>simp (disch:=(refine Om.mk ?_;omega)) only[go_sem]<;>(try omega));all_goals exact⟨rfl,by omega⟩),by omega,by omega⟩
   ·have hf:r.sym=sym∧FitA r args:=⟨h.1,fun j hj=>h.2 j (by omega)⟩
    exact⟨p+1,(by rw[hs (by omega),imgS_yes hf];(refine covers_mk0 rfl rfl ?_ ?_ ?_ ?_<;>simp (disch:=(refine Om.mk ?_;omega)) only[go_sem]<;>(try omega));all_goals exact⟨rfl,by omega⟩),by omega,by omega⟩
   ·have hnf:¬(r.sym=sym∧FitA r args):=fun e=>h ⟨e.1,fun j hj=>e.2 j (by omega)⟩
    exact⟨p+1,(by rw[hs (by omega),imgS_no hnf];(refine covers_mk0 rfl rfl ?_ ?_ ?_ ?_<;>simp (disch:=(refine Om.mk ?_;omega)) only[go_sem]<;>(try omega));all_goals exact⟨rfl,by omega⟩),by omega,by omega⟩
  ·rw[tst_false fun e=>hsy e.1]
   have hnf:¬(r.sym=sym∧FitA r args):=fun e=>hsy e.1
   repeat' first|exact h.elim|refine sw_n ?_|refine sw_go 0 kp43 fun K hK=>?_|refine fun (K:KT) (hK:KOk S 0 _ _ _ K)=>?_|refine sw_goD kp43 (by kernel_rfl) fun K hK=>?_|refine runL_g ?_|refine runQ_g ?_|refine sw_retg0 ?_|refine sw_retg ?_|(refine hK.n0 ?_;clear hK K)|refine runG_fk (fun h=>?_) fun h=>?_|refine runQG_fk (fun h=>?_) fun h=>?_|refine sw_condg rfl (fun h=>?_) fun h=>?_|refine hK.skp rfl rfl ?_|refine sw_exit rfl ?_|refine sw_loopEnd ?_|(refine hK.fork rfl rfl rfl ?_ ?_<;>intro h<;>try simp (disch:=(refine Om.mk ?_;omega)) only[go_sem] at h)|with_reducible refine and_o ?_|((with_reducible refine And.intro ?_ ?_);· first|(intro x hx;subst hx;rfl)|(intro x;refine And.intro ?_ ?_<;>(intros;subst_vars;rfl)))|apply tTT
   all_goals exact⟨p+1,(by rw[hs (by omega),imgS_no hnf];(refine covers_mk0 rfl rfl ?_ ?_ ?_ ?_<;>simp (disch:=(refine Om.mk ?_;omega)) only[go_sem]<;>(try omega));all_goals exact⟨rfl,by omega⟩),by omega,by omega⟩
 ·rw[show p=a.rules.length by omega]
 ·omega
def kp46:List (Nat×List Nat):=[(0,[0,1]),(1,[0,1,5]),(2,[0,1,5,9]),(4,[0,1,5,17]),(5,[4]),(3,[0,1,5]),(6,[4])]
attribute [go_sem] kp46 Try.results46 Try.ntmps46
theorem l23Meets_fc (tk tk1:Tk) (s u:List Int):FC S 46 [] [] [] [.sl tk (s.map (.int .i64)),.sl tk1 (u.map (.int .i64))] (.bool (tst (∃x∈s,x∈u))) [] []:=by
 refine FC.args (args':=[.sl .any (s.map (.int .i64)),.sl .any (u.map (.int .i64))]) ?_ (by simp only[go_sem])
 refine fcb Try.func46 fun B=>?_
 refine sw_bndg 0 fun hb0=>?_
 repeat' first|exact h.elim|refine sw_n ?_|refine sw_go 0 kp46 fun K hK=>?_|refine fun (K:KT) (hK:KOk S 0 _ _ _ K)=>?_|refine runL_g ?_|refine sw_retg0 ?_|refine sw_retg ?_|(refine hK.n0 ?_;clear hK K)|refine sw_condg rfl (fun h=>?_) fun h=>?_|refine sw_exit rfl ?_|refine sw_loopEnd ?_|with_reducible refine and_o ?_|apply tTT
 refine sw_loopU (ι:=Nat) (fun i=>[(5,.int .i64 i)]) (fun _=>[]) (fun i=>i≤s.length∧(∀j<i,¬s.getD j default∈u)) (fun i=>s.length-i) 0 cvA ⟨by omega,?_⟩ (fun i ⟨hi,hj⟩=>?_)
 rotate_left
 simp only[go_sem]
 repeat' first|exact h.elim|refine sw_n ?_|refine sw_go 0 kp46 fun K hK=>?_|refine fun (K:KT) (hK:KOk S 0 _ _ _ K)=>?_|refine runL_g ?_|refine sw_retg0 ?_|refine sw_retg ?_|(refine hK.n0 ?_;clear hK K)|refine sw_condg rfl (fun h=>?_) fun h=>?_|refine sw_exit rfl ?_|refine sw_loopEnd ?_|refine hK.c1 rfl rfl rfl (l1Has_fc _ u (s.getD i default)) ?_|with_reducible refine and_o ?_|apply tTT
 ·exact⟨_,getD_mem s i (by omega),h⟩
 ·exact⟨i+1,by(refine covers_mk0 rfl rfl ?_ ?_ ?_ ?_<;>simp (disch:=(refine Om.mk ?_;omega)) only[go_sem]<;>(try omega)),⟨by omega,upto_succ hj h⟩,by omega⟩
 ·rintro⟨x,hx,hu⟩
  obtain⟨j,hj',e⟩:=List.getElem_of_mem hx
  exact hj j (by omega) (by simpa[List.getD,hj',e] using hu)
 ·intro j hj';omega
end
section
attribute [local irreducible] SW runL runQ runG runQG FC Ret1 RetN toF redoL anyB
theorem lst_snoc (sets:List (List Int)) {l:List Int} {i:Nat} (hi:i<l.length):lstS sets (l.take (i+1))=lstS sets (l.take i)++[sets.getD (l.getD i default).toNat default]:=by
 have e:l.take (i+1)=l.take i++[l.getD i default]:=by
  rw[List.take_add_one,List.getElem?_eq_getElem hi,List.getD_eq_getElem?_getD,List.getElem?_eq_getElem hi];rfl
 rw[e]
 simp only[lstS,List.map_append,List.map_cons,List.map_nil]
theorem lst_len (sets:List (List Int)) (l:List Int):(lstS sets l).length=l.length:=by simp[lstS]
def kp44:List (Nat×List Nat):=[(0,[0,1]),(1,[0,1,5]),(2,[0,1,5,6]),(3,[0,1,5,6,11]),(5,[0,1,5,6]),(4,[0,1,5,6]),(6,[4])]
attribute [go_sem] kp44 Try.results44 Try.ntmps44
theorem l23Listed_fc (tk tk1:Tk) (sets:List (List Int)) (l:List Int) (hl:l.length≤100) (hi:∀i<l.length,0≤l.getD i default∧l.getD i default<sets.length):FC S 44 [] [] [] [.sl tk (sets.map IntsD),.sl tk1 (l.map (.int .i64))] (.sl .any ((lstS sets l).map IntsD)) [] []:=by
 refine FC.args (args':=[.sl .any (sets.map IntsD),.sl .any (l.map (.int .i64))]) ?_ (by simp only[go_sem])
 refine fcb Try.func44 fun B=>?_
 refine sw_bndg 1 fun hb1=>?_
 repeat' first|exact h.elim|refine sw_n ?_|refine sw_go 0 kp44 fun K hK=>?_|refine fun (K:KT) (hK:KOk S 0 _ _ _ K)=>?_|refine runL_g ?_|refine sw_retg0 ?_|refine sw_retg ?_|(refine hK.n0 ?_;clear hK K)|refine sw_condg rfl (fun h=>?_) fun h=>?_|refine sw_exit rfl ?_|refine sw_loopEnd ?_|with_reducible refine and_o ?_|((with_reducible refine And.intro ?_ ?_);· first|(intro x hx;subst hx;rfl)|(intro x;refine And.intro ?_ ?_<;>(intros;subst_vars;rfl)))|apply tTT
 refine sw_tok 5 24000 22 1 rfl (.inr rfl) rfl ?_
 simp only[go_sem]
 refine sw_loopT (ι:=Nat) (fun i=>[(6,.int .i64 i),(5,.sl (.own 24000 22 1) ((lstS sets (l.take i)).map IntsD))]) (fun _=>[]) (fun _=>[24000]) (fun i=>i≤l.length) (fun i=>l.length-i) 0 cvB (by omega) (fun i hi2=>?_)
 simp only[go_sem]
 have hll:=lst_len sets (l.take i)
 rw[List.length_take] at hll
 by_cases hlt:i<l.length
 ·have hx:=hi i hlt
  have hs:=lst_snoc sets hlt
  repeat' first|exact h.elim|(exfalso;omega)|refine sw_n ?_|refine sw_go 0 kp44 fun K hK=>?_|refine fun (K:KT) (hK:KOk S 0 _ _ _ K)=>?_|refine runL_g ?_|refine sw_retg0 ?_|refine sw_retg ?_|(refine hK.n0 ?_;clear hK K)|refine sw_condg rfl (fun h=>?_) fun h=>?_|refine sw_exit rfl ?_|refine sw_loopEnd ?_|with_reducible refine and_o ?_|((with_reducible refine And.intro ?_ ?_);· first|(intro x hx;subst hx;rfl)|(intro x;refine And.intro ?_ ?_<;>(intros;subst_vars;rfl)))|apply tTT
  exact⟨i+1,(by(refine covers_mk0 rfl rfl ?_ ?_ ?_ ?_<;>simp (disch:=(refine Om.mk ?_;omega)) only[go_sem]<;>(try omega));rw[hs,List.map_append];first|exact⟨rfl,by omega⟩|exact⟨by omega,rfl⟩),by omega,by omega⟩
 ·repeat' first|exact h.elim|(exfalso;omega)|refine sw_n ?_|refine sw_go 0 kp44 fun K hK=>?_|refine fun (K:KT) (hK:KOk S 0 _ _ _ K)=>?_|refine runL_g ?_|refine sw_retg0 ?_|refine sw_retg ?_|(refine hK.n0 ?_;clear hK K)|refine sw_condg rfl (fun h=>?_) fun h=>?_|refine sw_exit rfl ?_|refine sw_loopEnd ?_|with_reducible refine and_o ?_|((with_reducible refine And.intro ?_ ?_);· first|(intro x hx;subst hx;rfl)|(intro x;refine And.intro ?_ ?_<;>(intros;subst_vars;rfl)))|apply tTT
  rw[List.take_of_length_le (by omega)]
def plcS (out:List (List Int)) (s:List Int):Int:=if s∈out then (out.idxOf s:Int) else -1
theorem plc_at {out:List (List Int)} {s:List Int} {i:Nat} (hi:i<out.length) (h:out.getD i default=s) (hn:∀j<i,out.getD j default≠s):plcS out s=i:=by
 have hm:s∈out:=h ▸ getD_mem out i hi
 unfold plcS
 rw[if_pos hm]
 have h1:out.idxOf s<out.length:=List.idxOf_lt_length_iff.2 hm
 have h2:out[out.idxOf s]=s:=List.getElem_idxOf h1
 have h3:¬out.idxOf s<i:=fun hlt=>hn _ hlt (by rw[List.getD_eq_getElem?_getD,List.getElem?_eq_getElem h1];exact h2)
 have h4:¬i<out.idxOf s:=fun hlt=>by
  have:=List.not_of_lt_findIdx (p:=(·==s)) (xs:=out) (i:=i) hlt
  rw[List.getD_eq_getElem?_getD,List.getElem?_eq_getElem hi] at h
  simp at this h
  exact this h
 omega
theorem plc_no {out:List (List Int)} {s:List Int} (hn:∀j<out.length,out.getD j default≠s):plcS out s=-1:=by
 unfold plcS
 rw[if_neg]
 intro hm
 obtain⟨j,hj,e⟩:=List.getElem_of_mem hm
 exact hn j hj (by rw[List.getD_eq_getElem?_getD,List.getElem?_eq_getElem hj];exact e)
def kp42:List (Nat×List Nat):=[(0,[0,1]),(1,[0,1,5]),(2,[0,1,5,9]),(4,[0,1,5,17]),(5,[4]),(3,[0,1,5]),(6,[4])]
attribute [go_sem] kp42 Try.results42 Try.ntmps42
theorem l1TermPlace_fc (tk tk1:Tk) (out:List (List Int)) (s:List Int):FC S 42 [] [] [] [.sl tk (out.map IntsD),.sl tk1 (s.map (.int .i64))] (.int .i64 (plcS out s)) [] []:=by
 refine FC.args (args':=[.sl .any (out.map IntsD),.sl .any (s.map (.int .i64))]) ?_ (by simp only[go_sem])
 refine fcb Try.func42 fun B=>?_
 refine sw_bndg 0 fun hb0=>?_
 refine sw_bndg 1 fun hb1=>?_
 repeat' first|exact h.elim|refine sw_n ?_|refine sw_go 0 kp42 fun K hK=>?_|refine fun (K:KT) (hK:KOk S 0 _ _ _ K)=>?_|refine runL_g ?_|refine sw_retg0 ?_|refine sw_retg ?_|(refine hK.n0 ?_;clear hK K)|refine sw_condg rfl (fun h=>?_) fun h=>?_|refine sw_exit rfl ?_|refine sw_loopEnd ?_|with_reducible refine and_o ?_|apply tTT
 refine sw_loopT (ι:=Nat) (fun i=>[(5,.int .i64 i)]) (fun _=>[]) (fun _=>[]) (fun i=>i≤out.length∧∀j<i,out.getD j default≠s) (fun i=>out.length-i) 0 cvA ⟨by omega,fun j hj=>absurd hj (by omega)⟩ (fun i hi=>?_)
 obtain⟨hi,hn⟩:=hi
 simp only[go_sem]
 by_cases hlt:i<out.length
 ·repeat' first|exact h.elim|(exfalso;omega)|refine sw_n ?_|refine sw_go 0 kp42 fun K hK=>?_|refine fun (K:KT) (hK:KOk S 0 _ _ _ K)=>?_|refine runL_g ?_|refine sw_retg0 ?_|refine sw_retg ?_|(refine hK.n0 ?_;clear hK K)|refine sw_condg rfl (fun h=>?_) fun h=>?_|refine sw_exit rfl ?_|refine sw_loopEnd ?_|refine hK.c1 rfl rfl rfl (specSameTerm_fc _ _ _ _) ?_|with_reducible refine and_o ?_|apply tTT
  all_goals first
   | (rw[plc_at hlt (by assumption) hn];done)
   | exact⟨i+1,cvA,⟨by omega,upto_succ hn (by assumption)⟩,by omega⟩
   | trace_state
 ·repeat' first|exact h.elim|(exfalso;omega)|refine sw_n ?_|refine sw_go 0 kp42 fun K hK=>?_|refine fun (K:KT) (hK:KOk S 0 _ _ _ K)=>?_|refine runL_g ?_|refine sw_retg0 ?_|refine sw_retg ?_|(refine hK.n0 ?_;clear hK K)|refine sw_condg rfl (fun h=>?_) fun h=>?_|refine sw_exit rfl ?_|refine sw_loopEnd ?_|with_reducible refine and_o ?_|apply tTT
  rw[plc_no fun j hj=>hn j (by omega)]
theorem upd_len (out:List (List Int)) (s:List Int):(addQ out s).length≤out.length+1:=by
 unfold addQ
 split
 ·omega
 ·simp
theorem plc_add {out:List (List Int)} {s:List Int}:(plcS out s<0→addQ out s=out++[s])∧(¬plcS out s<0→addQ out s=out):=by
 unfold plcS addQ
 by_cases h:s∈out
 ·rw[if_pos h,if_pos h]
  exact⟨fun h1=>absurd h1 (by omega),fun _=>rfl⟩
 ·rw[if_neg h,if_neg h]
  exact⟨fun _=>rfl,fun h1=>absurd h1 (by omega)⟩
noncomputable def imgI (a:AutoT) (f:Nat) (args:List (List Int)):Option (List Int):=some (imgT a f args a.rules.length)
theorem imgI_some (a:AutoT) (f:Nat) (args:List (List Int)):(imgI a f args).isSome=true:=rfl
theorem capF_cons (a:AutoT) (sets:List (List Int)) (f:Nat) (l:List Int) (E:List (Nat×List Int)) (out:List (List Int)):capF (imgI a) sets ((f,l)::E) out=if 16<(addQ out (imgT a f (lstS sets l) a.rules.length)).length then (addQ out (imgT a f (lstS sets l) a.rules.length),false) else capF (imgI a) sets E (addQ out (imgT a f (lstS sets l) a.rules.length)):=rfl
def evF (rs:List Int) (n f:Nat):List (Nat×List Int):=if n=0∧0<rs.getD f default then [] else (digs n (rs.getD f default).toNat).map fun l=>(f,l)
def evB (rs:List Int) (n:Nat):Nat→List (Nat×List Int)
 | 0=>[]
 | k+1=>evF rs n (rs.length-(k+1))++evB rs n k
theorem evB_all (rs:List Int) (n:Nat):evL rs n=evB rs n rs.length:=by
 have key:∀k≤rs.length,((List.range k).map fun i=>rs.length-k+i).flatMap (evF rs n)=evB rs n k:=fun k=>by
  induction k with
  | zero=>intro _;rfl
  | succ k ih =>
   intro hk
   rw[List.range_succ_eq_map,List.map_cons,List.flatMap_cons,Nat.add_zero,List.map_map]
   show _=evF rs n (rs.length-(k+1))++evB rs n k
   rw[←ih (by omega)]
   congr 2
   refine List.map_congr_left fun i _=>?_
   simp only[Function.comp]
   omega
 have h:=key rs.length (Nat.le_refl _)
 rw[←h]
 unfold evL
 congr 1
 simp
theorem fit_len {rs:List Int} {a:AutoT} (hA:AutoOkP rs a) {f:Nat} (hf:f<rs.length) {n:Nat} (hn:(n:Int)=rs.getD f default):∀i<a.rules.length,(a.rules.getD i default).sym=(f:Int)→(a.rules.getD i default).args.length=n:=fun i hi hs=>by
 have h:=(hA.2 i hi).1
 have h2:=h.2.1
 rw[hs,Int.toNat_natCast] at h2
 omega
theorem capF_cap {I:Nat→List (List Int)→Option (List Int)} {sets:List (List Int)} (f:Nat) (l:List Int) (E:List (Nat×List Int)) (out:List (List Int)) (s:List Int) (hI:I f (lstS sets l)=some s):(16<(addQ out s).length→capF I sets ((f,l)::E) out=(addQ out s,false))∧(¬16<(addQ out s).length→capF I sets ((f,l)::E) out=capF I sets E (addQ out s)):=by
 have h:capF I sets ((f,l)::E) out=if 16<(stepO I sets out (f,l)).length then (stepO I sets out (f,l),false) else capF I sets E (stepO I sets out (f,l)):=rfl
 have h2:stepO I sets out (f,l)=addQ out s:=by unfold stepO;rw[hI]
 rw[h2] at h
 exact⟨fun h1=>by rw[h,if_pos h1],fun h1=>by rw[h,if_neg h1]⟩
theorem loop_next {N n:Nat} {l:List Int} {A:List (List Int)} (hl:l.length=n) (hv:∀x∈l,0≤x∧x<N) (hs:SeqD (List.replicate n (0,(N:Int)-1)) (l::A)):((nextL N l).1.length=n∧∀x∈(nextL N l).1,0≤x∧x<N)∧((nextL N l).2=true→SeqD (List.replicate n (0,(N:Int)-1)) ((nextL N l).1::A.tail)∧A=(nextL N l).1::A.tail)∧((nextL N l).2=false→A=[]):=by
 have hn1:N=0→n=0:=fun h0=>by
  cases l with
  | nil=>simpa using hl.symm
  | cons x r=>have:=hv x List.mem_cons_self;omega
 have hlen:(nextL N l).1.length=n:=by
  unfold nextL
  rw[List.length_reverse,nextR_len,List.length_reverse]
  exact hl
 have hok:=fun h=>(nextR_ok (s:=N) h (l:=l.reverse) (fun x hx=>hv x (List.mem_reverse.1 hx))).1
 have hval:∀x∈(nextL N l).1,0≤x∧x<N:=fun x hx=>by
  rcases Nat.eq_zero_or_pos N with h0|h0
  ·rw[hn1 h0] at hlen
   rw[List.length_eq_zero_iff.1 hlen] at hx
   cases hx
  ·exact hok h0 x (List.mem_reverse.1 hx)
 refine⟨⟨hlen,hval⟩,?_⟩
 rcases digs_next hl hs with⟨h1,h2⟩|⟨m,A',h1,h2⟩
 ·exact⟨fun h=>(by rw[h2] at h;cases h),fun _=>h1⟩
 ·rw[h1] at hs
  rw[h2,h1]
  exact⟨fun _=>⟨hs.2,rfl⟩,fun h=>(by cases h)⟩
theorem nx_meas {N:Nat} {l:List Int} {A:List (List Int)} {P:Prop} {Q:Prop} (h:P∧((nextL N l).2=true→Q∧A=(nextL N l).1::A.tail)∧((nextL N l).2=false→A=[])):(if (nextL N l).2=true then A.tail.length+1 else 0)<A.length+1:=by
 split
 ·rename_i h1
  have:=(h.2.1 h1).2
  have h3:=congrArg List.length this
  simp only[List.length_cons] at h3
  omega
 ·omega
def kp86:List (Nat×List Nat):=[(0,[2,3,4]),(1,[2,3,4,8]),(2,[2,3,4,8,9]),(3,[2,3,4,8,9,10]),(4,[2,3,4,8,9,10,23]),(6,[2,3,4,8,9,10,35]),(7,[2,3,4,8,9,10,11]),(8,[2,3,4,8,9,10,11,12]),(9,[2,3,4,8,9,10,11,42]),(11,[2,3,4,8,9,10,11,13]),(12,[2,3,4,8,9,10,11,13,58]),(13,[2,3,4,8,9,10,11]),(14,[2,3,4,8,9,10,11,65]),(15,[6,7]),(10,[2,3,4,8,9,10,11,12]),(5,[2,3,4,8,9,10]),(16,[6,7])]
attribute [go_sem] kp86 Try.results86 Try.ntmps86
theorem l23Round_fc (rs:List Int) (a:AutoT) (hA:AutoOkP rs a) (sets:List (List Int)) (h16:sets.length≤16):FC S 86 [] [] [] [.agg [.sl .any (rs.map (.int .i64))],AutoD a,.sl .any (sets.map IntsD)] (.tup [.sl .any ((capF (imgI a) sets (evL rs sets.length) sets).1.map IntsD),.bool (capF (imgI a) sets (evL rs sets.length) sets).2]) [] []:=by
 obtain⟨⟨hsg,⟨hs1,hs2⟩,hrl,_⟩,_⟩:=id hA
 have hsl:=hsg.1.2
 rw[evB_all]
 generalize hans:capF (imgI a) sets (evB rs sets.length rs.length) sets=ANS
 refine fcb Try.func86 fun B=>?_
 refine sw_bnd_aggg 0 0 fun hb0_0=>?_
 refine sw_bndg 2 fun hb2=>?_
 repeat' first|exact h.elim|(exfalso;omega)|refine sw_n ?_|refine sw_go 0 kp86 fun K hK=>?_|refine fun (K:KT) (hK:KOk S 0 _ _ _ K)=>?_|refine sw_goD kp86 (by kernel_rfl) fun K hK=>?_|refine runL_g ?_|refine runQ_g ?_|refine sw_retg0 ?_|refine sw_retg ?_|(refine hK.n0 ?_;clear hK K)|refine runG_fk (fun h=>?_) fun h=>?_|refine runQG_fk (fun h=>?_) fun h=>?_|refine sw_condg rfl (fun h=>?_) fun h=>?_|refine hK.skp rfl rfl ?_|refine sw_exit rfl ?_|refine sw_loopEnd ?_|(refine hK.fork rfl rfl rfl ?_ ?_<;>intro h<;>try simp (disch:=(refine Om.mk ?_;omega)) only[go_sem] at h)|with_reducible refine and_o ?_|((with_reducible refine And.intro ?_ ?_);· first|(intro x hx;subst hx;rfl)|(intro x;refine And.intro ?_ ?_<;>(intros;subst_vars;rfl)))|apply tTT
 refine sw_loopT (ι:=Nat×List (List Int)) (fun p=>[(10,.int .i64 p.1),(8,.sl (.own 17000 22 1) (p.2.map IntsD))]) (fun _=>[]) (fun _=>[17000]) (fun p=>(p.1≤rs.length∧p.2.length≤16)∧capF (imgI a) sets (evB rs sets.length (rs.length-p.1)) p.2=ANS) (fun p=>rs.length-p.1) (0,sets) cvB ⟨⟨by simp,h16⟩,hans⟩ (fun p hp=>?_)
 obtain⟨i,out⟩:=p
 obtain⟨⟨hi,ho⟩,hc⟩:=hp
 dsimp only at hi ho hc
 simp only[go_sem]
 by_cases hil:i<rs.length
 ·obtain⟨k,hk⟩:∃k,rs.length-i=k+1:=⟨rs.length-i-1,by omega⟩
  have hri:=hsg.2 i hil
  have hkE:rs.length-(i+1)=k:=by omega
  rw[hk] at hc
  rw[show evB rs sets.length (k+1)=evF rs sets.length i++evB rs sets.length k from by rw[evB,show rs.length-(k+1)=i by omega]] at hc
  by_cases h0:sets.length=0∧0<rs.getD i default
  ·rw[show evF rs sets.length i=[] from if_pos h0,List.nil_append] at hc
   repeat' first|exact h.elim|(exfalso;omega)|refine sw_n ?_|refine sw_go 0 kp86 fun K hK=>?_|refine fun (K:KT) (hK:KOk S 0 _ _ _ K)=>?_|refine sw_goD kp86 (by kernel_rfl) fun K hK=>?_|refine runL_g ?_|refine runQ_g ?_|refine sw_retg0 ?_|refine sw_retg ?_|(refine hK.n0 ?_;clear hK K)|refine runG_fk (fun h=>?_) fun h=>?_|refine runQG_fk (fun h=>?_) fun h=>?_|refine sw_condg rfl (fun h=>?_) fun h=>?_|refine hK.skp rfl rfl ?_|refine sw_exit rfl ?_|refine sw_loopEnd ?_|(refine hK.fork rfl rfl rfl ?_ ?_<;>intro h<;>try simp (disch:=(refine Om.mk ?_;omega)) only[go_sem] at h)|with_reducible refine and_o ?_|((with_reducible refine And.intro ?_ ?_);· first|(intro x hx;subst hx;rfl)|(intro x;refine And.intro ?_ ?_<;>(intros;subst_vars;rfl)))|apply tTT
   all_goals exact⟨(i+1,out),cvB,⟨⟨by dsimp only;omega,ho⟩,by dsimp only;rw[hkE];exact hc⟩,by dsimp only;omega⟩
  ·rw[show evF rs sets.length i=(digs sets.length (rs.getD i default).toNat).map (fun l=>(i,l)) from if_neg h0] at hc
   obtain⟨n,hn⟩:∃n:Nat,rs.getD i default=n:=⟨(rs.getD i default).toNat,by omega⟩
   have hnt:(rs.getD i default).toNat=n:=by omega
   rw[hnt] at hc
   have hd0:0<sets.length∨n=0:=by omega
   obtain⟨hseq,A0,hA0⟩:=digs_ok hd0
   have hdig:=digs_dig hd0
   rw[hA0] at hseq hdig hc
   repeat' first|exact h.elim|(exfalso;omega)|refine sw_n ?_|refine sw_go 0 kp86 fun K hK=>?_|refine fun (K:KT) (hK:KOk S 0 _ _ _ K)=>?_|refine sw_goD kp86 (by kernel_rfl) fun K hK=>?_|refine runL_g ?_|refine runQ_g ?_|refine sw_retg0 ?_|refine sw_retg ?_|(refine hK.n0 ?_;clear hK K)|refine runG_fk (fun h=>?_) fun h=>?_|refine runQG_fk (fun h=>?_) fun h=>?_|refine sw_condg rfl (fun h=>?_) fun h=>?_|refine hK.skp rfl rfl ?_|refine sw_exit rfl ?_|refine sw_loopEnd ?_|(refine hK.fork rfl rfl rfl ?_ ?_<;>intro h<;>try simp (disch:=(refine Om.mk ?_;omega)) only[go_sem] at h)|with_reducible refine and_o ?_|((with_reducible refine And.intro ?_ ?_);· first|(intro x hx;subst hx;rfl)|(intro x;refine And.intro ?_ ?_<;>(intros;subst_vars;rfl)))|apply tTT
   all_goals rw[hnt]
   all_goals
    refine sw_freeze 11 1 .any ((List.replicate n (0:Int)).map (.int .i64)) rfl rfl (by rw[flatten_one,flat_ints,List.map_replicate]) (by simp) (cells_one fun _=>rfl) (by rw[flatten_one,←List.map_replicate (f:=D.int .i64)];exact memOk_ints _) (.inl rfl) ?_
    simp only[go_sem]
    refine sw_loopT (ι:=(List Int×Bool)×List (List Int)×List (List Int)) (fun p=>[(11,.sl .any (p.1.1.map (.int .i64))),(12,.bool p.1.2),(8,.sl (.own 17000 22 1) (p.2.2.map IntsD))]) (fun _=>[]) (fun _=>[17000]) (fun p=>((p.1.1.length=n∧∀x∈p.1.1,0≤x∧x<sets.length)∧p.2.2.length≤16)∧(p.1.2=true→(SeqD (List.replicate n (0,(sets.length:Int)-1)) (p.1.1::p.2.1)∧∀l∈p.2.1,l.length=n∧∀x∈l,0≤x∧x<sets.length)∧capF (imgI a) sets ((p.1.1::p.2.1).map (fun l=>(i,l))++evB rs sets.length k) p.2.2=ANS)∧(p.1.2=false→capF (imgI a) sets (evB rs sets.length k) p.2.2=ANS)) (fun p=>if p.1.2=true then p.2.1.length+1 else 0) ((List.replicate n 0,true),A0,out) (by(refine covers_mk0 rfl rfl ?_ ?_ ?_ ?_<;>simp (disch:=(refine Om.mk ?_;omega)) only[go_sem]<;>(try omega));all_goals first|rfl|exact⟨rfl,rfl⟩|exact⟨rfl,rfl,rfl⟩) ⟨⟨hdig _ List.mem_cons_self,ho⟩,fun _=>⟨⟨hseq,fun l hl=>hdig l (List.mem_cons_of_mem _ hl)⟩,hc⟩,fun h=>by cases h⟩ (fun p hp=>?_)
    obtain⟨⟨l,mr⟩,A,out⟩:=p
    obtain⟨⟨⟨hl1,hl2⟩,ho⟩,hm1,hm2⟩:=hp
    dsimp only at hl1 hl2 ho hm1 hm2
    simp only[go_sem]
    have hbx:∀x∈l,0≤x∧x≤1000:=fun x hx=>by have:=hl2 x hx;omega
    have hget:∀j<l.length,0≤l.getD j default∧l.getD j default<sets.length:=fun j hj=>hl2 _ (getD_mem l j hj)
    cases mr with
    | false =>
     have hm2:=hm2 rfl
     repeat' first|exact h.elim|(exfalso;omega)|refine sw_n ?_|refine sw_go 0 kp86 fun K hK=>?_|refine fun (K:KT) (hK:KOk S 0 _ _ _ K)=>?_|refine sw_goD kp86 (by kernel_rfl) fun K hK=>?_|refine runL_g ?_|refine runQ_g ?_|refine sw_retg0 ?_|refine sw_retg ?_|(refine hK.n0 ?_;clear hK K)|refine runG_fk (fun h=>?_) fun h=>?_|refine runQG_fk (fun h=>?_) fun h=>?_|refine sw_condg rfl (fun h=>?_) fun h=>?_|refine hK.skp rfl rfl ?_|refine sw_exit rfl ?_|refine sw_loopEnd ?_|(refine hK.fork rfl rfl rfl ?_ ?_<;>intro h<;>try simp (disch:=(refine Om.mk ?_;omega)) only[go_sem] at h)|with_reducible refine and_o ?_|((with_reducible refine And.intro ?_ ?_);· first|(intro x hx;subst hx;rfl)|(intro x;refine And.intro ?_ ?_<;>(intros;subst_vars;rfl)))|apply tTT
     exact⟨(i+1,out),cvB,⟨⟨by dsimp only;omega,ho⟩,by dsimp only;rw[hkE];exact hm2⟩,by dsimp only;omega⟩
    | true =>
     obtain⟨⟨hs,hA1⟩,hc⟩:=hm1 rfl
     have hlen:=lst_len sets l
     have cL:=l23Listed_fc .any .any sets l (by omega) hget
     have cI:=l23Image_fc .any rs a hA (i:Int) (lstS sets l) (by omega) (by rw[hlen,hl1];exact fit_len hA hil (by omega))
     have hcap:=capF_cap (I:=imgI a) (sets:=sets) i l (A.map (fun l=>(i,l))++evB rs sets.length k) out _ rfl
     generalize hS:imgT a (i:Int) (lstS sets l) a.rules.length=s at *
     rw[List.map_cons,List.cons_append] at hc
     rw[hc] at hcap
     have hpl:=plc_add (out:=out) (s:=s)
     have hul:=upd_len out s
     have cP:=l1TermPlace_fc (.own 17000 22 1) .any out s
     have cN:=nextList_fc .any l (sets.length:Int) (by omega) hbx
     have hnx:=loop_next hl1 hl2 hs
     rcases Classical.em (plcS out s<0) with hp|hp
     ·rw[hpl.1 hp] at hcap
      simp only[List.length_append,List.length_singleton] at hcap
      rcases Classical.em (16<out.length+1) with h17|h17
      ·obtain rfl:=hcap.1 h17
       repeat' first|exact h.elim|(exfalso;omega)|(exfalso;simp only[lens] at h;omega)|(refine sw_renC 63000 17000 rfl rfl ?_;simp only[go_sem])|refine sw_n ?_|refine sw_go 0 kp86 fun K hK=>?_|refine fun (K:KT) (hK:KOk S 0 _ _ _ K)=>?_|refine sw_goD kp86 (by kernel_rfl) fun K hK=>?_|refine runL_g ?_|refine runQ_g ?_|refine sw_retg0 ?_|refine sw_retg ?_|(refine hK.n0 ?_;clear hK K)|refine runG_fk (fun h=>?_) fun h=>?_|refine runQG_fk (fun h=>?_) fun h=>?_|refine sw_condg rfl (fun h=>?_) fun h=>?_|refine hK.skp rfl rfl ?_|refine sw_exit rfl ?_|refine sw_loopEnd ?_|refine hK.c1 rfl rfl rfl (cL) ?_|refine hK.c1 rfl rfl rfl (cI) ?_|refine hK.c1 rfl rfl rfl (cP) ?_|refine hK.c1 rfl rfl rfl (cN) ?_|(refine hK.fork rfl rfl rfl ?_ ?_<;>intro h<;>try simp (disch:=(refine Om.mk ?_;omega)) only[go_sem] at h)|with_reducible refine and_o ?_|((with_reducible refine And.intro ?_ ?_);· first|(intro x hx;subst hx;rfl)|(intro x;refine And.intro ?_ ?_<;>(intros;subst_vars;rfl)))|apply tTT
       all_goals first|(exfalso;simp only[lens] at h;omega)|exact⟨by simp,rfl⟩|(rw[List.map_append];rfl)|trace_state
      ·have h1:=hcap.2 h17
       repeat' first|exact h.elim|(exfalso;omega)|(exfalso;simp only[lens] at h;omega)|(refine sw_renC 63000 17000 rfl rfl ?_;simp only[go_sem])|refine sw_n ?_|refine sw_go 0 kp86 fun K hK=>?_|refine fun (K:KT) (hK:KOk S 0 _ _ _ K)=>?_|refine sw_goD kp86 (by kernel_rfl) fun K hK=>?_|refine runL_g ?_|refine runQ_g ?_|refine sw_retg0 ?_|refine sw_retg ?_|(refine hK.n0 ?_;clear hK K)|refine runG_fk (fun h=>?_) fun h=>?_|refine runQG_fk (fun h=>?_) fun h=>?_|refine sw_condg rfl (fun h=>?_) fun h=>?_|refine hK.skp rfl rfl ?_|refine sw_exit rfl ?_|refine sw_loopEnd ?_|refine hK.c1 rfl rfl rfl (cL) ?_|refine hK.c1 rfl rfl rfl (cI) ?_|refine hK.c1 rfl rfl rfl (cP) ?_|refine hK.c1 rfl rfl rfl (cN) ?_|(refine hK.fork rfl rfl rfl ?_ ?_<;>intro h<;>try simp (disch:=(refine Om.mk ?_;omega)) only[go_sem] at h)|with_reducible refine and_o ?_|((with_reducible refine And.intro ?_ ?_);· first|(intro x hx;subst hx;rfl)|(intro x;refine And.intro ?_ ?_<;>(intros;subst_vars;rfl)))|apply tTT
       all_goals try (exfalso;simp only[lens] at h;omega)
       all_goals exact⟨((((nextL (sets.length:Int) l).1,(nextL (sets.length:Int) l).2)),A.tail,out++[s]),(by(refine covers_mk0 rfl rfl ?_ ?_ ?_ ?_<;>simp (disch:=(refine Om.mk ?_;omega)) only[go_sem]<;>(try omega));rw[List.map_append];first|rfl|exact⟨rfl,rfl⟩|exact⟨rfl,rfl,rfl⟩),⟨⟨hnx.1,by first|omega|(simp only[lens];omega)⟩,fun h=>⟨⟨(hnx.2.1 h).1,fun m hm=>hA1 m (List.mem_of_mem_tail hm)⟩,by have e:=(hnx.2.1 h).2;rw[e] at h1;exact h1.symm⟩,fun h=>by have:=hnx.2.2 h;dsimp only;rw[this] at h1;exact h1.symm⟩,nx_meas hnx⟩
     ·rw[hpl.2 hp] at hcap
      have h1:=hcap.2 (by omega)
      repeat' first|exact h.elim|(exfalso;omega)|(exfalso;simp only[lens] at h;omega)|(refine sw_renC 63000 17000 rfl rfl ?_;simp only[go_sem])|refine sw_n ?_|refine sw_go 0 kp86 fun K hK=>?_|refine fun (K:KT) (hK:KOk S 0 _ _ _ K)=>?_|refine sw_goD kp86 (by kernel_rfl) fun K hK=>?_|refine runL_g ?_|refine runQ_g ?_|refine sw_retg0 ?_|refine sw_retg ?_|(refine hK.n0 ?_;clear hK K)|refine runG_fk (fun h=>?_) fun h=>?_|refine runQG_fk (fun h=>?_) fun h=>?_|refine sw_condg rfl (fun h=>?_) fun h=>?_|refine hK.skp rfl rfl ?_|refine sw_exit rfl ?_|refine sw_loopEnd ?_|refine hK.c1 rfl rfl rfl (cL) ?_|refine hK.c1 rfl rfl rfl (cI) ?_|refine hK.c1 rfl rfl rfl (cP) ?_|refine hK.c1 rfl rfl rfl (cN) ?_|(refine hK.fork rfl rfl rfl ?_ ?_<;>intro h<;>try simp (disch:=(refine Om.mk ?_;omega)) only[go_sem] at h)|with_reducible refine and_o ?_|((with_reducible refine And.intro ?_ ?_);· first|(intro x hx;subst hx;rfl)|(intro x;refine And.intro ?_ ?_<;>(intros;subst_vars;rfl)))|apply tTT
      all_goals try (exfalso;simp only[lens] at h;omega)
      all_goals exact⟨((((nextL (sets.length:Int) l).1,(nextL (sets.length:Int) l).2)),A.tail,out),(by(refine covers_mk0 rfl rfl ?_ ?_ ?_ ?_<;>simp (disch:=(refine Om.mk ?_;omega)) only[go_sem]<;>(try omega));all_goals first|rfl|exact⟨rfl,rfl⟩|exact⟨rfl,rfl,rfl⟩),⟨⟨hnx.1,by first|omega|(simp only[lens];omega)⟩,fun h=>⟨⟨(hnx.2.1 h).1,fun m hm=>hA1 m (List.mem_of_mem_tail hm)⟩,by have e:=(hnx.2.1 h).2;rw[e] at h1;exact h1.symm⟩,fun h=>by have:=hnx.2.2 h;dsimp only;rw[this] at h1;exact h1.symm⟩,nx_meas hnx⟩
 ·repeat' first|exact h.elim|(exfalso;omega)|refine sw_n ?_|refine sw_go 0 kp86 fun K hK=>?_|refine fun (K:KT) (hK:KOk S 0 _ _ _ K)=>?_|refine sw_goD kp86 (by kernel_rfl) fun K hK=>?_|refine runL_g ?_|refine runQ_g ?_|refine sw_retg0 ?_|refine sw_retg ?_|(refine hK.n0 ?_;clear hK K)|refine runG_fk (fun h=>?_) fun h=>?_|refine runQG_fk (fun h=>?_) fun h=>?_|refine sw_condg rfl (fun h=>?_) fun h=>?_|refine hK.skp rfl rfl ?_|refine sw_exit rfl ?_|refine sw_loopEnd ?_|(refine hK.fork rfl rfl rfl ?_ ?_<;>intro h<;>try simp (disch:=(refine Om.mk ?_;omega)) only[go_sem] at h)|with_reducible refine and_o ?_|((with_reducible refine And.intro ?_ ?_);· first|(intro x hx;subst hx;rfl)|(intro x;refine And.intro ?_ ?_<;>(intros;subst_vars;rfl)))|apply tTT
  obtain rfl:i=rs.length:=by omega
  rw[Nat.sub_self] at hc
  rw[←hc]
  exact⟨rfl,rfl⟩
end
end Go.Proofs.Ytjaicibmmcpeiaa
