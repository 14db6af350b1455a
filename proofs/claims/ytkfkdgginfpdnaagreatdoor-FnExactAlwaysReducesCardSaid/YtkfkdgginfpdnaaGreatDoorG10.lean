/-
  N14, N15, one behind the other.
-/
import Derived.Test.YtkfkdgginfpdnaaGreatDoorG9
import Derived.Test.YtkfkdgginfpdnaaGreatDoorG0
namespace Go.Proofs.YtkfkdgginfpdnaaGreatDoor
open Go Go.Lg
set_option linter.unusedSimpArgs false
set_option linter.unusedVariables false
set_option maxHeartbeats 4000000
section
attribute [local irreducible] Lg.SW runL runQ runG runQG FC Ret1 RetN toF redoL
theorem u32_diff_nat (a b:Nat):bits .andNot .u32 (a:Int) (b:Int)=0↔∀i<32,a.testBit i=true→b.testBit i=true:=by
 have e:bits .andNot .u32 (a:Int) (b:Int)=((BitVec.ofInt 32 (a:Int) &&& ~~~ BitVec.ofInt 32 (b:Int)).toNat:Int):=by
  show IntKind.u32.wrap ((BitVec.ofInt 32 (a:Int) &&& ~~~ BitVec.ofInt 32 (b:Int)).toNat:Int)=_
  have h:=(BitVec.ofInt 32 (a:Int) &&& ~~~ BitVec.ofInt 32 (b:Int)).isLt
  simp only[IntKind.wrap,IntKind.signed,IntKind.bits,Bool.false_and,Bool.false_eq_true,if_false]
  omega
 rw[e,BitVec.ofInt_natCast,BitVec.ofInt_natCast]
 constructor
 ·intro h i hi ha
  have h1:BitVec.ofNat 32 a &&& ~~~ BitVec.ofNat 32 b=0#32:=BitVec.eq_of_toNat_eq (by rw[BitVec.toNat_zero];omega)
  have h2:(BitVec.ofNat 32 a &&& ~~~ BitVec.ofNat 32 b).getLsbD i=(0#32).getLsbD i:=congrArg (·.getLsbD i) h1
  rw[BitVec.getLsbD_and,BitVec.getLsbD_not,BitVec.getLsbD_ofNat,BitVec.getLsbD_ofNat,BitVec.getLsbD_zero] at h2
  simpa[hi,ha] using h2
 ·intro h
  have h1:BitVec.ofNat 32 a &&& ~~~ BitVec.ofNat 32 b=0#32:=BitVec.eq_of_getLsbD_eq fun i hi=>by
   have:=h i hi
   rw[BitVec.getLsbD_and,BitVec.getLsbD_not,BitVec.getLsbD_ofNat,BitVec.getLsbD_ofNat,BitVec.getLsbD_zero]
   cases ha:a.testBit i
   ·simp
   ·simp[this ha]
  rw[h1];rfl
theorem mask_sub {s V:List Int} (hs:InS s) (hV:InS V):bits .andNot .u32 (maskI s) (maskI V)=0↔∀x∈s,x∈V:=by
 unfold maskI
 rw[u32_diff_nat]
 constructor
 ·intro h x hx
  have hx0:=hs x hx
  have h1:=h x.toNat (by omega)
  rw[maskN_bit hs hx0.1,maskN_bit hV hx0.1] at h1
  simpa[hx] using h1
 ·intro h i hi h1
  have e:i=((i:Int)).toNat:=by omega
  rw[e,maskN_bit hs (by omega)] at h1
  rw[e,maskN_bit hV (by omega)]
  simpa using h _ (of_decide_eq_true h1)
def ReachS (n:Int) (V:List Int):Prop:=V.Nodup∧∀x∈V,0≤x∧x<n
theorem ReachS.len {n:Int} {V:List Int} (h:ReachS n V) (h16:n≤16):V.length≤16:=by
 have:=sub_len (B:=numsN n.toNat) h.1 fun x hx=>by have:=h.2 x hx;exact numsN_mem.2 ⟨this.1,by omega⟩
 rw[numsN_len] at this
 omega
theorem ReachS.ins {n:Int} {V:List Int} (h:ReachS n V) (h16:n≤16):InS V:=fun x hx=>by have:=h.2 x hx;omega
theorem ReachS.snoc {n:Int} {V:List Int} (h:ReachS n V) {q:Int} (h0:0≤q) (h1:q<n) (hq:q∉V):ReachS n (V++[q]):=⟨List.nodup_append.2 ⟨h.1,by simp,fun a ha b hb e=>hq (by rw[List.mem_singleton.1 hb] at e;rw[←e];exact ha)⟩,fun x hx=>by
 rcases List.mem_append.1 hx with hx|hx
 ·exact h.2 x hx
 ·rw[List.mem_singleton.1 hx];exact⟨h0,h1⟩⟩
def ShutR (V:List Int) (r:TransT):Prop:=(∀x∈r.args,x∈V)→r.to∈V
def kp81:List (Nat×List Nat):=[(0,[1]),(1,[1,3]),(2,[1,3,4]),(3,[1,3,7]),(4,[1,3,4]),(5,[1,3,4,9,10,11]),(6,[1,3,4,9,10,11,12]),(7,[1,3,4,6,9,10,11]),(8,[1,3,4,6,9,10,11,27]),(9,[1,3,9,10,11]),(10,[1,3,4,9,10,11]),(11,[1,3,4,9,10,11]),(12,[2])]
attribute [go_sem] kp81 Tryz.results81 Tryz.ntmps81
theorem reached_fc (rs:List Int) (a:AutoT) (hA:AutoOkP rs a) (hB:BelowP a):FC S 81 [] [] [] [AutoD a] (.int .u32 (maskI (numsN a.states.toNat))) [] []:=by
 have hr:=hA.1.2.2.1
 have hst:=hA.1.2.1
 refine fcb Tryz.func81 fun B=>?_
 refine sw_bndg 0 fun hb0=>?_
 repeat' first|exact h.elim|refine sw_n ?_|refine sw_go 0 kp81 fun K hK=>?_|refine fun (K:KT) (hK:KOk S 0 _ _ _ K)=>?_|refine runL_g ?_|refine sw_retg0 ?_|refine sw_retg ?_|(refine hK.n0 ?_;clear hK K)|refine runG_fk (fun h=>?_) fun h=>?_|refine sw_condg rfl (fun h=>?_) fun h=>?_|refine hK.skp rfl rfl ?_|refine sw_exit rfl ?_|refine sw_loopEnd ?_|(refine hK.fork rfl rfl rfl ?_ ?_<;>intro h<;>try simp (disch:=(refine Om.mk ?_;omega)) only[go_sem] at h)|with_reducible refine and_o ?_|apply tTT
 refine sw_loopT (ι:=List Int×Bool) (fun x=>[(3,.int .u32 (maskI x.1)),(4,.bool x.2)]) (fun _=>[]) (fun _=>[]) (fun x=>ReachS a.states x.1∧(x.2=false→∀r∈a.rules,ShutR x.1 r)) (fun x=>2*(16-x.1.length)+(if x.2=true then 1 else 0)) ([],true) cvB ⟨⟨List.nodup_nil,fun x hx=>absurd hx List.not_mem_nil⟩,fun h=>by cases h⟩ (fun x hx=>?_)
 obtain⟨V,ag⟩:=x
 obtain⟨hV,hag⟩:=hx
 dsimp only at hV hag
 simp only[go_sem]
 have hVl:=hV.len hst.2
 cases ag with
 | false =>
  have hall:=below_all hB (V:=V) fun r hr h=>hag rfl r hr h
  have e:maskI V=maskI (numsN a.states.toNat):=by
   unfold maskI
   rw[maskN_ext fun x=>?_]
   rw[numsN_mem]
   refine⟨fun h=>by have:=hV.2 x h;omega,fun h=>?_⟩
   have:=hall x.toNat (by omega)
   rwa [Int.toNat_of_nonneg h.1] at this
  rw[e]
  repeat' first|exact h.elim|(exfalso;omega)|refine sw_n ?_|refine sw_go 0 kp81 fun K hK=>?_|refine fun (K:KT) (hK:KOk S 0 _ _ _ K)=>?_|refine runL_g ?_|refine sw_retg0 ?_|refine sw_retg ?_|(refine hK.n0 ?_;clear hK K)|refine runG_fk (fun h=>?_) fun h=>?_|refine sw_condg rfl (fun h=>?_) fun h=>?_|refine hK.skp rfl rfl ?_|refine sw_exit rfl ?_|refine sw_loopEnd ?_|(refine hK.fork rfl rfl rfl ?_ ?_<;>intro h<;>try simp (disch:=(refine Om.mk ?_;omega)) only[go_sem] at h)|with_reducible refine and_o ?_|apply tTT
 | true =>
  repeat' first|exact h.elim|(exfalso;omega)|refine sw_n ?_|refine sw_go 0 kp81 fun K hK=>?_|refine fun (K:KT) (hK:KOk S 0 _ _ _ K)=>?_|refine runL_g ?_|refine sw_retg0 ?_|refine sw_retg ?_|(refine hK.n0 ?_;clear hK K)|refine runG_fk (fun h=>?_) fun h=>?_|refine sw_condg rfl (fun h=>?_) fun h=>?_|refine hK.skp rfl rfl ?_|refine sw_exit rfl ?_|refine sw_loopEnd ?_|(refine hK.fork rfl rfl rfl ?_ ?_<;>intro h<;>try simp (disch:=(refine Om.mk ?_;omega)) only[go_sem] at h)|with_reducible refine and_o ?_|apply tTT
  refine sw_loopT (ι:=Nat×List Int×Bool) (fun x=>[(11,.int .i64 x.1),(3,.int .u32 (maskI x.2.1)),(4,.bool x.2.2)]) (fun _=>[]) (fun _=>[]) (fun x=>(x.1≤a.rules.length∧ReachS a.states x.2.1)∧(x.2.2=true→V.length<x.2.1.length)∧(x.2.2=false→x.2.1=V∧∀j<x.1,ShutR V (a.rules.getD j default))) (fun x=>a.rules.length-x.1) (0,V,false) (by(refine covers_mk0 rfl rfl ?_ ?_ ?_ ?_<;>simp (disch:=(refine Om.mk ?_;omega)) only[go_sem]<;>(try omega));all_goals first|rfl|exact⟨rfl,rfl⟩|exact⟨rfl,rfl,rfl⟩|trace_state) ⟨⟨Nat.zero_le _,hV⟩,(fun h=>by cases h),fun _=>⟨rfl,fun j hj=>absurd hj (Nat.not_lt_zero _)⟩⟩ (fun x hx=>?_)
  obtain⟨p,U,ag⟩:=x
  obtain⟨⟨hp,hU⟩,hy,hn⟩:=hx
  dsimp only at hp hU hy hn
  simp only[go_sem]
  have hUi:=hU.ins hst.2
  have hUl:=hU.len hst.2
  by_cases hpl:p<a.rules.length
  ·have hto:=(hA.2 p hpl).1.2.2.1
   have hir:=(hA.2 p hpl).1.2.2.2
   have hai:InS (a.rules.getD p default).args:=fun x hx=>by
    obtain⟨j,hj,e⟩:=List.getElem_of_mem hx
    have:=hir j hj
    rw[List.getD_eq_getElem?_getD,List.getElem?_eq_getElem hj,Option.getD_some,e] at this
    omega
   have hms:=mask_sub hai hUi
   have cS:=setOf_fc .any (a.rules.getD p default).args hai
   have cH:=has_fc U hUi (a.rules.getD p default).to hto.1 (by omega)
   by_cases hsub:∀x∈(a.rules.getD p default).args,x∈U
   ·have h0:=hms.2 hsub
    by_cases hin:(a.rules.getD p default).to∈U
    ·rw[tst_true hin] at cH
     repeat' first|exact h.elim|(exfalso;omega)|refine sw_n ?_|refine sw_go 0 kp81 fun K hK=>?_|refine fun (K:KT) (hK:KOk S 0 _ _ _ K)=>?_|refine runL_g ?_|refine sw_retg0 ?_|refine sw_retg ?_|(refine hK.n0 ?_;clear hK K)|refine runG_fk (fun h=>?_) fun h=>?_|refine sw_condg rfl (fun h=>?_) fun h=>?_|refine hK.skp rfl rfl ?_|refine sw_exit rfl ?_|refine sw_loopEnd ?_|refine hK.c1 rfl rfl rfl (cS) ?_|refine hK.c1 rfl rfl rfl (cH) ?_|(refine hK.fork rfl rfl rfl ?_ ?_<;>intro h<;>try simp (disch:=(refine Om.mk ?_;omega)) only[go_sem] at h)|with_reducible refine and_o ?_|apply tTT
     all_goals exact⟨(p+1,U,ag),(by(refine covers_mk0 rfl rfl ?_ ?_ ?_ ?_<;>simp (disch:=(refine Om.mk ?_;omega)) only[go_sem]<;>(try omega));all_goals first|rfl|exact⟨rfl,rfl⟩|exact⟨rfl,rfl,rfl⟩|trace_state),⟨⟨hpl,hU⟩,hy,fun h=>by obtain⟨h1,h2⟩:=hn h;exact⟨h1,upto_succ h2 (by rw[←h1];exact fun _=>hin)⟩⟩,by dsimp only;omega⟩
    ·rw[tst_false hin] at cH
     have e:=mask_snoc hUi hto.1 (show (a.rules.getD p default).to<16 by omega)
     repeat' first|exact h.elim|(exfalso;omega)|refine sw_n ?_|refine sw_go 0 kp81 fun K hK=>?_|refine fun (K:KT) (hK:KOk S 0 _ _ _ K)=>?_|refine runL_g ?_|refine sw_retg0 ?_|refine sw_retg ?_|(refine hK.n0 ?_;clear hK K)|refine runG_fk (fun h=>?_) fun h=>?_|refine sw_condg rfl (fun h=>?_) fun h=>?_|refine hK.skp rfl rfl ?_|refine sw_exit rfl ?_|refine sw_loopEnd ?_|refine hK.c1 rfl rfl rfl (cS) ?_|refine hK.c1 rfl rfl rfl (cH) ?_|(refine hK.fork rfl rfl rfl ?_ ?_<;>intro h<;>try simp (disch:=(refine Om.mk ?_;omega)) only[go_sem] at h)|with_reducible refine and_o ?_|apply tTT
     all_goals exact⟨(p+1,U++[(a.rules.getD p default).to],true),(by rw[e];(refine covers_mk0 rfl rfl ?_ ?_ ?_ ?_<;>simp (disch:=(refine Om.mk ?_;omega)) only[go_sem]<;>(try omega));all_goals first|rfl|exact⟨rfl,rfl⟩|exact⟨rfl,rfl,rfl⟩|trace_state),⟨⟨hpl,hU.snoc hto.1 (by omega) hin⟩,(fun _=>by dsimp only;rw[List.length_append,List.length_singleton];cases ag with|true=>(have:=hy rfl;omega)|false=>(rw[(hn rfl).1];omega)),(fun h=>by cases h)⟩,by dsimp only;omega⟩
   ·have h0:¬bits .andNot .u32 (maskI (a.rules.getD p default).args) (maskI U)=0:=fun h=>hsub (hms.1 h)
    repeat' first|exact h.elim|(exfalso;omega)|refine sw_n ?_|refine sw_go 0 kp81 fun K hK=>?_|refine fun (K:KT) (hK:KOk S 0 _ _ _ K)=>?_|refine runL_g ?_|refine sw_retg0 ?_|refine sw_retg ?_|(refine hK.n0 ?_;clear hK K)|refine runG_fk (fun h=>?_) fun h=>?_|refine sw_condg rfl (fun h=>?_) fun h=>?_|refine hK.skp rfl rfl ?_|refine sw_exit rfl ?_|refine sw_loopEnd ?_|refine hK.c1 rfl rfl rfl (cS) ?_|(refine hK.fork rfl rfl rfl ?_ ?_<;>intro h<;>try simp (disch:=(refine Om.mk ?_;omega)) only[go_sem] at h)|with_reducible refine and_o ?_|apply tTT
    all_goals exact⟨(p+1,U,ag),(by(refine covers_mk0 rfl rfl ?_ ?_ ?_ ?_<;>simp (disch:=(refine Om.mk ?_;omega)) only[go_sem]<;>(try omega));all_goals first|rfl|exact⟨rfl,rfl⟩|exact⟨rfl,rfl,rfl⟩|trace_state),⟨⟨hpl,hU⟩,hy,fun h=>by obtain⟨h1,h2⟩:=hn h;exact⟨h1,upto_succ h2 (by rw[←h1];exact fun h=>absurd h hsub)⟩⟩,by dsimp only;omega⟩
  ·obtain rfl:p=a.rules.length:=by omega
   repeat' first|exact h.elim|(exfalso;omega)|refine sw_n ?_|refine sw_go 0 kp81 fun K hK=>?_|refine fun (K:KT) (hK:KOk S 0 _ _ _ K)=>?_|refine runL_g ?_|refine sw_retg0 ?_|refine sw_retg ?_|(refine hK.n0 ?_;clear hK K)|refine runG_fk (fun h=>?_) fun h=>?_|refine sw_condg rfl (fun h=>?_) fun h=>?_|refine hK.skp rfl rfl ?_|refine sw_exit rfl ?_|refine sw_loopEnd ?_|(refine hK.fork rfl rfl rfl ?_ ?_<;>intro h<;>try simp (disch:=(refine Om.mk ?_;omega)) only[go_sem] at h)|with_reducible refine and_o ?_|apply tTT
   all_goals exact⟨(U,ag),cvB,⟨hU,fun h=>by obtain⟨h1,h2⟩:=hn h;rw[h1];exact fun r hr=>by obtain⟨j,hj,rfl⟩:=List.getElem_of_mem hr;have:=h2 j hj;rwa [List.getD_eq_getElem?_getD,List.getElem?_eq_getElem hj] at this⟩,by cases ag with|true=>(have:=hy rfl;dsimp only;simp only[if_true];omega)|false=>(have:=(hn rfl).1;dsimp only;rw[this];simp)⟩
theorem args_symN {rs t:List Int} (hT:TermOkP rs t) {a:AutoT} (hA:AutoOkP rs a) {p:Nat} (hx:0≤t.getD p default):∀i<a.rules.length,(a.rules.getD i default).sym=t.getD p default→(a.rules.getD i default).args.length=(argsS rs t p).length:=fun i hi e=>by
 have h:=(hA.2 i hi).1
 have h2:=h.2.1
 have h3:=h.1
 rw[e] at h2 h3
 have:arS rs (t.getD p default)=rs.getD (t.getD p default).toNat default:=by
  unfold arS
  rw[if_neg (by omega),if_pos ⟨hx,h3.2⟩]
 unfold argsS
 rw[begS_length,this]
 omega
def kp40:List (Nat×List Nat):=[(0,[2,3,4,5]),(1,[2,3,4,5,16]),(2,[8]),(3,[2,3,4,5,9]),(4,[2,3,4,5,9,10]),(5,[2,3,4,5,9,10,11]),(6,[2,3,4,5,9,10,11,27]),(8,[2,3,4,5,9,10,11]),(7,[2,3,4,5,9,10,11]),(9,[8])]
attribute [go_sem] kp40 Tryz.results40 Tryz.ntmps40
theorem l24Instances_fc (rs:List Int) (a:AutoT) (t:List Int) (hA:AutoOkP rs a) (hT:TermOkP rs t):∀f p:Nat,p<t.length→t.length≤f+p→FC S 40 [] [] [] [.agg [.sl .any (rs.map (.int .i64))],AutoD a,.sl .any (t.map (.int .i64)),.int .i64 p] (.sl .any ((instM rs a t a.final f p).map (.int .i64))) [] []:=by
 intro f
 induction f with
 | zero=>intro p h1 h2;omega
 | succ f ih =>
  intro p h1 h2
  have hl:=hT.2.1.2
  have hlt:=argsS_lt hT h1
  have hal:=args_le hT p
  have hst:instM rs a t a.final (f+1) p=if t.getD p default<0 then a.final else imgT a (t.getD p default) ((argsS rs t p).map (instM rs a t a.final f)) a.rules.length:=rfl
  rw[hst]
  generalize hz:argsS rs t p=zs at *
  by_cases h0:t.getD p default<0
  ·rw[if_pos h0]
   refine fcb Tryz.func40 fun B=>?_
   refine sw_bndg 2 fun hb2=>?_
   repeat' first|exact h.elim|(exfalso;omega)|refine sw_n ?_|refine sw_go 0 kp40 fun K hK=>?_|refine sw_goT 0 kp40 10 (id:=8) (by kernel_rfl) fun K hK=>?_|refine fun (K:KT) (hK:KOk S 0 _ _ _ K)=>?_|refine sw_goD kp40 (by kernel_rfl) fun K hK=>?_|refine runL_g ?_|refine runQ_g ?_|refine sw_retg0 ?_|refine sw_retg ?_|(refine hK.n0 ?_;clear hK K)|refine sw_condg rfl (fun h=>?_) fun h=>?_|refine sw_exit rfl ?_|refine sw_loopEnd ?_|with_reducible refine and_o ?_|((with_reducible refine And.intro ?_ ?_);· first|(intro x hx;subst hx;rfl)|(intro x;refine And.intro ?_ ?_<;>(intros;subst_vars;rfl)))|apply tTT
  ·rw[if_neg h0]
   have hsy:=args_symN hT hA (p:=p) (by omega)
   rw[hz] at hsy
   have cA:=l1Args_fc .any .any rs t p hT h1
   rw[hz] at cA
   refine fcb Tryz.func40 fun B=>?_
   refine sw_bndg 2 fun hb2=>?_
   repeat' first|exact h.elim|(exfalso;omega)|refine sw_n ?_|refine sw_go 0 kp40 fun K hK=>?_|refine sw_goT 0 kp40 10 (id:=8) (by kernel_rfl) fun K hK=>?_|refine fun (K:KT) (hK:KOk S 0 _ _ _ K)=>?_|refine sw_goD kp40 (by kernel_rfl) fun K hK=>?_|refine runL_g ?_|refine runQ_g ?_|refine sw_retg0 ?_|refine sw_retg ?_|(refine hK.n0 ?_;clear hK K)|refine sw_condg rfl (fun h=>?_) fun h=>?_|refine sw_exit rfl ?_|refine sw_loopEnd ?_|refine hK.c1 rfl rfl rfl (cA) ?_|with_reducible refine and_o ?_|((with_reducible refine And.intro ?_ ?_);· first|(intro x hx;subst hx;rfl)|(intro x;refine And.intro ?_ ?_<;>(intros;subst_vars;rfl)))|apply tTT
   refine sw_tok 9 41000 22 1 rfl (.inr rfl) rfl ?_
   simp only[go_sem]
   refine sw_loopT (ι:=Nat) (fun i=>[(11,.int .i64 i),(9,.sl (.own 41000 22 1) (((zs.take i).map (instM rs a t a.final f)).map IntsD))]) (fun _=>[]) (fun _=>[41000]) (fun i=>i≤zs.length) (fun i=>zs.length-i) 0 (by(refine covers_mk0 rfl rfl ?_ ?_ ?_ ?_<;>simp (disch:=(refine Om.mk ?_;omega)) only[go_sem]<;>(try omega));all_goals first|rfl|(simp;done)) (by omega) (fun i hi=>?_)
   simp only[go_sem]
   have htl:((zs.take i).map (instM rs a t a.final f)).length≤3:=by rw[List.length_map,List.length_take];omega
   by_cases hil:i<zs.length
   ·have hm:=hlt _ (getD_mem zs i hil)
    have htk:(zs.take (i+1)).map (instM rs a t a.final f)=(zs.take i).map (instM rs a t a.final f)++[instM rs a t a.final f (zs.getD i default)]:=by
     rw[List.take_succ_eq_append_getElem hil,List.map_append];congr 1;simp[List.getD,hil]
    repeat' first|exact h.elim|(exfalso;omega)|refine sw_n ?_|refine sw_go 0 kp40 fun K hK=>?_|refine sw_goT 0 kp40 10 (id:=8) (by kernel_rfl) fun K hK=>?_|refine fun (K:KT) (hK:KOk S 0 _ _ _ K)=>?_|refine sw_goD kp40 (by kernel_rfl) fun K hK=>?_|refine runL_g ?_|refine runQ_g ?_|refine sw_retg0 ?_|refine sw_retg ?_|(refine hK.n0 ?_;clear hK K)|refine sw_condg rfl (fun h=>?_) fun h=>?_|refine sw_exit rfl ?_|refine sw_loopEnd ?_|refine hK.c1 rfl rfl rfl (ih (zs.getD i default) hm.2 (by omega)) ?_|with_reducible refine and_o ?_|((with_reducible refine And.intro ?_ ?_);· first|(intro x hx;subst hx;rfl)|(intro x;refine And.intro ?_ ?_<;>(intros;subst_vars;rfl)))|apply tTT
    all_goals exact⟨i+1,(by(refine covers_mk0 rfl rfl ?_ ?_ ?_ ?_<;>simp (disch:=(refine Om.mk ?_;omega)) only[go_sem]<;>(try omega));rw[htk,List.map_append];exact⟨rfl,by omega⟩),by omega,by omega⟩
   ·rw[List.take_of_length_le (by omega)]
    have hml:(zs.map (instM rs a t a.final f)).length≤100:=by rw[List.length_map];omega
    repeat' first|exact h.elim|(exfalso;omega)|refine sw_n ?_|refine sw_go 0 kp40 fun K hK=>?_|refine sw_goT 0 kp40 10 (id:=8) (by kernel_rfl) fun K hK=>?_|refine fun (K:KT) (hK:KOk S 0 _ _ _ K)=>?_|refine sw_goD kp40 (by kernel_rfl) fun K hK=>?_|refine runL_g ?_|refine runQ_g ?_|refine sw_retg0 ?_|refine sw_retg ?_|(refine hK.n0 ?_;clear hK K)|refine sw_condg rfl (fun h=>?_) fun h=>?_|refine sw_exit rfl ?_|refine sw_loopEnd ?_|refine hK.c1 rfl rfl rfl (l23Image_fc _ rs a hA (t.getD p default) (zs.map (instM rs a t a.final f)) hml (fun i hi e=>by rw[List.length_map];exact hsy i hi e)) ?_|with_reducible refine and_o ?_|((with_reducible refine And.intro ?_ ?_);· first|(intro x hx;subst hx;rfl)|(intro x;refine And.intro ?_ ?_<;>(intros;subst_vars;rfl)))|apply tTT
def kp42:List (Nat×List Nat):=[(0,[2,3,4,5]),(1,[2,3,4,5,16]),(2,[8]),(3,[2,3,4,5,9]),(4,[2,3,4,5,9,22,23,24]),(5,[2,3,4,5,9,22,23,24,25]),(6,[2,3,4,5,9,11,22,23,24]),(7,[2,3,4,5,9,22,23,24]),(8,[2,3,4,5,9,22,23,24]),(9,[8])]
attribute [go_sem] kp42 Tryz.results42 Tryz.ntmps42
theorem instancesAt_fc (rs:List Int) (a:AutoT) (t:List Int) (hA:AutoOkP rs a) (hB:BelowP a) (hT:TermOkP rs t):∀f p:Nat,p<t.length→t.length≤f+p→FC S 42 [] [] [] [AutoD a,.agg [.sl .any (rs.map (.int .i64))],.sl .any (t.map (.int .i64)),.int .i64 p] (.int .u32 (maskI (instM rs a t (numsN a.states.toNat) f p))) [] []:=by
 intro f
 have hV:InS (numsN a.states.toNat):=fun x hx=>by have:=numsN_mem.1 hx;have:=hA.1.2.1;omega
 induction f with
 | zero=>intro p h1 h2;omega
 | succ f ih =>
  intro p h1 h2
  have hl:=hT.2.1.2
  have hlt:=argsS_lt hT h1
  have hal:=args_le hT p
  have hst:instM rs a t (numsN a.states.toNat) (f+1) p=if t.getD p default<0 then numsN a.states.toNat else imgT a (t.getD p default) ((argsS rs t p).map (instM rs a t (numsN a.states.toNat) f)) a.rules.length:=rfl
  rw[hst]
  have cR:=reached_fc rs a hA hB
  generalize hz:argsS rs t p=zs at *
  generalize hQ:numsN a.states.toNat=V at *
  by_cases h0:t.getD p default<0
  ·rw[if_pos h0]
   refine fcb Tryz.func42 fun B=>?_
   refine sw_bndg 2 fun hb2=>?_
   repeat' first|exact h.elim|(exfalso;omega)|refine sw_n ?_|refine sw_go 0 kp42 fun K hK=>?_|refine fun (K:KT) (hK:KOk S 0 _ _ _ K)=>?_|refine sw_goD kp42 (by kernel_rfl) fun K hK=>?_|refine runL_g ?_|refine runQ_g ?_|refine sw_retg0 ?_|refine sw_retg ?_|(refine hK.n0 ?_;clear hK K)|refine sw_condg rfl (fun h=>?_) fun h=>?_|refine sw_exit rfl ?_|refine sw_loopEnd ?_|refine hK.c1 rfl rfl rfl (cR) ?_|with_reducible refine and_o ?_|((with_reducible refine And.intro ?_ ?_);· first|(intro x hx;subst hx;rfl)|(intro x;refine And.intro ?_ ?_<;>(intros;subst_vars;rfl)))|apply tTT
  ·rw[if_neg h0]
   have hsy:=args_symN hT hA (p:=p) (by omega)
   rw[hz] at hsy
   have cA:=argsAt_fc .any .any rs t p hT h1
   rw[hz] at cA
   refine fcb Tryz.func42 fun B=>?_
   refine sw_bndg 2 fun hb2=>?_
   repeat' first|exact h.elim|(exfalso;omega)|refine sw_n ?_|refine sw_go 0 kp42 fun K hK=>?_|refine fun (K:KT) (hK:KOk S 0 _ _ _ K)=>?_|refine sw_goD kp42 (by kernel_rfl) fun K hK=>?_|refine runL_g ?_|refine runQ_g ?_|refine sw_retg0 ?_|refine sw_retg ?_|(refine hK.n0 ?_;clear hK K)|refine sw_condg rfl (fun h=>?_) fun h=>?_|refine sw_exit rfl ?_|refine sw_loopEnd ?_|refine hK.c1 rfl rfl rfl (cA) ?_|with_reducible refine and_o ?_|((with_reducible refine And.intro ?_ ?_);· first|(intro x hx;subst hx;rfl)|(intro x;refine And.intro ?_ ?_<;>(intros;subst_vars;rfl)))|apply tTT
   refine sw_tok 9 36000 76 1 rfl (.inl rfl) rfl ?_
   simp only[go_sem]
   refine sw_loopT (ι:=Nat) (fun i=>[(24,.int .i64 i),(9,.sl (.own 36000 76 1) (((zs.take i).map (instM rs a t V f)).map fun s=>.int .u32 (maskI s)))]) (fun _=>[]) (fun _=>[36000]) (fun i=>i≤zs.length) (fun i=>zs.length-i) 0 (by(refine covers_mk0 rfl rfl ?_ ?_ ?_ ?_<;>simp (disch:=(refine Om.mk ?_;omega)) only[go_sem]<;>(try omega));all_goals first|rfl|(simp;done)) (by omega) (fun i hi=>?_)
   simp only[go_sem]
   have htl:((zs.take i).map (instM rs a t V f)).length≤3:=by rw[List.length_map,List.length_take];omega
   by_cases hil:i<zs.length
   ·have hm:=hlt _ (getD_mem zs i hil)
    have htk:(zs.take (i+1)).map (instM rs a t V f)=(zs.take i).map (instM rs a t V f)++[instM rs a t V f (zs.getD i default)]:=by
     rw[List.take_succ_eq_append_getElem hil,List.map_append];congr 1;simp[List.getD,hil]
    repeat' first|exact h.elim|(exfalso;omega)|refine sw_n ?_|refine sw_go 0 kp42 fun K hK=>?_|refine fun (K:KT) (hK:KOk S 0 _ _ _ K)=>?_|refine sw_goD kp42 (by kernel_rfl) fun K hK=>?_|refine runL_g ?_|refine runQ_g ?_|refine sw_retg0 ?_|refine sw_retg ?_|(refine hK.n0 ?_;clear hK K)|refine sw_condg rfl (fun h=>?_) fun h=>?_|refine sw_exit rfl ?_|refine sw_loopEnd ?_|refine hK.c1 rfl rfl rfl (ih (zs.getD i default) hm.2 (by omega)) ?_|with_reducible refine and_o ?_|((with_reducible refine And.intro ?_ ?_);· first|(intro x hx;subst hx;rfl)|(intro x;refine And.intro ?_ ?_<;>(intros;subst_vars;rfl)))|apply tTT
    all_goals exact⟨i+1,(by(refine covers_mk0 rfl rfl ?_ ?_ ?_ ?_<;>simp (disch:=(refine Om.mk ?_;omega)) only[go_sem]<;>(try omega));rw[htk,List.map_append];exact⟨rfl,by omega⟩),by omega,by omega⟩
   ·rw[List.take_of_length_le (by omega)]
    have hml:(zs.map (instM rs a t V f)).length≤100:=by rw[List.length_map];omega
    have hmi:∀s∈zs.map (instM rs a t V f),InS s:=fun s h=>by
     obtain⟨x,_,rfl⟩:=List.mem_map.1 h
     exact instM_in hA t hV f x
    repeat' first|exact h.elim|(exfalso;omega)|refine sw_n ?_|refine sw_go 0 kp42 fun K hK=>?_|refine fun (K:KT) (hK:KOk S 0 _ _ _ K)=>?_|refine sw_goD kp42 (by kernel_rfl) fun K hK=>?_|refine runL_g ?_|refine runQ_g ?_|refine sw_retg0 ?_|refine sw_retg ?_|(refine hK.n0 ?_;clear hK K)|refine sw_condg rfl (fun h=>?_) fun h=>?_|refine sw_exit rfl ?_|refine sw_loopEnd ?_|refine hK.c1 rfl rfl rfl (reaches_fc _ rs a hA (t.getD p default) (zs.map (instM rs a t V f)) hml hmi (fun i hi e=>by rw[List.length_map];exact hsy i hi e)) ?_|with_reducible refine and_o ?_|((with_reducible refine And.intro ?_ ?_);· first|(intro x hx;subst hx;rfl)|(intro x;refine And.intro ?_ ?_<;>(intros;subst_vars;rfl)))|apply tTT
def kp41:List (Nat×List Nat):=[(0,[1,2]),(1,[4])]
attribute [go_sem] kp41 Tryz.results41 Tryz.ntmps41
theorem implLinearIn_fc (rs t:List Int):FC S 41 [] [] [] [.agg [.sl .any (rs.map (.int .i64))],.sl .any (t.map (.int .i64))] (.bool (tst (TermOkP rs t∧LinP t))) [] []:=by
 have cT:=implTermOk_fc .any .any rs t
 have cL:=linear_fc .any t
 by_cases h1:TermOkP rs t
 ·rw[tst_true h1] at cT
  rw[tst_congr (show TermOkP rs t∧LinP t↔LinP t from⟨fun h=>h.2,fun h=>⟨h1,h⟩⟩)]
  refine fcb Tryz.func41 fun B=>?_
  repeat' first|exact h.elim|refine sw_n ?_|refine sw_go 0 kp41 fun K hK=>?_|refine fun (K:KT) (hK:KOk S 0 _ _ _ K)=>?_|refine runL_g ?_|refine sw_retg0 ?_|refine sw_retg ?_|(refine hK.n0 ?_;clear hK K)|refine runG_fk (fun h=>?_) fun h=>?_|refine hK.skp rfl rfl ?_|refine sw_loopEnd ?_|refine hK.c1 rfl rfl rfl (cT) ?_|refine hK.c1 rfl rfl rfl (cL) ?_|(refine hK.fork rfl rfl rfl ?_ ?_<;>intro h<;>try simp (disch:=(refine Om.mk ?_;omega)) only[go_sem] at h)|with_reducible refine and_o ?_|apply tTT
 ·rw[tst_false h1] at cT
  rw[tst_false fun h=>h1 h.1]
  refine fcb Tryz.func41 fun B=>?_
  repeat' first|exact h.elim|refine sw_n ?_|refine sw_go 0 kp41 fun K hK=>?_|refine fun (K:KT) (hK:KOk S 0 _ _ _ K)=>?_|refine runL_g ?_|refine sw_retg0 ?_|refine sw_retg ?_|(refine hK.n0 ?_;clear hK K)|refine runG_fk (fun h=>?_) fun h=>?_|refine hK.skp rfl rfl ?_|refine sw_loopEnd ?_|refine hK.c1 rfl rfl rfl (cT) ?_|(refine hK.fork rfl rfl rfl ?_ ?_<;>intro h<;>try simp (disch:=(refine Om.mk ?_;omega)) only[go_sem] at h)|with_reducible refine and_o ?_|apply tTT
end
section
attribute [local irreducible] Lg.SW runL runQ runG runQG FC FCw Ret1 RetN toF redoL anyB
theorem mask_zero {s:List Int} (hs:InS s):maskI s=0↔s=[]:=by
 constructor
 ·intro h
  cases s with
  | nil=>rfl
  | cons x r =>
   have h0:=(hs x List.mem_cons_self).1
   have hb:=maskN_bit hs h0
   have e:maskN (x::r)=0:=by unfold maskI at h;omega
   rw[e,Nat.zero_testBit] at hb
   simp at hb
 ·rintro rfl;rfl
open Classical in
noncomputable def redR (x:SystemT) (t:List Int):Int:=if (normR x).2=true∧TermOkP x.sig t∧LinP t then (if instM x.sig (normR x).1 t (normR x).1.final 60 0=[] then 1 else 0) else -1
theorem redR_no1 {x:SystemT} {t:List Int} (h:(normR x).2=false):redR x t=-1:=if_neg fun h'=>by rw[h] at h';cases h'.1
theorem redR_no2 {x:SystemT} {t:List Int} (h:¬(TermOkP x.sig t∧LinP t)):redR x t=-1:=if_neg fun h'=>h h'.2
theorem redR_yes {x:SystemT} {t:List Int} (h:(normR x).2=true) (h2:TermOkP x.sig t∧LinP t):(instM x.sig (normR x).1 t (normR x).1.final 60 0=[]→redR x t=1)∧(instM x.sig (normR x).1 t (normR x).1.final 60 0≠[]→redR x t=0):=by
 unfold redR
 rw[if_pos ⟨h,h2⟩]
 exact⟨fun h=>if_pos h,fun h=>if_neg h⟩
def kp39:List (Nat×List Nat):=[(0,[0]),(1,[3]),(2,[2]),(3,[2])]
attribute [go_sem] kp39 Tryz.results39 Tryz.ntmps39
theorem flagA_fc (b:Bool):FC S 39 [] [] [] [.bool b] (.int .i64 (if b=true then 1 else 0)) [] []:=by
 cases b
 ·skip
  refine fcb Tryz.func39 fun B=>?_
  repeat' first|exact h.elim|refine sw_n ?_|refine sw_go 0 kp39 fun K hK=>?_|refine fun (K:KT) (hK:KOk S 0 _ _ _ K)=>?_|refine runL_g ?_|refine sw_retg0 ?_|refine sw_retg ?_|(refine hK.n0 ?_;clear hK K)|refine sw_condg rfl (fun h=>?_) fun h=>?_|refine sw_loopEnd ?_|with_reducible refine and_o ?_|apply tTT
 ·skip
  refine fcb Tryz.func39 fun B=>?_
  repeat' first|exact h.elim|refine sw_n ?_|refine sw_go 0 kp39 fun K hK=>?_|refine fun (K:KT) (hK:KOk S 0 _ _ _ K)=>?_|refine runL_g ?_|refine sw_retg0 ?_|refine sw_retg ?_|(refine hK.n0 ?_;clear hK K)|refine sw_condg rfl (fun h=>?_) fun h=>?_|refine sw_loopEnd ?_|with_reducible refine and_o ?_|apply tTT
def kp11:List (Nat×List Nat):=[(0,[1,2]),(1,[1,2,5,6]),(2,[1,2,5,20]),(3,[4]),(4,[4])]
attribute [go_sem] kp11 Tryz.results11 Tryz.ntmps11
theorem specAlwaysReduces_fc (x:SystemT) (t:List Int):FC S 11 [] [] [] [SystemD x,.sl .any (t.map (.int .i64))] (.int .i64 (redR x t)) [] []:=by
 have cS:=specNormalAuto_fc x
 cases hb:(normR x).2 with
 | false =>
  rw[redR_no1 hb]
  rw[hb] at cS
  generalize (normR x).1=a at *
  refine fcb Tryz.func11 fun B=>?_
  repeat' first|exact h.elim|(exfalso;omega)|refine sw_n ?_|refine sw_go 0 kp11 fun K hK=>?_|refine fun (K:KT) (hK:KOk S 0 _ _ _ K)=>?_|refine runL_g ?_|refine sw_retg0 ?_|refine sw_retg ?_|(refine hK.n0 ?_;clear hK K)|refine runG_fk (fun h=>?_) fun h=>?_|refine sw_condg rfl (fun h=>?_) fun h=>?_|refine hK.skp rfl rfl ?_|refine sw_loopEnd ?_|refine hK.c1 rfl rfl rfl (cS) ?_|(refine hK.fork rfl rfl rfl ?_ ?_<;>intro h<;>try simp (disch:=(refine Om.mk ?_;omega)) only[go_sem] at h)|with_reducible refine and_o ?_|apply tTT
 | true =>
  have cL:=specLinearIn_fc .any .any x.sig t
  by_cases hL:TermOkP x.sig t∧LinP t
  ·obtain⟨hP,hA,hB,hF⟩:=normR_ok hb
   have hl:=hL.1.2.1
   have cI:=l24Instances_fc x.sig (normR x).1 t hA hL.1 60 0 (by omega) (by omega)
   obtain⟨hy,hn⟩:=redR_yes hb hL
   rw[tst_true hL] at cL
   rw[hb] at cS
   generalize redR x t=R at *
   generalize instM x.sig (normR x).1 t (normR x).1.final 60 0=I at *
   generalize (normR x).1=a at *
   by_cases hI:I=[]
   ·rw[hy hI]
    subst hI
    have cF:=flagA_fc true
    simp only[if_true] at cF
    refine fcb Tryz.func11 fun B=>?_
    repeat' first|exact h.elim|(exfalso;omega)|refine sw_n ?_|refine sw_go 0 kp11 fun K hK=>?_|refine fun (K:KT) (hK:KOk S 0 _ _ _ K)=>?_|refine runL_g ?_|refine sw_retg0 ?_|refine sw_retg ?_|(refine hK.n0 ?_;clear hK K)|refine runG_fk (fun h=>?_) fun h=>?_|refine sw_condg rfl (fun h=>?_) fun h=>?_|refine hK.skp rfl rfl ?_|refine sw_loopEnd ?_|refine hK.c1 rfl rfl rfl (cS) ?_|refine hK.c1 rfl rfl rfl (cL) ?_|refine hK.c1 rfl rfl rfl (cI) ?_|refine hK.c1 rfl rfl rfl (cF) ?_|(refine hK.fork rfl rfl rfl ?_ ?_<;>intro h<;>try simp (disch:=(refine Om.mk ?_;omega)) only[go_sem] at h)|with_reducible refine and_o ?_|apply tTT
   ·rw[hn hI]
    have hpos:=List.length_pos_iff.2 hI
    have cF:=flagA_fc ((I.length:Int)==0)
    have e0:((I.length:Int)==0)=false:=beq_eq_false_iff_ne.2 (by omega)
    rw[if_neg (by rw[e0];simp)] at cF
    refine fcb Tryz.func11 fun B=>?_
    repeat' first|exact h.elim|(exfalso;omega)|refine sw_n ?_|refine sw_go 0 kp11 fun K hK=>?_|refine fun (K:KT) (hK:KOk S 0 _ _ _ K)=>?_|refine runL_g ?_|refine sw_retg0 ?_|refine sw_retg ?_|(refine hK.n0 ?_;clear hK K)|refine runG_fk (fun h=>?_) fun h=>?_|refine sw_condg rfl (fun h=>?_) fun h=>?_|refine hK.skp rfl rfl ?_|refine sw_loopEnd ?_|refine hK.c1 rfl rfl rfl (cS) ?_|refine hK.c1 rfl rfl rfl (cL) ?_|refine hK.c1 rfl rfl rfl (cI) ?_|refine hK.c1 rfl rfl rfl (cF) ?_|(refine hK.fork rfl rfl rfl ?_ ?_<;>intro h<;>try simp (disch:=(refine Om.mk ?_;omega)) only[go_sem] at h)|with_reducible refine and_o ?_|apply tTT
  ·rw[redR_no2 hL]
   rw[tst_false hL] at cL
   rw[hb] at cS
   generalize (normR x).1=a at *
   refine fcb Tryz.func11 fun B=>?_
   repeat' first|exact h.elim|(exfalso;omega)|refine sw_n ?_|refine sw_go 0 kp11 fun K hK=>?_|refine fun (K:KT) (hK:KOk S 0 _ _ _ K)=>?_|refine runL_g ?_|refine sw_retg0 ?_|refine sw_retg ?_|(refine hK.n0 ?_;clear hK K)|refine runG_fk (fun h=>?_) fun h=>?_|refine sw_condg rfl (fun h=>?_) fun h=>?_|refine hK.skp rfl rfl ?_|refine sw_loopEnd ?_|refine hK.c1 rfl rfl rfl (cS) ?_|refine hK.c1 rfl rfl rfl (cL) ?_|(refine hK.fork rfl rfl rfl ?_ ?_<;>intro h<;>try simp (disch:=(refine Om.mk ?_;omega)) only[go_sem] at h)|with_reducible refine and_o ?_|apply tTT
def kp13:List (Nat×List Nat):=[(0,[1,2]),(1,[1,2,5,6]),(2,[1,2,5,20]),(3,[4]),(4,[26]),(5,[4]),(6,[4])]
attribute [go_sem] kp13 Tryz.results13 Tryz.ntmps13
theorem implAlwaysReduces_fc (x:SystemT) (t:List Int):FCw S TabW 13 [] [] [] [SystemD x,.sl .any (t.map (.int .i64))] (.int .i64 (redR x t)) [] []:=by
 have cN:=implNormalAuto_fc [0] (by simp) x
 have cL:=implLinearIn_fc x.sig t
 refine fcbW Tryz.func13 rfl fun B hw hTB hI hpan=>?_
 cases hb:(normR x).2 with
 | false =>
  rw[redR_no1 hb]
  rw[hb] at cN
  generalize (normR x).1=a at *
  repeat' first|exact h.elim|(exfalso;omega)|(refine hK.raw ?_;clear hK K;refine LopsW.callW rfl rfl rfl hw hTB (cN) (by refine⟨⟨?_,?_,?_,?_,?_⟩,⟨?_,?_,?_,?_,?_⟩,?_⟩<;>simp[LS.getBox,Lg.look,D.ids,D.idsL,LS.clean,D.tks,D.tksL,inTok,AutoL,TransSL,Int64SL]) (lops_go 0 (fun (K:List Oper→LS→Prop) (hK:KOk S 0 _ _ _ K)=>?_));simp (disch:=(refine Om.mk ?_;omega)) only[go_sem,List.filter_cons,List.filter_nil,Bool.false_eq_true])|refine sw_n ?_|refine sw_go 0 kp13 fun K hK=>?_|refine fun (K:KT) (hK:KOk S 0 _ _ _ K)=>?_|refine runL_g ?_|refine sw_retg0 ?_|refine sw_retg ?_|(refine hK.n0 ?_;clear hK K)|refine runG_fk (fun h=>?_) fun h=>?_|refine sw_condg rfl (fun h=>?_) fun h=>?_|refine hK.skp rfl rfl ?_|refine sw_loopEnd ?_|refine hK.c1 rfl rfl rfl (cL) ?_|(refine hK.fork rfl rfl rfl ?_ ?_<;>intro h<;>try simp (disch:=(refine Om.mk ?_;omega)) only[go_sem] at h)|with_reducible refine and_o ?_|apply tTT
  all_goals (unfold RetN;simp only[go_sem];exact ret_plain rfl fun f=>rfl)
 | true =>
  by_cases hL:TermOkP x.sig t∧LinP t
  ·obtain⟨hP,hA,hB,hF⟩:=normR_ok hb
   have hl:=hL.1.2.1
   have cI:=FC.args (instancesAt_fc x.sig (normR x).1 t hA hB hL.1 60 0 (by omega) (by omega)) (args:=[AutoL [0] (normR x).1,.agg [.sl .any (x.sig.map (.int .i64))],.sl .any (t.map (.int .i64)),.int .i64 ((0:Nat):Int)]) ⟨le_AutoL _ _,.refl _,.refl _,.refl _,trivial⟩
   have hIn:InS (instM x.sig (normR x).1 t (numsN (normR x).1.states.toNat) 60 0):=instM_in hA t (fun x hx=>by have:=numsN_mem.1 hx;have:=hA.1.2.1;omega) 60 0
   obtain⟨hy,hn⟩:=redR_yes hb hL
   rw[hF] at hy hn
   have hz:=mask_zero hIn
   rw[tst_true hL] at cL
   rw[hb] at cN
   generalize redR x t=R at *
   generalize instM x.sig (normR x).1 t (numsN (normR x).1.states.toNat) 60 0=I at *
   generalize (normR x).1=a at *
   by_cases hI0:I=[]
   ·rw[hy hI0]
    have h0:=hz.2 hI0
    repeat' first|exact h.elim|(exfalso;omega)|(refine hK.raw ?_;clear hK K;refine LopsW.callW rfl rfl rfl hw hTB (cN) (by refine⟨⟨?_,?_,?_,?_,?_⟩,⟨?_,?_,?_,?_,?_⟩,?_⟩<;>simp[LS.getBox,Lg.look,D.ids,D.idsL,LS.clean,D.tks,D.tksL,inTok,AutoL,TransSL,Int64SL]) (lops_go 0 (fun (K:List Oper→LS→Prop) (hK:KOk S 0 _ _ _ K)=>?_));simp (disch:=(refine Om.mk ?_;omega)) only[go_sem,List.filter_cons,List.filter_nil,Bool.false_eq_true])|refine sw_n ?_|refine sw_go 0 kp13 fun K hK=>?_|refine fun (K:KT) (hK:KOk S 0 _ _ _ K)=>?_|refine runL_g ?_|refine sw_retg0 ?_|refine sw_retg ?_|(refine hK.n0 ?_;clear hK K)|refine runG_fk (fun h=>?_) fun h=>?_|refine sw_condg rfl (fun h=>?_) fun h=>?_|refine hK.skp rfl rfl ?_|refine sw_loopEnd ?_|refine hK.c1 rfl rfl rfl (cL) ?_|refine hK.c1 rfl rfl rfl (cI) ?_|(refine hK.fork rfl rfl rfl ?_ ?_<;>intro h<;>try simp (disch:=(refine Om.mk ?_;omega)) only[go_sem] at h)|with_reducible refine and_o ?_|apply tTT
    all_goals (unfold RetN;simp only[go_sem];exact ret_plain rfl fun f=>rfl)
   ·rw[hn hI0]
    have h0:¬maskI I=0:=fun h=>hI0 (hz.1 h)
    repeat' first|exact h.elim|(exfalso;omega)|(refine hK.raw ?_;clear hK K;refine LopsW.callW rfl rfl rfl hw hTB (cN) (by refine⟨⟨?_,?_,?_,?_,?_⟩,⟨?_,?_,?_,?_,?_⟩,?_⟩<;>simp[LS.getBox,Lg.look,D.ids,D.idsL,LS.clean,D.tks,D.tksL,inTok,AutoL,TransSL,Int64SL]) (lops_go 0 (fun (K:List Oper→LS→Prop) (hK:KOk S 0 _ _ _ K)=>?_));simp (disch:=(refine Om.mk ?_;omega)) only[go_sem,List.filter_cons,List.filter_nil,Bool.false_eq_true])|refine sw_n ?_|refine sw_go 0 kp13 fun K hK=>?_|refine fun (K:KT) (hK:KOk S 0 _ _ _ K)=>?_|refine runL_g ?_|refine sw_retg0 ?_|refine sw_retg ?_|(refine hK.n0 ?_;clear hK K)|refine runG_fk (fun h=>?_) fun h=>?_|refine sw_condg rfl (fun h=>?_) fun h=>?_|refine hK.skp rfl rfl ?_|refine sw_loopEnd ?_|refine hK.c1 rfl rfl rfl (cL) ?_|refine hK.c1 rfl rfl rfl (cI) ?_|(refine hK.fork rfl rfl rfl ?_ ?_<;>intro h<;>try simp (disch:=(refine Om.mk ?_;omega)) only[go_sem] at h)|with_reducible refine and_o ?_|apply tTT
    all_goals (unfold RetN;simp only[go_sem];exact ret_plain rfl fun f=>rfl)
  ·rw[redR_no2 hL]
   rw[tst_false hL] at cL
   rw[hb] at cN
   generalize (normR x).1=a at *
   repeat' first|exact h.elim|(exfalso;omega)|(refine hK.raw ?_;clear hK K;refine LopsW.callW rfl rfl rfl hw hTB (cN) (by refine⟨⟨?_,?_,?_,?_,?_⟩,⟨?_,?_,?_,?_,?_⟩,?_⟩<;>simp[LS.getBox,Lg.look,D.ids,D.idsL,LS.clean,D.tks,D.tksL,inTok,AutoL,TransSL,Int64SL]) (lops_go 0 (fun (K:List Oper→LS→Prop) (hK:KOk S 0 _ _ _ K)=>?_));simp (disch:=(refine Om.mk ?_;omega)) only[go_sem,List.filter_cons,List.filter_nil,Bool.false_eq_true])|refine sw_n ?_|refine sw_go 0 kp13 fun K hK=>?_|refine fun (K:KT) (hK:KOk S 0 _ _ _ K)=>?_|refine runL_g ?_|refine sw_retg0 ?_|refine sw_retg ?_|(refine hK.n0 ?_;clear hK K)|refine runG_fk (fun h=>?_) fun h=>?_|refine sw_condg rfl (fun h=>?_) fun h=>?_|refine hK.skp rfl rfl ?_|refine sw_loopEnd ?_|refine hK.c1 rfl rfl rfl (cL) ?_|(refine hK.fork rfl rfl rfl ?_ ?_<;>intro h<;>try simp (disch:=(refine Om.mk ?_;omega)) only[go_sem] at h)|with_reducible refine and_o ?_|apply tTT
   all_goals (unfold RetN;simp only[go_sem];exact ret_plain rfl fun f=>rfl)
end
end Go.Proofs.YtkfkdgginfpdnaaGreatDoor
