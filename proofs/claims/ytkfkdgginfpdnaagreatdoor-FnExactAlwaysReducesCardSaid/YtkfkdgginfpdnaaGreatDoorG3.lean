/-
  A05n, A06, A06s, A24, one behind the other.
-/
import Derived.Test.YtkfkdgginfpdnaaGreatDoorG2
import Derived.Test.YtkfkdgginfpdnaaGreatDoorSet
import Derived.Test.YtkfkdgginfpdnaaGreatDoorG1
namespace Go.Proofs.YtkfkdgginfpdnaaGreatDoor
open Go Go.Lg
set_option linter.unusedSimpArgs false
set_option linter.unusedVariables false
set_option maxHeartbeats 4000000
section
attribute [local irreducible] SW runL runQ runG runQG FC Ret1 RetN toF redoL
attribute [local go_sem] pu_ints tksL_ints idsL_ints
theorem renumberL_fc (q:Nat→List Nat) (hq:∀j,q j≠[]) (tk:Tk) (ts:List (List Int)) (hn:ts.length≤100) (ht:∀t∈ts,1≤t.length∧t.length≤60):FC S 161 [] [] [] [.sl tk (ts.map IntsD)] (.sl .any (mapR (fun j y=>Int64SL (q j) y) (renL [] ts))) [] []:=by
 have hsl:=seenT_len ts fun t h=>(ht t h).2
 have hrl:=renL_len ts []
 refine FC.args (args':=[.sl .any (ts.map IntsD)]) ?_ (by simp only[go_sem])
 refine fcb Tryz.func161 fun B=>?_
 refine sw_bndg 0 fun hb0=>?_
 repeat' first|exact h.elim|refine sw_n ?_|refine sw_go 0 kp161 fun K hK=>?_|refine fun (K:KT) (hK:KOk S 0 _ _ _ K)=>?_|refine runL_g ?_|refine sw_retg0 ?_|refine sw_retg ?_|(refine hK.n0 ?_;clear hK K)|refine sw_condg rfl (fun h=>?_) fun h=>?_|refine sw_exit rfl ?_|refine sw_loopEnd ?_|with_reducible refine and_o ?_|((with_reducible refine And.intro ?_ ?_);· first|(intro x hx;subst hx;rfl)|exact upR_mem fun _ _=>rfl|exact mapR_mem fun _ _=>rfl|(intro x;refine And.intro ?_ ?_<;>(intros;subst_vars;rfl)))|apply tTT
 refine sw_tok 3 39000 2 1 rfl (.inl rfl) rfl ?_
 simp only[go_sem]
 refine sw_tok 4 49000 22 1 rfl (.inl rfl) rfl ?_
 simp only[go_sem]
 refine sw_loopT (ι:=Nat) (fun j=>[(13,.int .i64 j),(3,.sl (.own 39000 2 1) ((seenT ts j).map (.int .i64))),(4,.sl (.own 49000 22 1) (upR (fun j y=>D.sl (.lab (q j)) (List.map (.int .i64) y)) (renL [] ts) j))]) (fun _=>[]) (fun _=>[49000,39000]) (fun j=>j≤ts.length) (fun j=>ts.length-j) 0 cvB (by omega) (fun j hj=>?_)
 simp only[go_sem]
 have hsj:=hsl j hj
 rcases Nat.lt_or_ge j ts.length with hjl|hjl
 ·have htj:=ht _ (getD_mem ts j hjl)
  have hrs:(renL [] ts).getD j default=(ts.getD j default).map (codeI (seenS (seenT ts j) (ts.getD j default))):=renL_get ts [] j hjl
  have hss:=seenT_succ ts j hjl
  generalize hs0:seenT ts j=s at hsj hrs hss
  have hne:ts.getD j default≠[]:=fun e=>by rw[e] at htj;simp at htj
  have hll:=upR_length (fun j y=>D.sl (.lab (q j)) (List.map (.int .i64) y)) (renL [] ts) j
  have hus:=upR_succ (fun j y=>D.sl (.lab (q j)) (List.map (.int .i64) y)) (renL [] ts) j
  rw[hrs] at hus
  repeat' first|exact h.elim|refine sw_n ?_|refine sw_go 0 kp161 fun K hK=>?_|refine fun (K:KT) (hK:KOk S 0 _ _ _ K)=>?_|refine runL_g ?_|refine sw_retg0 ?_|refine sw_retg ?_|(refine hK.n0 ?_;clear hK K)|refine sw_condg rfl (fun h=>?_) fun h=>?_|refine sw_exit rfl ?_|refine sw_loopEnd ?_|refine hK.cT rfl rfl rfl (cloneOwn_fc .any (ts.getD j default) (by omega)) ?_|with_reducible refine and_o ?_|((with_reducible refine And.intro ?_ ?_);· first|(intro x hx;subst hx;rfl)|exact upR_mem fun _ _=>rfl|exact mapR_mem fun _ _=>rfl|(intro x;refine And.intro ?_ ?_<;>(intros;subst_vars;rfl)))|apply tTT
  ·refine sw_loopT (ι:=Nat) (fun i=>[(21,.int .i64 i),(3,.sl (.own 39000 2 1) ((seenS s ((ts.getD j default).take i)).map (.int .i64)))]) (fun i=>[(18,(mixS s (ts.getD j default) i).map (.int .i64))]) (fun _=>[39000,49000]) (fun i=>i≤(ts.getD j default).length) (fun i=>(ts.getD j default).length-i) 0 (by(refine covers_mk0 rfl rfl ?_ ?_ ?_ ?_<;>simp (disch:=(refine Om.mk ?_;omega)) only[go_sem]<;>(try omega));all_goals first|exact⟨rfl,rfl⟩|simp[mixS]) (by omega) (fun i hi=>?_)
   simp only[go_sem]
   have hml:=mixS_len s (ts.getD j default) i hi
   have hmg:=mixS_get s (ts.getD j default) i
   have hms:=mixS_stay s (ts.getD j default) i
   have hmt:=mixS_set s (ts.getD j default) i
   have hst:=seen_take s (ts.getD j default) i
   have hsn:=seenS_len ((ts.getD j default).take i) s
   have htk:((ts.getD j default).take i).length≤60:=by simp;omega
   have hfx:=fidx_idx ((mixS s (ts.getD j default) i).getD i default) (seenS s ((ts.getD j default).take i))
   have hfr:-1≤fidx (fun x=>x=(mixS s (ts.getD j default) i).getD i default) (seenS s ((ts.getD j default).take i))∧fidx (fun x=>x=(mixS s (ts.getD j default) i).getD i default) (seenS s ((ts.getD j default).take i))≤10000:=by
    by_cases hm:(mixS s (ts.getD j default) i).getD i default∈seenS s ((ts.getD j default).take i)
    ·have:=List.idxOf_lt_length_of_mem hm
     rw[hfx.1 hm];omega
    ·rw[hfx.2 hm];omega
   repeat' first|exact h.elim|(refine sw_freezeLab1 17 7 1 (q j) ((mixS s (ts.getD j default) i).map (.int .i64)) rfl rfl (flat_ints _).symm (by rw[List.length_map,hml]) (cells_one fun _=>rfl) (memOk_ints _) (hq j) (by simp) ?_;simp only[go_sem])|refine sw_n ?_|refine sw_go 0 kp161 fun K hK=>?_|refine fun (K:KT) (hK:KOk S 0 _ _ _ K)=>?_|refine runL_g ?_|refine sw_retg0 ?_|refine sw_retg ?_|(refine hK.n0 ?_;clear hK K)|refine sw_condg rfl (fun h=>?_) fun h=>?_|refine sw_exit rfl ?_|refine sw_loopEnd ?_|refine hK.c1 rfl rfl rfl (index_fc _ _ _) ?_|with_reducible refine and_o ?_|((with_reducible refine And.intro ?_ ?_);· first|(intro x hx;subst hx;rfl)|exact upR_mem fun _ _=>rfl|exact mapR_mem fun _ _=>rfl|(intro x;refine And.intro ?_ ?_<;>(intros;subst_vars;rfl)))|apply tTT
   ·rw[hmg (by omega)] at h
    refine⟨i+1,(by(refine covers_mk0 rfl rfl ?_ ?_ ?_ ?_<;>simp (disch:=(refine Om.mk ?_;omega)) only[go_sem]<;>(try omega));all_goals first|(rw[hst (by omega),if_pos (.inl h)];exact⟨rfl,by omega⟩)|rw[hms (by omega) h]),by omega,by omega⟩
   ·rw[hmg (by omega)] at *
    have hnm:(ts.getD j default).getD i default∉seenS s ((ts.getD j default).take i):=fun hm=>by rw[hfx.1 hm] at h;omega
    have hst:=hst (by omega)
    rw[if_neg (by rintro (h1|h1);omega;exact hnm h1)] at hst
    have hmt:=hmt (by omega)
    rw[hst,code_new (by assumption) hnm] at hmt
    refine⟨i+1,(by(refine covers_mk0 rfl rfl ?_ ?_ ?_ ?_<;>simp (disch:=(refine Om.mk ?_;omega)) only[go_sem]<;>(try omega));all_goals first|(rw[hst];exact⟨rfl,by omega⟩)|(rw[←hmt])|(simp;done)),by omega,by omega⟩
   ·rw[hmg (by omega)] at *
    have hm:(ts.getD j default).getD i default∈seenS s ((ts.getD j default).take i):=Classical.byContradiction fun hn=>by rw[hfx.2 hn] at h;omega
    have hst:=hst (by omega)
    rw[if_pos (.inr hm)] at hst
    have hmt:=hmt (by omega)
    rw[hst,code_old (by assumption),←hfx.1 hm] at hmt
    refine⟨i+1,(by(refine covers_mk0 rfl rfl ?_ ?_ ?_ ?_<;>simp (disch:=(refine Om.mk ?_;omega)) only[go_sem]<;>(try omega));all_goals first|(rw[hst];exact⟨rfl,by omega⟩)|(rw[←hmt])|(simp;done)),by omega,by omega⟩
   ·obtain⟨e1,e2⟩:=mixS_all s (ts.getD j default) i (by omega)
    refine⟨j+1,(by(refine covers_mk0 rfl rfl ?_ ?_ ?_ ?_<;>simp (disch:=(refine Om.mk ?_;omega)) only[go_sem]<;>(try omega));all_goals first|(rw[e1,e2,hus,hss];exact⟨rfl,rfl,by omega⟩)|(simp;done)),by omega,by omega⟩
  ·exfalso;omega
 ·repeat' first|exact h.elim|refine sw_n ?_|refine sw_go 0 kp161 fun K hK=>?_|refine fun (K:KT) (hK:KOk S 0 _ _ _ K)=>?_|refine runL_g ?_|refine sw_retg0 ?_|refine sw_retg ?_|(refine hK.n0 ?_;clear hK K)|refine sw_condg rfl (fun h=>?_) fun h=>?_|refine sw_exit rfl ?_|refine sw_loopEnd ?_|with_reducible refine and_o ?_|((with_reducible refine And.intro ?_ ?_);· first|(intro x hx;subst hx;rfl)|exact upR_mem fun _ _=>rfl|exact mapR_mem fun _ _=>rfl|(intro x;refine And.intro ?_ ?_<;>(intros;subst_vars;rfl)))|apply tTT
  ·exfalso;omega
  ·rw[show j=(renL [] ts).length by omega];rfl
def kp143:List (Nat×List Nat):=[(0,[0]),(1,[2])]
attribute [go_sem] kp143 Tryz.results143 Tryz.ntmps143
theorem renamedL_fc (p:List Nat) (hp:p≠[]) (tk:Tk) (t:List Int) (ht:1≤t.length∧t.length≤60):FC S 143 [] [] [] [.sl tk (t.map (.int .i64))] (Int64SL p (ren0 t)) [] []:=by
 have c:FC S 161 [] [] [] [.sl .full [IntsD t]] (.sl .any [Int64SL p (ren0 t)]) [] []:=renumberL_fc (fun _=>p) (fun _=>hp) .full [t] (by simp) (fun u hu=>by rw[List.mem_singleton.1 hu];exact ht)
 refine FC.args (args':=[.sl .any (t.map (.int .i64))]) ?_ (by simp only[go_sem])
 refine fcb Tryz.func143 fun B=>?_
 repeat' first|refine sw_n ?_|refine sw_go 0 kp143 fun K hK=>?_|refine fun (K:KT) (hK:KOk S 0 _ _ _ K)=>?_|refine runL_g ?_|refine sw_retg0 ?_|refine sw_retg ?_|(refine hK.n0 ?_;clear hK K)|refine sw_loopEnd ?_|refine hK.c1 rfl rfl rfl (c) ?_|with_reducible refine and_o ?_|((with_reducible refine And.intro ?_ ?_);· first|(intro x hx;subst hx;rfl)|exact upR_mem fun _ _=>rfl|exact mapR_mem fun _ _=>rfl|(intro x;refine And.intro ?_ ?_<;>(intros;subst_vars;rfl)))|apply tTT
end
section
attribute [local irreducible] SW runL runQ runG runQG FC
def LinP (t:List Int):Prop:=∀j<t.length,t.getD j default<0→t.getD j default∉t.take j
def LinW (t:List Int):Prop:=t.Pairwise fun a b=>b<0→a≠b
theorem linP_w (t:List Int):LinP t↔LinW t:=by
 unfold LinP LinW
 rw[List.pairwise_iff_getElem]
 constructor
 ·intro h i j hi hj hij hneg e
  have h1:=h j hj (by simpa[List.getD,List.getElem?_eq_getElem hj] using hneg)
  apply h1
  have h2:t.getD j default=t[j]:=by simp[List.getD,List.getElem?_eq_getElem hj]
  rw[h2,←e]
  exact List.mem_take_iff_getElem.2 ⟨i,by omega,rfl⟩
 ·intro h j hj hneg hm
  have h2:t.getD j default=t[j]:=by simp[List.getD,List.getElem?_eq_getElem hj]
  rw[h2] at hneg hm
  obtain⟨i,hi,e⟩:=List.mem_take_iff_getElem.1 hm
  exact h i j (by omega) hj (by omega) hneg e
theorem lin_count:∀t:List Int,(∀x∈t,x<0→t.count x≤1)↔LinW t
 | []=>by simp[LinW]
 | y::t=>by
  have ih:=lin_count t
  unfold LinW at *
  rw[List.pairwise_cons,←ih]
  constructor
  ·intro h
   refine⟨fun b hb hneg e=>?_,fun x hx hneg=>?_⟩
   ·subst e
    have h1:=h y (by simp) hneg
    have h2:=List.count_pos_iff.2 hb
    rw[List.count_cons_self] at h1
    omega
   ·have h1:=h x (by simp[hx]) hneg
    have:=List.count_le_count_cons (a:=x) (b:=y) (l:=t)
    omega
  ·rintro⟨h1,h2⟩ x hx hneg
   by_cases e:y=x
   ·subst e
    have:y∉t:=fun hm=>h1 y hm hneg rfl
    rw[List.count_cons_self,List.count_eq_zero.2 this];omega
   ·have hx':x∈t:=by
     rcases List.mem_cons.1 hx with rfl|hx
     ·exact absurd rfl e
     ·exact hx
    rw[List.count_cons_of_ne (fun h=>e h)]
    exact h2 x hx' hneg
def RuleOkP (rs l r:List Int):Prop:=(TermOkP rs l∧TermOkP rs r∧0≤l.getD 0 default)∧∀j<r.length,r.getD j default<0→r.getD j default∈l
def kp128:List (Nat×List Nat):=[(0,[0,1]),(1,[0,1,5]),(2,[0,1,5,6]),(3,[0,1,5,6,10]),(5,[0,1,5,6,18]),(6,[0,1,5,6]),(4,[0,1,5,6]),(7,[4])]
attribute [go_sem] kp128 Tryz.results128 Tryz.ntmps128
theorem l1Count_fc (tk:Tk) (xs:List Int) (n:Int):FC S 128 [] [] [] [.sl tk (xs.map (.int .i64)),.int .i64 n] (.int .i64 (xs.count n)) [] []:=by
 refine fcb Tryz.func128 fun B=>?_
 refine sw_bndg 0 fun hb0=>?_
 repeat' first|exact h.elim|refine sw_n ?_|refine sw_go 0 kp128 fun K hK=>?_|refine fun (K:KT) (hK:KOk S 0 _ _ _ K)=>?_|refine runL_g ?_|refine sw_retg0 ?_|refine sw_retg ?_|(refine hK.n0 ?_;clear hK K)|refine sw_condg rfl (fun h=>?_) fun h=>?_|refine sw_exit rfl ?_|refine sw_loopEnd ?_|with_reducible refine and_o ?_|apply tTT
 refine sw_loopU (ι:=Nat) (fun i=>[(6,.int .i64 i),(5,.int .i64 ((xs.take i).count n))]) (fun _=>[]) (fun i=>i≤xs.length∧(True)) (fun i=>xs.length-i) 0 (by(refine covers_mk0 rfl rfl ?_ ?_ ?_ ?_<;>simp (disch:=(refine Om.mk ?_;omega)) only[go_sem]<;>(try omega));exact⟨by simp,rfl⟩) ⟨by omega,?_⟩ (fun i ⟨hi,hj⟩=>?_)
 rotate_left
 simp only[go_sem]
 have hc:=List.count_le_length (a:=n) (l:=xs.take i)
 have hl:(xs.take i).length≤i:=by simp;omega
 have hs:i<xs.length→xs.take (i+1)=xs.take i++[xs.getD i default]:=fun h=>by
  rw[List.take_succ_eq_append_getElem h];simp[List.getD,List.getElem?_eq_getElem h]
 repeat' first|exact h.elim|refine sw_n ?_|refine sw_go 0 kp128 fun K hK=>?_|refine fun (K:KT) (hK:KOk S 0 _ _ _ K)=>?_|refine runL_g ?_|refine sw_retg0 ?_|refine sw_retg ?_|(refine hK.n0 ?_;clear hK K)|refine sw_condg rfl (fun h=>?_) fun h=>?_|refine sw_exit rfl ?_|refine sw_loopEnd ?_|with_reducible refine and_o ?_|apply tTT
 ·refine⟨i+1,(by(refine covers_mk0 rfl rfl ?_ ?_ ?_ ?_<;>simp (disch:=(refine Om.mk ?_;omega)) only[go_sem]<;>(try omega));rw[hs (by omega),List.count_append,h];simp),by omega,by omega⟩
 ·refine⟨i+1,(by(refine covers_mk0 rfl rfl ?_ ?_ ?_ ?_<;>simp (disch:=(refine Om.mk ?_;omega)) only[go_sem]<;>(try omega));rw[hs (by omega),List.count_append,List.count_eq_zero.2 (fun e=>h (List.mem_singleton.1 e).symm)];simp),by omega,by omega⟩
 ·rw[List.take_of_length_le (by omega)]
 all_goals trivial
def kp76:List (Nat×List Nat):=[(0,[0]),(1,[0,3]),(2,[0,3,7]),(4,[0,3,23]),(5,[2]),(3,[0,3]),(6,[2])]
attribute [go_sem] kp76 Tryz.results76 Tryz.ntmps76
theorem l2Linear_fc (tk:Tk) (t:List Int):FC S 76 [] [] [] [.sl tk (t.map (.int .i64))] (.bool (tst (LinP t))) [] []:=by
 have hh:LinP t↔∀j<t.length,t.getD j default<0→(t.count (t.getD j default):Int)≤1:=by
  rw[linP_w,←lin_count]
  constructor
  ·intro h j hj hneg
   have:=h _ (getD_mem t j hj) hneg
   omega
  ·intro h
   have:=(forall_getD (P:=fun x=>x<0→(t.count x:Int)≤1)).1 h
   intro x hx hneg
   have:=this x hx hneg
   omega
 rw[tst_congr hh]
 refine fcb Tryz.func76 fun B=>?_
 refine sw_bndg 0 fun hb0=>?_
 repeat' first|exact h.elim|refine sw_n ?_|refine sw_go 0 kp76 fun K hK=>?_|refine fun (K:KT) (hK:KOk S 0 _ _ _ K)=>?_|refine runL_g ?_|refine sw_retg0 ?_|refine sw_retg ?_|(refine hK.n0 ?_;clear hK K)|refine runG_fk (fun h=>?_) fun h=>?_|refine sw_condg rfl (fun h=>?_) fun h=>?_|refine hK.skp rfl rfl ?_|refine sw_exit rfl ?_|refine sw_loopEnd ?_|(refine hK.fork rfl rfl rfl ?_ ?_<;>intro h<;>try simp (disch:=(refine Om.mk ?_;omega)) only[go_sem] at h)|with_reducible refine and_o ?_|apply tTT
 refine sw_loopU (ι:=Nat) (fun i=>[(3,.int .i64 i)]) (fun _=>[]) (fun i=>i≤t.length∧(∀j<i,t.getD j default<0→(t.count (t.getD j default):Int)≤1)) (fun i=>t.length-i) 0 cvA ⟨by omega,?_⟩ (fun i ⟨hi,hj⟩=>?_)
 rotate_left
 simp only[go_sem]
 repeat' first|exact h.elim|refine sw_n ?_|refine sw_go 0 kp76 fun K hK=>?_|refine fun (K:KT) (hK:KOk S 0 _ _ _ K)=>?_|refine runL_g ?_|refine sw_retg0 ?_|refine sw_retg ?_|(refine hK.n0 ?_;clear hK K)|refine runG_fk (fun h=>?_) fun h=>?_|refine sw_condg rfl (fun h=>?_) fun h=>?_|refine hK.skp rfl rfl ?_|refine sw_exit rfl ?_|refine sw_loopEnd ?_|refine hK.c1 rfl rfl rfl (l1Count_fc _ _ _) ?_|(refine hK.fork rfl rfl rfl ?_ ?_<;>intro h<;>try simp (disch:=(refine Om.mk ?_;omega)) only[go_sem] at h)|with_reducible refine and_o ?_|apply tTT
 ·intro h2;have:=h2 i (by omega) (by assumption);omega
 ·exact⟨i+1,by(refine covers_mk0 rfl rfl ?_ ?_ ?_ ?_<;>simp (disch:=(refine Om.mk ?_;omega)) only[go_sem]<;>(try omega)),⟨by omega,upto_succ hj fun _=>h⟩,by omega⟩
 ·exact⟨i+1,by(refine covers_mk0 rfl rfl ?_ ?_ ?_ ?_<;>simp (disch:=(refine Om.mk ?_;omega)) only[go_sem]<;>(try omega)),⟨by omega,upto_succ hj fun h0=>by omega⟩,by omega⟩
 ·intro j hj';exact hj j (by omega)
 ·intro j hj';omega
def kp38:List (Nat×List Nat):=[(0,[1,2]),(1,[4])]
attribute [go_sem] kp38 Tryz.results38 Tryz.ntmps38
theorem specLinearIn_fc (tk tk':Tk) (rs t:List Int):FC S 38 [] [] [] [.agg [.sl tk (rs.map (.int .i64))],.sl tk' (t.map (.int .i64))] (.bool (tst (TermOkP rs t∧LinP t))) [] []:=by
 refine fcb Tryz.func38 fun B=>?_
 repeat' first|exact h.elim|refine sw_n ?_|refine sw_go 0 kp38 fun K hK=>?_|refine fun (K:KT) (hK:KOk S 0 _ _ _ K)=>?_|refine runL_g ?_|refine sw_retg0 ?_|refine sw_retg ?_|(refine hK.n0 ?_;clear hK K)|refine runG_fk (fun h=>?_) fun h=>?_|refine hK.skp rfl rfl ?_|refine sw_loopEnd ?_|refine hK.c1 rfl rfl rfl (specTermOk_fc _ _ _ _) ?_|refine hK.c1 rfl rfl rfl (l2Linear_fc _ _) ?_|(refine hK.fork rfl rfl rfl ?_ ?_<;>intro h<;>try simp (disch:=(refine Om.mk ?_;omega)) only[go_sem] at h)|with_reducible refine and_o ?_|apply tTT
 ·exact⟨fun h'=>⟨by assumption,h'⟩,fun h'=>h'.2⟩
 ·rintro⟨h1,_⟩;contradiction
def kp80:List (Nat×List Nat):=[(0,[0]),(1,[0,5,6,7]),(2,[0,5,6,7,8]),(3,[0,3,4,5,6,7]),(4,[0,5,6,7,20]),(5,[2]),(6,[0,5,6,7]),(7,[2])]
attribute [go_sem] kp80 Tryz.results80 Tryz.ntmps80
theorem linear_fc (tk:Tk) (t:List Int):FC S 80 [] [] [] [.sl tk (t.map (.int .i64))] (.bool (tst (LinP t))) [] []:=by
 refine fcb Tryz.func80 fun B=>?_
 refine sw_bndg 0 fun hb0=>?_
 repeat' first|exact h.elim|refine sw_n ?_|refine sw_go 0 kp80 fun K hK=>?_|refine fun (K:KT) (hK:KOk S 0 _ _ _ K)=>?_|refine runL_g ?_|refine sw_retg0 ?_|refine sw_retg ?_|(refine hK.n0 ?_;clear hK K)|refine runG_fk (fun h=>?_) fun h=>?_|refine sw_condg rfl (fun h=>?_) fun h=>?_|refine hK.skp rfl rfl ?_|refine sw_exit rfl ?_|refine sw_loopEnd ?_|(refine hK.fork rfl rfl rfl ?_ ?_<;>intro h<;>try simp (disch:=(refine Om.mk ?_;omega)) only[go_sem] at h)|with_reducible refine and_o ?_|apply tTT
 refine sw_loopU (ι:=Nat) (fun i=>[(7,.int .i64 i)]) (fun _=>[]) (fun i=>i≤t.length∧(∀j<i,t.getD j default<0→t.getD j default∉t.take j)) (fun i=>t.length-i) 0 cvA ⟨by omega,?_⟩ (fun i ⟨hi,hj⟩=>?_)
 rotate_left
 simp only[go_sem]
 repeat' first|exact h.elim|refine sw_n ?_|refine sw_go 0 kp80 fun K hK=>?_|refine fun (K:KT) (hK:KOk S 0 _ _ _ K)=>?_|refine runL_g ?_|refine sw_retg0 ?_|refine sw_retg ?_|(refine hK.n0 ?_;clear hK K)|refine runG_fk (fun h=>?_) fun h=>?_|refine sw_condg rfl (fun h=>?_) fun h=>?_|refine hK.skp rfl rfl ?_|refine sw_exit rfl ?_|refine sw_loopEnd ?_|refine hK.c1 rfl rfl rfl (contains_fc _ _ _) ?_|(refine hK.fork rfl rfl rfl ?_ ?_<;>intro h<;>try simp (disch:=(refine Om.mk ?_;omega)) only[go_sem] at h)|with_reducible refine and_o ?_|apply tTT
 ·intro h2;exact absurd h (h2 i (by omega) (by assumption))
 ·exact⟨i+1,by(refine covers_mk0 rfl rfl ?_ ?_ ?_ ?_<;>simp (disch:=(refine Om.mk ?_;omega)) only[go_sem]<;>(try omega)),⟨by omega,upto_succ hj fun _=>h⟩,by omega⟩
 ·exact⟨i+1,by(refine covers_mk0 rfl rfl ?_ ?_ ?_ ?_<;>simp (disch:=(refine Om.mk ?_;omega)) only[go_sem]<;>(try omega)),⟨by omega,upto_succ hj fun h0=>by omega⟩,by omega⟩
 ·intro j hj';exact hj j (by omega)
 ·intro j hj';omega
def kp119:List (Nat×List Nat):=[(0,[2,3]),(1,[3,24]),(2,[4]),(3,[3,5]),(4,[3,5,29]),(6,[3,5,48]),(7,[4]),(5,[3,5]),(8,[4])]
attribute [go_sem] kp119 Tryz.results119 Tryz.ntmps119
theorem specRuleOk_fc (tk tk1 tk2:Tk) (rs l r:List Int):FC S 119 [] [] [] [.agg [.sl tk (rs.map (.int .i64))],.agg [.sl tk1 (l.map (.int .i64)),.sl tk2 (r.map (.int .i64))]] (.bool (tst (RuleOkP rs l r))) [] []:=by
 have hl1:TermOkP rs l→1≤l.length:=fun h=>h.2.1.1
 unfold RuleOkP
 refine fcb Tryz.func119 fun B=>?_
 refine sw_bnd_aggg 0 0 fun hb0_0=>?_
 refine sw_bnd_aggg 1 0 fun hb1_0=>?_
 refine sw_bnd_aggg 1 1 fun hb1_1=>?_
 repeat' first|exact h.elim|refine sw_n ?_|refine sw_go 0 kp119 fun K hK=>?_|refine runL_g ?_|refine sw_retg0 ?_|(refine hK.n0 ?_;clear hK K)|refine runG_fk (fun h=>?_) fun h=>?_|refine sw_condg rfl (fun h=>?_) fun h=>?_|refine hK.skp rfl rfl ?_|refine hK.c1 rfl rfl rfl (specTermOk_fc _ _ _ _) ?_|apply tTT
 ·rintro⟨⟨h1,_⟩,_⟩;contradiction
 ·rintro⟨⟨_,h1,_⟩,_⟩;contradiction
 have hl2:=hl1 (by assumption)
 simp (disch:=(refine Om.mk ?_;omega)) only[go_sem]
 repeat' first|exact h.elim|refine sw_n ?_|refine sw_go 0 kp119 fun K hK=>?_|refine runL_g ?_|refine sw_retg0 ?_|(refine hK.n0 ?_;clear hK K)|refine sw_condg rfl (fun h=>?_) fun h=>?_|with_reducible refine and_o ?_|apply tTT
 ·rintro⟨⟨_,_,h1⟩,_⟩;omega
 refine sw_loopU (ι:=Nat) (fun i=>[(5,.int .i64 i)]) (fun _=>[]) (fun i=>i≤r.length∧(∀j<i,r.getD j default<0→r.getD j default∈l)) (fun i=>r.length-i) 0 cvA ⟨by omega,?_⟩ (fun i ⟨hi,hj⟩=>?_)
 rotate_left
 simp only[go_sem]
 repeat' first|exact h.elim|refine sw_n ?_|refine sw_go 0 kp119 fun K hK=>?_|refine sw_goD kp119 (by kernel_rfl) fun K hK=>?_|refine runL_g ?_|refine runQ_g ?_|refine sw_retg0 ?_|(refine hK.n0 ?_;clear hK K)|refine runQG_fk (fun h=>?_) fun h=>?_|refine sw_condg rfl (fun h=>?_) fun h=>?_|refine hK.skp rfl rfl ?_|refine sw_exit rfl ?_|refine sw_loopEnd ?_|refine hK.c1 rfl rfl rfl (l1Has_fc _ _ _) ?_|with_reducible refine and_o ?_|apply tTT
 ·rintro⟨_,h2⟩;exact absurd (h2 i (by omega) (by assumption)) h
 ·exact⟨i+1,by(refine covers_mk0 rfl rfl ?_ ?_ ?_ ?_<;>simp (disch:=(refine Om.mk ?_;omega)) only[go_sem]<;>(try omega)),⟨by omega,upto_succ hj fun _=>h⟩,by omega⟩
 ·exact⟨i+1,by(refine covers_mk0 rfl rfl ?_ ?_ ?_ ?_<;>simp (disch:=(refine Om.mk ?_;omega)) only[go_sem]<;>(try omega)),⟨by omega,upto_succ hj fun h0=>by omega⟩,by omega⟩
 ·exact⟨⟨by assumption,by assumption,by omega⟩,fun j hj'=>hj j (by omega)⟩
 ·intro j hj';omega
def kp124:List (Nat×List Nat):=[(0,[2,3]),(1,[3,25]),(2,[4]),(3,[3,27,28,29]),(4,[3,27,28,29,30]),(5,[3,6,27,28,29]),(6,[3,27,28,29,41]),(7,[4]),(8,[3,27,28,29]),(9,[4])]
attribute [go_sem] kp124 Tryz.results124 Tryz.ntmps124
theorem implRuleOk_fc (tk tk1 tk2:Tk) (rs l r:List Int):FC S 124 [] [] [] [.agg [.sl tk (rs.map (.int .i64))],.agg [.sl tk1 (l.map (.int .i64)),.sl tk2 (r.map (.int .i64))]] (.bool (tst (RuleOkP rs l r))) [] []:=by
 have hl1:TermOkP rs l→1≤l.length:=fun h=>h.2.1.1
 unfold RuleOkP
 refine fcb Tryz.func124 fun B=>?_
 refine sw_bnd_aggg 0 0 fun hb0_0=>?_
 refine sw_bnd_aggg 1 0 fun hb1_0=>?_
 refine sw_bnd_aggg 1 1 fun hb1_1=>?_
 repeat' first|exact h.elim|refine sw_n ?_|refine sw_go 0 kp124 fun K hK=>?_|refine runL_g ?_|refine sw_retg0 ?_|(refine hK.n0 ?_;clear hK K)|refine runG_fk (fun h=>?_) fun h=>?_|refine sw_condg rfl (fun h=>?_) fun h=>?_|refine hK.skp rfl rfl ?_|refine hK.c1 rfl rfl rfl (implTermOk_fc _ _ _ _) ?_|apply tTT
 ·rintro⟨⟨h1,_⟩,_⟩;contradiction
 ·rintro⟨⟨_,h1,_⟩,_⟩;contradiction
 have hl2:=hl1 (by assumption)
 simp (disch:=(refine Om.mk ?_;omega)) only[go_sem]
 repeat' first|exact h.elim|refine sw_n ?_|refine sw_go 0 kp124 fun K hK=>?_|refine runL_g ?_|refine sw_retg0 ?_|(refine hK.n0 ?_;clear hK K)|refine sw_condg rfl (fun h=>?_) fun h=>?_|with_reducible refine and_o ?_|apply tTT
 ·rintro⟨⟨_,_,h1⟩,_⟩;omega
 refine sw_loopU (ι:=Nat) (fun i=>[(29,.int .i64 i)]) (fun _=>[]) (fun i=>i≤r.length∧(∀j<i,r.getD j default<0→r.getD j default∈l)) (fun i=>r.length-i) 0 cvA ⟨by omega,?_⟩ (fun i ⟨hi,hj⟩=>?_)
 rotate_left
 simp only[go_sem]
 repeat' first|exact h.elim|refine sw_n ?_|refine sw_go 0 kp124 fun K hK=>?_|refine runL_g ?_|refine sw_retg0 ?_|(refine hK.n0 ?_;clear hK K)|refine runG_fk (fun h=>?_) fun h=>?_|refine sw_condg rfl (fun h=>?_) fun h=>?_|refine hK.skp rfl rfl ?_|refine sw_exit rfl ?_|refine sw_loopEnd ?_|refine hK.c1 rfl rfl rfl (contains_fc _ _ _) ?_|with_reducible refine and_o ?_|apply tTT
 ·rintro⟨_,h2⟩;exact absurd (h2 i (by omega) (by assumption)) h
 ·exact⟨i+1,by(refine covers_mk0 rfl rfl ?_ ?_ ?_ ?_<;>simp (disch:=(refine Om.mk ?_;omega)) only[go_sem]<;>(try omega)),⟨by omega,upto_succ hj fun _=>h⟩,by omega⟩
 ·exact⟨i+1,by(refine covers_mk0 rfl rfl ?_ ?_ ?_ ?_<;>simp (disch:=(refine Om.mk ?_;omega)) only[go_sem]<;>(try omega)),⟨by omega,upto_succ hj fun h0=>by omega⟩,by omega⟩
 ·exact⟨⟨by assumption,by assumption,by omega⟩,fun j hj'=>hj j (by omega)⟩
 ·intro j hj';omega
attribute [go_sem] upR_length mapR_length mapR_getDm
def RuleP (rs:List Int) (r:RuleT):Prop:=RuleOkP rs r.l r.r
def SystemOkP (x:SystemT):Prop:=(SigOkP x.sig∧x.rules.length≤12)∧∀j<x.rules.length,RuleP x.sig (x.rules.getD j default)
theorem SystemOkP.len {x:SystemT} (h:SystemOkP x) (j:Nat) (hj:j<x.rules.length):(1≤(x.rules.getD j default).l.length∧(x.rules.getD j default).l.length≤60)∧(1≤(x.rules.getD j default).r.length∧(x.rules.getD j default).r.length≤60) :=
 ⟨(h.2 j hj).1.1.2.1,(h.2 j hj).1.2.1.2.1⟩
def kp65:List (Nat×List Nat):=[(0,[1]),(1,[1,13]),(2,[2]),(3,[1,3]),(4,[1,3,18]),(6,[1,3,29]),(7,[2]),(5,[1,3]),(8,[2])]
attribute [go_sem] kp65 Tryz.results65 Tryz.ntmps65
theorem specSystemOk_fc (x:SystemT):FC S 65 [] [] [] [SystemD x] (.bool (tst (SystemOkP x))) [] []:=by
 refine fcb Tryz.func65 fun B=>?_
 refine sw_bnd_aggg 0 1 fun hb0_1=>?_
 repeat' first|exact h.elim|refine sw_n ?_|refine sw_go 0 kp65 fun K hK=>?_|refine runL_g ?_|refine sw_retg0 ?_|(refine hK.n0 ?_;clear hK K)|refine runG_fk (fun h=>?_) fun h=>?_|refine sw_condg rfl (fun h=>?_) fun h=>?_|refine hK.c1 rfl rfl rfl (specSigOk_fc _ _) ?_|apply tTT
 ·rintro⟨⟨h1,_⟩,_⟩;contradiction
 ·rintro⟨⟨_,h1⟩,_⟩;omega
 refine sw_loopU (ι:=Nat) (fun i=>[(3,.int .i64 i)]) (fun _=>[]) (fun i=>i≤x.rules.length∧(∀j<i,RuleP x.sig (x.rules.getD j default))) (fun i=>x.rules.length-i) 0 cvA ⟨by omega,?_⟩ (fun i ⟨hi,hj⟩=>?_)
 rotate_left
 simp only[go_sem]
 repeat' first|exact h.elim|refine sw_n ?_|refine sw_go 0 kp65 fun K hK=>?_|refine sw_goD kp65 (by kernel_rfl) fun K hK=>?_|refine runL_g ?_|refine runQ_g ?_|refine sw_retg0 ?_|(refine hK.n0 ?_;clear hK K)|refine sw_condg rfl (fun h=>?_) fun h=>?_|refine sw_exit rfl ?_|refine sw_loopEnd ?_|refine hK.c1 rfl rfl rfl (specRuleOk_fc _ _ _ x.sig (x.rules.getD i default).l (x.rules.getD i default).r) ?_|with_reducible refine and_o ?_|apply tTT
 ·rintro⟨_,h2⟩;exact h (h2 i (by omega))
 ·exact⟨i+1,by(refine covers_mk0 rfl rfl ?_ ?_ ?_ ?_<;>simp (disch:=(refine Om.mk ?_;omega)) only[go_sem]<;>(try omega)),⟨by omega,upto_succ hj h⟩,by omega⟩
 ·exact⟨⟨by assumption,by omega⟩,fun j hj'=>hj j (by omega)⟩
 ·intro j hj';omega
def kp70:List (Nat×List Nat):=[(0,[1]),(1,[1,14]),(2,[2]),(3,[1,16,17,18]),(4,[1,16,17,18,19]),(5,[1,4,16,17,18]),(6,[1,16,17,18,26]),(7,[2]),(8,[1,16,17,18]),(9,[2])]
attribute [go_sem] kp70 Tryz.results70 Tryz.ntmps70
theorem implSystemOk_fc (x:SystemT):FC S 70 [] [] [] [SystemD x] (.bool (tst (SystemOkP x))) [] []:=by
 refine fcb Tryz.func70 fun B=>?_
 refine sw_bnd_aggg 0 1 fun hb0_1=>?_
 repeat' first|exact h.elim|refine sw_n ?_|refine sw_go 0 kp70 fun K hK=>?_|refine runL_g ?_|refine sw_retg0 ?_|(refine hK.n0 ?_;clear hK K)|refine runG_fk (fun h=>?_) fun h=>?_|refine sw_condg rfl (fun h=>?_) fun h=>?_|refine hK.c1 rfl rfl rfl (implSigOk_fc _ _) ?_|apply tTT
 ·rintro⟨⟨h1,_⟩,_⟩;contradiction
 ·rintro⟨⟨_,h1⟩,_⟩;omega
 refine sw_loopU (ι:=Nat) (fun i=>[(18,.int .i64 i)]) (fun _=>[]) (fun i=>i≤x.rules.length∧(∀j<i,RuleP x.sig (x.rules.getD j default))) (fun i=>x.rules.length-i) 0 cvA ⟨by omega,?_⟩ (fun i ⟨hi,hj⟩=>?_)
 rotate_left
 simp only[go_sem]
 repeat' first|exact h.elim|refine sw_n ?_|refine sw_go 0 kp70 fun K hK=>?_|refine runL_g ?_|refine sw_retg0 ?_|(refine hK.n0 ?_;clear hK K)|refine sw_condg rfl (fun h=>?_) fun h=>?_|refine sw_exit rfl ?_|refine sw_loopEnd ?_|refine hK.c1 rfl rfl rfl (implRuleOk_fc _ _ _ x.sig (x.rules.getD i default).l (x.rules.getD i default).r) ?_|with_reducible refine and_o ?_|apply tTT
 ·rintro⟨_,h2⟩;exact h (h2 i (by omega))
 ·exact⟨i+1,by(refine covers_mk0 rfl rfl ?_ ?_ ?_ ?_<;>simp (disch:=(refine Om.mk ?_;omega)) only[go_sem]<;>(try omega)),⟨by omega,upto_succ hj h⟩,by omega⟩
 ·exact⟨⟨by assumption,by omega⟩,fun j hj'=>hj j (by omega)⟩
 ·intro j hj';omega
theorem l1CopyQ_fc (tk:Tk) (xs:List Int) (hl:xs.length≤17592186044416):FC S 94 [] [] [] [.sl tk (xs.map (.int .i64))] (.sl .any (xs.map (.int .i64))) [] [] :=
 (l1Copy_fc tk xs hl).weak .any (by simp) (by simp)
end
section
attribute [local irreducible] SW runL runQ runG runQG FC Ret1 RetN toF redoL
open Classical in
noncomputable def addS (Q:List (List Int)) (t:List Int):List (List Int):=if t∈Q then Q else Q++[t]
noncomputable def shpM (rs l:List Int) (P:List (List Int)):Nat→List (List Int)
 | 0=>P
 | j+1=>if 0≤l.getD (j+1) default then addS (shpM rs l P j) (ren0 (subS rs l (j+1))) else shpM rs l P j
noncomputable def shpA (rs:List Int) (ls:List (List Int)):Nat→List (List Int)
 | 0=>[]
 | i+1=>shpM rs (ls.getD i default) (shpA rs ls i) ((ls.getD i default).length-1)
theorem addS_len (Q:List (List Int)) (t:List Int):(addS Q t).length≤Q.length+1:=by
 unfold addS;split<;>simp
theorem shpM_len (rs l:List Int) (P:List (List Int)):∀j,(shpM rs l P j).length≤P.length+j
 | 0=>by simp[shpM]
 | j+1=>by
  have ih:=shpM_len rs l P j
  have:=addS_len (shpM rs l P j) (ren0 (subS rs l (j+1)))
  unfold shpM;split<;>omega
theorem shpA_len {rs:List Int} {ls:List (List Int)} (h:∀i<ls.length,(ls.getD i default).length≤60):∀i,i≤ls.length→(shpA rs ls i).length≤60*i
 | 0,_=>by simp[shpA]
 | i+1,hi=>by
  have ih:=shpA_len (rs:=rs) h i (by omega)
  have h1:=shpM_len rs (ls.getD i default) (shpA rs ls i) ((ls.getD i default).length-1)
  have h2:=h i (by omega)
  simp only[shpA];omega
theorem ren0_head {u:List Int} (h:1≤u.length):0≤(ren0 u).getD 0 default↔0≤u.getD 0 default:=by
 cases u with
 | nil=>simp at h
 | cons a r =>
  simp only[ren0,List.map_cons,List.getD_cons_zero,codeI]
  split
  ·rename_i h0;exact⟨fun _=>h0,fun _=>h0⟩
  ·rename_i h0
   constructor
   ·intro h1;omega
   ·intro h1;exact absurd h1 h0
theorem mem_srtM {xs:List (List Int)} {t:List Int}:t∈srtM xs↔t∈xs:=(srtM_ok xs).1.mem_iff
open Classical in
noncomputable def placeI (t:List Int):List (List Int)→Int
 | []=>-1
 | x::r=>if x=t then 0 else if placeI t r=-1 then -1 else placeI t r+1
theorem placeI_ge (t:List Int):∀xs:List (List Int),-1≤placeI t xs∧(0≤placeI t xs↔t∈xs)
 | []=>by simp[placeI]
 | x::r=>by
  obtain⟨h1,h2⟩:=placeI_ge t r
  unfold placeI
  by_cases e:x=t
  ·rw[if_pos e];subst e;simp
  ·rw[if_neg e]
   split
   ·rename_i h3
    have:t∉r:=fun hm=>by have:=h2.2 hm;omega
    simp[this,Ne.symm e]
   ·rename_i h3
    have:t∈r:=h2.1 (by omega)
    simp[this];omega
theorem placeI_at {t:List Int}:∀ {xs:List (List Int)} {i:Nat},(∀j<i,xs.getD j default≠t)→i<xs.length→xs.getD i default=t→placeI t xs=i
 | [],_,_,h,_=>by simp at h
 | x::r,0,_,_,h=>by
  simp only[List.getD_cons_zero] at h
  simp[placeI,h]
 | x::r,i+1,h1,h2,h3=>by
  have h0:=h1 0 (by omega)
  simp only[List.getD_cons_zero] at h0
  have ih:=placeI_at (t:=t) (xs:=r) (i:=i) (fun j hj=>by have:=h1 (j+1) (by omega);simpa only[List.getD_cons_succ] using this) (by simpa using h2) (by simpa only[List.getD_cons_succ] using h3)
  unfold placeI
  rw[if_neg h0,ih,if_neg (by omega)];omega
theorem placeI_none {t:List Int} {xs:List (List Int)} (h:∀j<xs.length,xs.getD j default≠t):placeI t xs=-1:=by
 have h1:=placeI_ge t xs
 have:t∉xs:=fun hm=>by
  obtain⟨j,hj,e⟩:=List.getElem_of_mem hm
  exact h j hj (by rw[List.getD_eq_getElem?_getD,List.getElem?_eq_getElem hj,Option.getD_some,e])
 have:¬0≤placeI t xs:=fun h2=>this (h1.2.1 h2)
 omega
def kp91:List (Nat×List Nat):=[(0,[0,1]),(1,[0,1,5]),(2,[0,1,5,9]),(4,[0,1,5,17]),(5,[4]),(3,[0,1,5]),(6,[4])]
attribute [go_sem] kp91 Tryz.results91 Tryz.ntmps91
theorem termPlace_fc (tk tk':Tk) (xs:List (List Int)) (t:List Int):FC S 91 [] [] [] [.sl tk (xs.map IntsD),.sl tk' (t.map (.int .i64))] (.int .i64 (placeI t xs)) [] []:=by
 refine fcb Tryz.func91 fun B=>?_
 refine sw_bndg 0 fun hb0=>?_
 refine sw_bndg 1 fun hb1=>?_
 repeat' first|exact h.elim|refine sw_n ?_|refine sw_go 0 kp91 fun K hK=>?_|refine fun (K:KT) (hK:KOk S 0 _ _ _ K)=>?_|refine runL_g ?_|refine sw_retg0 ?_|refine sw_retg ?_|(refine hK.n0 ?_;clear hK K)|refine sw_condg rfl (fun h=>?_) fun h=>?_|refine sw_exit rfl ?_|refine sw_loopEnd ?_|with_reducible refine and_o ?_|apply tTT
 refine sw_loopU (ι:=Nat) (fun i=>[(5,.int .i64 i)]) (fun _=>[]) (fun i=>i≤xs.length∧(∀j<i,xs.getD j default≠t)) (fun i=>xs.length-i) 0 cvA ⟨by omega,?_⟩ (fun i ⟨hi,hj⟩=>?_)
 rotate_left
 simp only[go_sem]
 repeat' first|exact h.elim|refine sw_n ?_|refine sw_go 0 kp91 fun K hK=>?_|refine fun (K:KT) (hK:KOk S 0 _ _ _ K)=>?_|refine runL_g ?_|refine sw_retg0 ?_|refine sw_retg ?_|(refine hK.n0 ?_;clear hK K)|refine sw_condg rfl (fun h=>?_) fun h=>?_|refine sw_exit rfl ?_|refine sw_loopEnd ?_|refine hK.c1 rfl rfl rfl (specSameTerm_fc _ _ _ _) ?_|with_reducible refine and_o ?_|apply tTT
 ·exact(placeI_at hj (by omega) h).symm
 ·exact⟨i+1,by(refine covers_mk0 rfl rfl ?_ ?_ ?_ ?_<;>simp (disch:=(refine Om.mk ?_;omega)) only[go_sem]<;>(try omega)),⟨by omega,upto_succ hj (by assumption)⟩,by omega⟩
 ·exact(placeI_none fun j hj'=>hj j (by omega)).symm
 ·intro j hj';omega
def kp63:List (Nat×List Nat):=[(0,[1,2]),(1,[1,2,5]),(2,[1,2,5,6]),(3,[1,2,5,6,13]),(5,[1,2,5,6,7]),(6,[1,2,5,6,7,22]),(8,[1,2,5,6,7,8]),(9,[1,2,5,6,7,8,42]),(10,[1,2,5,6,7]),(7,[1,2,5,6,7]),(4,[1,2,5,6]),(11,[4])]
attribute [go_sem] kp63 Tryz.results63 Tryz.ntmps63
theorem l24Shapes_fc (rs:List Int) (ls:List (List Int)) (hn:ls.length≤12) (hT:∀i<ls.length,TermOkP rs (ls.getD i default)):FC S 63 [] [] [] [.agg [.sl .any (rs.map (.int .i64))],.sl .any (ls.map IntsD)] (.sl .any ((srtM (shpA rs ls ls.length)).map IntsD)) [] []:=by
 have hLA:=shpA_len (rs:=rs) (ls:=ls) fun i hi=>(hT i hi).2.1.2
 refine fcb Tryz.func63 fun B=>?_
 repeat' first|exact h.elim|refine sw_n ?_|refine sw_go 0 kp63 fun K hK=>?_|refine fun (K:KT) (hK:KOk S 0 _ _ _ K)=>?_|refine sw_goD kp63 (by kernel_rfl) fun K hK=>?_|refine runL_g ?_|refine runQ_g ?_|refine sw_retg0 ?_|refine sw_retg ?_|(refine hK.n0 ?_;clear hK K)|refine runG_fk (fun h=>?_) fun h=>?_|refine runQG_fk (fun h=>?_) fun h=>?_|refine sw_condg rfl (fun h=>?_) fun h=>?_|refine hK.skp rfl rfl ?_|refine sw_exit rfl ?_|refine sw_loopEnd ?_|(refine hK.fork rfl rfl rfl ?_ ?_<;>intro h<;>try simp (disch:=(refine Om.mk ?_;omega)) only[go_sem] at h)|with_reducible refine and_o ?_|((with_reducible refine And.intro ?_ ?_);· first|(intro x hx;subst hx;rfl)|(intro x;refine And.intro ?_ ?_<;>(intros;subst_vars;rfl)))|apply tTT
 refine sw_loopU (ι:=Nat) (fun i=>[(6,.int .i64 i),(5,.sl .any ((srtM (shpA rs ls i)).map IntsD))]) (fun _=>[]) (fun i=>i≤ls.length∧(True)) (fun i=>ls.length-i) 0 cvB ⟨by omega,?_⟩ (fun i ⟨hi,hj⟩=>?_)
 rotate_left
 simp only[go_sem]
 have hla:=hLA i hi
 by_cases hlt:i<ls.length
 ·have hTi:=hT i hlt
  have hli:=hTi.2.1
  have hA1:shpA rs ls (i+1)=shpM rs (ls.getD i default) (shpA rs ls i) ((ls.getD i default).length-1):=rfl
  repeat' first|exact h.elim|(exfalso;omega)|refine sw_n ?_|refine sw_go 0 kp63 fun K hK=>?_|refine fun (K:KT) (hK:KOk S 0 _ _ _ K)=>?_|refine sw_goD kp63 (by kernel_rfl) fun K hK=>?_|refine runL_g ?_|refine runQ_g ?_|refine sw_retg0 ?_|refine sw_retg ?_|(refine hK.n0 ?_;clear hK K)|refine runG_fk (fun h=>?_) fun h=>?_|refine runQG_fk (fun h=>?_) fun h=>?_|refine sw_condg rfl (fun h=>?_) fun h=>?_|refine hK.skp rfl rfl ?_|refine sw_exit rfl ?_|refine sw_loopEnd ?_|(refine hK.fork rfl rfl rfl ?_ ?_<;>intro h<;>try simp (disch:=(refine Om.mk ?_;omega)) only[go_sem] at h)|with_reducible refine and_o ?_|((with_reducible refine And.intro ?_ ?_);· first|(intro x hx;subst hx;rfl)|(intro x;refine And.intro ?_ ?_<;>(intros;subst_vars;rfl)))|apply tTT
  refine sw_loopT (ι:=Nat) (fun j=>[(7,.int .i64 (j+1)),(5,.sl .any ((srtM (shpM rs (ls.getD i default) (shpA rs ls i) j)).map IntsD))]) (fun _=>[]) (fun _=>[]) (fun j=>j≤(ls.getD i default).length-1) (fun j=>(ls.getD i default).length-1-j) 0 cvB (by omega) (fun j hj=>?_)
  simp only[go_sem]
  by_cases hjl:j<(ls.getD i default).length-1
  ·have hja:j+1<(ls.getD i default).length:=by omega
   have hS:=subS_ok hTi hja
   have hSl:=hS.2.1
   have hrh:=ren0_head hSl.1
   rw[(sub_sub hTi hja).1] at hrh
   have hrl:(ren0 (subS rs (ls.getD i default) (j+1))).length=(subS rs (ls.getD i default) (j+1)).length:=by unfold ren0;rw[List.length_map]
   have cS:=l1Sub_fc .any .any rs (ls.getD i default) (j+1) hTi hja
   have ez:(((j+1:Nat)):Int)=(j:Int)+1:=by omega
   rw[ez] at cS
   have cR:=l2Renamed_fc rs _ hS
   have hQl:=shpM_len rs (ls.getD i default) (shpA rs ls i) j
   have hq2:(srtM (shpM rs (ls.getD i default) (shpA rs ls i) j)).length≤3000:=by rw[srtM_len];omega
   have hpl:=placeI_ge (ren0 (subS rs (ls.getD i default) (j+1))) (srtM (shpM rs (ls.getD i default) (shpA rs ls i) j))
   rw[mem_srtM] at hpl
   rcases Classical.em (0≤(ls.getD i default).getD (j+1) default) with h0|h0
   ·have h00:=hrh.2 h0
    rcases Classical.em (ren0 (subS rs (ls.getD i default) (j+1))∈shpM rs (ls.getD i default) (shpA rs ls i) j) with hm|hm
    ·have hs1:shpM rs (ls.getD i default) (shpA rs ls i) (j+1)=shpM rs (ls.getD i default) (shpA rs ls i) j:=by simp only[shpM,if_pos h0,addS,if_pos hm]
     have hp1:=hpl.2.2 hm
     repeat' first|exact h.elim|refine sw_n ?_|refine sw_go 0 kp63 fun K hK=>?_|refine fun (K:KT) (hK:KOk S 0 _ _ _ K)=>?_|refine sw_goD kp63 (by kernel_rfl) fun K hK=>?_|refine runL_g ?_|refine runQ_g ?_|refine sw_retg0 ?_|refine sw_retg ?_|(refine hK.n0 ?_;clear hK K)|refine runG_fk (fun h=>?_) fun h=>?_|refine runQG_fk (fun h=>?_) fun h=>?_|refine sw_condg rfl (fun h=>?_) fun h=>?_|refine hK.skp rfl rfl ?_|refine sw_exit rfl ?_|refine sw_loopEnd ?_|refine hK.c1 rfl rfl rfl (cS) ?_|refine hK.c1 rfl rfl rfl (cR) ?_|refine hK.c1 rfl rfl rfl (termPlace_fc _ _ _ _) ?_|refine hK.c1 rfl rfl rfl (l28Insert_fc _ _ _ hq2) ?_|(refine hK.fork rfl rfl rfl ?_ ?_<;>intro h<;>try simp (disch:=(refine Om.mk ?_;omega)) only[go_sem] at h)|with_reducible refine and_o ?_|((with_reducible refine And.intro ?_ ?_);· first|(intro x hx;subst hx;rfl)|(intro x;refine And.intro ?_ ?_<;>(intros;subst_vars;rfl)))|apply tTT
     all_goals first|(exfalso;omega)|exact⟨j+1,(by(refine covers_mk0 rfl rfl ?_ ?_ ?_ ?_<;>simp (disch:=(refine Om.mk ?_;omega)) only[go_sem]<;>(try omega));rw[hs1];first|exact⟨rfl,by omega⟩|exact⟨by omega,rfl⟩),by omega,by omega⟩
    ·have hs1:shpM rs (ls.getD i default) (shpA rs ls i) (j+1)=shpM rs (ls.getD i default) (shpA rs ls i) j++[ren0 (subS rs (ls.getD i default) (j+1))]:=by simp only[shpM,if_pos h0,addS,if_neg hm]
     have hp1:¬0≤placeI (ren0 (subS rs (ls.getD i default) (j+1))) (srtM (shpM rs (ls.getD i default) (shpA rs ls i) j)):=fun h=>hm (hpl.2.1 h)
     repeat' first|exact h.elim|refine sw_n ?_|refine sw_go 0 kp63 fun K hK=>?_|refine fun (K:KT) (hK:KOk S 0 _ _ _ K)=>?_|refine sw_goD kp63 (by kernel_rfl) fun K hK=>?_|refine runL_g ?_|refine runQ_g ?_|refine sw_retg0 ?_|refine sw_retg ?_|(refine hK.n0 ?_;clear hK K)|refine runG_fk (fun h=>?_) fun h=>?_|refine runQG_fk (fun h=>?_) fun h=>?_|refine sw_condg rfl (fun h=>?_) fun h=>?_|refine hK.skp rfl rfl ?_|refine sw_exit rfl ?_|refine sw_loopEnd ?_|refine hK.c1 rfl rfl rfl (cS) ?_|refine hK.c1 rfl rfl rfl (cR) ?_|refine hK.c1 rfl rfl rfl (termPlace_fc _ _ _ _) ?_|refine hK.c1 rfl rfl rfl (l28Insert_fc _ _ _ hq2) ?_|(refine hK.fork rfl rfl rfl ?_ ?_<;>intro h<;>try simp (disch:=(refine Om.mk ?_;omega)) only[go_sem] at h)|with_reducible refine and_o ?_|((with_reducible refine And.intro ?_ ?_);· first|(intro x hx;subst hx;rfl)|(intro x;refine And.intro ?_ ?_<;>(intros;subst_vars;rfl)))|apply tTT
     all_goals first|(exfalso;omega)|exact⟨j+1,(by(refine covers_mk0 rfl rfl ?_ ?_ ?_ ?_<;>simp (disch:=(refine Om.mk ?_;omega)) only[go_sem]<;>(try omega));rw[hs1,srtM_snoc];first|exact⟨rfl,by omega⟩|exact⟨by omega,rfl⟩),by omega,by omega⟩
   ·have hs1:shpM rs (ls.getD i default) (shpA rs ls i) (j+1)=shpM rs (ls.getD i default) (shpA rs ls i) j:=by simp only[shpM,if_neg h0]
    have h00:¬0≤(ren0 (subS rs (ls.getD i default) (j+1))).getD 0 default:=fun h=>h0 (hrh.1 h)
    repeat' first|exact h.elim|refine sw_n ?_|refine sw_go 0 kp63 fun K hK=>?_|refine fun (K:KT) (hK:KOk S 0 _ _ _ K)=>?_|refine sw_goD kp63 (by kernel_rfl) fun K hK=>?_|refine runL_g ?_|refine runQ_g ?_|refine sw_retg0 ?_|refine sw_retg ?_|(refine hK.n0 ?_;clear hK K)|refine runG_fk (fun h=>?_) fun h=>?_|refine runQG_fk (fun h=>?_) fun h=>?_|refine sw_condg rfl (fun h=>?_) fun h=>?_|refine hK.skp rfl rfl ?_|refine sw_exit rfl ?_|refine sw_loopEnd ?_|refine hK.c1 rfl rfl rfl (cS) ?_|refine hK.c1 rfl rfl rfl (cR) ?_|refine hK.c1 rfl rfl rfl (termPlace_fc _ _ _ _) ?_|refine hK.c1 rfl rfl rfl (l28Insert_fc _ _ _ hq2) ?_|(refine hK.fork rfl rfl rfl ?_ ?_<;>intro h<;>try simp (disch:=(refine Om.mk ?_;omega)) only[go_sem] at h)|with_reducible refine and_o ?_|((with_reducible refine And.intro ?_ ?_);· first|(intro x hx;subst hx;rfl)|(intro x;refine And.intro ?_ ?_<;>(intros;subst_vars;rfl)))|apply tTT
    all_goals first|(exfalso;omega)|exact⟨j+1,(by(refine covers_mk0 rfl rfl ?_ ?_ ?_ ?_<;>simp (disch:=(refine Om.mk ?_;omega)) only[go_sem]<;>(try omega));rw[hs1];first|exact⟨rfl,by omega⟩|exact⟨by omega,rfl⟩),by omega,by omega⟩
  ·have ej:j=(ls.getD i default).length-1:=by omega
   subst ej
   rw[←hA1]
   repeat' first|exact h.elim|(exfalso;omega)|refine sw_n ?_|refine sw_go 0 kp63 fun K hK=>?_|refine fun (K:KT) (hK:KOk S 0 _ _ _ K)=>?_|refine sw_goD kp63 (by kernel_rfl) fun K hK=>?_|refine runL_g ?_|refine runQ_g ?_|refine sw_retg0 ?_|refine sw_retg ?_|(refine hK.n0 ?_;clear hK K)|refine runG_fk (fun h=>?_) fun h=>?_|refine runQG_fk (fun h=>?_) fun h=>?_|refine sw_condg rfl (fun h=>?_) fun h=>?_|refine hK.skp rfl rfl ?_|refine sw_exit rfl ?_|refine sw_loopEnd ?_|(refine hK.fork rfl rfl rfl ?_ ?_<;>intro h<;>try simp (disch:=(refine Om.mk ?_;omega)) only[go_sem] at h)|with_reducible refine and_o ?_|((with_reducible refine And.intro ?_ ?_);· first|(intro x hx;subst hx;rfl)|(intro x;refine And.intro ?_ ?_<;>(intros;subst_vars;rfl)))|apply tTT
   exact⟨i+1,cvA,by omega,by omega⟩
 ·repeat' first|exact h.elim|(exfalso;omega)|refine sw_n ?_|refine sw_go 0 kp63 fun K hK=>?_|refine fun (K:KT) (hK:KOk S 0 _ _ _ K)=>?_|refine sw_goD kp63 (by kernel_rfl) fun K hK=>?_|refine runL_g ?_|refine runQ_g ?_|refine sw_retg0 ?_|refine sw_retg ?_|(refine hK.n0 ?_;clear hK K)|refine runG_fk (fun h=>?_) fun h=>?_|refine runQG_fk (fun h=>?_) fun h=>?_|refine sw_condg rfl (fun h=>?_) fun h=>?_|refine hK.skp rfl rfl ?_|refine sw_exit rfl ?_|refine sw_loopEnd ?_|(refine hK.fork rfl rfl rfl ?_ ?_<;>intro h<;>try simp (disch:=(refine Om.mk ?_;omega)) only[go_sem] at h)|with_reducible refine and_o ?_|((with_reducible refine And.intro ?_ ?_);· first|(intro x hx;subst hx;rfl)|(intro x;refine And.intro ?_ ?_<;>(intros;subst_vars;rfl)))|apply tTT
  rw[show i=ls.length by omega]
 all_goals trivial
def LeftP (x:SystemT):Prop:=SystemOkP x∧∀j<x.rules.length,LinP (x.rules.getD j default).l
theorem LeftP.term {x:SystemT} (h:LeftP x):(x.rules.map (·.l)).length≤12∧∀i<(x.rules.map (·.l)).length,TermOkP x.sig ((x.rules.map (·.l)).getD i default):=by
 rw[List.length_map]
 refine⟨h.1.1.2,fun i hi=>?_⟩
 have e:(x.rules.map (·.l)).getD i default=(x.rules.getD i default).l:=by
  simp[List.getD,List.getElem?_eq_getElem hi]
 rw[e]
 exact(h.1.2 i hi).1.1
def kp114:List (Nat×List Nat):=[(0,[1]),(1,[1,6]),(2,[2]),(3,[1,3]),(4,[1,3,11]),(6,[1,3,21]),(7,[2]),(5,[1,3]),(8,[2])]
attribute [go_sem] kp114 Tryz.results114 Tryz.ntmps114
theorem specLeftLinearIn_fc (x:SystemT):FC S 114 [] [] [] [SystemD x] (.bool (tst (LeftP x))) [] []:=by
 refine fcb Tryz.func114 fun B=>?_
 refine sw_bnd_aggg 0 1 fun hb0_1=>?_
 repeat' first|exact h.elim|refine sw_n ?_|refine sw_go 0 kp114 fun K hK=>?_|refine fun (K:KT) (hK:KOk S 0 _ _ _ K)=>?_|refine runL_g ?_|refine sw_retg0 ?_|refine sw_retg ?_|(refine hK.n0 ?_;clear hK K)|refine sw_condg rfl (fun h=>?_) fun h=>?_|refine sw_exit rfl ?_|refine sw_loopEnd ?_|refine hK.c1 rfl rfl rfl (specSystemOk_fc x) ?_|with_reducible refine and_o ?_|apply tTT
 ·exact fun h2=>h h2.1
 refine sw_loopU (ι:=Nat) (fun i=>[(3,.int .i64 i)]) (fun _=>[]) (fun i=>i≤x.rules.length∧(∀j<i,LinP (x.rules.getD j default).l)) (fun i=>x.rules.length-i) 0 cvA ⟨by omega,?_⟩ (fun i ⟨hi,hj⟩=>?_)
 rotate_left
 simp only[go_sem]
 repeat' first|exact h.elim|refine sw_n ?_|refine sw_go 0 kp114 fun K hK=>?_|refine fun (K:KT) (hK:KOk S 0 _ _ _ K)=>?_|refine runL_g ?_|refine sw_retg0 ?_|refine sw_retg ?_|(refine hK.n0 ?_;clear hK K)|refine sw_condg rfl (fun h=>?_) fun h=>?_|refine sw_exit rfl ?_|refine sw_loopEnd ?_|refine hK.c1 rfl rfl rfl (l2Linear_fc _ _) ?_|with_reducible refine and_o ?_|apply tTT
 ·exact fun h2=>absurd (h2.2 i (by omega)) (by assumption)
 ·exact⟨i+1,by(refine covers_mk0 rfl rfl ?_ ?_ ?_ ?_<;>simp (disch:=(refine Om.mk ?_;omega)) only[go_sem]<;>(try omega)),⟨by omega,upto_succ hj (by assumption)⟩,by omega⟩
 ·exact⟨by assumption,fun j hj'=>hj j (by omega)⟩
 ·intro j hj';omega
def kp121:List (Nat×List Nat):=[(0,[0]),(1,[5,6,7]),(2,[5,6,7,8]),(3,[4,5,6,7]),(4,[5,6,7,14]),(5,[2]),(6,[5,6,7]),(7,[2])]
attribute [go_sem] kp121 Tryz.results121 Tryz.ntmps121
theorem leftLinear_fc (tk:Tk) (rs:List RuleT):FC S 121 [] [] [] [.sl tk (rs.map RuleD)] (.bool (tst (∀j<rs.length,LinP (rs.getD j default).l))) [] []:=by
 refine FC.args (args':=[.sl .any (rs.map RuleD)]) ?_ (by simp only[go_sem])
 refine fcb Tryz.func121 fun B=>?_
 refine sw_bndg 0 fun hb0=>?_
 repeat' first|exact h.elim|refine sw_n ?_|refine sw_go 0 kp121 fun K hK=>?_|refine fun (K:KT) (hK:KOk S 0 _ _ _ K)=>?_|refine runL_g ?_|refine sw_retg0 ?_|refine sw_retg ?_|(refine hK.n0 ?_;clear hK K)|refine sw_condg rfl (fun h=>?_) fun h=>?_|refine sw_exit rfl ?_|refine sw_loopEnd ?_|with_reducible refine and_o ?_|apply tTT
 refine sw_loopU (ι:=Nat) (fun i=>[(7,.int .i64 i)]) (fun _=>[]) (fun i=>i≤rs.length∧(∀j<i,LinP (rs.getD j default).l)) (fun i=>rs.length-i) 0 cvA ⟨by omega,?_⟩ (fun i ⟨hi,hj⟩=>?_)
 rotate_left
 simp only[go_sem]
 repeat' first|exact h.elim|refine sw_n ?_|refine sw_go 0 kp121 fun K hK=>?_|refine fun (K:KT) (hK:KOk S 0 _ _ _ K)=>?_|refine runL_g ?_|refine sw_retg0 ?_|refine sw_retg ?_|(refine hK.n0 ?_;clear hK K)|refine sw_condg rfl (fun h=>?_) fun h=>?_|refine sw_exit rfl ?_|refine sw_loopEnd ?_|refine hK.c1 rfl rfl rfl (linear_fc _ _) ?_|with_reducible refine and_o ?_|apply tTT
 ·exact fun h2=>absurd (h2 i (by omega)) (by assumption)
 ·exact⟨i+1,by(refine covers_mk0 rfl rfl ?_ ?_ ?_ ?_<;>simp (disch:=(refine Om.mk ?_;omega)) only[go_sem]<;>(try omega)),⟨by omega,upto_succ hj (by assumption)⟩,by omega⟩
 ·exact fun j hj'=>hj j (by omega)
 ·intro j hj';omega
def kp68:List (Nat×List Nat):=[(0,[1]),(1,[2])]
attribute [go_sem] kp68 Tryz.results68 Tryz.ntmps68
theorem implLeftLinearIn_fc (x:SystemT):FC S 68 [] [] [] [SystemD x] (.bool (tst (LeftP x))) [] []:=by
 refine fcb Tryz.func68 fun B=>?_
 repeat' first|exact h.elim|refine sw_n ?_|refine sw_go 0 kp68 fun K hK=>?_|refine fun (K:KT) (hK:KOk S 0 _ _ _ K)=>?_|refine runL_g ?_|refine sw_retg0 ?_|refine sw_retg ?_|(refine hK.n0 ?_;clear hK K)|refine runG_fk (fun h=>?_) fun h=>?_|refine hK.skp rfl rfl ?_|refine sw_loopEnd ?_|refine hK.c1 rfl rfl rfl (implSystemOk_fc x) ?_|refine hK.c1 rfl rfl rfl (leftLinear_fc _ _) ?_|(refine hK.fork rfl rfl rfl ?_ ?_<;>intro h<;>try simp (disch:=(refine Om.mk ?_;omega)) only[go_sem] at h)|with_reducible refine and_o ?_|apply tTT
 ·exact⟨fun h2=>⟨by assumption,h2⟩,fun h2=>h2.2⟩
 ·exact fun h2=>absurd h2.1 (by assumption)
def kp60:List (Nat×List Nat):=[(0,[1]),(1,[2])]
attribute [go_sem] kp60 Tryz.results60 Tryz.ntmps60
theorem l24Right_fc (x:SystemT):FC S 60 [] [] [] [SystemD x] (.bool (tst (LeftP x))) [] []:=by
 refine fcb Tryz.func60 fun B=>?_
 repeat' first|exact h.elim|refine sw_n ?_|refine sw_go 0 kp60 fun K hK=>?_|refine fun (K:KT) (hK:KOk S 0 _ _ _ K)=>?_|refine runL_g ?_|refine sw_retg0 ?_|refine sw_retg ?_|(refine hK.n0 ?_;clear hK K)|refine runG_fk (fun h=>?_) fun h=>?_|refine hK.skp rfl rfl ?_|refine sw_loopEnd ?_|refine hK.c1 rfl rfl rfl (specSystemOk_fc x) ?_|refine hK.c1 rfl rfl rfl (specLeftLinearIn_fc x) ?_|(refine hK.fork rfl rfl rfl ?_ ?_<;>intro h<;>try simp (disch:=(refine Om.mk ?_;omega)) only[go_sem] at h)|with_reducible refine and_o ?_|apply tTT
 all_goals exact fun h2=>absurd h2.1 (by assumption)
def kp61:List (Nat×List Nat):=[(0,[1]),(1,[1,3]),(2,[1,3,4]),(3,[1,3,4,10]),(5,[1,3,4]),(4,[1,3,4]),(6,[2])]
attribute [go_sem] kp61 Tryz.results61 Tryz.ntmps61
theorem l24Ls_fc (x:SystemT) (hn:x.rules.length≤12):FC S 61 [] [] [] [SystemD x] (.sl .any ((x.rules.map (·.l)).map IntsD)) [] []:=by
 refine fcb Tryz.func61 fun B=>?_
 repeat' first|exact h.elim|refine sw_n ?_|refine sw_go 0 kp61 fun K hK=>?_|refine fun (K:KT) (hK:KOk S 0 _ _ _ K)=>?_|refine runL_g ?_|refine sw_retg0 ?_|refine sw_retg ?_|(refine hK.n0 ?_;clear hK K)|refine sw_condg rfl (fun h=>?_) fun h=>?_|refine sw_exit rfl ?_|refine sw_loopEnd ?_|with_reducible refine and_o ?_|((with_reducible refine And.intro ?_ ?_);· first|(intro x hx;subst hx;rfl)|(intro x;refine And.intro ?_ ?_<;>(intros;subst_vars;rfl)))|apply tTT
 refine sw_tok 3 22000 22 1 rfl (.inr rfl) rfl ?_
 simp only[go_sem]
 refine sw_loopT (ι:=Nat) (fun i=>[(4,.int .i64 i),(3,.sl (.own 22000 22 1) (((x.rules.map (·.l)).take i).map IntsD))]) (fun _=>[]) (fun _=>[22000]) (fun i=>i≤x.rules.length) (fun i=>x.rules.length-i) 0 cvB (by omega) (fun i hi=>?_)
 simp only[go_sem]
 have ht:i<x.rules.length→(x.rules.map (·.l)).take (i+1)=(x.rules.map (·.l)).take i++[(x.rules.getD i default).l]:=fun h=>by
  rw[take_snocQ _ i (by rw[List.length_map];exact h)]
  simp[List.getD,List.getElem?_eq_getElem h]
 have htl:((x.rules.map (·.l)).take i).length≤12:=by rw[List.length_take,List.length_map];omega
 repeat' first|exact h.elim|refine sw_n ?_|refine sw_go 0 kp61 fun K hK=>?_|refine fun (K:KT) (hK:KOk S 0 _ _ _ K)=>?_|refine runL_g ?_|refine sw_retg0 ?_|refine sw_retg ?_|(refine hK.n0 ?_;clear hK K)|refine sw_condg rfl (fun h=>?_) fun h=>?_|refine sw_exit rfl ?_|refine sw_loopEnd ?_|with_reducible refine and_o ?_|((with_reducible refine And.intro ?_ ?_);· first|(intro x hx;subst hx;rfl)|(intro x;refine And.intro ?_ ?_<;>(intros;subst_vars;rfl)))|apply tTT
 ·exact⟨i+1,(by(refine covers_mk0 rfl rfl ?_ ?_ ?_ ?_<;>simp (disch:=(refine Om.mk ?_;omega)) only[go_sem]<;>(try omega));rw[ht (by omega),List.map_append];first|exact⟨rfl,by omega⟩|exact⟨by omega,rfl⟩),by omega,by omega⟩
 ·rw[List.take_of_length_le (by rw[List.length_map];omega)]
end
end Go.Proofs.YtkfkdgginfpdnaaGreatDoor
