/-
  A15k, A25, A17k, A17l, A17m, Q5i, one behind the other.
-/
import Derived.Test.YtohnfgligddanaaGreatG13
import Derived.Test.YtohnfgligddanaaGreatG7
import Derived.Test.YtohnfgligddanaaGreatG4
import Derived.Test.YtohnfgligddanaaGreatG11
import Derived.Test.YtohnfgligddanaaGreatG3
import Derived.Test.YtohnfgligddanaaGreatG8
import Derived.Test.YtohnfgligddanaaGreatG12
section
namespace Go.Proofs.YtohnfgligddanaaGreat
open Go Go.Lg
set_option linter.unusedSimpArgs false
set_option linter.unusedVariables false
set_option maxHeartbeats 4000000
attribute [local irreducible] SW runL runQ runG runQG FC Ret1 toF redoL anyB addJ sumF formM
def PsOk (rs:List Int) (ps:List PolyT):Prop:=(SigOkP rs∧rs.length≤ps.length)∧∀f<rs.length,PolyOkP (rs.getD f default) (ps.getD f default)
theorem PolysOkP.ps {rs:List Int} {ps:List PolyT} (h:PolysOkP rs ps):PsOk rs ps:=⟨⟨h.1.1,Nat.le_of_eq h.1.2.symm⟩,fun f hf=>h.2 f (by rw[h.1.2];exact hf)⟩
theorem PsOk.at {rs:List Int} {ps:List PolyT} (h:PsOk rs ps) {n:Int} (h0:0≤n) (h1:n<rs.length):PolyOkP (arS rs n) (ps.getD n.toNat default):=by
 rw[arS_sym (by omega)]
 exact h.2 n.toNat (by omega)
theorem form_goodQ {rs:List Int} {ps:List PolyT} (hP:PsOk rs ps):∀f t,TermOkP rs t→GoodB MF (formM rs ps f t).1
 | 0,_,_=>by unfold formM;exact good_zero
 | f+1,t,ht=>by
  have hl:=ht.low (show 0<t.length from ht.2.1.1)
  by_cases h:t.getD 0 default<0
  ·rw[formM_var h];exact good_var h hl.1.1
  ·rw[formM_app h]
   exact good_app (hP.at (by omega) hl.1.2) fun j hj=>form_goodQ hP f _ (argU_ok ht hj).1
noncomputable def headM (rs:List Int) (ps:List PolyT) (bh:Int) (f:Nat) (u:List Int):PolyT×Bool:=if u.getD 0 default<0 then (varF (u.getD 0 default),true) else appF1 (fun j=>formM rs ps f (argU rs u j)) (ps.getD (u.getD 0 default+bh).toNat default) (arS rs (u.getD 0 default)).toNat
theorem headM_var {rs:List Int} {ps:List PolyT} {bh:Int} {f:Nat} {u:List Int} (h:u.getD 0 default<0):headM rs ps bh f u=(varF (u.getD 0 default),true):=if_pos h
theorem headM_app {rs:List Int} {ps:List PolyT} {bh:Int} {f:Nat} {u:List Int} (h:¬u.getD 0 default<0):headM rs ps bh f u=appF1 (fun j=>formM rs ps f (argU rs u j)) (ps.getD (u.getD 0 default+bh).toNat default) (arS rs (u.getD 0 default)).toNat:=if_neg h
theorem headM_zero (rs:List Int) (ps:List PolyT) (f:Nat) (u:List Int):headM rs ps 0 f u=formM rs ps (f+1) u:=by
 by_cases h:u.getD 0 default<0
 ·rw[headM_var h,formM_var h]
 ·rw[headM_app h,formM_app h,Int.add_zero]
theorem sumF_congr {F G:Nat→PolyT×Bool} {p:PolyT}:∀n,(∀j<n,(F j).1=(G j).1)→sumF F p n=sumF G p n
 | 0,_=>by unfold sumF;rfl
 | n+1,h=>by
  have e:∀H:Nat→PolyT×Bool,sumF H p (n+1)=addF (sumF H p n) (H n).1 (p.coef.getD n default):=fun H=>by conv=>lhs;unfold sumF
  rw[e,e,sumF_congr n fun j hj=>h j (by omega),h n (by omega)]
theorem appF1_congr {F G:Nat→PolyT×Bool} {p:PolyT} {n:Nat} (h1:∀j<n,(F j).1=(G j).1) (h2:∀j<n,(F j).2=(G j).2):appF1 F p n=appF1 G p n:=by
 have e:=sumF_congr (p:=p) n h1
 rcases Classical.em ((∀j<n,(F j).2=true)∧okF (sumF F p n)) with h|h
 ·rw[appF1_yes h,appF1_yes ⟨fun j hj=>by rw[←h2 j hj];exact h.1 j hj,by rw[←e];exact h.2⟩,e]
 ·rw[appF1_no h,appF1_no fun h'=>h ⟨fun j hj=>by rw[h2 j hj];exact h'.1 j hj,by rw[e];exact h'.2⟩]
def kp134:List (Nat×List Nat):=[(0,[1,2,3,4,5,10]),(1,[1,2,3,4,5,10,21]),(2,[10,11]),(3,[1,2,3,4,5,10,12]),(4,[1,2,3,4,5,10,12,30,31,32]),(5,[1,2,3,4,5,10,12,30,31,32,33]),(6,[1,2,3,4,5,10,12,14,30,31,32]),(7,[1,2,3,4,5,10,12,15,16,30,31,32]),(8,[1,2,3,4,5,10,12,15,30,31,32,45]),(9,[10,11]),(10,[1,2,3,4,5,10,12,30,31,32]),(11,[1,2,3,4,5,10,12,30,31,32]),(12,[10,11])]
attribute [go_sem] kp134
theorem markedForm_fc (rs:List Int) (ps:List PolyT) (t:List Int) (hT:TermOkP rs t) (hQ:PsOk rs ps) (bh:Int) (hb:0≤bh∧bh≤1000) (f a:Nat) (ha:a<t.length) (hx:0≤t.getD a default→t.getD a default+bh<ps.length∧PolyOkP (arS rs (t.getD a default)) (ps.getD (t.getD a default+bh).toNat default))
  (hform:∀q:Nat,a<q→q<t.length→(subS rs t q).length≤f→FC S 124 [] [] [] [.agg [.sl .any (rs.map (.int .i64))],.sl .any (ps.map PolyD),.sl .any (t.map (.int .i64)),.int .i64 q] (.tup [PolyD (formM rs ps f (subS rs t q)).1,.bool (formM rs ps f (subS rs t q)).2]) [] []) (hlen:(subS rs t a).length≤f+1) :
  FC S 134 [] [] [] [.agg [.sl .any (rs.map (.int .i64))],.sl .any (ps.map PolyD),.int .i64 bh,.sl .any (t.map (.int .i64)),.int .i64 a] (.tup [PolyD (headM rs ps bh f (subS rs t a)).1,.bool (headM rs ps bh f (subS rs t a)).2]) [] []:=by
 have hl:=hT.2.1.2
 have hlo:=hT.low ha
 have hsa:=(sub_sub hT ha).1
 have hU:=subS_ok hT ha
 have hlt:=argsS_lt hT ha
 have hal:=argsS_len rs t a
 have hget:=argsS_get rs t a
 have hco:∀x∈argsS rs t a,((x:Nat):Int)=x:=fun _ _=>rfl
 by_cases h0:t.getD a default<0
 ·rw[headM_var (by rw[hsa];exact h0),hsa]
  refine fc_body Tryz.func134 rfl (by kernel_rfl) (by simp[Tryz.f134]) fun B=>?_
  simp only[Tryz.ntmps134,enumD,lst0,Nat.reduceAdd]
  refine sw_bnd 3 rfl fun hb3=>?_
  simp only[D.bnd,List.length_map] at hb3
  repeat' first|((exfalso;omega))|refine sw_seq ?_|refine sw_go 0 kp134 fun K hK=>?_|((first|refine runL_go ?_|refine sw_ret (ret0 ?_)|refine sw_ret ?_);simp (disch:=(refine Om.mk ?_;omega)) only[go_sem,Tryz.results134])|(refine hK.nil ?_;clear hK K;simp only[go_sem])|((first|refine sw_cond rfl ?_ ?_)<;>intro h<;>try simp (disch:=(refine Om.mk ?_;omega)) only[go_sem] at h)|refine hK.c0 rfl rfl rfl (varForm_fc _ h0 hlo.1.1) rfl rfl rfl ?_|(with_reducible refine And.intro (by first|omega|(simp only[lens];omega)) ?_)|fail
 ·rw[headM_app (by rw[hsa];exact h0),hsa]
  have hx:=hx (by omega)
  have harg:∀j<(arS rs (t.getD a default)).toNat,argU rs (subS rs t a) j=subS rs t ((argsS rs t a).getD j default):=fun j hj=>by rw[argU_sub hT ha hj,hget j hj]
  generalize hz:argsS rs t a=zs at *
  have hsub:∀q∈zs,(subS rs t q).length≤f:=fun q hq=>by
   obtain⟨j,hj,e⟩:=List.getElem_of_mem hq
   have h1:=harg j (by omega)
   have h2:=(argU_ok hU (j:=j) (by rw[hsa];omega)).2
   rw[h1,List.getD_eq_getElem?_getD,List.getElem?_eq_getElem hj,Option.getD_some,e] at h2
   omega
  have hgood:∀q∈zs,GoodB MF (formM rs ps f (subS rs t q)).1:=fun q hq=>form_goodQ hQ f _ (subS_ok hT (hlt q hq).2)
  have hFG:(∀j<zs.length,(formM rs ps f (subS rs t (zs.getD j default))).2=true)→appF1 (fun j=>((zs.map fun q=>(formM rs ps f (subS rs t q)).1).getD j default,true)) (ps.getD (t.getD a default+bh).toNat default) (zs.map fun q=>(formM rs ps f (subS rs t q)).1).length=appF1 (fun j=>formM rs ps f (argU rs (subS rs t a) j)) (ps.getD (t.getD a default+bh).toNat default) (arS rs (t.getD a default)).toNat:=fun hok=>by
   rw[List.length_map,←hal]
   refine appF1_congr (fun j hj=>?_) fun j hj=>?_
   ·dsimp only
    rw[harg j (by omega)]
    simp[List.getD,hj]
   ·dsimp only
    rw[harg j (by omega)]
    exact(hok j hj).symm
  have hno:∀i<zs.length,(formM rs ps f (subS rs t (zs.getD i default))).2=false→appF1 (fun j=>formM rs ps f (argU rs (subS rs t a) j)) (ps.getD (t.getD a default+bh).toNat default) (arS rs (t.getD a default)).toNat=(zeroF,false):=fun i hi e=>appF1_no fun h=>by
   have:=h.1 i (by omega)
   rw[harg i (by omega),e] at this
   cases this
  have hz3:zs.length≤3:=by omega
  have cA:=applied_fc (ps.getD (t.getD a default+bh).toNat default) (zs.map fun q=>(formM rs ps f (subS rs t q)).1) (by rw[List.length_map,hal,show (((arS rs (t.getD a default)).toNat:Nat):Int)=arS rs (t.getD a default) by omega];exact hx.2) (by rw[List.length_map];exact hz3) (fun j hj=>by
   rw[List.length_map] at hj
   have:=hgood _ (getD_mem zs j hj)
   simpa[List.getD,hj] using this)
  have cG:=argsAt_fc .any .any rs t a hT ha
  rw[hz] at cG
  refine fc_body Tryz.func134 rfl (by kernel_rfl) (by simp[Tryz.f134]) fun B=>?_
  simp only[Tryz.ntmps134,enumD,lst0,Nat.reduceAdd]
  refine sw_bnd 3 rfl fun hb3=>?_
  simp only[D.bnd,List.length_map] at hb3
  repeat' first|((exfalso;omega))|((refine sw_tok 12 51000 112 2 rfl (.inl rfl) rfl ?_;simp only[go_sem]))|refine sw_seq ?_|refine sw_block ?_|refine sw_skip ?_|refine sw_go 0 kp134 fun K hK=>?_|((first|refine runL_go ?_|refine sw_ret (ret0 ?_)|refine sw_ret ?_);simp (disch:=(refine Om.mk ?_;omega)) only[go_sem,Tryz.results134])|(refine hK.nil ?_;clear hK K;simp only[go_sem])|((first|refine sw_cond rfl ?_ ?_)<;>intro h<;>try simp (disch:=(refine Om.mk ?_;omega)) only[go_sem] at h)|refine hK.c0 rfl rfl rfl (cG) rfl rfl rfl ?_|(with_reducible refine And.intro (by first|omega|(simp only[lens];omega)) ?_)|fail
  refine sw_loopT (ι:=Nat) (fun i=>[(32,.int .i64 i),(12,.sl (.own 51000 112 2) (((zs.take i).map fun q=>(formM rs ps f (subS rs t q)).1).map PolyD))]) (fun _=>[]) (fun _=>[51000]) (fun i=>i≤zs.length∧∀j<i,(formM rs ps f (subS rs t (zs.getD j default))).2=true) (fun i=>zs.length-i) 0 (by(refine covers_mk0 rfl rfl ?_ ?_ ?_ ?_<;>simp (disch:=(refine Om.mk ?_;omega)) only[go_sem]<;>(try omega));all_goals first|rfl|(simp;done)) ⟨by omega,fun j hj=>absurd hj (by omega)⟩ (fun i hi=>?_)
  obtain⟨hi,hj⟩:=hi
  simp only[go_sem]
  have htl:((zs.take i).map fun q=>(formM rs ps f (subS rs t q)).1).length≤3:=by rw[List.length_map,List.length_take];omega
  by_cases hil:i<zs.length
  ·have hm:=hlt _ (getD_mem zs i hil)
   have cF:=hform (zs.getD i default) hm.1 hm.2 (hsub _ (getD_mem zs i hil))
   have htk:(zs.take (i+1)).map (fun q=>(formM rs ps f (subS rs t q)).1)=(zs.take i).map (fun q=>(formM rs ps f (subS rs t q)).1)++[(formM rs ps f (subS rs t (zs.getD i default))).1]:=by
    rw[List.take_succ_eq_append_getElem hil,List.map_append];congr 1;simp[List.getD,hil]
   repeat' first|((exfalso;omega))|refine sw_seq ?_|refine sw_block ?_|refine sw_inBlock ?_|refine sw_skip ?_|refine sw_go 0 kp134 fun K hK=>?_|((first|refine runL_go ?_|refine sw_ret (ret0 ?_)|refine sw_ret ?_);simp (disch:=(refine Om.mk ?_;omega)) only[go_sem,Tryz.results134])|(refine hK.nil ?_;clear hK K;simp only[go_sem])|((first|refine sw_cond rfl ?_ ?_)<;>intro h<;>try simp (disch:=(refine Om.mk ?_;omega)) only[go_sem] at h)|refine sw_loopEnd ?_|refine hK.c0 rfl rfl rfl (cF) rfl rfl rfl ?_|(with_reducible refine And.intro (by first|omega|(simp only[lens];omega)) ?_)|fail
   ·rw[hno i hil h]
    exact⟨⟨rfl,rfl⟩,rfl⟩
   ·exact⟨i+1,(by(refine covers_mk0 rfl rfl ?_ ?_ ?_ ?_<;>simp (disch:=(refine Om.mk ?_;omega)) only[go_sem]<;>(try omega));rw[htk,List.map_append];exact⟨rfl,by omega⟩),⟨by omega,upto_succ hj h⟩,by omega⟩
  ·rw[List.take_of_length_le (by omega)]
   rw[←hFG fun j hj'=>hj j (by omega)]
   have hpl:(t.getD a default+bh).toNat<ps.length:=by omega
   have hsl:=hQ.1.1.1
   repeat' first|((exfalso;omega))|refine sw_seq ?_|refine sw_go 0 kp134 fun K hK=>?_|((first|refine runL_go ?_|refine sw_ret (ret0 ?_)|refine sw_ret ?_);simp (disch:=(refine Om.mk ?_;omega)) only[go_sem,Tryz.results134])|(refine hK.nil ?_;clear hK K;simp only[go_sem])|((first|refine sw_cond rfl ?_ ?_)<;>intro h<;>try simp (disch:=(refine Om.mk ?_;omega)) only[go_sem] at h)|refine sw_exit rfl ?_|(refine hK.c0 rfl rfl rfl (FC.args (cA) ?le) rfl rfl rfl ?_;case le=>(simp only[go_sem];repeat' first|exact trivial|exact D.le.refl _|exact D.le.any|refine And.intro ?_ ?_))|(with_reducible refine And.intro (by first|omega|(simp only[lens];omega)) ?_)|fail
def kp124:List (Nat×List Nat):=[(0,[1,2,3,4,8]),(1,[8,9])]
attribute [go_sem] kp124
theorem formAt_fc (rs:List Int) (ps:List PolyT) (t:List Int) (hT:TermOkP rs t) (hQ:PsOk rs ps):∀f a:Nat,a<t.length→(subS rs t a).length≤f→FC S 124 [] [] [] [.agg [.sl .any (rs.map (.int .i64))],.sl .any (ps.map PolyD),.sl .any (t.map (.int .i64)),.int .i64 a] (.tup [PolyD (formM rs ps f (subS rs t a)).1,.bool (formM rs ps f (subS rs t a)).2]) [] []:=by
 intro f
 induction f with
 | zero=>intro a ha hl;have:=(subS_ok hT ha).2.1.1;omega
 | succ f ih =>
  intro a ha hl
  have c:=markedForm_fc rs ps t hT hQ 0 (by omega) f a ha (fun h=>⟨by have:=(hT.low ha).1.2;have:=hQ.1.2;omega,by rw[Int.add_zero];exact hQ.at h (hT.low ha).1.2⟩) (fun q h1 h2 h3=>ih q h2 h3) hl
  rw[headM_zero] at c
  refine fc_body Tryz.func124 rfl (by kernel_rfl) (by simp[Tryz.f124]) fun B=>?_
  simp only[Tryz.ntmps124,enumD,lst0,Nat.reduceAdd]
  repeat' first|refine sw_seq ?_|refine sw_go 0 kp124 fun K hK=>?_|((first|refine runL_go ?_|refine sw_ret (ret0 ?_)|refine sw_ret ?_);simp (disch:=(refine Om.mk ?_;omega)) only[go_sem,Tryz.results124])|(refine hK.nil ?_;clear hK K;simp only[go_sem])|refine hK.c0 rfl rfl rfl (c) rfl rfl rfl ?_|fail
end Go.Proofs.YtohnfgligddanaaGreat
end
section
namespace Go.Proofs.YtohnfgligddanaaGreat
open Go Go.Lg
set_option linter.unusedSimpArgs false
set_option linter.unusedVariables false
set_option maxHeartbeats 4000000
attribute [local irreducible] SW runL runQ runG runQG FC Ret1 toF redoL anyB addJ sumF formM
theorem formTop_fc (rs:List Int) (ps:List PolyT) (t:List Int) (hT:TermOkP rs t) (hQ:PsOk rs ps):FC S 124 [] [] [] [.agg [.sl .any (rs.map (.int .i64))],.sl .any (ps.map PolyD),.sl .any (t.map (.int .i64)),.int .i64 0] (.tup [PolyD (formM rs ps 60 t).1,.bool (formM rs ps 60 t).2]) [] []:=by
 have h:=formAt_fc rs ps t hT hQ 60 0 hT.2.1.1 (by rw[subS_zeroU hT];exact hT.2.1.2)
 rw[subS_zeroU hT] at h
 exact h
open Classical in
noncomputable def cmpF (rs:List Int) (ps:List PolyT) (s t:List Int):Bool×Bool:=if (formM rs ps 60 s).2=true∧(formM rs ps 60 t).2=true then mostR (formM rs ps 60 s).1 (formM rs ps 60 t).1 else (false,false)
def kp108:List (Nat×List Nat):=[(0,[1,2,3,4]),(1,[1,3,4,10,11]),(2,[10,11,12,13]),(3,[10,12,33]),(4,[8,9]),(5,[8,9])]
attribute [go_sem] kp108
theorem compareForms_fc (rs:List Int) (ps:List PolyT) (s t:List Int) (hQ:PsOk rs ps) (hs:TermOkP rs s) (ht:TermOkP rs t):FC S 108 [] [] [] [.agg [.sl .any (rs.map (.int .i64))],.sl .any (ps.map PolyD),.sl .any (s.map (.int .i64)),.sl .any (t.map (.int .i64))] (.tup [.bool (cmpF rs ps s t).1,.bool (cmpF rs ps s t).2]) [] []:=by
 have c1:=formTop_fc rs ps s hs hQ
 have c2:=formTop_fc rs ps t ht hQ
 unfold cmpF
 generalize formM rs ps 60 s=a at *
 generalize formM rs ps 60 t=b at *
 obtain⟨a,oa⟩:=a
 obtain⟨b,ob⟩:=b
 dsimp only at c1 c2 ⊢
 by_cases hnb:oa=true∧ob=true
 ·rw[if_pos hnb]
  obtain⟨rfl,rfl⟩:=hnb
  refine fc_body Tryz.func108 rfl (by kernel_rfl) (by simp[Tryz.f108]) fun B=>?_
  simp only[Tryz.ntmps108,enumD,lst0,Nat.reduceAdd]
  repeat' first|refine sw_seq ?_|refine sw_skip ?_|refine sw_go 0 kp108 fun K hK=>?_|((first|refine runL_go ?_|refine sw_ret (ret0 ?_)|refine sw_ret ?_);simp (disch:=(refine Om.mk ?_;omega)) only[go_sem,Tryz.results108])|(refine hK.nil ?_;clear hK K;simp only[go_sem])|((first|refine runG_fork rfl rfl rfl rfl rfl ?_ ?_|refine sw_cond rfl ?_ ?_)<;>intro h<;>try simp (disch:=(refine Om.mk ?_;omega)) only[go_sem] at h)|refine hK.c0 rfl rfl rfl (c1) rfl rfl rfl ?_|refine hK.c0 rfl rfl rfl (c2) rfl rfl rfl ?_|refine hK.c0 rfl rfl rfl (atMost_fc a b) rfl rfl rfl ?_|fail
 ·rw[if_neg hnb]
  refine fc_body Tryz.func108 rfl (by kernel_rfl) (by simp[Tryz.f108]) fun B=>?_
  simp only[Tryz.ntmps108,enumD,lst0,Nat.reduceAdd]
  repeat' first|((exact absurd ⟨(by assumption),(by assumption)⟩ hnb))|refine sw_seq ?_|refine sw_go 0 kp108 fun K hK=>?_|((first|refine runL_go ?_|refine sw_ret (ret0 ?_)|refine sw_ret ?_);simp (disch:=(refine Om.mk ?_;omega)) only[go_sem,Tryz.results108])|(refine hK.nil ?_;clear hK K;simp only[go_sem])|((first|refine runG_fork rfl rfl rfl rfl rfl ?_ ?_|refine sw_cond rfl ?_ ?_)<;>intro h<;>try simp (disch:=(refine Om.mk ?_;omega)) only[go_sem] at h)|refine hK.c0 rfl rfl rfl (c1) rfl rfl rfl ?_|refine hK.c0 rfl rfl rfl (c2) rfl rfl rfl ?_|fail
  all_goals exact absurd ⟨(by assumption),(by assumption)⟩ hnb
def kp85:List (Nat×List Nat):=[(0,[1,2,3]),(1,[1,2,3,12,13,14]),(2,[1,2,3,12,13,14,15]),(3,[1,2,3,8,12,13,14]),(4,[1,2,3,9,10,12,13,14]),(5,[1,2,3,12,13,14,37]),(6,[6]),(7,[1,2,3,12,13,14]),(8,[6])]
attribute [go_sem] kp85
end Go.Proofs.YtohnfgligddanaaGreat
end
section
namespace Go.Proofs.YtohnfgligddanaaGreat
open Go Go.Lg
set_option linter.unusedSimpArgs false
set_option linter.unusedVariables false
set_option maxHeartbeats 4000000
attribute [local irreducible] SW runL runQ runG runQG FC Ret1 toF redoL anyB addJ sumF formM
def kp52:List (Nat×List Nat):=[(0,[1,2]),(1,[1,2,5]),(2,[4])]
attribute [go_sem] kp52
theorem implMarkedOk_fc (rs:List Int) (ps:List PolyT) (hn:rs.length≤1000):FC S 52 [] [] [] [.agg [.sl .any (rs.map (.int .i64))],.sl .any (ps.map PolyD)] (.bool (tst (MarkedP rs ps))) [] []:=by
 refine fc_body Tryz.func52 rfl (by kernel_rfl) (by simp[Tryz.f52]) fun B=>?_
 simp only[Tryz.ntmps52,enumD,lst0,Nat.reduceAdd]
 refine sw_bnd_agg 0 0 rfl rfl fun hb0_0=>?_
 simp only[D.bnd,List.length_map] at hb0_0
 refine sw_bnd 1 rfl fun hb1=>?_
 simp only[D.bnd,List.length_map] at hb1
 repeat' first|refine sw_seq ?_|refine sw_go 0 kp52 fun K hK=>?_|refine sw_goD kp52 (by kernel_rfl) fun K hK=>?_|((first|refine runL_go ?_|refine runQ_go ?_|refine sw_ret (ret0 ?_)|refine sw_ret ?_);simp (disch:=(refine Om.mk ?_;omega)) only[go_sem,Tryz.results52])|(refine hK.nil ?_;clear hK K;simp only[go_sem])|((first|refine runG_fork rfl rfl rfl rfl rfl ?_ ?_|refine runQG_fork rfl rfl rfl rfl rfl ?_ ?_)<;>intro h<;>try simp (disch:=(refine Om.mk ?_;omega)) only[go_sem] at h)|refine hK.skp rfl rfl ?_|refine hK.c0 rfl rfl rfl (implPolysOk_fc rs (ps.take rs.length)) rfl rfl rfl ?_|refine hK.c0 rfl rfl rfl (implPolysOk_fc rs (ps.drop rs.length)) rfl rfl rfl ?_|(with_reducible refine And.intro (by first|omega|(simp only[lens];omega)) ?_)|fail
 all_goals first|exact fun hm=>absurd hm.1 (by omega)|exact fun hm=>absurd hm.2.1 (by assumption)|exact fun hm=>absurd hm.2.2 (by assumption)|exact⟨by omega,by assumption,by assumption⟩|exact⟨fun h=>⟨by omega,by assumption,h⟩,fun h=>h.2.2⟩|skip
theorem MarkedP.ps {rs:List Int} {ps:List PolyT} (h:MarkedP rs ps):PsOk rs ps:=by
 refine⟨⟨h.2.1.1.1,by have:=h.1;omega⟩,fun f hf=>?_⟩
 have h1:=h.2.1.2 f (by rw[h.2.1.1.2];exact hf)
 rwa [List.getD_eq_getElem?_getD (l:=ps.take _),List.getElem?_take,if_pos hf,←List.getD_eq_getElem?_getD] at h1
theorem form_take {rs:List Int} {ps:List PolyT}:∀f t,TermOkP rs t→formM rs (ps.take rs.length) f t=formM rs ps f t
 | 0,_,_=>by unfold formM;rfl
 | f+1,t,ht=>by
  have hl:=ht.low (show 0<t.length from ht.2.1.1)
  by_cases h:t.getD 0 default<0
  ·rw[formM_var h,formM_var h]
  ·rw[formM_app h,formM_app h]
   have e:(ps.take rs.length).getD (t.getD 0 default).toNat default=ps.getD (t.getD 0 default).toNat default:=by
    rw[List.getD_eq_getElem?_getD,List.getElem?_take,if_pos (by have:=hl.1.2;omega),←List.getD_eq_getElem?_getD]
   rw[e]
   exact appF1_congr (fun j hj=>by show (formM rs (ps.take rs.length) f (argU rs t j)).1=(formM rs ps f (argU rs t j)).1;rw[form_take f _ (argU_ok ht hj).1]) fun j hj=>by show (formM rs (ps.take rs.length) f (argU rs t j)).2=(formM rs ps f (argU rs t j)).2;rw[form_take f _ (argU_ok ht hj).1]
theorem headM_eq {rs:List Int} {ps:List PolyT} {t:List Int} (ht:TermOkP rs t):headM rs ps rs.length 60 t=headR rs ps t:=by
 by_cases h:t.getD 0 default<0
 ·rw[headM_var h,headR_var h]
 ·rw[headM_app h,headR_app h,Int.add_comm]
  exact appF1_congr (fun j hj=>by show (formM rs ps 60 (argU rs t j)).1=(formM rs (ps.take rs.length) 60 (argU rs t j)).1;rw[form_take 60 _ (argU_ok ht hj).1]) fun j hj=>by show (formM rs ps 60 (argU rs t j)).2=(formM rs (ps.take rs.length) 60 (argU rs t j)).2;rw[form_take 60 _ (argU_ok ht hj).1]
def kp125:List (Nat×List Nat):=[(0,[1,2,3,6]),(1,[6,7])]
attribute [go_sem] kp125
theorem headForm_fc (rs:List Int) (ps:List PolyT) (t:List Int) (hM:MarkedP rs ps) (hT:TermOkP rs t):FC S 125 [] [] [] [.agg [.sl .any (rs.map (.int .i64))],.sl .any (ps.map PolyD),.sl .any (t.map (.int .i64))] (.tup [PolyD (headR rs ps t).1,.bool (headR rs ps t).2]) [] []:=by
 have hl:=hT.low (show 0<t.length from hT.2.1.1)
 have hs:=hM.ps.1.1.1
 have hm:=hM.1
 have c:=markedForm_fc rs ps t hT hM.ps rs.length (by omega) 60 0 hT.2.1.1 (fun h=>⟨by omega,by rw[Int.add_comm];exact marked_at hM h hl.1.2⟩) (fun q h1 h2 h3=>formAt_fc rs ps t hT hM.ps 60 q h2 h3) (by rw[subS_zeroU hT];have:=hT.2.1.2;omega)
 rw[subS_zeroU hT,headM_eq hT] at c
 refine fc_body Tryz.func125 rfl (by kernel_rfl) (by simp[Tryz.f125]) fun B=>?_
 simp only[Tryz.ntmps125,enumD,lst0,Nat.reduceAdd]
 repeat' first|refine sw_seq ?_|refine sw_go 0 kp125 fun K hK=>?_|((first|refine runL_go ?_|refine sw_ret (ret0 ?_)|refine sw_ret ?_);simp (disch:=(refine Om.mk ?_;omega)) only[go_sem,Tryz.results125])|(refine hK.nil ?_;clear hK K;simp only[go_sem])|refine hK.c0 rfl rfl rfl (c) rfl rfl rfl ?_|fail
def kp109:List (Nat×List Nat):=[(0,[1,2,3,6]),(1,[1,2,3,6,17]),(2,[6,7]),(3,[6,7])]
attribute [go_sem] kp109
theorem implHeadForm_fc (rs:List Int) (ps:List PolyT) (t:List Int) (hM:MarkedP rs ps) (hT:TermOkP rs t):FC S 109 [] [] [] [.agg [.sl .any (rs.map (.int .i64))],.sl .any (ps.map PolyD),.sl .any (t.map (.int .i64))] (.tup [PolyD (headR rs ps t).1,.bool (headR rs ps t).2]) [] []:=by
 have hs:=hT.1.1
 refine fc_body Tryz.func109 rfl (by kernel_rfl) (by simp[Tryz.f109]) fun B=>?_
 simp only[Tryz.ntmps109,enumD,lst0,Nat.reduceAdd]
 repeat' first|((exact absurd hM (by assumption)))|((exact absurd hT (by assumption)))|refine sw_seq ?_|refine sw_skip ?_|refine sw_go 0 kp109 fun K hK=>?_|((first|refine runL_go ?_|refine sw_ret (ret0 ?_)|refine sw_ret ?_);simp (disch:=(refine Om.mk ?_;omega)) only[go_sem,Tryz.results109])|(refine hK.nil ?_;clear hK K;simp only[go_sem])|((first|refine runG_fork rfl rfl rfl rfl rfl ?_ ?_|refine sw_cond rfl ?_ ?_)<;>intro h<;>try simp (disch:=(refine Om.mk ?_;omega)) only[go_sem] at h)|refine hK.c0 rfl rfl rfl (implMarkedOk_fc _ _ (by omega)) rfl rfl rfl ?_|refine hK.c0 rfl rfl rfl (implTermOk_fc _ _ _ _) rfl rfl rfl ?_|refine hK.c0 rfl rfl rfl (headForm_fc rs ps t hM hT) rfl rfl rfl ?_|fail
open Classical in
noncomputable def cmpP (rs:List Int) (ps:List PolyT) (p:DepPairT):Bool×Bool:=if (headR rs ps p.r).2=true∧(headR rs ps p.l).2=true then mostR (headR rs ps p.r).1 (headR rs ps p.l).1 else (false,false)
theorem cmpP_less {rs:List Int} {ps:List PolyT} {p:DepPairT}:(cmpP rs ps p).2=tst (PLess rs ps p):=by
 unfold cmpP PLess
 split
 ·rename_i h
  by_cases hm:MostP (headR rs ps p.r).1 (headR rs ps p.l).1
  ·rw[mostR_yes hm]
   exact tst_congr ⟨fun e=>⟨h,hm,e⟩,fun e=>e.2.2⟩
  ·rw[mostR_no hm,tst_false fun e=>hm e.2.1]
 ·rename_i h
  rw[tst_false fun e=>h e.1]
theorem cmpP_most {rs:List Int} {ps:List PolyT} {p:DepPairT}:(cmpP rs ps p).1=tst (PMost rs ps p):=by
 unfold cmpP PMost
 split
 ·rename_i h
  by_cases hm:MostP (headR rs ps p.r).1 (headR rs ps p.l).1
  ·rw[mostR_yes hm]
   exact tst_congr ⟨fun e=>⟨h,hm,e⟩,fun e=>e.2.2⟩
  ·rw[mostR_no hm,tst_false fun e=>hm e.2.1]
 ·rename_i h
  rw[tst_false fun e=>h e.1]
def kp86:List (Nat×List Nat):=[(0,[1,3,5]),(1,[1,3,5,8,9]),(2,[8,9,10,11]),(3,[8,10,33]),(4,[6,7]),(5,[6,7])]
attribute [go_sem] kp86
theorem comparePair_fc (rs:List Int) (ps:List PolyT) (p:DepPairT) (hM:MarkedP rs ps) (hp:PrOk rs p):FC S 86 [] [] [] [.agg [.sl .any (rs.map (.int .i64))],.sl .any (ps.map PolyD),DepPairD p] (.tup [.bool (tst (PMost rs ps p)),.bool (tst (PLess rs ps p))]) [] []:=by
 have c1:=implHeadForm_fc rs ps p.r hM hp.1.2
 have c2:=implHeadForm_fc rs ps p.l hM hp.1.1
 rw[←cmpP_less,←cmpP_most]
 unfold cmpP
 generalize headR rs ps p.r=a at *
 generalize headR rs ps p.l=b at *
 obtain⟨a,oa⟩:=a
 obtain⟨b,ob⟩:=b
 dsimp only at c1 c2 ⊢
 by_cases hnb:oa=true∧ob=true
 ·rw[if_pos hnb]
  obtain⟨rfl,rfl⟩:=hnb
  refine fc_body Tryz.func86 rfl (by kernel_rfl) (by simp[Tryz.f86]) fun B=>?_
  simp only[Tryz.ntmps86,enumD,lst0,Nat.reduceAdd]
  repeat' first|refine sw_seq ?_|refine sw_skip ?_|refine sw_go 0 kp86 fun K hK=>?_|((first|refine runL_go ?_|refine sw_ret (ret0 ?_)|refine sw_ret ?_);simp (disch:=(refine Om.mk ?_;omega)) only[go_sem,Tryz.results86])|(refine hK.nil ?_;clear hK K;simp only[go_sem])|((first|refine runG_fork rfl rfl rfl rfl rfl ?_ ?_|refine sw_cond rfl ?_ ?_)<;>intro h<;>try simp (disch:=(refine Om.mk ?_;omega)) only[go_sem] at h)|refine hK.c0 rfl rfl rfl (c1) rfl rfl rfl ?_|refine hK.c0 rfl rfl rfl (c2) rfl rfl rfl ?_|refine hK.c0 rfl rfl rfl (atMost_fc a b) rfl rfl rfl ?_|fail
 ·rw[if_neg hnb]
  refine fc_body Tryz.func86 rfl (by kernel_rfl) (by simp[Tryz.f86]) fun B=>?_
  simp only[Tryz.ntmps86,enumD,lst0,Nat.reduceAdd]
  repeat' first|((exact absurd ⟨(by assumption),(by assumption)⟩ hnb))|refine sw_seq ?_|refine sw_go 0 kp86 fun K hK=>?_|((first|refine runL_go ?_|refine sw_ret (ret0 ?_)|refine sw_ret ?_);simp (disch:=(refine Om.mk ?_;omega)) only[go_sem,Tryz.results86])|(refine hK.nil ?_;clear hK K;simp only[go_sem])|((first|refine runG_fork rfl rfl rfl rfl rfl ?_ ?_|refine sw_cond rfl ?_ ?_)<;>intro h<;>try simp (disch:=(refine Om.mk ?_;omega)) only[go_sem] at h)|refine hK.c0 rfl rfl rfl (c1) rfl rfl rfl ?_|refine hK.c0 rfl rfl rfl (c2) rfl rfl rfl ?_|fail
  all_goals exact absurd ⟨(by assumption),(by assumption)⟩ hnb
end Go.Proofs.YtohnfgligddanaaGreat
end
section
namespace Go.Proofs.YtohnfgligddanaaGreat
open Go Go.Lg
set_option linter.unusedSimpArgs false
set_option linter.unusedVariables false
set_option maxHeartbeats 4000000
attribute [local irreducible] SW runL runQ runG runQG FC Ret1 toF redoL anyB addJ sumF formM
theorem cmpF_most {rs:List Int} {ps:List PolyT} {s t:List Int}:(cmpF rs ps s t).1=tst (AtMostF rs ps s t):=by
 unfold cmpF AtMostF
 split
 ·rename_i h
  by_cases hm:MostP (formM rs ps 60 s).1 (formM rs ps 60 t).1
  ·rw[mostR_yes hm]
   exact tst_congr ⟨fun e=>⟨h,hm,e⟩,fun e=>e.2.2⟩
  ·rw[mostR_no hm,tst_false fun e=>hm e.2.1]
 ·rename_i h
  rw[tst_false fun e=>h e.1]
theorem polyRulesF_fc (x:SystemT) (ps:List PolyT) (hx:SystemOkP x) (hQ:PsOk x.sig ps):FC S 85 [] [] [] [SystemD x,.sl .any (ps.map PolyD),.bool false] (.bool (tst (∀j<x.rules.length,AtMostF x.sig ps (x.rules.getD j default).r (x.rules.getD j default).l))) [] []:=by
 have h12:=hx.1.2
 refine fc_body Tryz.func85 rfl (by kernel_rfl) (by simp[Tryz.f85]) fun B=>?_
 simp only[Tryz.ntmps85,enumD,lst0,Nat.reduceAdd]
 repeat' first|refine sw_seq ?_|refine sw_block ?_|refine sw_go 0 kp85 fun K hK=>?_|((first|refine runL_go ?_|refine sw_ret (ret0 ?_)|refine sw_ret ?_);simp (disch:=(refine Om.mk ?_;omega)) only[go_sem,Tryz.results85])|(refine hK.nil ?_;clear hK K;simp only[go_sem])|fail
 refine sw_loopU (ι:=Nat) (fun i=>[(14,.int .i64 i)]) (fun _=>[]) (fun i=>i≤x.rules.length∧(∀j<i,AtMostF x.sig ps (x.rules.getD j default).r (x.rules.getD j default).l)) (fun i=>x.rules.length-i) 0 (by(refine covers_mk0 rfl rfl ?_ ?_ ?_ ?_<;>simp (disch:=(refine Om.mk ?_;omega)) only[go_sem]<;>(try omega))) ⟨by omega,?_⟩ (fun i ⟨hi,hj⟩=>?_)
 rotate_left
 simp only[go_sem]
 by_cases hil:i<x.rules.length
 ·have hr:=hx.2 i hil
  have c:=compareForms_fc x.sig ps (x.rules.getD i default).r (x.rules.getD i default).l hQ hr.1.2.1 hr.1.1
  rw[cmpF_most] at c
  repeat' first|((exfalso;omega))|refine sw_seq ?_|refine sw_block ?_|refine sw_inBlock ?_|refine sw_skip ?_|refine sw_go 0 kp85 fun K hK=>?_|((first|refine runL_go ?_|refine sw_ret (ret0 ?_)|refine sw_ret ?_);simp (disch:=(refine Om.mk ?_;omega)) only[go_sem,Tryz.results85])|(refine hK.nil ?_;clear hK K;simp only[go_sem])|((first|refine runG_fork rfl rfl rfl rfl rfl ?_ ?_|refine sw_cond rfl ?_ ?_)<;>intro h<;>try simp (disch:=(refine Om.mk ?_;omega)) only[go_sem] at h)|refine sw_loopEnd ?_|refine hK.c0 rfl rfl rfl (c) rfl rfl rfl ?_|(with_reducible refine And.intro (by first|omega|(simp only[lens];omega)) ?_)|fail
  ·exact fun hall=>absurd (hall i hil) (by assumption)
  ·exact⟨i+1,(by(refine covers_mk0 rfl rfl ?_ ?_ ?_ ?_<;>simp (disch:=(refine Om.mk ?_;omega)) only[go_sem]<;>(try omega))),⟨by omega,upto_succ hj (by assumption)⟩,by omega⟩
 ·repeat' first|((exfalso;omega))|refine sw_seq ?_|refine sw_go 0 kp85 fun K hK=>?_|((first|refine runL_go ?_|refine sw_ret (ret0 ?_)|refine sw_ret ?_);simp (disch:=(refine Om.mk ?_;omega)) only[go_sem,Tryz.results85])|(refine hK.nil ?_;clear hK K;simp only[go_sem])|((first|refine runG_fork rfl rfl rfl rfl rfl ?_ ?_|refine sw_cond rfl ?_ ?_)<;>intro h<;>try simp (disch:=(refine Om.mk ?_;omega)) only[go_sem] at h)|refine sw_exit rfl ?_|fail
  exact fun j hj'=>hj j (by omega)
 ·intro j hj';omega
end Go.Proofs.YtohnfgligddanaaGreat
end
section
namespace Go.Proofs.YtohnfgligddanaaGreat
open Go Go.Lg
set_option linter.unusedSimpArgs false
set_option linter.unusedVariables false
set_option maxHeartbeats 4000000
attribute [local irreducible] SW runL runQ runG runQG FC Ret1 toF redoL anyB addJ sumF formM
def kp53:List (Nat×List Nat):=[(0,[1,2,3,4]),(1,[1,2,3,4,23]),(2,[8,9]),(3,[1,2,3,4,10]),(4,[1,3,4,10,24,25,26]),(5,[1,3,4,10,24,25,26,27]),(6,[1,3,4,10,12,24,25,26]),(7,[1,3,4,10,12,13,14,24,25,26]),(8,[1,3,4,10,12,14,24,25,26,42]),(9,[8,9]),(10,[1,3,4,10,12,24,25,26,43]),(11,[1,3,4,10,24,25,26]),(12,[1,3,4,10,24,25,26]),(13,[8,9])]
attribute [go_sem] kp53
theorem weighPairs_fc (p:List Nat) (hp:p≠[]) (x:SystemT) (P:List DepPairT) (set:List Int) (ps:List PolyT) (hA:AllowP x (ps.take x.sig.length)) (hM:MarkedP x.sig ps) (hP:∀p∈P,PrOk x.sig p) (hS:SetPP set P.length) (hl:P.length≤64):FC S 53 [] [] [] [SystemD x,.sl .any (P.map DepPairD),.sl .any (set.map (.int .i64)),.sl .any (ps.map PolyD)] (.tup [Int64SL p (wR x.sig P set ps).1,.bool (wR x.sig P set ps).2]) [] []:=by
 have hsl:=set_le hS
 have hm:=hM.1
 have hat:∀i<set.length,(0≤set.getD i default∧set.getD i default<P.length)∧PrOk x.sig (P.getD (set.getD i default).toNat default):=fun i hi=>by
  have h:=(hS i hi).1
  exact⟨h,hP _ (getD_mem P _ (by omega))⟩
 refine fc_body Tryz.func53 rfl (by kernel_rfl) (by simp[Tryz.f53]) fun B=>?_
 simp only[Tryz.ntmps53,enumD,lst0,Nat.reduceAdd]
 repeat' first|((exact absurd hA.2 (by assumption)))|refine sw_seq ?_|refine sw_block ?_|refine sw_skip ?_|refine sw_go 0 kp53 fun K hK=>?_|refine sw_goD kp53 (by kernel_rfl) fun K hK=>?_|((first|refine runL_go ?_|refine runQ_go ?_|refine sw_ret (ret0 ?_)|refine sw_ret ?_);simp (disch:=(refine Om.mk ?_;omega)) only[go_sem,Tryz.results53])|(refine hK.nil ?_;clear hK K;simp only[go_sem])|((first|refine sw_cond rfl ?_ ?_)<;>intro h<;>try simp (disch:=(refine Om.mk ?_;omega)) only[go_sem] at h)|refine hK.c0 rfl rfl rfl (polyRulesF_fc x (ps.take x.sig.length) hA.1.1 hA.1.2.ps) rfl rfl rfl ?_|(with_reducible refine And.intro (by first|omega|(simp only[lens];omega)) ?_)|fail
 refine sw_tok 10 48000 2 1 rfl (.inl rfl) rfl ?_
 simp only[go_sem]
 refine sw_loopT (ι:=Nat) (fun i=>[(26,.int .i64 i),(10,.sl (.own 48000 2 1) ((wL x.sig P set ps i).map (.int .i64)))]) (fun _=>[]) (fun _=>[48000]) (fun i=>i≤set.length∧∀j<i,PMost x.sig ps (P.getD (set.getD j default).toNat default)) (fun i=>set.length-i) 0 (by(refine covers_mk0 rfl rfl ?_ ?_ ?_ ?_<;>simp (disch:=(refine Om.mk ?_;omega)) only[go_sem]<;>(try omega));all_goals exact⟨rfl,rfl⟩) ⟨by omega,fun j hj=>absurd hj (by omega)⟩ (fun i hi=>?_)
 obtain⟨hi,hj⟩:=hi
 simp only[go_sem]
 have hwl:=wL_len x.sig P set ps i
 by_cases hil:i<set.length
 ·have hq:=hat i hil
  have h1:=hq.1
  repeat' first|((exfalso;omega))|refine sw_seq ?_|refine sw_block ?_|refine sw_inBlock ?_|refine sw_skip ?_|refine sw_go 0 kp53 fun K hK=>?_|refine sw_goD kp53 (by kernel_rfl) fun K hK=>?_|((first|refine runL_go ?_|refine runQ_go ?_|refine sw_ret (ret0 ?_)|refine sw_ret ?_);simp (disch:=(refine Om.mk ?_;omega)) only[go_sem,Tryz.results53])|(refine hK.nil ?_;clear hK K;simp only[go_sem])|((first|refine sw_cond rfl ?_ ?_)<;>intro h<;>try simp (disch:=(refine Om.mk ?_;omega)) only[go_sem] at h)|refine sw_loopEnd ?_|refine hK.c0 rfl rfl rfl (comparePair_fc x.sig ps (P.getD (set.getD i default).toNat default) hM hq.2) rfl rfl rfl ?_|(with_reducible refine And.intro (by first|omega|(simp only[lens];omega)) ?_)|fail
  ·rw[wR_no fun e=>h (e i hil)]
   first|exact⟨rfl,rfl⟩|exact⟨le0_refl _,rfl⟩|(refine⟨?_,rfl⟩;simp[le0])
  ·exact⟨i+1,(by(refine covers_mk0 rfl rfl ?_ ?_ ?_ ?_<;>simp (disch:=(refine Om.mk ?_;omega)) only[go_sem]<;>(try omega));rw[wL_yes (by assumption)];exact⟨rfl,by omega⟩),⟨by omega,upto_succ hj (by assumption)⟩,by omega⟩
  ·exact⟨i+1,(by(refine covers_mk0 rfl rfl ?_ ?_ ?_ ?_<;>simp (disch:=(refine Om.mk ?_;omega)) only[go_sem]<;>(try omega));rw[wL_no (by assumption)];exact⟨rfl,by omega⟩),⟨by omega,upto_succ hj (by assumption)⟩,by omega⟩
 ·repeat' first|((exfalso;omega))|(refine sw_lab 10 p (k:=48000) rfl (by simp) hp ?_;simp only[go_sem])|refine sw_seq ?_|refine sw_go 0 kp53 fun K hK=>?_|((first|refine runL_go ?_|refine runQ_go ?_|refine sw_ret (ret0 ?_)|refine sw_ret ?_);simp (disch:=(refine Om.mk ?_;omega)) only[go_sem,Tryz.results53])|(refine hK.nil ?_;clear hK K;simp only[go_sem])|((first|refine sw_cond rfl ?_ ?_)<;>intro h<;>try simp (disch:=(refine Om.mk ?_;omega)) only[go_sem] at h)|refine sw_exit rfl ?_|fail
  rw[wR_yes fun j hj'=>hj j (by omega),show i=set.length by omega]
  exact⟨rfl,rfl⟩
theorem weighNo_fc (x:SystemT) (P:List DepPairT) (set:List Int) (ps:List PolyT) (p:List Nat) (hx:SystemOkP x) (hA:¬AllowP x (ps.take x.sig.length)) (hM:MarkedP x.sig ps):FC S 53 [] [] [] [SystemD x,.sl .any (P.map DepPairD),.sl .any (set.map (.int .i64)),.sl .any (ps.map PolyD)] (.tup [Int64SL p [],.bool false]) [] []:=by
 have hm:=hM.1
 refine fc_body Tryz.func53 rfl (by kernel_rfl) (by simp[Tryz.f53]) fun B=>?_
 simp only[Tryz.ntmps53,enumD,lst0,Nat.reduceAdd]
 repeat' first|((exact absurd ⟨⟨hx,hM.2.1⟩,by assumption⟩ hA))|refine sw_seq ?_|refine sw_go 0 kp53 fun K hK=>?_|refine sw_goD kp53 (by kernel_rfl) fun K hK=>?_|((first|refine runL_go ?_|refine runQ_go ?_|refine sw_ret (ret0 ?_)|refine sw_ret ?_);simp (disch:=(refine Om.mk ?_;omega)) only[go_sem,Tryz.results53])|(refine hK.nil ?_;clear hK K;simp only[go_sem])|((first|refine sw_cond rfl ?_ ?_)<;>intro h<;>try simp (disch:=(refine Om.mk ?_;omega)) only[go_sem] at h)|refine hK.c0 rfl rfl rfl (polyRulesF_fc x (ps.take x.sig.length) hx hM.2.1.ps) rfl rfl rfl ?_|(with_reducible refine And.intro (by first|omega|(simp only[lens];omega)) ?_)|fail
end Go.Proofs.YtohnfgligddanaaGreat
end
section
namespace Go.Proofs.YtohnfgligddanaaGreat
open Go Go.Lg
set_option linter.unusedSimpArgs false
set_option linter.unusedVariables false
set_option maxHeartbeats 4000000
attribute [local irreducible] SW runL runQ runG runQG FC Ret1 toF redoL anyB addJ sumF formM
theorem fc_any2 {f:FuncId} {args:List D} {p:List Nat} {g:List Int} {b:Bool} (h:FC S f [] [] [] args (.tup [Int64SL p g,.bool b]) [] []):FC S f [] [] [] args (.tup [.sl .any (g.map (.int .i64)),.bool b]) [] []:=h.weak (by rw[le_tup];exact⟨le_Int64SL _ _,.refl _,trivial⟩) (by simp) (by simp)
def kp26:List (Nat×List Nat):=[(0,[1,2,3]),(1,[1,2,3,7]),(2,[1,2,3,7,8]),(3,[1,3,7,8,20,21,22]),(4,[1,3,7,8,20,21,22,23]),(5,[1,3,7,8,10,20,21,22]),(6,[1,3,7,8,10,20,21,22,54]),(7,[6]),(8,[1,3,7,8,10,11,20,21,22]),(9,[1,3,7,8,10,11,12,20,21,22]),(10,[1,3,7,8,10,11,12,20,21,22,58]),(11,[1,3,7,8,10,11,12,20,21,22,63]),(12,[1,3,7,8,10,11,12,20,21,22]),(13,[1,3,7,8,10,11,12,20,21,22,79]),(14,[1,3,7,8,10,11,12,20,21,22]),(15,[1,3,7,8,10,11,20,21,22,98]),(16,[6]),(17,[1,3,7,8,20,21,22]),(18,[1,3,7,8,20,21,22]),(19,[6])]
attribute [go_sem] kp26
theorem traceOk_fc (x:SystemT) (hx:PairsP x) (list:List PairStepT) (hll:list.length≤64):FC S 26 [] [] [] [SystemD x,.sl .any ((allP x).map DepPairD),.sl .any (list.map PairStepD)] (.bool (tst (TraceP x (graphG x (allP x) (allP x).length) list))) [] []:=by
 have h64:(allP x).length≤64:=hx.2
 obtain⟨g1,g2,g3⟩:=graph_ok hx
 have cG:=graph_fc x hx.1 (allP x) (allP_ok hx) h64
 have cA:=allOf_fc (allP x) (by omega)
 generalize graphG x (allP x) (allP x).length=gr at *
 have cT:∀set,SetPP set (allP x).length→FC S 47 [] [] [] [.sl .any (gr.map IntsD),.sl .any (set.map (.int .i64))] (.sl (.own 0 22 1) ((partsR gr set).map IntsD)) [] [0]:=fun set hS=>partsO_fc gr set (by omega) (by rw[g1];exact fun i hi=>(hS i hi).1) (by rw[g1];exact fun i hi=>g3 i (by omega)) (fun i hi=>by have:=g2 i hi;omega) (setPP_nodup hS) (by have:=set_le hS;omega)
 have hul:=upTo_len (allP x).length
 have hT0:=todo_z (gr:=gr) h64
 have hP0:trT x gr (allP x).length list 0=some (partsR gr (upTo (allP x).length)):=rfl
 have cT0:=cT _ (upTo_setPP _)
 refine fc_body Tryz.func26 rfl (by kernel_rfl) (by simp[Tryz.f26]) fun B=>?_
 simp only[Tryz.ntmps26,enumD,lst0,Nat.reduceAdd]
 repeat' first|refine sw_seq ?_|refine sw_block ?_|refine sw_go 0 kp26 fun K hK=>?_|((first|refine runL_go ?_|refine runQ_go ?_|refine sw_ret (ret0 ?_)|refine sw_ret ?_);simp (disch:=(refine Om.mk ?_;omega)) only[go_sem,Tryz.results26])|(refine hK.nil ?_;clear hK K;simp only[go_sem])|refine hK.c0 rfl rfl rfl (cG) rfl rfl rfl ?_|refine hK.c0 rfl rfl rfl (cA) rfl rfl rfl ?_|(refine hK.callB rfl rfl rfl (cT0) ⟨⟨by simp only[Nat.reduceLT],(by first|(simp;all_goals fail)|(simp[LS.getBox,Lg.look];all_goals fail)),by(simp[Lg.look];all_goals fail),by(simp;all_goals fail),by(simp;all_goals fail)⟩,⟨by(simp[D.ids,D.idsL];all_goals fail),by(simp[D.ids,D.idsL];all_goals fail),by(simp[D.tks,D.tksL];all_goals fail),by(simp[D.tks,D.tksL];all_goals fail),by(simp;all_goals fail)⟩,rfl⟩ ?_;simp (disch:=(refine Om.mk ?_;omega)) only[go_sem])|fail
 refine sw_loopT (ι:=Nat×List (List Int)) (fun q=>[(22,.int .i64 q.1),(8,.sl .any (q.2.map IntsD))]) (fun _=>[]) (fun _=>[]) (fun q=>q.1≤list.length∧trT x gr (allP x).length list q.1=some q.2∧TodoOk (allP x).length q.1 q.2) (fun q=>list.length-q.1) (0,partsR gr (upTo (allP x).length)) (by(refine covers_mk0 rfl rfl ?_ ?_ ?_ ?_<;>simp (disch:=(refine Om.mk ?_;omega)) only[go_sem]<;>(try omega));all_goals first|rfl|trace_state) ⟨by simp,hP0,hT0⟩ (fun q hq=>?_)
 obtain⟨i,T⟩:=q
 obtain⟨hi,hT,hO⟩:=hq
 dsimp only at hi hT hO
 simp only[go_sem]
 have hTl:=hO.2
 by_cases hil:i<list.length
 ·cases T with
  | nil =>
   repeat' first|((exfalso;omega))|refine sw_seq ?_|refine sw_block ?_|refine sw_skip ?_|refine sw_go 0 kp26 fun K hK=>?_|refine sw_goD kp26 (by kernel_rfl) fun K hK=>?_|((first|refine runL_go ?_|refine runQ_go ?_|refine sw_ret (ret0 ?_)|refine sw_ret ?_);simp (disch:=(refine Om.mk ?_;omega)) only[go_sem,Tryz.results26])|(refine hK.nil ?_;clear hK K;simp only[go_sem])|((first|refine runG_fork rfl rfl rfl rfl rfl ?_ ?_|refine runQG_fork rfl rfl rfl rfl rfl ?_ ?_|refine sw_cond rfl ?_ ?_)<;>intro h<;>try simp (disch:=(refine Om.mk ?_;omega)) only[go_sem] at h)|refine hK.skp rfl rfl ?_|(with_reducible refine And.intro (by first|omega|(simp only[lens];omega)) ?_)|fail
   all_goals exact trace_end hil (by rw[trT_s hT];exact stepT_nil)
  | cons q r =>
   have hq:=hO.1 q List.mem_cons_self
   have hql:=set_le hq
   have hrl:r.length≤5000:=by rw[List.length_cons] at hTl;omega
   have hdr:List.drop (Int.toNat 1) (D.sl Tk.any (List.map (D.int IntKind.i64) q)::List.map IntsD r)=List.map IntsD r:=rfl
   have hr1:∀x∈List.map IntsD r,x.cells.length=1:=fun x hx=>by obtain⟨y,_,rfl⟩:=List.mem_map.1 hx;rfl
   have hno:=fun h=>step_no (x:=x) hil hT h
   have cE:=equalInt64_fc .any .any q (list.getD i default).part
   by_cases hqp:q=(list.getD i default).part
   ·rw[tst_true hqp] at cE
    have hS:SetPP (list.getD i default).part (allP x).length:=hqp ▸ hq
    have hSl:(list.getD i default).part.length≤64:=by have:=set_le hS;omega
    by_cases hgn:(list.getD i default).gone=[]
    ·have hgl:(list.getD i default).gone.length=0:=by rw[hgn];rfl
     repeat' first|((exfalso;omega))|refine sw_seq ?_|refine sw_block ?_|refine sw_skip ?_|refine sw_go 0 kp26 fun K hK=>?_|refine sw_goD kp26 (by kernel_rfl) fun K hK=>?_|((first|refine runL_go ?_|refine runQ_go ?_|refine sw_ret (ret0 ?_)|refine sw_ret ?_);simp (disch:=(refine Om.mk ?_;omega)) only[go_sem,Tryz.results26])|(refine hK.nil ?_;clear hK K;simp only[go_sem])|((first|refine runG_fork rfl rfl rfl rfl rfl ?_ ?_|refine runQG_fork rfl rfl rfl rfl rfl ?_ ?_|refine sw_cond rfl ?_ ?_)<;>intro h<;>try simp (disch:=(refine Om.mk ?_;omega)) only[go_sem] at h)|refine hK.c0 rfl rfl rfl (cE) rfl rfl rfl ?_|(with_reducible refine And.intro (by first|omega|(simp only[lens];omega)) ?_)|fail
     all_goals exact hno fun h=>h.2.1 (h.2.2.trans hgn)
    have hgl:0<(list.getD i default).gone.length:=List.length_pos_iff.2 hgn
    by_cases hp:(list.getD i default).proj=[]
    ·have hpl:(list.getD i default).proj.length=0:=by rw[hp];rfl
     have hsg:=hx.1.1.1.1
     by_cases hy:(list.getD i default).polys=[]
     ·have hyl:(list.getD i default).polys.length=0:=by rw[hy];rfl
      have hG:goneR x (list.getD i default)=([],false):=by rw[goneR_poly hp,hy,weighR_no fun h=>marked_nil h.1.2]
      repeat' first|((exfalso;omega))|((exact absurd (by rw[←hy];assumption) (marked_nil (rs:=x.sig))))|refine sw_seq ?_|refine sw_block ?_|refine sw_skip ?_|refine sw_go 0 kp26 fun K hK=>?_|refine sw_goD kp26 (by kernel_rfl) fun K hK=>?_|((first|refine runL_go ?_|refine runQ_go ?_|refine sw_ret (ret0 ?_)|refine sw_ret ?_);simp (disch:=(refine Om.mk ?_;omega)) only[go_sem,Tryz.results26])|(refine hK.nil ?_;clear hK K;simp only[go_sem])|((first|refine runG_fork rfl rfl rfl rfl rfl ?_ ?_|refine runQG_fork rfl rfl rfl rfl rfl ?_ ?_|refine sw_cond rfl ?_ ?_)<;>intro h<;>try simp (disch:=(refine Om.mk ?_;omega)) only[go_sem] at h)|refine hK.skp rfl rfl ?_|refine hK.c0 rfl rfl rfl (cE) rfl rfl rfl ?_|refine hK.c0 rfl rfl rfl (implMarkedOk_fc _ _ (by omega)) rfl rfl rfl ?_|(with_reducible refine And.intro (by first|omega|(simp only[lens];omega)) ?_)|fail
      all_goals exact hno fun h=>by have:=h.1.2;rw[hG] at this;cases this
     have hyl:0<(list.getD i default).polys.length:=List.length_pos_iff.2 hy
     have hsg:=hx.1.1.1.1
     rcases Classical.em (MarkedP x.sig (list.getD i default).polys) with hj|hj
     ·rcases Classical.em (AllowP x ((list.getD i default).polys.take x.sig.length)) with hA|hA
      ·have hG:=(goneR_poly hp).trans (weighR_yes (x:=x) ⟨⟨⟨hx,hS⟩,hj⟩,hA⟩)
       have cJ:=fc_any2 (weighPairs_fc [1] (by simp) x (allP x) (list.getD i default).part (list.getD i default).polys hA hj (allP_ok hx) hS h64)
       generalize wR x.sig (allP x) (list.getD i default).part (list.getD i default).polys=J at *
       obtain⟨g,ok⟩:=J
       dsimp only at cJ
       have hyes:=step_yes hT hG hqp hgn
       have hno':¬(ok=true∧g=(list.getD i default).gone)→¬TraceP x gr list:=fun h=>hno fun e=>h (by unfold StepP at e;rw[hG] at e;exact⟨e.1.2,e.2.2⟩)
       have hp1:=@parts_len gr (lessL (list.getD i default).part g)
       have hp2:=less_len (list.getD i default).part g
       have cW:=without_fc (list.getD i default).part g (by omega)
       have cL:=cT _ (less_set (gone:=g) hS)
       repeat' first|((exfalso;omega))|((exact absurd hj (by assumption)))|((rw[hdr];refine⟨hr1,?_,?_,?_⟩;(· simp only[List.length_map];omega);(· simp only[List.length_map];omega)))|refine sw_seq ?_|refine sw_block ?_|refine sw_inBlock ?_|refine sw_skip ?_|refine sw_go 0 kp26 fun K hK=>?_|refine sw_goX 0 kp26 29 (id:=6) (by kernel_rfl) fun K hK=>?_|refine sw_goX 0 kp26 8 (id:=17) (by kernel_rfl) fun K hK=>?_|refine fun (K:KT) (hK:KOk S 0 _ _ _ K)=>?_|((first|refine runL_go ?_|refine runQ_go ?_|refine sw_ret (ret0 ?_)|refine sw_ret ?_);simp (disch:=(refine Om.mk ?_;omega)) only[go_sem,Tryz.results26])|(refine hK.nil ?_;clear hK K;simp only[go_sem])|((first|refine runG_fork rfl rfl rfl rfl rfl ?_ ?_|refine runQG_fork rfl rfl rfl rfl rfl ?_ ?_|refine sw_cond rfl ?_ ?_)<;>intro h<;>try simp (disch:=(refine Om.mk ?_;omega)) only[go_sem] at h)|refine hK.skp rfl rfl ?_|refine sw_loopEnd ?_|refine hK.c0 rfl rfl rfl (cE) rfl rfl rfl ?_|refine hK.c0 rfl rfl rfl (implMarkedOk_fc _ _ (by omega)) rfl rfl rfl ?_|refine hK.c0 rfl rfl rfl (cJ) rfl rfl rfl ?_|refine hK.c0 rfl rfl rfl (equalInt64_fc _ _ g (list.getD i default).gone) rfl rfl rfl ?_|refine hK.c0 rfl rfl rfl (cW) rfl rfl rfl ?_|(refine hK.own 777 rfl rfl rfl (cL) ⟨⟨by simp only[Nat.reduceLT],by simp[LS.getBox,Lg.look]⟩,rfl⟩ ?_;simp (disch:=(refine Om.mk ?_;omega)) only[go_sem])|(with_reducible refine And.intro (by first|omega|(simp only[lens];omega)) ?_)|fail
       all_goals first
        | (refine hno' fun e=>?_;simp_all;done)
        | exact⟨(i+1,partsR gr (lessL (list.getD i default).part g)++r),(by(refine covers_mk0 rfl rfl ?_ ?_ ?_ ?_<;>simp (disch:=(refine Om.mk ?_;omega)) only[go_sem]<;>(try omega));all_goals first|(rw[List.map_append];exact⟨rfl,by omega⟩)|(refine⟨?_,by omega⟩;rw[List.map_append];rfl)|trace_state),⟨by dsimp only;omega,hyes (by assumption) (by assumption),hqp ▸ todo_s h64 hO⟩,by dsimp only;omega⟩
        | (exfalso;simp_all;done)
        | trace_state
      ·have hG:=(goneR_poly hp).trans (weighR_no (x:=x) (set:=(list.getD i default).part) (ps:=(list.getD i default).polys) fun h=>hA h.2)
       have cJ:=fc_any2 (weighNo_fc x (allP x) (list.getD i default).part (list.getD i default).polys [1] hx.1 hA hj)
       repeat' first|((exfalso;omega))|((exact absurd hj (by assumption)))|refine sw_seq ?_|refine sw_block ?_|refine sw_skip ?_|refine sw_go 0 kp26 fun K hK=>?_|refine sw_goD kp26 (by kernel_rfl) fun K hK=>?_|((first|refine runL_go ?_|refine runQ_go ?_|refine sw_ret (ret0 ?_)|refine sw_ret ?_);simp (disch:=(refine Om.mk ?_;omega)) only[go_sem,Tryz.results26])|(refine hK.nil ?_;clear hK K;simp only[go_sem])|((first|refine runG_fork rfl rfl rfl rfl rfl ?_ ?_|refine runQG_fork rfl rfl rfl rfl rfl ?_ ?_|refine sw_cond rfl ?_ ?_)<;>intro h<;>try simp (disch:=(refine Om.mk ?_;omega)) only[go_sem] at h)|refine hK.skp rfl rfl ?_|refine hK.c0 rfl rfl rfl (cE) rfl rfl rfl ?_|refine hK.c0 rfl rfl rfl (implMarkedOk_fc _ _ (by omega)) rfl rfl rfl ?_|refine hK.c0 rfl rfl rfl (cJ) rfl rfl rfl ?_|(with_reducible refine And.intro (by first|omega|(simp only[lens];omega)) ?_)|fail
       all_goals exact hno fun h=>by have:=h.1.2;rw[hG] at this;cases this
     ·have hG:=(goneR_poly hp).trans (weighR_no (x:=x) (set:=(list.getD i default).part) (ps:=(list.getD i default).polys) fun h=>hj h.1.2)
      repeat' first|((exfalso;omega))|((exact absurd (by assumption) hj))|refine sw_seq ?_|refine sw_block ?_|refine sw_skip ?_|refine sw_go 0 kp26 fun K hK=>?_|refine sw_goD kp26 (by kernel_rfl) fun K hK=>?_|((first|refine runL_go ?_|refine runQ_go ?_|refine sw_ret (ret0 ?_)|refine sw_ret ?_);simp (disch:=(refine Om.mk ?_;omega)) only[go_sem,Tryz.results26])|(refine hK.nil ?_;clear hK K;simp only[go_sem])|((first|refine runG_fork rfl rfl rfl rfl rfl ?_ ?_|refine runQG_fork rfl rfl rfl rfl rfl ?_ ?_|refine sw_cond rfl ?_ ?_)<;>intro h<;>try simp (disch:=(refine Om.mk ?_;omega)) only[go_sem] at h)|refine hK.skp rfl rfl ?_|refine hK.c0 rfl rfl rfl (cE) rfl rfl rfl ?_|refine hK.c0 rfl rfl rfl (implMarkedOk_fc _ _ (by omega)) rfl rfl rfl ?_|(with_reducible refine And.intro (by first|omega|(simp only[lens];omega)) ?_)|fail
      all_goals exact hno fun h=>by have:=h.1.2;rw[hG] at this;cases this
    ·have hpl:0<(list.getD i default).proj.length:=List.length_pos_iff.2 hp
     by_cases hy:(list.getD i default).polys=[]
     ·have hyl:(list.getD i default).polys.length=0:=by rw[hy];rfl
      rcases Classical.em (ProjP x.sig (list.getD i default).proj) with hj|hj
      ·have hG:=(goneR_proj hp hy).trans (projR_yes (x:=x) ⟨⟨hx,hS⟩,hj⟩)
       have cJ:=fc_any2 (project_fc [1] (by simp) x.sig (allP x) (list.getD i default).part (list.getD i default).proj hj (allP_ok hx) hS h64)
       generalize jR x.sig (allP x) (list.getD i default).part (list.getD i default).proj=J at *
       obtain⟨g,ok⟩:=J
       dsimp only at cJ
       have hyes:=step_yes hT hG hqp hgn
       have hno':¬(ok=true∧g=(list.getD i default).gone)→¬TraceP x gr list:=fun h=>hno fun e=>h (by unfold StepP at e;rw[hG] at e;exact⟨e.1.2,e.2.2⟩)
       have hp1:=@parts_len gr (lessL (list.getD i default).part g)
       have hp2:=less_len (list.getD i default).part g
       have cW:=without_fc (list.getD i default).part g (by omega)
       have cL:=cT _ (less_set (gone:=g) hS)
       repeat' first|((exfalso;omega))|((exact absurd hj (by assumption)))|((rw[hdr];refine⟨hr1,?_,?_,?_⟩;(· simp only[List.length_map];omega);(· simp only[List.length_map];omega)))|refine sw_seq ?_|refine sw_block ?_|refine sw_inBlock ?_|refine sw_skip ?_|refine sw_go 0 kp26 fun K hK=>?_|refine sw_goX 0 kp26 29 (id:=6) (by kernel_rfl) fun K hK=>?_|refine sw_goX 0 kp26 8 (id:=17) (by kernel_rfl) fun K hK=>?_|refine fun (K:KT) (hK:KOk S 0 _ _ _ K)=>?_|((first|refine runL_go ?_|refine runQ_go ?_|refine sw_ret (ret0 ?_)|refine sw_ret ?_);simp (disch:=(refine Om.mk ?_;omega)) only[go_sem,Tryz.results26])|(refine hK.nil ?_;clear hK K;simp only[go_sem])|((first|refine runG_fork rfl rfl rfl rfl rfl ?_ ?_|refine runQG_fork rfl rfl rfl rfl rfl ?_ ?_|refine sw_cond rfl ?_ ?_)<;>intro h<;>try simp (disch:=(refine Om.mk ?_;omega)) only[go_sem] at h)|refine hK.skp rfl rfl ?_|refine sw_loopEnd ?_|refine hK.c0 rfl rfl rfl (cE) rfl rfl rfl ?_|refine hK.c0 rfl rfl rfl (implProjOk_fc x.sig (list.getD i default).proj) rfl rfl rfl ?_|refine hK.c0 rfl rfl rfl (cJ) rfl rfl rfl ?_|refine hK.c0 rfl rfl rfl (equalInt64_fc _ _ g (list.getD i default).gone) rfl rfl rfl ?_|refine hK.c0 rfl rfl rfl (cW) rfl rfl rfl ?_|(refine hK.own 777 rfl rfl rfl (cL) ⟨⟨by simp only[Nat.reduceLT],by simp[LS.getBox,Lg.look]⟩,rfl⟩ ?_;simp (disch:=(refine Om.mk ?_;omega)) only[go_sem])|(with_reducible refine And.intro (by first|omega|(simp only[lens];omega)) ?_)|fail
       all_goals first
        | (refine hno' fun e=>?_;simp_all;done)
        | exact⟨(i+1,partsR gr (lessL (list.getD i default).part g)++r),(by(refine covers_mk0 rfl rfl ?_ ?_ ?_ ?_<;>simp (disch:=(refine Om.mk ?_;omega)) only[go_sem]<;>(try omega));all_goals first|(rw[List.map_append];exact⟨rfl,by omega⟩)|(refine⟨?_,by omega⟩;rw[List.map_append];rfl)|trace_state),⟨by dsimp only;omega,hyes (by assumption) (by assumption),hqp ▸ todo_s h64 hO⟩,by dsimp only;omega⟩
        | (exfalso;simp_all;done)
        | trace_state
      ·have hG:=(goneR_proj hp hy).trans (projR_no (x:=x) (set:=(list.getD i default).part) (proj:=(list.getD i default).proj) fun h=>hj h.2)
       repeat' first|((exfalso;omega))|((exact absurd (by assumption) hj))|refine sw_seq ?_|refine sw_block ?_|refine sw_skip ?_|refine sw_go 0 kp26 fun K hK=>?_|refine sw_goD kp26 (by kernel_rfl) fun K hK=>?_|((first|refine runL_go ?_|refine runQ_go ?_|refine sw_ret (ret0 ?_)|refine sw_ret ?_);simp (disch:=(refine Om.mk ?_;omega)) only[go_sem,Tryz.results26])|(refine hK.nil ?_;clear hK K;simp only[go_sem])|((first|refine runG_fork rfl rfl rfl rfl rfl ?_ ?_|refine runQG_fork rfl rfl rfl rfl rfl ?_ ?_|refine sw_cond rfl ?_ ?_)<;>intro h<;>try simp (disch:=(refine Om.mk ?_;omega)) only[go_sem] at h)|refine hK.skp rfl rfl ?_|refine hK.c0 rfl rfl rfl (cE) rfl rfl rfl ?_|refine hK.c0 rfl rfl rfl (implProjOk_fc x.sig (list.getD i default).proj) rfl rfl rfl ?_|(with_reducible refine And.intro (by first|omega|(simp only[lens];omega)) ?_)|fail
       all_goals exact hno fun h=>by have:=h.1.2;rw[hG] at this;cases this
     ·have hyl:0<(list.getD i default).polys.length:=List.length_pos_iff.2 hy
      have hG:goneR x (list.getD i default)=([],false):=goneR_two hp hy
      have hbb:¬((((list.getD i default).proj.length:Int)==0)=(((list.getD i default).polys.length:Int)==0))→False:=fun h=>h (by rw[beq_eq_false_iff_ne.2 (by omega),beq_eq_false_iff_ne.2 (by omega)])
      repeat' first|((exfalso;omega))|((exfalso;exact hbb (by assumption)))|refine sw_seq ?_|refine sw_block ?_|refine sw_skip ?_|refine sw_go 0 kp26 fun K hK=>?_|refine sw_goD kp26 (by kernel_rfl) fun K hK=>?_|((first|refine runL_go ?_|refine runQ_go ?_|refine sw_ret (ret0 ?_)|refine sw_ret ?_);simp (disch:=(refine Om.mk ?_;omega)) only[go_sem,Tryz.results26])|(refine hK.nil ?_;clear hK K;simp only[go_sem])|((first|refine runG_fork rfl rfl rfl rfl rfl ?_ ?_|refine runQG_fork rfl rfl rfl rfl rfl ?_ ?_|refine sw_cond rfl ?_ ?_)<;>intro h<;>try simp (disch:=(refine Om.mk ?_;omega)) only[go_sem] at h)|refine hK.c0 rfl rfl rfl (cE) rfl rfl rfl ?_|(with_reducible refine And.intro (by first|omega|(simp only[lens];omega)) ?_)|fail
      all_goals exact hno fun h=>by have:=h.1.2;rw[hG] at this;cases this
   ·rw[tst_false hqp] at cE
    repeat' first|((exfalso;omega))|refine sw_seq ?_|refine sw_block ?_|refine sw_skip ?_|refine sw_go 0 kp26 fun K hK=>?_|refine sw_goD kp26 (by kernel_rfl) fun K hK=>?_|((first|refine runL_go ?_|refine runQ_go ?_|refine sw_ret (ret0 ?_)|refine sw_ret ?_);simp (disch:=(refine Om.mk ?_;omega)) only[go_sem,Tryz.results26])|(refine hK.nil ?_;clear hK K;simp only[go_sem])|((first|refine runG_fork rfl rfl rfl rfl rfl ?_ ?_|refine runQG_fork rfl rfl rfl rfl rfl ?_ ?_|refine sw_cond rfl ?_ ?_)<;>intro h<;>try simp (disch:=(refine Om.mk ?_;omega)) only[go_sem] at h)|refine hK.c0 rfl rfl rfl (cE) rfl rfl rfl ?_|(with_reducible refine And.intro (by first|omega|(simp only[lens];omega)) ?_)|fail
    all_goals exact hno fun h=>hqp h.1.1
 ·repeat' first|((exfalso;omega))|refine sw_seq ?_|refine sw_go 0 kp26 fun K hK=>?_|((first|refine runL_go ?_|refine runQ_go ?_|refine sw_ret (ret0 ?_)|refine sw_ret ?_);simp (disch:=(refine Om.mk ?_;omega)) only[go_sem,Tryz.results26])|(refine hK.nil ?_;clear hK K;simp only[go_sem])|((first|refine runG_fork rfl rfl rfl rfl rfl ?_ ?_|refine runQG_fork rfl rfl rfl rfl rfl ?_ ?_|refine sw_cond rfl ?_ ?_)<;>intro h<;>try simp (disch:=(refine Om.mk ?_;omega)) only[go_sem] at h)|refine sw_exit rfl ?_|fail
  have e:i=list.length:=by omega
  subst e
  rw[trace_all hx hll hT]
  exact⟨fun h=>List.eq_nil_of_length_eq_zero (by omega),fun h=>by rw[h];rfl⟩
def kp9:List (Nat×List Nat):=[(0,[1,2]),(1,[1,2,5,6]),(2,[4])]
attribute [go_sem] kp9
theorem implTraceOk_fc (x:SystemT) (list:List PairStepT):FC S 9 [] [] [] [SystemD x,.sl .any (list.map PairStepD)] (.bool (tst (TraceP x (graphG x (allP x) (allP x).length) list))) [] []:=by
 have cP:=implPairsOf_fc x
 rcases Classical.em (PairsP x) with hx|hx
 ·rw[pairsR_yes hx] at cP
  have h64:(allP x).length≤64:=hx.2
  by_cases hl:list.length≤64
  ·have cT:=traceOk_fc x hx list hl
   generalize TraceP x (graphG x (allP x) (allP x).length) list=q at *
   refine fc_body Tryz.func9 rfl (by kernel_rfl) (by simp[Tryz.f9]) fun B=>?_
   simp only[Tryz.ntmps9,enumD,lst0,Nat.reduceAdd]
   refine sw_bnd 1 rfl fun hb1=>?_
   simp only[D.bnd,List.length_map] at hb1
   repeat' first|((exfalso;omega))|refine sw_seq ?_|refine sw_go 0 kp9 fun K hK=>?_|((first|refine runL_go ?_|refine sw_ret (ret0 ?_)|refine sw_ret ?_);simp (disch:=(refine Om.mk ?_;omega)) only[go_sem,Tryz.results9])|(refine hK.nil ?_;clear hK K;simp only[go_sem])|((first|refine runG_fork rfl rfl rfl rfl rfl ?_ ?_)<;>intro h<;>try simp (disch:=(refine Om.mk ?_;omega)) only[go_sem] at h)|refine hK.c0 rfl rfl rfl (cP) rfl rfl rfl ?_|refine hK.c0 rfl rfl rfl (cT) rfl rfl rfl ?_|fail
  ·skip
   refine fc_body Tryz.func9 rfl (by kernel_rfl) (by simp[Tryz.f9]) fun B=>?_
   simp only[Tryz.ntmps9,enumD,lst0,Nat.reduceAdd]
   refine sw_bnd 1 rfl fun hb1=>?_
   simp only[D.bnd,List.length_map] at hb1
   repeat' first|((exfalso;omega))|refine sw_seq ?_|refine sw_go 0 kp9 fun K hK=>?_|((first|refine runL_go ?_|refine sw_ret (ret0 ?_)|refine sw_ret ?_);simp (disch:=(refine Om.mk ?_;omega)) only[go_sem,Tryz.results9])|(refine hK.nil ?_;clear hK K;simp only[go_sem])|((first|refine runG_fork rfl rfl rfl rfl rfl ?_ ?_)<;>intro h<;>try simp (disch:=(refine Om.mk ?_;omega)) only[go_sem] at h)|refine hK.skp rfl rfl ?_|refine hK.c0 rfl rfl rfl (cP) rfl rfl rfl ?_|fail
   all_goals exact fun h=>absurd h.1.2 (by omega)
 ·rw[pairsR_no hx] at cP
  refine fc_body Tryz.func9 rfl (by kernel_rfl) (by simp[Tryz.f9]) fun B=>?_
  simp only[Tryz.ntmps9,enumD,lst0,Nat.reduceAdd]
  refine sw_bnd 1 rfl fun hb1=>?_
  simp only[D.bnd,List.length_map] at hb1
  repeat' first|refine sw_seq ?_|refine sw_go 0 kp9 fun K hK=>?_|((first|refine runL_go ?_|refine sw_ret (ret0 ?_)|refine sw_ret ?_);simp (disch:=(refine Om.mk ?_;omega)) only[go_sem,Tryz.results9])|(refine hK.nil ?_;clear hK K;simp only[go_sem])|refine hK.skp rfl rfl ?_|refine hK.c0 rfl rfl rfl (cP) rfl rfl rfl ?_|fail
  all_goals exact fun h=>hx h.1.1
end Go.Proofs.YtohnfgligddanaaGreat
end
