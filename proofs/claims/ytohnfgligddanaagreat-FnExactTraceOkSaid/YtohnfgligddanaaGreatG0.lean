/-
  Ty, HFnExactTraceOk, one behind the other.
-/
import Derived.Test.YtohnfgligddanaaGreatSet
import Derived.Test.YtohnfgligddanaaGreatLgK4
import Derived.Test.YtohnfgligddanaaGreatLgK5
section
namespace Go.Proofs.YtohnfgligddanaaGreat
open Go Go.Lg
def IntsD (x:List Int):D:=.sl .any (x.map (.int .i64))
attribute [go_sem] IntsD
theorem ints_set (ys:List (List Int)) (i:Nat) (u:List Int):(ys.map IntsD).set i (.sl .any (u.map (.int .i64)))=(ys.set i u).map IntsD:=by rw[List.map_set];rfl
attribute [go_sem] ints_set
def cntInt64S (xs:List Int):Nat:=xs.length
def SigD (x:List Int):D:=.agg [.sl .any (x.map (.int .i64))]
attribute [go_sem] SigD
def cntSig (x:List Int):Nat:=cntInt64S x
structure RuleT where
 l:List Int
 r:List Int
 deriving Inhabited
def RuleD (x:RuleT):D:=.agg [.sl .any (x.l.map (.int .i64)),.sl .any (x.r.map (.int .i64))]
attribute [go_sem] RuleD
def cntRule (x:RuleT):Nat:=cntInt64S x.l+cntInt64S x.r
def cntRuleS (xs:List RuleT):Nat:=xs.length+(xs.map cntRule).sum
structure SystemT where
 sig:List Int
 rules:List RuleT
 deriving Inhabited
def SystemD (x:SystemT):D:=.agg [.sl .any (x.sig.map (.int .i64)),.sl .any (x.rules.map RuleD)]
attribute [go_sem] SystemD
def cntSystem (x:SystemT):Nat:=cntSig x.sig+cntRuleS x.rules
structure PolyT where
 const:Int
 coef:List Int
 deriving Inhabited
def PolyD (x:PolyT):D:=.agg [.int .i64 x.const,.sl .any (x.coef.map (.int .i64))]
attribute [go_sem] PolyD
def cntPoly (x:PolyT):Nat:=cntInt64S x.coef
structure DepPairT where
 l:List Int
 r:List Int
 rule:Int
 at_:Int
 deriving Inhabited
def DepPairD (x:DepPairT):D:=.agg [.sl .any (x.l.map (.int .i64)),.sl .any (x.r.map (.int .i64)),.int .i64 x.rule,.int .i64 x.at_]
attribute [go_sem] DepPairD
def cntPolyS (xs:List PolyT):Nat:=xs.length+(xs.map cntPoly).sum
structure PairStepT where
 part:List Int
 proj:List Int
 polys:List PolyT
 gone:List Int
 deriving Inhabited
def PairStepD (x:PairStepT):D:=.agg [.sl .any (x.part.map (.int .i64)),.sl .any (x.proj.map (.int .i64)),.sl .any (x.polys.map PolyD),.sl .any (x.gone.map (.int .i64))]
attribute [go_sem] PairStepD
def cntPairStep (x:PairStepT):Nat:=cntInt64S x.part+cntInt64S x.proj+cntPolyS x.polys+cntInt64S x.gone
def cntPairStepS (xs:List PairStepT):Nat:=xs.length+(xs.map cntPairStep).sum
theorem szd_rng {b:Int} {n:Nat} (h:-1≤b∧b≤1048576):-1≤szd b n∧szd b n≤1048576:=by unfold szd;split<;>omega
end Go.Proofs.YtohnfgligddanaaGreat
end
section
namespace Go.Proofs.YtohnfgligddanaaGreat
open Go Go.Lg
set_option linter.unusedSimpArgs false
set_option maxHeartbeats 4000000
attribute [local irreducible] SW runL runQ runG runQG FC Ret Ret1
def kp55:List (Nat×List Nat):=[(0,[0,1]),(1,[0,1,10]),(2,[4]),(3,[0,1,5]),(4,[0,1,5,14]),(6,[0,1,5,25]),(7,[4]),(5,[0,1,5]),(8,[4])]
attribute [go_sem] kp55
theorem eqInt64S_fc (tk tk':Tk) (xs ys:List Int):FC S 55 [] [] [] [.sl tk (xs.map (.int .i64)),.sl tk' (ys.map (.int .i64))] (.bool (tst (xs=ys))) [] []:=by
 refine fc_body Tryz.func55 rfl (by kernel_rfl) (by simp[Tryz.f55]) fun B=>?_
 simp only[Tryz.ntmps55,enumD,lst0,Nat.reduceAdd]
 refine sw_bnd 0 rfl fun hb0=>?_
 simp only[D.bnd,List.length_map] at hb0
 refine sw_bnd 1 rfl fun hb1=>?_
 simp only[D.bnd,List.length_map] at hb1
 repeat' first|refine sw_seq ?_|refine sw_block ?_|refine sw_skip ?_|refine sw_go 0 kp55 fun K hK=>?_|((first|refine runL_go ?_|refine runQ_go ?_|refine sw_ret (ret0 ?_)|refine sw_ret ?_);simp (disch:=(refine Om.mk ?_;omega)) only[go_sem,Tryz.results55])|(refine hK.nil ?_;clear hK K;simp only[go_sem])|((first|refine sw_cond rfl ?_ ?_)<;>intro h<;>try simp (disch:=(refine Om.mk ?_;omega)) only[go_sem] at h)|fail
 ·intro e;exact h (by rw[e])
 refine sw_loopU (ι:=Nat) (fun i=>[(5,.int .i64 i)]) (fun _=>[]) (fun i=>i≤xs.length∧(∀j<i,xs.getD j default=ys.getD j default)) (fun i=>xs.length-i) 0 (by(refine covers_mk0 rfl rfl ?_ ?_ ?_ ?_<;>simp (disch:=(refine Om.mk ?_;omega)) only[go_sem]<;>(try omega))) ⟨by omega,?_⟩ (fun i ⟨hi,hj⟩=>?_)
 rotate_left
 simp only[go_sem]
 repeat' first|refine sw_seq ?_|refine sw_block ?_|refine sw_inBlock ?_|refine sw_skip ?_|refine sw_go 0 kp55 fun K hK=>?_|refine sw_goD kp55 (by kernel_rfl) fun K hK=>?_|((first|refine runL_go ?_|refine runQ_go ?_|refine sw_ret (ret0 ?_)|refine sw_ret ?_);simp (disch:=(refine Om.mk ?_;omega)) only[go_sem,Tryz.results55])|(refine hK.nil ?_;clear hK K;simp only[go_sem])|((first|refine sw_cond rfl ?_ ?_)<;>intro h<;>try simp (disch:=(refine Om.mk ?_;omega)) only[go_sem] at h)|refine sw_exit rfl ?_|refine sw_loopEnd ?_|(with_reducible refine And.intro (by first|omega|(simp only[lens];omega)) ?_)|fail
 ·intro e;exact h (by rw[e])
 ·exact⟨i+1,by(refine covers_mk0 rfl rfl ?_ ?_ ?_ ?_<;>simp (disch:=(refine Om.mk ?_;omega)) only[go_sem]<;>(try omega)),⟨by omega,upto_succ hj (by assumption)⟩,by omega⟩
 ·exact ext_getD (by assumption) fun j hj'=>hj j (by omega)
 ·intro j hj';omega
def kp87:List (Nat×List Nat):=[(0,[2,3]),(1,[2,3,9]),(2,[4]),(3,[15]),(4,[4]),(5,[4])]
attribute [go_sem] kp87
theorem eqPoly_fc (x y:PolyT):FC S 87 [] [] [] [PolyD x,PolyD y] (.bool (tst (x=y))) [] []:=by
 refine fc_body Tryz.func87 rfl (by kernel_rfl) (by simp[Tryz.f87]) fun B=>?_
 simp only[Tryz.ntmps87,enumD,lst0,Nat.reduceAdd]
 repeat' first|refine sw_seq ?_|refine sw_skip ?_|refine sw_go 0 kp87 fun K hK=>?_|((first|refine runL_go ?_|refine sw_ret (ret0 ?_)|refine sw_ret ?_);simp (disch:=(refine Om.mk ?_;omega)) only[go_sem,Tryz.results87])|(refine hK.nil ?_;clear hK K;simp only[go_sem])|((first|refine sw_cond rfl ?_ ?_)<;>intro h<;>try simp (disch:=(refine Om.mk ?_;omega)) only[go_sem] at h)|refine hK.c0 rfl rfl rfl (eqInt64S_fc _ _ _ _) rfl rfl rfl ?_|fail
 all_goals first|assumption|(intro e;subst e;contradiction)|(cases x;cases y;simp_all)
def kp56:List (Nat×List Nat):=[(0,[2,3]),(1,[2,3,10]),(2,[4]),(3,[16]),(4,[4]),(5,[4])]
attribute [go_sem] kp56
theorem eqRule_fc (x y:RuleT):FC S 56 [] [] [] [RuleD x,RuleD y] (.bool (tst (x=y))) [] []:=by
 refine fc_body Tryz.func56 rfl (by kernel_rfl) (by simp[Tryz.f56]) fun B=>?_
 simp only[Tryz.ntmps56,enumD,lst0,Nat.reduceAdd]
 repeat' first|refine sw_seq ?_|refine sw_skip ?_|refine sw_go 0 kp56 fun K hK=>?_|((first|refine runL_go ?_|refine sw_ret (ret0 ?_)|refine sw_ret ?_);simp (disch:=(refine Om.mk ?_;omega)) only[go_sem,Tryz.results56])|(refine hK.nil ?_;clear hK K;simp only[go_sem])|((first|refine sw_cond rfl ?_ ?_)<;>intro h<;>try simp (disch:=(refine Om.mk ?_;omega)) only[go_sem] at h)|refine hK.c0 rfl rfl rfl (eqInt64S_fc _ _ _ _) rfl rfl rfl ?_|fail
 all_goals first|assumption|(intro e;subst e;contradiction)|(cases x;cases y;simp_all)
def kp27:List (Nat×List Nat):=[(0,[2,3]),(1,[10]),(2,[4]),(3,[4])]
attribute [go_sem] kp27
theorem eqSig_fc (x y:List Int):FC S 27 [] [] [] [SigD x,SigD y] (.bool (tst (x=y))) [] []:=by
 refine fc_body Tryz.func27 rfl (by kernel_rfl) (by simp[Tryz.f27]) fun B=>?_
 simp only[Tryz.ntmps27,enumD,lst0,Nat.reduceAdd]
 repeat' first|refine sw_seq ?_|refine sw_skip ?_|refine sw_go 0 kp27 fun K hK=>?_|((first|refine runL_go ?_|refine sw_ret (ret0 ?_)|refine sw_ret ?_);simp (disch:=(refine Om.mk ?_;omega)) only[go_sem,Tryz.results27])|(refine hK.nil ?_;clear hK K;simp only[go_sem])|((first|refine sw_cond rfl ?_ ?_)<;>intro h<;>try simp (disch:=(refine Om.mk ?_;omega)) only[go_sem] at h)|refine hK.c0 rfl rfl rfl (eqInt64S_fc _ _ _ _) rfl rfl rfl ?_|fail
 all_goals first|assumption|(intro e;subst e;contradiction)|(cases x;cases y;simp_all)
def kp57:List (Nat×List Nat):=[(0,[0,1]),(1,[0,1,10]),(2,[4]),(3,[0,1,5]),(4,[0,1,5,14]),(6,[0,1,5,26]),(7,[4]),(5,[0,1,5]),(8,[4])]
attribute [go_sem] kp57
theorem eqPolyS_fc (tk tk':Tk) (xs ys:List PolyT):FC S 57 [] [] [] [.sl tk (xs.map PolyD),.sl tk' (ys.map PolyD)] (.bool (tst (xs=ys))) [] []:=by
 refine fc_body Tryz.func57 rfl (by kernel_rfl) (by simp[Tryz.f57]) fun B=>?_
 simp only[Tryz.ntmps57,enumD,lst0,Nat.reduceAdd]
 refine sw_bnd 0 rfl fun hb0=>?_
 simp only[D.bnd,List.length_map] at hb0
 refine sw_bnd 1 rfl fun hb1=>?_
 simp only[D.bnd,List.length_map] at hb1
 repeat' first|refine sw_seq ?_|refine sw_block ?_|refine sw_skip ?_|refine sw_go 0 kp57 fun K hK=>?_|((first|refine runL_go ?_|refine runQ_go ?_|refine sw_ret (ret0 ?_)|refine sw_ret ?_);simp (disch:=(refine Om.mk ?_;omega)) only[go_sem,Tryz.results57])|(refine hK.nil ?_;clear hK K;simp only[go_sem])|((first|refine sw_cond rfl ?_ ?_)<;>intro h<;>try simp (disch:=(refine Om.mk ?_;omega)) only[go_sem] at h)|fail
 ·intro e;exact h (by rw[e])
 refine sw_loopU (ι:=Nat) (fun i=>[(5,.int .i64 i)]) (fun _=>[]) (fun i=>i≤xs.length∧(∀j<i,xs.getD j default=ys.getD j default)) (fun i=>xs.length-i) 0 (by(refine covers_mk0 rfl rfl ?_ ?_ ?_ ?_<;>simp (disch:=(refine Om.mk ?_;omega)) only[go_sem]<;>(try omega))) ⟨by omega,?_⟩ (fun i ⟨hi,hj⟩=>?_)
 rotate_left
 simp only[go_sem]
 repeat' first|refine sw_seq ?_|refine sw_block ?_|refine sw_inBlock ?_|refine sw_skip ?_|refine sw_go 0 kp57 fun K hK=>?_|refine sw_goD kp57 (by kernel_rfl) fun K hK=>?_|((first|refine runL_go ?_|refine runQ_go ?_|refine sw_ret (ret0 ?_)|refine sw_ret ?_);simp (disch:=(refine Om.mk ?_;omega)) only[go_sem,Tryz.results57])|(refine hK.nil ?_;clear hK K;simp only[go_sem])|((first|refine sw_cond rfl ?_ ?_)<;>intro h<;>try simp (disch:=(refine Om.mk ?_;omega)) only[go_sem] at h)|refine sw_exit rfl ?_|refine sw_loopEnd ?_|refine hK.c0 rfl rfl rfl (eqPoly_fc _ _) rfl rfl rfl ?_|(with_reducible refine And.intro (by first|omega|(simp only[lens];omega)) ?_)|fail
 ·intro e;exact h (by rw[e])
 ·exact⟨i+1,by(refine covers_mk0 rfl rfl ?_ ?_ ?_ ?_<;>simp (disch:=(refine Om.mk ?_;omega)) only[go_sem]<;>(try omega)),⟨by omega,upto_succ hj (by assumption)⟩,by omega⟩
 ·exact ext_getD (by assumption) fun j hj'=>hj j (by omega)
 ·intro j hj';omega
def kp28:List (Nat×List Nat):=[(0,[0,1]),(1,[0,1,10]),(2,[4]),(3,[0,1,5]),(4,[0,1,5,14]),(6,[0,1,5,26]),(7,[4]),(5,[0,1,5]),(8,[4])]
attribute [go_sem] kp28
theorem eqRuleS_fc (tk tk':Tk) (xs ys:List RuleT):FC S 28 [] [] [] [.sl tk (xs.map RuleD),.sl tk' (ys.map RuleD)] (.bool (tst (xs=ys))) [] []:=by
 refine fc_body Tryz.func28 rfl (by kernel_rfl) (by simp[Tryz.f28]) fun B=>?_
 simp only[Tryz.ntmps28,enumD,lst0,Nat.reduceAdd]
 refine sw_bnd 0 rfl fun hb0=>?_
 simp only[D.bnd,List.length_map] at hb0
 refine sw_bnd 1 rfl fun hb1=>?_
 simp only[D.bnd,List.length_map] at hb1
 repeat' first|refine sw_seq ?_|refine sw_block ?_|refine sw_skip ?_|refine sw_go 0 kp28 fun K hK=>?_|((first|refine runL_go ?_|refine runQ_go ?_|refine sw_ret (ret0 ?_)|refine sw_ret ?_);simp (disch:=(refine Om.mk ?_;omega)) only[go_sem,Tryz.results28])|(refine hK.nil ?_;clear hK K;simp only[go_sem])|((first|refine sw_cond rfl ?_ ?_)<;>intro h<;>try simp (disch:=(refine Om.mk ?_;omega)) only[go_sem] at h)|fail
 ·intro e;exact h (by rw[e])
 refine sw_loopU (ι:=Nat) (fun i=>[(5,.int .i64 i)]) (fun _=>[]) (fun i=>i≤xs.length∧(∀j<i,xs.getD j default=ys.getD j default)) (fun i=>xs.length-i) 0 (by(refine covers_mk0 rfl rfl ?_ ?_ ?_ ?_<;>simp (disch:=(refine Om.mk ?_;omega)) only[go_sem]<;>(try omega))) ⟨by omega,?_⟩ (fun i ⟨hi,hj⟩=>?_)
 rotate_left
 simp only[go_sem]
 repeat' first|refine sw_seq ?_|refine sw_block ?_|refine sw_inBlock ?_|refine sw_skip ?_|refine sw_go 0 kp28 fun K hK=>?_|refine sw_goD kp28 (by kernel_rfl) fun K hK=>?_|((first|refine runL_go ?_|refine runQ_go ?_|refine sw_ret (ret0 ?_)|refine sw_ret ?_);simp (disch:=(refine Om.mk ?_;omega)) only[go_sem,Tryz.results28])|(refine hK.nil ?_;clear hK K;simp only[go_sem])|((first|refine sw_cond rfl ?_ ?_)<;>intro h<;>try simp (disch:=(refine Om.mk ?_;omega)) only[go_sem] at h)|refine sw_exit rfl ?_|refine sw_loopEnd ?_|refine hK.c0 rfl rfl rfl (eqRule_fc _ _) rfl rfl rfl ?_|(with_reducible refine And.intro (by first|omega|(simp only[lens];omega)) ?_)|fail
 ·intro e;exact h (by rw[e])
 ·exact⟨i+1,by(refine covers_mk0 rfl rfl ?_ ?_ ?_ ?_<;>simp (disch:=(refine Om.mk ?_;omega)) only[go_sem]<;>(try omega)),⟨by omega,upto_succ hj (by assumption)⟩,by omega⟩
 ·exact ext_getD (by assumption) fun j hj'=>hj j (by omega)
 ·intro j hj';omega
def kp29:List (Nat×List Nat):=[(0,[2,3]),(1,[2,3,10]),(2,[4]),(3,[2,3,16]),(4,[4]),(5,[2,3,22]),(6,[4]),(7,[28]),(8,[4]),(9,[4])]
attribute [go_sem] kp29
theorem eqPairStep_fc (x y:PairStepT):FC S 29 [] [] [] [PairStepD x,PairStepD y] (.bool (tst (x=y))) [] []:=by
 refine fc_body Tryz.func29 rfl (by kernel_rfl) (by simp[Tryz.f29]) fun B=>?_
 simp only[Tryz.ntmps29,enumD,lst0,Nat.reduceAdd]
 repeat' first|refine sw_seq ?_|refine sw_skip ?_|refine sw_go 0 kp29 fun K hK=>?_|((first|refine runL_go ?_|refine sw_ret (ret0 ?_)|refine sw_ret ?_);simp (disch:=(refine Om.mk ?_;omega)) only[go_sem,Tryz.results29])|(refine hK.nil ?_;clear hK K;simp only[go_sem])|((first|refine sw_cond rfl ?_ ?_)<;>intro h<;>try simp (disch:=(refine Om.mk ?_;omega)) only[go_sem] at h)|refine hK.c0 rfl rfl rfl (eqInt64S_fc _ _ _ _) rfl rfl rfl ?_|refine hK.c0 rfl rfl rfl (eqPolyS_fc _ _ _ _) rfl rfl rfl ?_|fail
 all_goals first|assumption|(intro e;subst e;contradiction)|(cases x;cases y;simp_all)
def kp10:List (Nat×List Nat):=[(0,[2,3]),(1,[2,3,10]),(2,[4]),(3,[16]),(4,[4]),(5,[4])]
attribute [go_sem] kp10
theorem eqSystem_fc (x y:SystemT):FC S 10 [] [] [] [SystemD x,SystemD y] (.bool (tst (x=y))) [] []:=by
 refine fc_body Tryz.func10 rfl (by kernel_rfl) (by simp[Tryz.f10]) fun B=>?_
 simp only[Tryz.ntmps10,enumD,lst0,Nat.reduceAdd]
 repeat' first|refine sw_seq ?_|refine sw_skip ?_|refine sw_go 0 kp10 fun K hK=>?_|((first|refine runL_go ?_|refine sw_ret (ret0 ?_)|refine sw_ret ?_);simp (disch:=(refine Om.mk ?_;omega)) only[go_sem,Tryz.results10])|(refine hK.nil ?_;clear hK K;simp only[go_sem])|((first|refine sw_cond rfl ?_ ?_)<;>intro h<;>try simp (disch:=(refine Om.mk ?_;omega)) only[go_sem] at h)|refine hK.c0 rfl rfl rfl (eqSig_fc _ _) rfl rfl rfl ?_|refine hK.c0 rfl rfl rfl (eqRuleS_fc _ _ _ _) rfl rfl rfl ?_|fail
 all_goals first|assumption|(intro e;subst e;contradiction)|(cases x;cases y;simp_all)
def kp11:List (Nat×List Nat):=[(0,[0,1]),(1,[0,1,10]),(2,[4]),(3,[0,1,5]),(4,[0,1,5,14]),(6,[0,1,5,26]),(7,[4]),(5,[0,1,5]),(8,[4])]
attribute [go_sem] kp11
theorem eqPairStepS_fc (tk tk':Tk) (xs ys:List PairStepT):FC S 11 [] [] [] [.sl tk (xs.map PairStepD),.sl tk' (ys.map PairStepD)] (.bool (tst (xs=ys))) [] []:=by
 refine fc_body Tryz.func11 rfl (by kernel_rfl) (by simp[Tryz.f11]) fun B=>?_
 simp only[Tryz.ntmps11,enumD,lst0,Nat.reduceAdd]
 refine sw_bnd 0 rfl fun hb0=>?_
 simp only[D.bnd,List.length_map] at hb0
 refine sw_bnd 1 rfl fun hb1=>?_
 simp only[D.bnd,List.length_map] at hb1
 repeat' first|refine sw_seq ?_|refine sw_block ?_|refine sw_skip ?_|refine sw_go 0 kp11 fun K hK=>?_|((first|refine runL_go ?_|refine runQ_go ?_|refine sw_ret (ret0 ?_)|refine sw_ret ?_);simp (disch:=(refine Om.mk ?_;omega)) only[go_sem,Tryz.results11])|(refine hK.nil ?_;clear hK K;simp only[go_sem])|((first|refine sw_cond rfl ?_ ?_)<;>intro h<;>try simp (disch:=(refine Om.mk ?_;omega)) only[go_sem] at h)|fail
 ·intro e;exact h (by rw[e])
 refine sw_loopU (ι:=Nat) (fun i=>[(5,.int .i64 i)]) (fun _=>[]) (fun i=>i≤xs.length∧(∀j<i,xs.getD j default=ys.getD j default)) (fun i=>xs.length-i) 0 (by(refine covers_mk0 rfl rfl ?_ ?_ ?_ ?_<;>simp (disch:=(refine Om.mk ?_;omega)) only[go_sem]<;>(try omega))) ⟨by omega,?_⟩ (fun i ⟨hi,hj⟩=>?_)
 rotate_left
 simp only[go_sem]
 repeat' first|refine sw_seq ?_|refine sw_block ?_|refine sw_inBlock ?_|refine sw_skip ?_|refine sw_go 0 kp11 fun K hK=>?_|refine sw_goD kp11 (by kernel_rfl) fun K hK=>?_|((first|refine runL_go ?_|refine runQ_go ?_|refine sw_ret (ret0 ?_)|refine sw_ret ?_);simp (disch:=(refine Om.mk ?_;omega)) only[go_sem,Tryz.results11])|(refine hK.nil ?_;clear hK K;simp only[go_sem])|((first|refine sw_cond rfl ?_ ?_)<;>intro h<;>try simp (disch:=(refine Om.mk ?_;omega)) only[go_sem] at h)|refine sw_exit rfl ?_|refine sw_loopEnd ?_|refine hK.c0 rfl rfl rfl (eqPairStep_fc _ _) rfl rfl rfl ?_|(with_reducible refine And.intro (by first|omega|(simp only[lens];omega)) ?_)|fail
 ·intro e;exact h (by rw[e])
 ·exact⟨i+1,by(refine covers_mk0 rfl rfl ?_ ?_ ?_ ?_<;>simp (disch:=(refine Om.mk ?_;omega)) only[go_sem]<;>(try omega)),⟨by omega,upto_succ hj (by assumption)⟩,by omega⟩
 ·exact ext_getD (by assumption) fun j hj'=>hj j (by omega)
 ·intro j hj';omega
def kp30:List (Nat×List Nat):=[(0,[0,1]),(1,[1]),(2,[1,10]),(3,[4]),(4,[4])]
attribute [go_sem] kp30
theorem szInt64S_fc (tk:Tk) (xs:List Int) (b:Int) (hb:-1≤b∧b≤1048576):FC S 30 [] [] [] [.sl tk (xs.map (.int .i64)),.int .i64 b] (.int .i64 (szd b (cntInt64S xs))) [] []:=by
 refine fc_body Tryz.func30 rfl (by kernel_rfl) (by simp[Tryz.f30]) fun B=>?_
 simp only[Tryz.ntmps30,enumD,lst0,Nat.reduceAdd]
 refine sw_bnd 0 rfl fun hb0=>?_
 simp only[D.bnd,List.length_map] at hb0
 repeat' first|refine sw_seq ?_|refine sw_skip ?_|refine sw_go 0 kp30 fun K hK=>?_|((first|refine runL_go ?_|refine sw_ret (ret0 ?_)|refine sw_ret ?_);simp (disch:=(refine Om.mk ?_;omega)) only[go_sem,Tryz.results30])|(refine hK.nil ?_;clear hK K;simp only[go_sem])|((first|refine sw_cond rfl ?_ ?_)<;>intro h<;>try simp (disch:=(refine Om.mk ?_;omega)) only[go_sem] at h)|fail
 all_goals (simp only[szd,cntInt64S] at *;grind)
def kp58:List (Nat×List Nat):=[(0,[1,2]),(1,[1]),(2,[1,10]),(3,[4]),(4,[4])]
attribute [go_sem] kp58
theorem szPoly_fc (x:PolyT) (b:Int) (hb:-1≤b∧b≤1048576):FC S 58 [] [] [] [PolyD x,.int .i64 b] (.int .i64 (szd b (cntPoly x))) [] []:=by
 refine fc_body Tryz.func58 rfl (by kernel_rfl) (by simp[Tryz.f58]) fun B=>?_
 simp only[Tryz.ntmps58,enumD,lst0,Nat.reduceAdd]
 repeat' first|refine sw_seq ?_|refine sw_skip ?_|refine sw_go 0 kp58 fun K hK=>?_|((first|refine runL_go ?_|refine sw_ret (ret0 ?_)|refine sw_ret ?_);simp (disch:=(refine Om.mk ?_;omega)) only[go_sem,Tryz.results58])|(refine hK.nil ?_;clear hK K;simp only[go_sem])|((first|refine sw_cond rfl ?_ ?_)<;>intro h<;>try simp (disch:=(refine Om.mk ?_;omega)) only[go_sem] at h)|refine hK.c0 rfl rfl rfl (szInt64S_fc _ _ _ (by(first|exact hb|exact szd_rng hb|exact szd_rng (szd_rng hb)|exact szd_rng (szd_rng (szd_rng hb))|exact szd_rng (szd_rng (szd_rng (szd_rng hb)))|exact szd_rng (szd_rng (szd_rng (szd_rng (szd_rng hb))))|omega))) rfl rfl rfl ?_|fail
 all_goals (simp only[szd,cntPoly] at *;grind)
def kp31:List (Nat×List Nat):=[(0,[1,2]),(1,[1,2]),(2,[1,2,10]),(3,[4]),(4,[1]),(5,[1,16]),(6,[4]),(7,[4])]
attribute [go_sem] kp31
theorem szRule_fc (x:RuleT) (b:Int) (hb:-1≤b∧b≤1048576):FC S 31 [] [] [] [RuleD x,.int .i64 b] (.int .i64 (szd b (cntRule x))) [] []:=by
 refine fc_body Tryz.func31 rfl (by kernel_rfl) (by simp[Tryz.f31]) fun B=>?_
 simp only[Tryz.ntmps31,enumD,lst0,Nat.reduceAdd]
 repeat' first|refine sw_seq ?_|refine sw_skip ?_|refine sw_go 0 kp31 fun K hK=>?_|((first|refine runL_go ?_|refine sw_ret (ret0 ?_)|refine sw_ret ?_);simp (disch:=(refine Om.mk ?_;omega)) only[go_sem,Tryz.results31])|(refine hK.nil ?_;clear hK K;simp only[go_sem])|((first|refine sw_cond rfl ?_ ?_)<;>intro h<;>try simp (disch:=(refine Om.mk ?_;omega)) only[go_sem] at h)|refine hK.c0 rfl rfl rfl (szInt64S_fc _ _ _ (by(first|exact hb|exact szd_rng hb|exact szd_rng (szd_rng hb)|exact szd_rng (szd_rng (szd_rng hb))|exact szd_rng (szd_rng (szd_rng (szd_rng hb)))|exact szd_rng (szd_rng (szd_rng (szd_rng (szd_rng hb))))|omega))) rfl rfl rfl ?_|fail
 all_goals (simp only[szd,cntRule] at *;grind)
def kp12:List (Nat×List Nat):=[(0,[1,2]),(1,[1]),(2,[1,10]),(3,[4]),(4,[4])]
attribute [go_sem] kp12
theorem szSig_fc (x:List Int) (b:Int) (hb:-1≤b∧b≤1048576):FC S 12 [] [] [] [SigD x,.int .i64 b] (.int .i64 (szd b (cntSig x))) [] []:=by
 refine fc_body Tryz.func12 rfl (by kernel_rfl) (by simp[Tryz.f12]) fun B=>?_
 simp only[Tryz.ntmps12,enumD,lst0,Nat.reduceAdd]
 repeat' first|refine sw_seq ?_|refine sw_skip ?_|refine sw_go 0 kp12 fun K hK=>?_|((first|refine runL_go ?_|refine sw_ret (ret0 ?_)|refine sw_ret ?_);simp (disch:=(refine Om.mk ?_;omega)) only[go_sem,Tryz.results12])|(refine hK.nil ?_;clear hK K;simp only[go_sem])|((first|refine sw_cond rfl ?_ ?_)<;>intro h<;>try simp (disch:=(refine Om.mk ?_;omega)) only[go_sem] at h)|refine hK.c0 rfl rfl rfl (szInt64S_fc _ _ _ (by(first|exact hb|exact szd_rng hb|exact szd_rng (szd_rng hb)|exact szd_rng (szd_rng (szd_rng hb))|exact szd_rng (szd_rng (szd_rng (szd_rng hb)))|exact szd_rng (szd_rng (szd_rng (szd_rng (szd_rng hb))))|omega))) rfl rfl rfl ?_|fail
 all_goals (simp only[szd,cntSig] at *;grind)
def kp32:List (Nat×List Nat):=[(0,[0,1]),(1,[0,1]),(2,[0,1,11]),(3,[4]),(4,[0,1,5]),(5,[0,1,5,15]),(7,[0,1,5]),(8,[0,1,5,25]),(9,[4]),(6,[0,1,5]),(10,[4])]
attribute [go_sem] kp32
theorem szPolyS_fc (tk:Tk) (xs:List PolyT) (b:Int) (hb:-1≤b∧b≤1048576):FC S 32 [] [] [] [.sl tk (xs.map PolyD),.int .i64 b] (.int .i64 (szd b (cntPolyS xs))) [] []:=by
 refine fc_body Tryz.func32 rfl (by kernel_rfl) (by simp[Tryz.f32]) fun B=>?_
 simp only[Tryz.ntmps32,enumD,lst0,Nat.reduceAdd]
 refine sw_bnd 0 rfl fun hb0=>?_
 simp only[D.bnd,List.length_map] at hb0
 repeat' first|refine sw_seq ?_|refine sw_block ?_|refine sw_skip ?_|refine sw_go 0 kp32 fun K hK=>?_|((first|refine runL_go ?_|refine sw_ret (ret0 ?_)|refine sw_ret ?_);simp (disch:=(refine Om.mk ?_;omega)) only[go_sem,Tryz.results32])|(refine hK.nil ?_;clear hK K;simp only[go_sem])|((first|refine sw_cond rfl ?_ ?_)<;>intro h<;>try simp (disch:=(refine Om.mk ?_;omega)) only[go_sem] at h)|fail
 ·simp only[szd,cntPolyS];grind
 refine sw_loopU (ι:=Nat) (fun i=>[(5,.int .i64 i),(1,.int .i64 (b-xs.length-csum cntPoly xs i))]) (fun _=>[]) (fun i=>i≤xs.length∧(0≤b-xs.length-csum cntPoly xs i)) (fun i=>xs.length-i) 0 (by(refine covers_mk0 rfl rfl ?_ ?_ ?_ ?_<;>simp (disch:=(refine Om.mk ?_;omega)) only[go_sem]<;>(try omega))) ⟨by omega,?_⟩ (fun i ⟨hi,hj⟩=>?_)
 rotate_left
 simp only[go_sem]
 repeat' first|refine sw_seq ?_|refine sw_block ?_|refine sw_inBlock ?_|refine sw_skip ?_|refine sw_go 0 kp32 fun K hK=>?_|((first|refine runL_go ?_|refine sw_ret (ret0 ?_)|refine sw_ret ?_);simp (disch:=(refine Om.mk ?_;omega)) only[go_sem,Tryz.results32])|(refine hK.nil ?_;clear hK K;simp only[go_sem])|((first|refine sw_cond rfl ?_ ?_)<;>intro h<;>try simp (disch:=(refine Om.mk ?_;omega)) only[go_sem] at h)|refine sw_exit rfl ?_|refine sw_loopEnd ?_|refine hK.c0 rfl rfl rfl (szPoly_fc _ _ (by omega)) rfl rfl rfl ?_|(with_reducible refine And.intro (by first|omega|(simp only[lens];omega)) ?_)|fail
 ·have hs:=csum_succ cntPoly xs i (by omega)
  have hl:=csum_le cntPoly xs (i+1)
  simp only[szd,cntPolyS] at *;grind
 ·have hs:=csum_succ cntPoly xs i (by omega)
  refine⟨i+1,(by(refine covers_mk0 rfl rfl ?_ ?_ ?_ ?_<;>simp (disch:=(refine Om.mk ?_;omega)) only[go_sem]<;>(try omega));rw[hs];simp only[szd] at *;grind),⟨by omega,?_⟩,by omega⟩
  simp only[szd] at *;grind
 ·have hs:=csum_all cntPoly xs i (by omega)
  simp only[szd,cntPolyS] at *;grind
 ·rw[csum_zero];omega
def kp13:List (Nat×List Nat):=[(0,[0,1]),(1,[0,1]),(2,[0,1,11]),(3,[4]),(4,[0,1,5]),(5,[0,1,5,15]),(7,[0,1,5]),(8,[0,1,5,25]),(9,[4]),(6,[0,1,5]),(10,[4])]
attribute [go_sem] kp13
theorem szRuleS_fc (tk:Tk) (xs:List RuleT) (b:Int) (hb:-1≤b∧b≤1048576):FC S 13 [] [] [] [.sl tk (xs.map RuleD),.int .i64 b] (.int .i64 (szd b (cntRuleS xs))) [] []:=by
 refine fc_body Tryz.func13 rfl (by kernel_rfl) (by simp[Tryz.f13]) fun B=>?_
 simp only[Tryz.ntmps13,enumD,lst0,Nat.reduceAdd]
 refine sw_bnd 0 rfl fun hb0=>?_
 simp only[D.bnd,List.length_map] at hb0
 repeat' first|refine sw_seq ?_|refine sw_block ?_|refine sw_skip ?_|refine sw_go 0 kp13 fun K hK=>?_|((first|refine runL_go ?_|refine sw_ret (ret0 ?_)|refine sw_ret ?_);simp (disch:=(refine Om.mk ?_;omega)) only[go_sem,Tryz.results13])|(refine hK.nil ?_;clear hK K;simp only[go_sem])|((first|refine sw_cond rfl ?_ ?_)<;>intro h<;>try simp (disch:=(refine Om.mk ?_;omega)) only[go_sem] at h)|fail
 ·simp only[szd,cntRuleS];grind
 refine sw_loopU (ι:=Nat) (fun i=>[(5,.int .i64 i),(1,.int .i64 (b-xs.length-csum cntRule xs i))]) (fun _=>[]) (fun i=>i≤xs.length∧(0≤b-xs.length-csum cntRule xs i)) (fun i=>xs.length-i) 0 (by(refine covers_mk0 rfl rfl ?_ ?_ ?_ ?_<;>simp (disch:=(refine Om.mk ?_;omega)) only[go_sem]<;>(try omega))) ⟨by omega,?_⟩ (fun i ⟨hi,hj⟩=>?_)
 rotate_left
 simp only[go_sem]
 repeat' first|refine sw_seq ?_|refine sw_block ?_|refine sw_inBlock ?_|refine sw_skip ?_|refine sw_go 0 kp13 fun K hK=>?_|((first|refine runL_go ?_|refine sw_ret (ret0 ?_)|refine sw_ret ?_);simp (disch:=(refine Om.mk ?_;omega)) only[go_sem,Tryz.results13])|(refine hK.nil ?_;clear hK K;simp only[go_sem])|((first|refine sw_cond rfl ?_ ?_)<;>intro h<;>try simp (disch:=(refine Om.mk ?_;omega)) only[go_sem] at h)|refine sw_exit rfl ?_|refine sw_loopEnd ?_|refine hK.c0 rfl rfl rfl (szRule_fc _ _ (by omega)) rfl rfl rfl ?_|(with_reducible refine And.intro (by first|omega|(simp only[lens];omega)) ?_)|fail
 ·have hs:=csum_succ cntRule xs i (by omega)
  have hl:=csum_le cntRule xs (i+1)
  simp only[szd,cntRuleS] at *;grind
 ·have hs:=csum_succ cntRule xs i (by omega)
  refine⟨i+1,(by(refine covers_mk0 rfl rfl ?_ ?_ ?_ ?_<;>simp (disch:=(refine Om.mk ?_;omega)) only[go_sem]<;>(try omega));rw[hs];simp only[szd] at *;grind),⟨by omega,?_⟩,by omega⟩
  simp only[szd] at *;grind
 ·have hs:=csum_all cntRule xs i (by omega)
  simp only[szd,cntRuleS] at *;grind
 ·rw[csum_zero];omega
def kp14:List (Nat×List Nat):=[(0,[1,2]),(1,[1,2]),(2,[1,2,10]),(3,[4]),(4,[1,2]),(5,[1,2,16]),(6,[4]),(7,[1,2]),(8,[1,2,22]),(9,[4]),(10,[1]),(11,[1,28]),(12,[4]),(13,[4])]
attribute [go_sem] kp14
theorem szPairStep_fc (x:PairStepT) (b:Int) (hb:-1≤b∧b≤1048576):FC S 14 [] [] [] [PairStepD x,.int .i64 b] (.int .i64 (szd b (cntPairStep x))) [] []:=by
 refine fc_body Tryz.func14 rfl (by kernel_rfl) (by simp[Tryz.f14]) fun B=>?_
 simp only[Tryz.ntmps14,enumD,lst0,Nat.reduceAdd]
 repeat' first|refine sw_seq ?_|refine sw_skip ?_|refine sw_go 0 kp14 fun K hK=>?_|((first|refine runL_go ?_|refine sw_ret (ret0 ?_)|refine sw_ret ?_);simp (disch:=(refine Om.mk ?_;omega)) only[go_sem,Tryz.results14])|(refine hK.nil ?_;clear hK K;simp only[go_sem])|((first|refine sw_cond rfl ?_ ?_)<;>intro h<;>try simp (disch:=(refine Om.mk ?_;omega)) only[go_sem] at h)|refine hK.c0 rfl rfl rfl (szInt64S_fc _ _ _ (by(first|exact hb|exact szd_rng hb|exact szd_rng (szd_rng hb)|exact szd_rng (szd_rng (szd_rng hb))|exact szd_rng (szd_rng (szd_rng (szd_rng hb)))|exact szd_rng (szd_rng (szd_rng (szd_rng (szd_rng hb))))|omega))) rfl rfl rfl ?_|refine hK.c0 rfl rfl rfl (szPolyS_fc _ _ _ (by(first|exact hb|exact szd_rng hb|exact szd_rng (szd_rng hb)|exact szd_rng (szd_rng (szd_rng hb))|exact szd_rng (szd_rng (szd_rng (szd_rng hb)))|exact szd_rng (szd_rng (szd_rng (szd_rng (szd_rng hb))))|omega))) rfl rfl rfl ?_|fail
 all_goals (simp only[szd,cntPairStep] at *;grind)
def kp4:List (Nat×List Nat):=[(0,[1,2]),(1,[1,2]),(2,[1,2,10]),(3,[4]),(4,[1]),(5,[1,16]),(6,[4]),(7,[4])]
attribute [go_sem] kp4
theorem szSystem_fc (x:SystemT) (b:Int) (hb:-1≤b∧b≤1048576):FC S 4 [] [] [] [SystemD x,.int .i64 b] (.int .i64 (szd b (cntSystem x))) [] []:=by
 refine fc_body Tryz.func4 rfl (by kernel_rfl) (by simp[Tryz.f4]) fun B=>?_
 simp only[Tryz.ntmps4,enumD,lst0,Nat.reduceAdd]
 repeat' first|refine sw_seq ?_|refine sw_skip ?_|refine sw_go 0 kp4 fun K hK=>?_|((first|refine runL_go ?_|refine sw_ret (ret0 ?_)|refine sw_ret ?_);simp (disch:=(refine Om.mk ?_;omega)) only[go_sem,Tryz.results4])|(refine hK.nil ?_;clear hK K;simp only[go_sem])|((first|refine sw_cond rfl ?_ ?_)<;>intro h<;>try simp (disch:=(refine Om.mk ?_;omega)) only[go_sem] at h)|refine hK.c0 rfl rfl rfl (szSig_fc _ _ (by(first|exact hb|exact szd_rng hb|exact szd_rng (szd_rng hb)|exact szd_rng (szd_rng (szd_rng hb))|exact szd_rng (szd_rng (szd_rng (szd_rng hb)))|exact szd_rng (szd_rng (szd_rng (szd_rng (szd_rng hb))))|omega))) rfl rfl rfl ?_|refine hK.c0 rfl rfl rfl (szRuleS_fc _ _ _ (by(first|exact hb|exact szd_rng hb|exact szd_rng (szd_rng hb)|exact szd_rng (szd_rng (szd_rng hb))|exact szd_rng (szd_rng (szd_rng (szd_rng hb)))|exact szd_rng (szd_rng (szd_rng (szd_rng (szd_rng hb))))|omega))) rfl rfl rfl ?_|fail
 all_goals (simp only[szd,cntSystem] at *;grind)
def kp5:List (Nat×List Nat):=[(0,[0,1]),(1,[0,1]),(2,[0,1,11]),(3,[4]),(4,[0,1,5]),(5,[0,1,5,15]),(7,[0,1,5]),(8,[0,1,5,25]),(9,[4]),(6,[0,1,5]),(10,[4])]
attribute [go_sem] kp5
theorem szPairStepS_fc (tk:Tk) (xs:List PairStepT) (b:Int) (hb:-1≤b∧b≤1048576):FC S 5 [] [] [] [.sl tk (xs.map PairStepD),.int .i64 b] (.int .i64 (szd b (cntPairStepS xs))) [] []:=by
 refine fc_body Tryz.func5 rfl (by kernel_rfl) (by simp[Tryz.f5]) fun B=>?_
 simp only[Tryz.ntmps5,enumD,lst0,Nat.reduceAdd]
 refine sw_bnd 0 rfl fun hb0=>?_
 simp only[D.bnd,List.length_map] at hb0
 repeat' first|refine sw_seq ?_|refine sw_block ?_|refine sw_skip ?_|refine sw_go 0 kp5 fun K hK=>?_|((first|refine runL_go ?_|refine sw_ret (ret0 ?_)|refine sw_ret ?_);simp (disch:=(refine Om.mk ?_;omega)) only[go_sem,Tryz.results5])|(refine hK.nil ?_;clear hK K;simp only[go_sem])|((first|refine sw_cond rfl ?_ ?_)<;>intro h<;>try simp (disch:=(refine Om.mk ?_;omega)) only[go_sem] at h)|fail
 ·simp only[szd,cntPairStepS];grind
 refine sw_loopU (ι:=Nat) (fun i=>[(5,.int .i64 i),(1,.int .i64 (b-xs.length-csum cntPairStep xs i))]) (fun _=>[]) (fun i=>i≤xs.length∧(0≤b-xs.length-csum cntPairStep xs i)) (fun i=>xs.length-i) 0 (by(refine covers_mk0 rfl rfl ?_ ?_ ?_ ?_<;>simp (disch:=(refine Om.mk ?_;omega)) only[go_sem]<;>(try omega))) ⟨by omega,?_⟩ (fun i ⟨hi,hj⟩=>?_)
 rotate_left
 simp only[go_sem]
 repeat' first|refine sw_seq ?_|refine sw_block ?_|refine sw_inBlock ?_|refine sw_skip ?_|refine sw_go 0 kp5 fun K hK=>?_|((first|refine runL_go ?_|refine sw_ret (ret0 ?_)|refine sw_ret ?_);simp (disch:=(refine Om.mk ?_;omega)) only[go_sem,Tryz.results5])|(refine hK.nil ?_;clear hK K;simp only[go_sem])|((first|refine sw_cond rfl ?_ ?_)<;>intro h<;>try simp (disch:=(refine Om.mk ?_;omega)) only[go_sem] at h)|refine sw_exit rfl ?_|refine sw_loopEnd ?_|refine hK.c0 rfl rfl rfl (szPairStep_fc _ _ (by omega)) rfl rfl rfl ?_|(with_reducible refine And.intro (by first|omega|(simp only[lens];omega)) ?_)|fail
 ·have hs:=csum_succ cntPairStep xs i (by omega)
  have hl:=csum_le cntPairStep xs (i+1)
  simp only[szd,cntPairStepS] at *;grind
 ·have hs:=csum_succ cntPairStep xs i (by omega)
  refine⟨i+1,(by(refine covers_mk0 rfl rfl ?_ ?_ ?_ ?_<;>simp (disch:=(refine Om.mk ?_;omega)) only[go_sem]<;>(try omega));rw[hs];simp only[szd] at *;grind),⟨by omega,?_⟩,by omega⟩
  simp only[szd] at *;grind
 ·have hs:=csum_all cntPairStep xs i (by omega)
  simp only[szd,cntPairStepS] at *;grind
 ·rw[csum_zero];omega
def kp41:List (Nat×List Nat):=[(0,[0]),(1,[0,3]),(2,[0,3,4]),(3,[0,3,4,11]),(5,[0,3,4]),(4,[0,3,4]),(6,[2])]
attribute [go_sem] kp41
theorem toInt64S_fc (tk:Tk) (xs:List Int) (hn:cntInt64S xs≤1048576):FC S 41 [] [] [] [.sl tk (xs.map (.int .i64))] (.sl .any (xs.map (.int .i64))) [] []:=by
 have hl:xs.length≤1048576:=hn
 refine fc_body Tryz.func41 rfl (by kernel_rfl) (by simp[Tryz.f41]) fun B=>?_
 simp only[Tryz.ntmps41,enumD,lst0,Nat.reduceAdd]
 refine sw_bnd 0 rfl fun hb0=>?_
 simp only[D.bnd,List.length_map] at hb0
 repeat' first|refine sw_seq ?_|refine sw_block ?_|refine sw_go 0 kp41 fun K hK=>?_|((first|refine runL_go ?_|refine sw_ret (ret0 ?_)|refine sw_ret ?_);simp (disch:=(refine Om.mk ?_;omega)) only[go_sem,Tryz.results41])|(refine hK.nil ?_;clear hK K;simp only[go_sem])|(with_reducible refine And.intro (by first|omega|(simp only[lens];omega)) ?_)|fail
 refine sw_loopU (ι:=Nat) (fun i=>[(4,.int .i64 i)]) (fun i=>[(7,fillL (fun j=>.int .i64 (xs.getD j default)) (.int .i64 0) i xs.length)]) (fun i=>i≤xs.length∧(True)) (fun i=>xs.length-i) 0 (by(refine covers_mk0 rfl rfl ?_ ?_ ?_ ?_<;>simp (disch:=(refine Om.mk ?_;omega)) only[go_sem]<;>(try omega));exact fillL_start _ _ _) ⟨by omega,?_⟩ (fun i ⟨hi,hj⟩=>?_)
 rotate_left
 simp only[go_sem]
 repeat' first|(refine sw_freezeAt 6 3 1 .any (xs.map (.int .i64)) rfl rfl (by rw[show i=xs.length by omega];exact(fillL_done (.int .i64) _ xs).trans (flat_ones _ _ (fun _=>rfl)).symm) (by rw[List.length_map]) (cells_one fun _=>rfl) (fillL_memOk (fun _=>rfl) rfl) (.inl rfl) ?_;simp only[go_sem])|refine sw_seq ?_|refine sw_block ?_|refine sw_inBlock ?_|refine sw_skip ?_|refine sw_go 0 kp41 fun K hK=>?_|((first|refine runL_go ?_|refine sw_ret (ret0 ?_)|refine sw_ret ?_);simp (disch:=(refine Om.mk ?_;omega)) only[go_sem,Tryz.results41])|(refine hK.nil ?_;clear hK K;simp only[go_sem])|((first|refine sw_cond rfl ?_ ?_)<;>intro h<;>try simp (disch:=(refine Om.mk ?_;omega)) only[go_sem] at h)|refine sw_exit rfl ?_|refine sw_loopEnd ?_|(with_reducible refine And.intro (by first|omega|(simp only[lens];omega)) ?_)|fail
 ·exact⟨i+1,(by(refine covers_mk0 rfl rfl ?_ ?_ ?_ ?_<;>simp (disch:=(refine Om.mk ?_;omega)) only[go_sem]<;>(try omega));exact fillL_set (fun j=>.int .i64 (xs.getD j default)) _ _ _),by omega,by omega⟩
 ·trivial
def kp75:List (Nat×List Nat):=[(0,[1,2]),(1,[1,2,3]),(2,[1,2,3]),(3,[2,3]),(4,[2])]
attribute [go_sem] kp75
theorem toPoly_fc (x:PolyT) (hn:cntPoly x≤1048576):FC S 75 [] [] [] [PolyD x] (PolyD x) [] []:=by
 have hn':=hn
 simp only[cntPoly] at hn'
 refine fc_body Tryz.func75 rfl (by kernel_rfl) (by simp[Tryz.f75]) fun B=>?_
 simp only[Tryz.ntmps75,enumD,lst0,Nat.reduceAdd]
 repeat' first|refine sw_seq ?_|refine sw_go 0 kp75 fun K hK=>?_|((first|refine runL_go ?_|refine sw_ret (ret0 ?_)|refine sw_ret ?_);simp (disch:=(refine Om.mk ?_;omega)) only[go_sem,Tryz.results75])|(refine hK.nil ?_;clear hK K;simp only[go_sem])|refine hK.c0 rfl rfl rfl (toInt64S_fc _ _ (by omega)) rfl rfl rfl ?_|fail
 all_goals exact D.le.refl _
def kp42:List (Nat×List Nat):=[(0,[1,2]),(1,[1,2,3]),(2,[1,2,3]),(3,[2,3]),(4,[2])]
attribute [go_sem] kp42
theorem toRule_fc (x:RuleT) (hn:cntRule x≤1048576):FC S 42 [] [] [] [RuleD x] (RuleD x) [] []:=by
 have hn':=hn
 simp only[cntRule] at hn'
 refine fc_body Tryz.func42 rfl (by kernel_rfl) (by simp[Tryz.f42]) fun B=>?_
 simp only[Tryz.ntmps42,enumD,lst0,Nat.reduceAdd]
 repeat' first|refine sw_seq ?_|refine sw_go 0 kp42 fun K hK=>?_|((first|refine runL_go ?_|refine sw_ret (ret0 ?_)|refine sw_ret ?_);simp (disch:=(refine Om.mk ?_;omega)) only[go_sem,Tryz.results42])|(refine hK.nil ?_;clear hK K;simp only[go_sem])|refine hK.c0 rfl rfl rfl (toInt64S_fc _ _ (by omega)) rfl rfl rfl ?_|fail
 all_goals exact D.le.refl _
def kp22:List (Nat×List Nat):=[(0,[1,2]),(1,[1,2,3]),(2,[2,3]),(3,[2])]
attribute [go_sem] kp22
theorem toSig_fc (x:List Int) (hn:cntSig x≤1048576):FC S 22 [] [] [] [SigD x] (SigD x) [] []:=by
 have hn':=hn
 simp only[cntSig] at hn'
 refine fc_body Tryz.func22 rfl (by kernel_rfl) (by simp[Tryz.f22]) fun B=>?_
 simp only[Tryz.ntmps22,enumD,lst0,Nat.reduceAdd]
 repeat' first|refine sw_seq ?_|refine sw_go 0 kp22 fun K hK=>?_|((first|refine runL_go ?_|refine sw_ret (ret0 ?_)|refine sw_ret ?_);simp (disch:=(refine Om.mk ?_;omega)) only[go_sem,Tryz.results22])|(refine hK.nil ?_;clear hK K;simp only[go_sem])|refine hK.c0 rfl rfl rfl (toInt64S_fc _ _ (by omega)) rfl rfl rfl ?_|fail
 all_goals exact D.le.refl _
def kp43:List (Nat×List Nat):=[(0,[0]),(1,[0,3]),(2,[0,3,4]),(3,[0,3,4,11]),(5,[0,3,4]),(4,[0,3,4]),(6,[2])]
attribute [go_sem] kp43
theorem toPolyS_fc (tk:Tk) (xs:List PolyT) (hn:cntPolyS xs≤1048576):FC S 43 [] [] [] [.sl tk (xs.map PolyD)] (.sl .any (xs.map PolyD)) [] []:=by
 have hl:xs.length≤1048576:=by unfold cntPolyS at hn;omega
 have hq:∀i<xs.length,cntPoly (xs.getD i default)≤1048576:=fun i hi=>by
  have:=f_le_sum cntPoly xs i hi
  unfold cntPolyS at hn;omega
 refine fc_body Tryz.func43 rfl (by kernel_rfl) (by simp[Tryz.f43]) fun B=>?_
 simp only[Tryz.ntmps43,enumD,lst0,Nat.reduceAdd]
 refine sw_bnd 0 rfl fun hb0=>?_
 simp only[D.bnd,List.length_map] at hb0
 repeat' first|refine sw_seq ?_|refine sw_block ?_|refine sw_go 0 kp43 fun K hK=>?_|((first|refine runL_go ?_|refine sw_ret (ret0 ?_)|refine sw_ret ?_);simp (disch:=(refine Om.mk ?_;omega)) only[go_sem,Tryz.results43])|(refine hK.nil ?_;clear hK K;simp only[go_sem])|(with_reducible refine And.intro (by first|omega|(simp only[lens];omega)) ?_)|fail
 refine sw_loopU (ι:=Nat) (fun i=>[(4,.int .i64 i)]) (fun i=>[(7,fillF (fun j=>[.int .i64 ((xs.getD j default)).const,.sl .any (((xs.getD j default)).coef.map (.int .i64))]) [.int .i64 0,.sl .nil []] i xs.length)]) (fun i=>i≤xs.length∧(True)) (fun i=>xs.length-i) 0 (by(refine covers_mk0 rfl rfl ?_ ?_ ?_ ?_<;>simp (disch:=(refine Om.mk ?_;omega)) only[go_sem]<;>(try omega));exact fillF_start _ _ _) ⟨by omega,?_⟩ (fun i ⟨hi,hj⟩=>?_)
 rotate_left
 simp only[go_sem]
 have hm:i*2+2≤2*xs.length∨xs.length≤i:=by omega
 repeat' first|(refine sw_freezeAt 6 3 2 .any (xs.map PolyD) rfl rfl (by rw[show i=xs.length by omega];exact fillF_done PolyD _ xs) (by rw[List.length_map]) (cells_n fun _=>rfl) (fillF_memOk (fun j d hd=>by revert d hd;simp[D.memOk]) (by simp[D.memOk])) (.inl rfl) ?_;simp only[go_sem])|refine sw_seq ?_|refine sw_block ?_|refine sw_inBlock ?_|refine sw_skip ?_|refine sw_go 0 kp43 fun K hK=>?_|((first|refine runL_go ?_|refine sw_ret (ret0 ?_)|refine sw_ret ?_);simp (disch:=(refine Om.mk ?_;omega)) only[go_sem,Tryz.results43])|(refine hK.nil ?_;clear hK K;simp only[go_sem])|((first|refine sw_cond rfl ?_ ?_)<;>intro h<;>try simp (disch:=(refine Om.mk ?_;omega)) only[go_sem] at h)|refine sw_exit rfl ?_|refine sw_loopEnd ?_|refine hK.c0 rfl rfl rfl (toPoly_fc _ (by exact hq i (by omega))) rfl rfl rfl ?_|(with_reducible refine And.intro (by first|omega|(simp only[lens];omega)) ?_)|fail
 ·exact⟨i+1,(by(refine covers_mk0 rfl rfl ?_ ?_ ?_ ?_<;>simp (disch:=(refine Om.mk ?_;omega)) only[go_sem]<;>(try omega));exact fillF_put (f:=fun j=>[.int .i64 ((xs.getD j default)).const,.sl .any (((xs.getD j default)).coef.map (.int .i64))]) (fun _=>rfl) rfl (by omega)),by omega,by omega⟩
 ·trivial
def kp23:List (Nat×List Nat):=[(0,[0]),(1,[0,3]),(2,[0,3,4]),(3,[0,3,4,11]),(5,[0,3,4]),(4,[0,3,4]),(6,[2])]
attribute [go_sem] kp23
theorem toRuleS_fc (tk:Tk) (xs:List RuleT) (hn:cntRuleS xs≤1048576):FC S 23 [] [] [] [.sl tk (xs.map RuleD)] (.sl .any (xs.map RuleD)) [] []:=by
 have hl:xs.length≤1048576:=by unfold cntRuleS at hn;omega
 have hq:∀i<xs.length,cntRule (xs.getD i default)≤1048576:=fun i hi=>by
  have:=f_le_sum cntRule xs i hi
  unfold cntRuleS at hn;omega
 refine fc_body Tryz.func23 rfl (by kernel_rfl) (by simp[Tryz.f23]) fun B=>?_
 simp only[Tryz.ntmps23,enumD,lst0,Nat.reduceAdd]
 refine sw_bnd 0 rfl fun hb0=>?_
 simp only[D.bnd,List.length_map] at hb0
 repeat' first|refine sw_seq ?_|refine sw_block ?_|refine sw_go 0 kp23 fun K hK=>?_|((first|refine runL_go ?_|refine sw_ret (ret0 ?_)|refine sw_ret ?_);simp (disch:=(refine Om.mk ?_;omega)) only[go_sem,Tryz.results23])|(refine hK.nil ?_;clear hK K;simp only[go_sem])|(with_reducible refine And.intro (by first|omega|(simp only[lens];omega)) ?_)|fail
 refine sw_loopU (ι:=Nat) (fun i=>[(4,.int .i64 i)]) (fun i=>[(7,fillF (fun j=>[.sl .any (((xs.getD j default)).l.map (.int .i64)),.sl .any (((xs.getD j default)).r.map (.int .i64))]) [.sl .nil [],.sl .nil []] i xs.length)]) (fun i=>i≤xs.length∧(True)) (fun i=>xs.length-i) 0 (by(refine covers_mk0 rfl rfl ?_ ?_ ?_ ?_<;>simp (disch:=(refine Om.mk ?_;omega)) only[go_sem]<;>(try omega));exact fillF_start _ _ _) ⟨by omega,?_⟩ (fun i ⟨hi,hj⟩=>?_)
 rotate_left
 simp only[go_sem]
 have hm:i*2+2≤2*xs.length∨xs.length≤i:=by omega
 repeat' first|(refine sw_freezeAt 6 3 2 .any (xs.map RuleD) rfl rfl (by rw[show i=xs.length by omega];exact fillF_done RuleD _ xs) (by rw[List.length_map]) (cells_n fun _=>rfl) (fillF_memOk (fun j d hd=>by revert d hd;simp[D.memOk]) (by simp[D.memOk])) (.inl rfl) ?_;simp only[go_sem])|refine sw_seq ?_|refine sw_block ?_|refine sw_inBlock ?_|refine sw_skip ?_|refine sw_go 0 kp23 fun K hK=>?_|((first|refine runL_go ?_|refine sw_ret (ret0 ?_)|refine sw_ret ?_);simp (disch:=(refine Om.mk ?_;omega)) only[go_sem,Tryz.results23])|(refine hK.nil ?_;clear hK K;simp only[go_sem])|((first|refine sw_cond rfl ?_ ?_)<;>intro h<;>try simp (disch:=(refine Om.mk ?_;omega)) only[go_sem] at h)|refine sw_exit rfl ?_|refine sw_loopEnd ?_|refine hK.c0 rfl rfl rfl (toRule_fc _ (by exact hq i (by omega))) rfl rfl rfl ?_|(with_reducible refine And.intro (by first|omega|(simp only[lens];omega)) ?_)|fail
 ·exact⟨i+1,(by(refine covers_mk0 rfl rfl ?_ ?_ ?_ ?_<;>simp (disch:=(refine Om.mk ?_;omega)) only[go_sem]<;>(try omega));exact fillF_put (f:=fun j=>[.sl .any (((xs.getD j default)).l.map (.int .i64)),.sl .any (((xs.getD j default)).r.map (.int .i64))]) (fun _=>rfl) rfl (by omega)),by omega,by omega⟩
 ·trivial
def kp24:List (Nat×List Nat):=[(0,[1,2]),(1,[1,2,3]),(2,[1,2,3]),(3,[1,2,3]),(4,[1,2,3]),(5,[2,3]),(6,[2])]
attribute [go_sem] kp24
theorem toPairStep_fc (x:PairStepT) (hn:cntPairStep x≤1048576):FC S 24 [] [] [] [PairStepD x] (PairStepD x) [] []:=by
 have hn':=hn
 simp only[cntPairStep] at hn'
 refine fc_body Tryz.func24 rfl (by kernel_rfl) (by simp[Tryz.f24]) fun B=>?_
 simp only[Tryz.ntmps24,enumD,lst0,Nat.reduceAdd]
 repeat' first|refine sw_seq ?_|refine sw_go 0 kp24 fun K hK=>?_|((first|refine runL_go ?_|refine sw_ret (ret0 ?_)|refine sw_ret ?_);simp (disch:=(refine Om.mk ?_;omega)) only[go_sem,Tryz.results24])|(refine hK.nil ?_;clear hK K;simp only[go_sem])|refine hK.c0 rfl rfl rfl (toInt64S_fc _ _ (by omega)) rfl rfl rfl ?_|refine hK.c0 rfl rfl rfl (toPolyS_fc _ _ (by omega)) rfl rfl rfl ?_|fail
 all_goals exact D.le.refl _
def kp7:List (Nat×List Nat):=[(0,[1,2]),(1,[1,2,3]),(2,[1,2,3]),(3,[2,3]),(4,[2])]
attribute [go_sem] kp7
theorem toSystem_fc (x:SystemT) (hn:cntSystem x≤1048576):FC S 7 [] [] [] [SystemD x] (SystemD x) [] []:=by
 have hn':=hn
 simp only[cntSystem] at hn'
 refine fc_body Tryz.func7 rfl (by kernel_rfl) (by simp[Tryz.f7]) fun B=>?_
 simp only[Tryz.ntmps7,enumD,lst0,Nat.reduceAdd]
 repeat' first|refine sw_seq ?_|refine sw_go 0 kp7 fun K hK=>?_|((first|refine runL_go ?_|refine sw_ret (ret0 ?_)|refine sw_ret ?_);simp (disch:=(refine Om.mk ?_;omega)) only[go_sem,Tryz.results7])|(refine hK.nil ?_;clear hK K;simp only[go_sem])|refine hK.c0 rfl rfl rfl (toSig_fc _ (by omega)) rfl rfl rfl ?_|refine hK.c0 rfl rfl rfl (toRuleS_fc _ _ (by omega)) rfl rfl rfl ?_|fail
 all_goals exact D.le.refl _
def kp8:List (Nat×List Nat):=[(0,[0]),(1,[0,3]),(2,[0,3,4]),(3,[0,3,4,11]),(5,[0,3,4]),(4,[0,3,4]),(6,[2])]
attribute [go_sem] kp8
theorem toPairStepS_fc (tk:Tk) (xs:List PairStepT) (hn:cntPairStepS xs≤1048576):FC S 8 [] [] [] [.sl tk (xs.map PairStepD)] (.sl .any (xs.map PairStepD)) [] []:=by
 have hl:xs.length≤1048576:=by unfold cntPairStepS at hn;omega
 have hq:∀i<xs.length,cntPairStep (xs.getD i default)≤1048576:=fun i hi=>by
  have:=f_le_sum cntPairStep xs i hi
  unfold cntPairStepS at hn;omega
 refine fc_body Tryz.func8 rfl (by kernel_rfl) (by simp[Tryz.f8]) fun B=>?_
 simp only[Tryz.ntmps8,enumD,lst0,Nat.reduceAdd]
 refine sw_bnd 0 rfl fun hb0=>?_
 simp only[D.bnd,List.length_map] at hb0
 repeat' first|refine sw_seq ?_|refine sw_block ?_|refine sw_go 0 kp8 fun K hK=>?_|((first|refine runL_go ?_|refine sw_ret (ret0 ?_)|refine sw_ret ?_);simp (disch:=(refine Om.mk ?_;omega)) only[go_sem,Tryz.results8])|(refine hK.nil ?_;clear hK K;simp only[go_sem])|(with_reducible refine And.intro (by first|omega|(simp only[lens];omega)) ?_)|fail
 refine sw_loopU (ι:=Nat) (fun i=>[(4,.int .i64 i)]) (fun i=>[(7,fillF (fun j=>[.sl .any (((xs.getD j default)).part.map (.int .i64)),.sl .any (((xs.getD j default)).proj.map (.int .i64)),.sl .any (((xs.getD j default)).polys.map PolyD),.sl .any (((xs.getD j default)).gone.map (.int .i64))]) [.sl .nil [],.sl .nil [],.sl .nil [],.sl .nil []] i xs.length)]) (fun i=>i≤xs.length∧(True)) (fun i=>xs.length-i) 0 (by(refine covers_mk0 rfl rfl ?_ ?_ ?_ ?_<;>simp (disch:=(refine Om.mk ?_;omega)) only[go_sem]<;>(try omega));exact fillF_start _ _ _) ⟨by omega,?_⟩ (fun i ⟨hi,hj⟩=>?_)
 rotate_left
 simp only[go_sem]
 have hm:i*4+4≤4*xs.length∨xs.length≤i:=by omega
 repeat' first|(refine sw_freezeAt 6 3 4 .any (xs.map PairStepD) rfl rfl (by rw[show i=xs.length by omega];exact fillF_done PairStepD _ xs) (by rw[List.length_map]) (cells_n fun _=>rfl) (fillF_memOk (fun j d hd=>by revert d hd;simp[D.memOk]) (by simp[D.memOk])) (.inl rfl) ?_;simp only[go_sem])|refine sw_seq ?_|refine sw_block ?_|refine sw_inBlock ?_|refine sw_skip ?_|refine sw_go 0 kp8 fun K hK=>?_|((first|refine runL_go ?_|refine sw_ret (ret0 ?_)|refine sw_ret ?_);simp (disch:=(refine Om.mk ?_;omega)) only[go_sem,Tryz.results8])|(refine hK.nil ?_;clear hK K;simp only[go_sem])|((first|refine sw_cond rfl ?_ ?_)<;>intro h<;>try simp (disch:=(refine Om.mk ?_;omega)) only[go_sem] at h)|refine sw_exit rfl ?_|refine sw_loopEnd ?_|refine hK.c0 rfl rfl rfl (toPairStep_fc _ (by exact hq i (by omega))) rfl rfl rfl ?_|(with_reducible refine And.intro (by first|omega|(simp only[lens];omega)) ?_)|fail
 ·exact⟨i+1,(by(refine covers_mk0 rfl rfl ?_ ?_ ?_ ?_<;>simp (disch:=(refine Om.mk ?_;omega)) only[go_sem]<;>(try omega));exact fillF_put (f:=fun j=>[.sl .any (((xs.getD j default)).part.map (.int .i64)),.sl .any (((xs.getD j default)).proj.map (.int .i64)),.sl .any (((xs.getD j default)).polys.map PolyD),.sl .any (((xs.getD j default)).gone.map (.int .i64))]) (fun _=>rfl) rfl (by omega)),by omega,by omega⟩
 ·trivial
end Go.Proofs.YtohnfgligddanaaGreat
end
