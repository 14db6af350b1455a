/-
  Ty, HFnExactFirstMarked, A01, one behind the other.
-/
import Derived.Test.YtpennhjjnlkbiaaGreatSet
import Derived.Test.YtpennhjjnlkbiaaGreatLgK4
import Derived.Test.YtpennhjjnlkbiaaGreatLgK5
section
namespace Go.Proofs.YtpennhjjnlkbiaaGreat
open Go Go.Lg
def IntsD (x:List Int):D:=.sl .any (x.map (.int .i64))
attribute [go_sem] IntsD
theorem ints_set (ys:List (List Int)) (i:Nat) (u:List Int):(ys.map IntsD).set i (.sl .any (u.map (.int .i64)))=(ys.set i u).map IntsD:=by rw[List.map_set];rfl
attribute [go_sem] ints_set
def cntInt64S (xs:List Int):Nat:=xs.length
def SigD (x:List Int):D:=.agg [.sl .any (x.map (.int .i64))]
attribute [go_sem] SigD
def cntSig (x:List Int):Nat:=cntInt64S x
def cntInt64SS (xs:List (List Int)):Nat:=xs.length+(xs.map cntInt64S).sum
def cntSubst (x:List (List Int)):Nat:=cntInt64SS x
structure RuleT where
 l:List Int
 r:List Int
 deriving Inhabited
def RuleD (x:RuleT):D:=.agg [.sl .any (x.l.map (.int .i64)),.sl .any (x.r.map (.int .i64))]
attribute [go_sem] RuleD
def cntRule (x:RuleT):Nat:=cntInt64S x.l+cntInt64S x.r
def cntRuleS (xs:List RuleT):Nat:=xs.length+(xs.map cntRule).sum
structure SystemT where
 sig:List Int
 rules:List RuleT
 deriving Inhabited
def SystemD (x:SystemT):D:=.agg [.sl .any (x.sig.map (.int .i64)),.sl .any (x.rules.map RuleD)]
attribute [go_sem] SystemD
def cntSystem (x:SystemT):Nat:=cntSig x.sig+cntRuleS x.rules
structure StepT where
 at_:Int
 rule:Int
 to:List Int
 deriving Inhabited
def cntStep (x:StepT):Nat:=cntInt64S x.to
def cntStepS (xs:List StepT):Nat:=xs.length+(xs.map cntStep).sum
structure WalkT where
 frm:List Int
 steps:List StepT
 deriving Inhabited
def cntWalk (x:WalkT):Nat:=cntInt64S x.frm+cntStepS x.steps
structure PolyT where
 const:Int
 coef:List Int
 deriving Inhabited
def PolyD (x:PolyT):D:=.agg [.int .i64 x.const,.sl .any (x.coef.map (.int .i64))]
attribute [go_sem] PolyD
structure DepPairT where
 l:List Int
 r:List Int
 rule:Int
 at_:Int
 deriving Inhabited
def DepPairD (x:DepPairT):D:=.agg [.sl .any (x.l.map (.int .i64)),.sl .any (x.r.map (.int .i64)),.int .i64 x.rule,.int .i64 x.at_]
attribute [go_sem] DepPairD
theorem szd_rng {b:Int} {n:Nat} (h:-1≤b∧b≤1048576):-1≤szd b n∧szd b n≤1048576:=by unfold szd;split<;>omega
end Go.Proofs.YtpennhjjnlkbiaaGreat
end
section
namespace Go.Proofs.YtpennhjjnlkbiaaGreat
open Go Go.Lg
set_option linter.unusedSimpArgs false
set_option maxHeartbeats 4000000
attribute [local irreducible] SW runL runQ runG runQG FC Ret Ret1
def kp13:List (Nat×List Nat):=[(0,[0,1]),(1,[0,1,10]),(2,[4]),(3,[0,1,5]),(4,[0,1,5,14]),(6,[0,1,5,25]),(7,[4]),(5,[0,1,5]),(8,[4])]
attribute [go_sem] kp13
theorem eqInt64S_fc (tk tk':Tk) (xs ys:List Int):FC S 13 [] [] [] [.sl tk (xs.map (.int .i64)),.sl tk' (ys.map (.int .i64))] (.bool (tst (xs=ys))) [] []:=by
 refine fc_body Tryz.func13 rfl (by kernel_rfl) (by simp[Tryz.f13]) fun B=>?_
 simp only[Tryz.ntmps13,enumD,lst0,Nat.reduceAdd]
 refine sw_bnd 0 rfl fun hb0=>?_
 simp only[D.bnd,List.length_map] at hb0
 refine sw_bnd 1 rfl fun hb1=>?_
 simp only[D.bnd,List.length_map] at hb1
 repeat' first|refine sw_seq ?_|refine sw_block ?_|refine sw_inBlock ?_|refine sw_skip ?_|refine sw_go 0 kp13 fun K hK=>?_|refine fun (K:KT) (hK:KOk S 0 _ _ _ K)=>?_|refine sw_goD kp13 (by kernel_rfl) fun K hK=>?_|((first|refine runL_go ?_|refine runQ_go ?_|refine sw_ret (ret0 ?_)|refine sw_ret ?_);simp (disch:=(refine Om.mk ?_;omega)) only[go_sem,Tryz.results13])|(refine hK.nil ?_;clear hK K;simp only[go_sem])|((first|refine sw_cond rfl ?_ ?_)<;>intro h<;>try simp (disch:=(refine Om.mk ?_;omega)) only[go_sem] at h)|refine sw_exit rfl ?_|refine sw_loopEnd ?_|(with_reducible refine And.intro (by first|omega|(simp only[lens];omega)) ?_)|fail
 ·intro e;exact h (by rw[e])
 refine sw_loopU (ι:=Nat) (fun i=>[(5,.int .i64 i)]) (fun _=>[]) (fun i=>i≤xs.length∧(∀j<i,xs.getD j default=ys.getD j default)) (fun i=>xs.length-i) 0 (by(refine covers_mk0 rfl rfl ?_ ?_ ?_ ?_<;>simp (disch:=(refine Om.mk ?_;omega)) only[go_sem]<;>(try omega))) ⟨by omega,?_⟩ (fun i ⟨hi,hj⟩=>?_)
 rotate_left
 simp only[go_sem]
 repeat' first|refine sw_seq ?_|refine sw_block ?_|refine sw_inBlock ?_|refine sw_skip ?_|refine sw_go 0 kp13 fun K hK=>?_|refine fun (K:KT) (hK:KOk S 0 _ _ _ K)=>?_|refine sw_goD kp13 (by kernel_rfl) fun K hK=>?_|((first|refine runL_go ?_|refine runQ_go ?_|refine sw_ret (ret0 ?_)|refine sw_ret ?_);simp (disch:=(refine Om.mk ?_;omega)) only[go_sem,Tryz.results13])|(refine hK.nil ?_;clear hK K;simp only[go_sem])|((first|refine sw_cond rfl ?_ ?_)<;>intro h<;>try simp (disch:=(refine Om.mk ?_;omega)) only[go_sem] at h)|refine sw_exit rfl ?_|refine sw_loopEnd ?_|(with_reducible refine And.intro (by first|omega|(simp only[lens];omega)) ?_)|fail
 ·intro e;exact h (by rw[e])
 ·exact⟨i+1,by(refine covers_mk0 rfl rfl ?_ ?_ ?_ ?_<;>simp (disch:=(refine Om.mk ?_;omega)) only[go_sem]<;>(try omega)),⟨by omega,upto_succ hj (by assumption)⟩,by omega⟩
 ·exact ext_getD (by assumption) fun j hj'=>hj j (by omega)
 ·intro j hj';omega
def kp41:List (Nat×List Nat):=[(0,[2,3]),(1,[2,3,9]),(2,[4]),(3,[15]),(4,[4]),(5,[4])]
attribute [go_sem] kp41
theorem eqPoly_fc (x y:PolyT):FC S 41 [] [] [] [PolyD x,PolyD y] (.bool (tst (x=y))) [] []:=by
 refine fc_body Tryz.func41 rfl (by kernel_rfl) (by simp[Tryz.f41]) fun B=>?_
 simp only[Tryz.ntmps41,enumD,lst0,Nat.reduceAdd]
 repeat' first|refine sw_seq ?_|refine sw_skip ?_|refine sw_go 0 kp41 fun K hK=>?_|refine fun (K:KT) (hK:KOk S 0 _ _ _ K)=>?_|((first|refine runL_go ?_|refine sw_ret (ret0 ?_)|refine sw_ret ?_);simp (disch:=(refine Om.mk ?_;omega)) only[go_sem,Tryz.results41])|(refine hK.nil ?_;clear hK K;simp only[go_sem])|((first|refine sw_cond rfl ?_ ?_)<;>intro h<;>try simp (disch:=(refine Om.mk ?_;omega)) only[go_sem] at h)|refine sw_loopEnd ?_|refine hK.c0 rfl rfl rfl (eqInt64S_fc _ _ _ _) rfl rfl rfl ?_|(with_reducible refine And.intro (by first|omega|(simp only[lens];omega)) ?_)|fail
 all_goals first|assumption|(intro e;subst e;contradiction)|(cases x;cases y;simp_all)
def kp81:List (Nat×List Nat):=[(0,[2,3]),(1,[2,3,10]),(2,[4]),(3,[16]),(4,[4]),(5,[4])]
attribute [go_sem] kp81
theorem eqRule_fc (x y:RuleT):FC S 81 [] [] [] [RuleD x,RuleD y] (.bool (tst (x=y))) [] []:=by
 refine fc_body Tryz.func81 rfl (by kernel_rfl) (by simp[Tryz.f81]) fun B=>?_
 simp only[Tryz.ntmps81,enumD,lst0,Nat.reduceAdd]
 repeat' first|refine sw_seq ?_|refine sw_skip ?_|refine sw_go 0 kp81 fun K hK=>?_|refine fun (K:KT) (hK:KOk S 0 _ _ _ K)=>?_|((first|refine runL_go ?_|refine sw_ret (ret0 ?_)|refine sw_ret ?_);simp (disch:=(refine Om.mk ?_;omega)) only[go_sem,Tryz.results81])|(refine hK.nil ?_;clear hK K;simp only[go_sem])|((first|refine sw_cond rfl ?_ ?_)<;>intro h<;>try simp (disch:=(refine Om.mk ?_;omega)) only[go_sem] at h)|refine sw_loopEnd ?_|refine hK.c0 rfl rfl rfl (eqInt64S_fc _ _ _ _) rfl rfl rfl ?_|(with_reducible refine And.intro (by first|omega|(simp only[lens];omega)) ?_)|fail
 all_goals first|assumption|(intro e;subst e;contradiction)|(cases x;cases y;simp_all)
def kp42:List (Nat×List Nat):=[(0,[2,3]),(1,[10]),(2,[4]),(3,[4])]
attribute [go_sem] kp42
theorem eqSig_fc (x y:List Int):FC S 42 [] [] [] [SigD x,SigD y] (.bool (tst (x=y))) [] []:=by
 refine fc_body Tryz.func42 rfl (by kernel_rfl) (by simp[Tryz.f42]) fun B=>?_
 simp only[Tryz.ntmps42,enumD,lst0,Nat.reduceAdd]
 repeat' first|refine sw_seq ?_|refine sw_skip ?_|refine sw_go 0 kp42 fun K hK=>?_|refine fun (K:KT) (hK:KOk S 0 _ _ _ K)=>?_|((first|refine runL_go ?_|refine sw_ret (ret0 ?_)|refine sw_ret ?_);simp (disch:=(refine Om.mk ?_;omega)) only[go_sem,Tryz.results42])|(refine hK.nil ?_;clear hK K;simp only[go_sem])|((first|refine sw_cond rfl ?_ ?_)<;>intro h<;>try simp (disch:=(refine Om.mk ?_;omega)) only[go_sem] at h)|refine sw_loopEnd ?_|refine hK.c0 rfl rfl rfl (eqInt64S_fc _ _ _ _) rfl rfl rfl ?_|(with_reducible refine And.intro (by first|omega|(simp only[lens];omega)) ?_)|fail
 all_goals first|assumption|(intro e;subst e;contradiction)|(cases x;cases y;simp_all)
def kp11:List (Nat×List Nat):=[(0,[0,1]),(1,[0,1,10]),(2,[4]),(3,[0,1,5]),(4,[0,1,5,14]),(6,[0,1,5,26]),(7,[4]),(5,[0,1,5]),(8,[4])]
attribute [go_sem] kp11
theorem eqPolyS_fc (tk tk':Tk) (xs ys:List PolyT):FC S 11 [] [] [] [.sl tk (xs.map PolyD),.sl tk' (ys.map PolyD)] (.bool (tst (xs=ys))) [] []:=by
 refine fc_body Tryz.func11 rfl (by kernel_rfl) (by simp[Tryz.f11]) fun B=>?_
 simp only[Tryz.ntmps11,enumD,lst0,Nat.reduceAdd]
 refine sw_bnd 0 rfl fun hb0=>?_
 simp only[D.bnd,List.length_map] at hb0
 refine sw_bnd 1 rfl fun hb1=>?_
 simp only[D.bnd,List.length_map] at hb1
 repeat' first|refine sw_seq ?_|refine sw_block ?_|refine sw_inBlock ?_|refine sw_skip ?_|refine sw_go 0 kp11 fun K hK=>?_|refine fun (K:KT) (hK:KOk S 0 _ _ _ K)=>?_|refine sw_goD kp11 (by kernel_rfl) fun K hK=>?_|((first|refine runL_go ?_|refine runQ_go ?_|refine sw_ret (ret0 ?_)|refine sw_ret ?_);simp (disch:=(refine Om.mk ?_;omega)) only[go_sem,Tryz.results11])|(refine hK.nil ?_;clear hK K;simp only[go_sem])|((first|refine sw_cond rfl ?_ ?_)<;>intro h<;>try simp (disch:=(refine Om.mk ?_;omega)) only[go_sem] at h)|refine sw_exit rfl ?_|refine sw_loopEnd ?_|(with_reducible refine And.intro (by first|omega|(simp only[lens];omega)) ?_)|fail
 ·intro e;exact h (by rw[e])
 refine sw_loopU (ι:=Nat) (fun i=>[(5,.int .i64 i)]) (fun _=>[]) (fun i=>i≤xs.length∧(∀j<i,xs.getD j default=ys.getD j default)) (fun i=>xs.length-i) 0 (by(refine covers_mk0 rfl rfl ?_ ?_ ?_ ?_<;>simp (disch:=(refine Om.mk ?_;omega)) only[go_sem]<;>(try omega))) ⟨by omega,?_⟩ (fun i ⟨hi,hj⟩=>?_)
 rotate_left
 simp only[go_sem]
 repeat' first|refine sw_seq ?_|refine sw_block ?_|refine sw_inBlock ?_|refine sw_skip ?_|refine sw_go 0 kp11 fun K hK=>?_|refine fun (K:KT) (hK:KOk S 0 _ _ _ K)=>?_|refine sw_goD kp11 (by kernel_rfl) fun K hK=>?_|((first|refine runL_go ?_|refine runQ_go ?_|refine sw_ret (ret0 ?_)|refine sw_ret ?_);simp (disch:=(refine Om.mk ?_;omega)) only[go_sem,Tryz.results11])|(refine hK.nil ?_;clear hK K;simp only[go_sem])|((first|refine sw_cond rfl ?_ ?_)<;>intro h<;>try simp (disch:=(refine Om.mk ?_;omega)) only[go_sem] at h)|refine sw_exit rfl ?_|refine sw_loopEnd ?_|refine hK.c0 rfl rfl rfl (eqPoly_fc _ _) rfl rfl rfl ?_|(with_reducible refine And.intro (by first|omega|(simp only[lens];omega)) ?_)|fail
 ·intro e;exact h (by rw[e])
 ·exact⟨i+1,by(refine covers_mk0 rfl rfl ?_ ?_ ?_ ?_<;>simp (disch:=(refine Om.mk ?_;omega)) only[go_sem]<;>(try omega)),⟨by omega,upto_succ hj (by assumption)⟩,by omega⟩
 ·exact ext_getD (by assumption) fun j hj'=>hj j (by omega)
 ·intro j hj';omega
def kp43:List (Nat×List Nat):=[(0,[0,1]),(1,[0,1,10]),(2,[4]),(3,[0,1,5]),(4,[0,1,5,14]),(6,[0,1,5,26]),(7,[4]),(5,[0,1,5]),(8,[4])]
attribute [go_sem] kp43
theorem eqRuleS_fc (tk tk':Tk) (xs ys:List RuleT):FC S 43 [] [] [] [.sl tk (xs.map RuleD),.sl tk' (ys.map RuleD)] (.bool (tst (xs=ys))) [] []:=by
 refine fc_body Tryz.func43 rfl (by kernel_rfl) (by simp[Tryz.f43]) fun B=>?_
 simp only[Tryz.ntmps43,enumD,lst0,Nat.reduceAdd]
 refine sw_bnd 0 rfl fun hb0=>?_
 simp only[D.bnd,List.length_map] at hb0
 refine sw_bnd 1 rfl fun hb1=>?_
 simp only[D.bnd,List.length_map] at hb1
 repeat' first|refine sw_seq ?_|refine sw_block ?_|refine sw_inBlock ?_|refine sw_skip ?_|refine sw_go 0 kp43 fun K hK=>?_|refine fun (K:KT) (hK:KOk S 0 _ _ _ K)=>?_|refine sw_goD kp43 (by kernel_rfl) fun K hK=>?_|((first|refine runL_go ?_|refine runQ_go ?_|refine sw_ret (ret0 ?_)|refine sw_ret ?_);simp (disch:=(refine Om.mk ?_;omega)) only[go_sem,Tryz.results43])|(refine hK.nil ?_;clear hK K;simp only[go_sem])|((first|refine sw_cond rfl ?_ ?_)<;>intro h<;>try simp (disch:=(refine Om.mk ?_;omega)) only[go_sem] at h)|refine sw_exit rfl ?_|refine sw_loopEnd ?_|(with_reducible refine And.intro (by first|omega|(simp only[lens];omega)) ?_)|fail
 ·intro e;exact h (by rw[e])
 refine sw_loopU (ι:=Nat) (fun i=>[(5,.int .i64 i)]) (fun _=>[]) (fun i=>i≤xs.length∧(∀j<i,xs.getD j default=ys.getD j default)) (fun i=>xs.length-i) 0 (by(refine covers_mk0 rfl rfl ?_ ?_ ?_ ?_<;>simp (disch:=(refine Om.mk ?_;omega)) only[go_sem]<;>(try omega))) ⟨by omega,?_⟩ (fun i ⟨hi,hj⟩=>?_)
 rotate_left
 simp only[go_sem]
 repeat' first|refine sw_seq ?_|refine sw_block ?_|refine sw_inBlock ?_|refine sw_skip ?_|refine sw_go 0 kp43 fun K hK=>?_|refine fun (K:KT) (hK:KOk S 0 _ _ _ K)=>?_|refine sw_goD kp43 (by kernel_rfl) fun K hK=>?_|((first|refine runL_go ?_|refine runQ_go ?_|refine sw_ret (ret0 ?_)|refine sw_ret ?_);simp (disch:=(refine Om.mk ?_;omega)) only[go_sem,Tryz.results43])|(refine hK.nil ?_;clear hK K;simp only[go_sem])|((first|refine sw_cond rfl ?_ ?_)<;>intro h<;>try simp (disch:=(refine Om.mk ?_;omega)) only[go_sem] at h)|refine sw_exit rfl ?_|refine sw_loopEnd ?_|refine hK.c0 rfl rfl rfl (eqRule_fc _ _) rfl rfl rfl ?_|(with_reducible refine And.intro (by first|omega|(simp only[lens];omega)) ?_)|fail
 ·intro e;exact h (by rw[e])
 ·exact⟨i+1,by(refine covers_mk0 rfl rfl ?_ ?_ ?_ ?_<;>simp (disch:=(refine Om.mk ?_;omega)) only[go_sem]<;>(try omega)),⟨by omega,upto_succ hj (by assumption)⟩,by omega⟩
 ·exact ext_getD (by assumption) fun j hj'=>hj j (by omega)
 ·intro j hj';omega
def kp12:List (Nat×List Nat):=[(0,[2,3]),(1,[2,3,10]),(2,[4]),(3,[16]),(4,[4]),(5,[4])]
attribute [go_sem] kp12
theorem eqSystem_fc (x y:SystemT):FC S 12 [] [] [] [SystemD x,SystemD y] (.bool (tst (x=y))) [] []:=by
 refine fc_body Tryz.func12 rfl (by kernel_rfl) (by simp[Tryz.f12]) fun B=>?_
 simp only[Tryz.ntmps12,enumD,lst0,Nat.reduceAdd]
 repeat' first|refine sw_seq ?_|refine sw_skip ?_|refine sw_go 0 kp12 fun K hK=>?_|refine fun (K:KT) (hK:KOk S 0 _ _ _ K)=>?_|((first|refine runL_go ?_|refine sw_ret (ret0 ?_)|refine sw_ret ?_);simp (disch:=(refine Om.mk ?_;omega)) only[go_sem,Tryz.results12])|(refine hK.nil ?_;clear hK K;simp only[go_sem])|((first|refine sw_cond rfl ?_ ?_)<;>intro h<;>try simp (disch:=(refine Om.mk ?_;omega)) only[go_sem] at h)|refine sw_loopEnd ?_|refine hK.c0 rfl rfl rfl (eqSig_fc _ _) rfl rfl rfl ?_|refine hK.c0 rfl rfl rfl (eqRuleS_fc _ _ _ _) rfl rfl rfl ?_|(with_reducible refine And.intro (by first|omega|(simp only[lens];omega)) ?_)|fail
 all_goals first|assumption|(intro e;subst e;contradiction)|(cases x;cases y;simp_all)
def kp60:List (Nat×List Nat):=[(0,[0,1]),(1,[1]),(2,[1,10]),(3,[4]),(4,[4])]
attribute [go_sem] kp60
theorem szInt64S_fc (tk:Tk) (xs:List Int) (b:Int) (hb:-1≤b∧b≤1048576):FC S 60 [] [] [] [.sl tk (xs.map (.int .i64)),.int .i64 b] (.int .i64 (szd b (cntInt64S xs))) [] []:=by
 refine fc_body Tryz.func60 rfl (by kernel_rfl) (by simp[Tryz.f60]) fun B=>?_
 simp only[Tryz.ntmps60,enumD,lst0,Nat.reduceAdd]
 refine sw_bnd 0 rfl fun hb0=>?_
 simp only[D.bnd,List.length_map] at hb0
 repeat' first|refine sw_seq ?_|refine sw_skip ?_|refine sw_go 0 kp60 fun K hK=>?_|refine fun (K:KT) (hK:KOk S 0 _ _ _ K)=>?_|((first|refine runL_go ?_|refine sw_ret (ret0 ?_)|refine sw_ret ?_);simp (disch:=(refine Om.mk ?_;omega)) only[go_sem,Tryz.results60])|(refine hK.nil ?_;clear hK K;simp only[go_sem])|((first|refine sw_cond rfl ?_ ?_)<;>intro h<;>try simp (disch:=(refine Om.mk ?_;omega)) only[go_sem] at h)|refine sw_loopEnd ?_|(with_reducible refine And.intro (by first|omega|(simp only[lens];omega)) ?_)|fail
 all_goals (simp only[szd,cntInt64S] at *;grind)
def kp61:List (Nat×List Nat):=[(0,[1,2]),(1,[1,2]),(2,[1,2,10]),(3,[4]),(4,[1]),(5,[1,16]),(6,[4]),(7,[4])]
attribute [go_sem] kp61
theorem szRule_fc (x:RuleT) (b:Int) (hb:-1≤b∧b≤1048576):FC S 61 [] [] [] [RuleD x,.int .i64 b] (.int .i64 (szd b (cntRule x))) [] []:=by
 refine fc_body Tryz.func61 rfl (by kernel_rfl) (by simp[Tryz.f61]) fun B=>?_
 simp only[Tryz.ntmps61,enumD,lst0,Nat.reduceAdd]
 repeat' first|refine sw_seq ?_|refine sw_skip ?_|refine sw_go 0 kp61 fun K hK=>?_|refine fun (K:KT) (hK:KOk S 0 _ _ _ K)=>?_|((first|refine runL_go ?_|refine sw_ret (ret0 ?_)|refine sw_ret ?_);simp (disch:=(refine Om.mk ?_;omega)) only[go_sem,Tryz.results61])|(refine hK.nil ?_;clear hK K;simp only[go_sem])|((first|refine sw_cond rfl ?_ ?_)<;>intro h<;>try simp (disch:=(refine Om.mk ?_;omega)) only[go_sem] at h)|refine sw_loopEnd ?_|refine hK.c0 rfl rfl rfl (szInt64S_fc _ _ _ (by(first|exact hb|exact szd_rng hb|exact szd_rng (szd_rng hb)|exact szd_rng (szd_rng (szd_rng hb))|exact szd_rng (szd_rng (szd_rng (szd_rng hb)))|exact szd_rng (szd_rng (szd_rng (szd_rng (szd_rng hb))))|omega))) rfl rfl rfl ?_|(with_reducible refine And.intro (by first|omega|(simp only[lens];omega)) ?_)|fail
 all_goals (simp only[szd,cntRule] at *;grind)
def kp25:List (Nat×List Nat):=[(0,[1,2]),(1,[1]),(2,[1,10]),(3,[4]),(4,[4])]
attribute [go_sem] kp25
theorem szSig_fc (x:List Int) (b:Int) (hb:-1≤b∧b≤1048576):FC S 25 [] [] [] [SigD x,.int .i64 b] (.int .i64 (szd b (cntSig x))) [] []:=by
 refine fc_body Tryz.func25 rfl (by kernel_rfl) (by simp[Tryz.f25]) fun B=>?_
 simp only[Tryz.ntmps25,enumD,lst0,Nat.reduceAdd]
 repeat' first|refine sw_seq ?_|refine sw_skip ?_|refine sw_go 0 kp25 fun K hK=>?_|refine fun (K:KT) (hK:KOk S 0 _ _ _ K)=>?_|((first|refine runL_go ?_|refine sw_ret (ret0 ?_)|refine sw_ret ?_);simp (disch:=(refine Om.mk ?_;omega)) only[go_sem,Tryz.results25])|(refine hK.nil ?_;clear hK K;simp only[go_sem])|((first|refine sw_cond rfl ?_ ?_)<;>intro h<;>try simp (disch:=(refine Om.mk ?_;omega)) only[go_sem] at h)|refine sw_loopEnd ?_|refine hK.c0 rfl rfl rfl (szInt64S_fc _ _ _ (by(first|exact hb|exact szd_rng hb|exact szd_rng (szd_rng hb)|exact szd_rng (szd_rng (szd_rng hb))|exact szd_rng (szd_rng (szd_rng (szd_rng hb)))|exact szd_rng (szd_rng (szd_rng (szd_rng (szd_rng hb))))|omega))) rfl rfl rfl ?_|(with_reducible refine And.intro (by first|omega|(simp only[lens];omega)) ?_)|fail
 all_goals (simp only[szd,cntSig] at *;grind)
def kp26:List (Nat×List Nat):=[(0,[0,1]),(1,[0,1]),(2,[0,1,11]),(3,[4]),(4,[0,1,5]),(5,[0,1,5,15]),(7,[0,1,5]),(8,[0,1,5,25]),(9,[4]),(6,[0,1,5]),(10,[4])]
attribute [go_sem] kp26
theorem szRuleS_fc (tk:Tk) (xs:List RuleT) (b:Int) (hb:-1≤b∧b≤1048576):FC S 26 [] [] [] [.sl tk (xs.map RuleD),.int .i64 b] (.int .i64 (szd b (cntRuleS xs))) [] []:=by
 refine fc_body Tryz.func26 rfl (by kernel_rfl) (by simp[Tryz.f26]) fun B=>?_
 simp only[Tryz.ntmps26,enumD,lst0,Nat.reduceAdd]
 refine sw_bnd 0 rfl fun hb0=>?_
 simp only[D.bnd,List.length_map] at hb0
 repeat' first|refine sw_seq ?_|refine sw_block ?_|refine sw_inBlock ?_|refine sw_skip ?_|refine sw_go 0 kp26 fun K hK=>?_|refine fun (K:KT) (hK:KOk S 0 _ _ _ K)=>?_|((first|refine runL_go ?_|refine sw_ret (ret0 ?_)|refine sw_ret ?_);simp (disch:=(refine Om.mk ?_;omega)) only[go_sem,Tryz.results26])|(refine hK.nil ?_;clear hK K;simp only[go_sem])|((first|refine sw_cond rfl ?_ ?_)<;>intro h<;>try simp (disch:=(refine Om.mk ?_;omega)) only[go_sem] at h)|refine sw_exit rfl ?_|refine sw_loopEnd ?_|(with_reducible refine And.intro (by first|omega|(simp only[lens];omega)) ?_)|fail
 ·simp only[szd,cntRuleS];grind
 refine sw_loopU (ι:=Nat) (fun i=>[(5,.int .i64 i),(1,.int .i64 (b-xs.length-csum cntRule xs i))]) (fun _=>[]) (fun i=>i≤xs.length∧(0≤b-xs.length-csum cntRule xs i)) (fun i=>xs.length-i) 0 (by(refine covers_mk0 rfl rfl ?_ ?_ ?_ ?_<;>simp (disch:=(refine Om.mk ?_;omega)) only[go_sem]<;>(try omega))) ⟨by omega,?_⟩ (fun i ⟨hi,hj⟩=>?_)
 rotate_left
 simp only[go_sem]
 repeat' first|refine sw_seq ?_|refine sw_block ?_|refine sw_inBlock ?_|refine sw_skip ?_|refine sw_go 0 kp26 fun K hK=>?_|refine fun (K:KT) (hK:KOk S 0 _ _ _ K)=>?_|((first|refine runL_go ?_|refine sw_ret (ret0 ?_)|refine sw_ret ?_);simp (disch:=(refine Om.mk ?_;omega)) only[go_sem,Tryz.results26])|(refine hK.nil ?_;clear hK K;simp only[go_sem])|((first|refine sw_cond rfl ?_ ?_)<;>intro h<;>try simp (disch:=(refine Om.mk ?_;omega)) only[go_sem] at h)|refine sw_exit rfl ?_|refine sw_loopEnd ?_|refine hK.c0 rfl rfl rfl (szRule_fc _ _ (by omega)) rfl rfl rfl ?_|(with_reducible refine And.intro (by first|omega|(simp only[lens];omega)) ?_)|fail
 ·have hs:=csum_succ cntRule xs i (by omega)
  have hl:=csum_le cntRule xs (i+1)
  simp only[szd,cntRuleS] at *;grind
 ·have hs:=csum_succ cntRule xs i (by omega)
  refine⟨i+1,(by(refine covers_mk0 rfl rfl ?_ ?_ ?_ ?_<;>simp (disch:=(refine Om.mk ?_;omega)) only[go_sem]<;>(try omega));rw[hs];simp only[szd] at *;grind),⟨by omega,?_⟩,by omega⟩
  simp only[szd] at *;grind
 ·have hs:=csum_all cntRule xs i (by omega)
  simp only[szd,cntRuleS] at *;grind
 ·rw[csum_zero];omega
def kp6:List (Nat×List Nat):=[(0,[1,2]),(1,[1,2]),(2,[1,2,10]),(3,[4]),(4,[1]),(5,[1,16]),(6,[4]),(7,[4])]
attribute [go_sem] kp6
theorem szSystem_fc (x:SystemT) (b:Int) (hb:-1≤b∧b≤1048576):FC S 6 [] [] [] [SystemD x,.int .i64 b] (.int .i64 (szd b (cntSystem x))) [] []:=by
 refine fc_body Tryz.func6 rfl (by kernel_rfl) (by simp[Tryz.f6]) fun B=>?_
 simp only[Tryz.ntmps6,enumD,lst0,Nat.reduceAdd]
 repeat' first|refine sw_seq ?_|refine sw_skip ?_|refine sw_go 0 kp6 fun K hK=>?_|refine fun (K:KT) (hK:KOk S 0 _ _ _ K)=>?_|((first|refine runL_go ?_|refine sw_ret (ret0 ?_)|refine sw_ret ?_);simp (disch:=(refine Om.mk ?_;omega)) only[go_sem,Tryz.results6])|(refine hK.nil ?_;clear hK K;simp only[go_sem])|((first|refine sw_cond rfl ?_ ?_)<;>intro h<;>try simp (disch:=(refine Om.mk ?_;omega)) only[go_sem] at h)|refine sw_loopEnd ?_|refine hK.c0 rfl rfl rfl (szSig_fc _ _ (by(first|exact hb|exact szd_rng hb|exact szd_rng (szd_rng hb)|exact szd_rng (szd_rng (szd_rng hb))|exact szd_rng (szd_rng (szd_rng (szd_rng hb)))|exact szd_rng (szd_rng (szd_rng (szd_rng (szd_rng hb))))|omega))) rfl rfl rfl ?_|refine hK.c0 rfl rfl rfl (szRuleS_fc _ _ _ (by(first|exact hb|exact szd_rng hb|exact szd_rng (szd_rng hb)|exact szd_rng (szd_rng (szd_rng hb))|exact szd_rng (szd_rng (szd_rng (szd_rng hb)))|exact szd_rng (szd_rng (szd_rng (szd_rng (szd_rng hb))))|omega))) rfl rfl rfl ?_|(with_reducible refine And.intro (by first|omega|(simp only[lens];omega)) ?_)|fail
 all_goals (simp only[szd,cntSystem] at *;grind)
def kp9:List (Nat×List Nat):=[(0,[0]),(1,[0,3]),(2,[0,3,4]),(3,[0,3,4,11]),(5,[0,3,4]),(4,[0,3,4]),(6,[2])]
attribute [go_sem] kp9
theorem toInt64S_fc (tk:Tk) (xs:List Int) (hn:cntInt64S xs≤1048576):FC S 9 [] [] [] [.sl tk (xs.map (.int .i64))] (.sl .any (xs.map (.int .i64))) [] []:=by
 have hl:xs.length≤1048576:=hn
 refine fc_body Tryz.func9 rfl (by kernel_rfl) (by simp[Tryz.f9]) fun B=>?_
 simp only[Tryz.ntmps9,enumD,lst0,Nat.reduceAdd]
 refine sw_bnd 0 rfl fun hb0=>?_
 simp only[D.bnd,List.length_map] at hb0
 repeat' first|refine sw_seq ?_|refine sw_block ?_|refine sw_inBlock ?_|refine sw_skip ?_|refine sw_go 0 kp9 fun K hK=>?_|refine fun (K:KT) (hK:KOk S 0 _ _ _ K)=>?_|((first|refine runL_go ?_|refine sw_ret (ret0 ?_)|refine sw_ret ?_);simp (disch:=(refine Om.mk ?_;omega)) only[go_sem,Tryz.results9])|(refine hK.nil ?_;clear hK K;simp only[go_sem])|((first|refine sw_cond rfl ?_ ?_)<;>intro h<;>try simp (disch:=(refine Om.mk ?_;omega)) only[go_sem] at h)|refine sw_exit rfl ?_|refine sw_loopEnd ?_|(with_reducible refine And.intro (by first|omega|(simp only[lens];omega)) ?_)|((with_reducible refine And.intro ?_ ?_);· first|(intro x hx;subst hx;rfl)|(intro x;refine And.intro ?_ ?_<;>(intros;subst_vars;rfl)))|fail
 refine sw_loopU (ι:=Nat) (fun i=>[(4,.int .i64 i)]) (fun i=>[(7,fillL (fun j=>.int .i64 (xs.getD j default)) (.int .i64 0) i xs.length)]) (fun i=>i≤xs.length∧(True)) (fun i=>xs.length-i) 0 (by(refine covers_mk0 rfl rfl ?_ ?_ ?_ ?_<;>simp (disch:=(refine Om.mk ?_;omega)) only[go_sem]<;>(try omega));exact fillL_start _ _ _) ⟨by omega,?_⟩ (fun i ⟨hi,hj⟩=>?_)
 rotate_left
 simp only[go_sem]
 repeat' first|(refine sw_freezeAt 6 3 1 .any (xs.map (.int .i64)) rfl rfl (by rw[show i=xs.length by omega];exact(fillL_done (.int .i64) _ xs).trans (flat_ones _ _ (fun _=>rfl)).symm) (by rw[List.length_map]) (cells_one fun _=>rfl) (fillL_memOk (fun _=>rfl) rfl) (.inl rfl) ?_;simp only[go_sem])|refine sw_seq ?_|refine sw_block ?_|refine sw_inBlock ?_|refine sw_skip ?_|refine sw_go 0 kp9 fun K hK=>?_|refine fun (K:KT) (hK:KOk S 0 _ _ _ K)=>?_|((first|refine runL_go ?_|refine sw_ret (ret0 ?_)|refine sw_ret ?_);simp (disch:=(refine Om.mk ?_;omega)) only[go_sem,Tryz.results9])|(refine hK.nil ?_;clear hK K;simp only[go_sem])|((first|refine sw_cond rfl ?_ ?_)<;>intro h<;>try simp (disch:=(refine Om.mk ?_;omega)) only[go_sem] at h)|refine sw_exit rfl ?_|refine sw_loopEnd ?_|(with_reducible refine And.intro (by first|omega|(simp only[lens];omega)) ?_)|((with_reducible refine And.intro ?_ ?_);· first|(intro x hx;subst hx;rfl)|(intro x;refine And.intro ?_ ?_<;>(intros;subst_vars;rfl)))|fail
 ·exact⟨i+1,(by(refine covers_mk0 rfl rfl ?_ ?_ ?_ ?_<;>simp (disch:=(refine Om.mk ?_;omega)) only[go_sem]<;>(try omega));exact fillL_set (fun j=>.int .i64 (xs.getD j default)) _ _ _),by omega,by omega⟩
 ·trivial
def kp72:List (Nat×List Nat):=[(0,[1,2]),(1,[1,2,3]),(2,[1,2,3]),(3,[2,3]),(4,[2])]
attribute [go_sem] kp72
theorem toRule_fc (x:RuleT) (hn:cntRule x≤1048576):FC S 72 [] [] [] [RuleD x] (RuleD x) [] []:=by
 have hn':=hn
 simp only[cntRule] at hn'
 refine fc_body Tryz.func72 rfl (by kernel_rfl) (by simp[Tryz.f72]) fun B=>?_
 simp only[Tryz.ntmps72,enumD,lst0,Nat.reduceAdd]
 repeat' first|refine sw_seq ?_|refine sw_skip ?_|refine sw_go 0 kp72 fun K hK=>?_|refine fun (K:KT) (hK:KOk S 0 _ _ _ K)=>?_|((first|refine runL_go ?_|refine sw_ret (ret0 ?_)|refine sw_ret ?_);simp (disch:=(refine Om.mk ?_;omega)) only[go_sem,Tryz.results72])|(refine hK.nil ?_;clear hK K;simp only[go_sem])|refine sw_loopEnd ?_|refine hK.c0 rfl rfl rfl (toInt64S_fc _ _ (by omega)) rfl rfl rfl ?_|(with_reducible refine And.intro (by first|omega|(simp only[lens];omega)) ?_)|fail
 all_goals exact D.le.refl _
def kp36:List (Nat×List Nat):=[(0,[1,2]),(1,[1,2,3]),(2,[2,3]),(3,[2])]
attribute [go_sem] kp36
theorem toSig_fc (x:List Int) (hn:cntSig x≤1048576):FC S 36 [] [] [] [SigD x] (SigD x) [] []:=by
 have hn':=hn
 simp only[cntSig] at hn'
 refine fc_body Tryz.func36 rfl (by kernel_rfl) (by simp[Tryz.f36]) fun B=>?_
 simp only[Tryz.ntmps36,enumD,lst0,Nat.reduceAdd]
 repeat' first|refine sw_seq ?_|refine sw_skip ?_|refine sw_go 0 kp36 fun K hK=>?_|refine fun (K:KT) (hK:KOk S 0 _ _ _ K)=>?_|((first|refine runL_go ?_|refine sw_ret (ret0 ?_)|refine sw_ret ?_);simp (disch:=(refine Om.mk ?_;omega)) only[go_sem,Tryz.results36])|(refine hK.nil ?_;clear hK K;simp only[go_sem])|refine sw_loopEnd ?_|refine hK.c0 rfl rfl rfl (toInt64S_fc _ _ (by omega)) rfl rfl rfl ?_|(with_reducible refine And.intro (by first|omega|(simp only[lens];omega)) ?_)|fail
 all_goals exact D.le.refl _
def kp37:List (Nat×List Nat):=[(0,[0]),(1,[0,3]),(2,[0,3,4]),(3,[0,3,4,11]),(5,[0,3,4]),(4,[0,3,4]),(6,[2])]
attribute [go_sem] kp37
theorem toRuleS_fc (tk:Tk) (xs:List RuleT) (hn:cntRuleS xs≤1048576):FC S 37 [] [] [] [.sl tk (xs.map RuleD)] (.sl .any (xs.map RuleD)) [] []:=by
 have hl:xs.length≤1048576:=by unfold cntRuleS at hn;omega
 have hq:∀i<xs.length,cntRule (xs.getD i default)≤1048576:=fun i hi=>by
  have:=f_le_sum cntRule xs i hi
  unfold cntRuleS at hn;omega
 refine fc_body Tryz.func37 rfl (by kernel_rfl) (by simp[Tryz.f37]) fun B=>?_
 simp only[Tryz.ntmps37,enumD,lst0,Nat.reduceAdd]
 refine sw_bnd 0 rfl fun hb0=>?_
 simp only[D.bnd,List.length_map] at hb0
 repeat' first|refine sw_seq ?_|refine sw_block ?_|refine sw_inBlock ?_|refine sw_skip ?_|refine sw_go 0 kp37 fun K hK=>?_|refine fun (K:KT) (hK:KOk S 0 _ _ _ K)=>?_|((first|refine runL_go ?_|refine sw_ret (ret0 ?_)|refine sw_ret ?_);simp (disch:=(refine Om.mk ?_;omega)) only[go_sem,Tryz.results37])|(refine hK.nil ?_;clear hK K;simp only[go_sem])|((first|refine sw_cond rfl ?_ ?_)<;>intro h<;>try simp (disch:=(refine Om.mk ?_;omega)) only[go_sem] at h)|refine sw_exit rfl ?_|refine sw_loopEnd ?_|(with_reducible refine And.intro (by first|omega|(simp only[lens];omega)) ?_)|((with_reducible refine And.intro ?_ ?_);· first|(intro x hx;subst hx;rfl)|(intro x;refine And.intro ?_ ?_<;>(intros;subst_vars;rfl)))|fail
 refine sw_loopU (ι:=Nat) (fun i=>[(4,.int .i64 i)]) (fun i=>[(7,fillF (fun j=>[.sl .any (((xs.getD j default)).l.map (.int .i64)),.sl .any (((xs.getD j default)).r.map (.int .i64))]) [.sl .nil [],.sl .nil []] i xs.length)]) (fun i=>i≤xs.length∧(True)) (fun i=>xs.length-i) 0 (by(refine covers_mk0 rfl rfl ?_ ?_ ?_ ?_<;>simp (disch:=(refine Om.mk ?_;omega)) only[go_sem]<;>(try omega));exact fillF_start _ _ _) ⟨by omega,?_⟩ (fun i ⟨hi,hj⟩=>?_)
 rotate_left
 simp only[go_sem]
 have hm:i*2+2≤2*xs.length∨xs.length≤i:=by omega
 repeat' first|(refine sw_freezeAt 6 3 2 .any (xs.map RuleD) rfl rfl (by rw[show i=xs.length by omega];exact fillF_done RuleD _ xs) (by rw[List.length_map]) (cells_n fun _=>rfl) (fillF_memOk (fun j d hd=>by revert d hd;simp[D.memOk]) (by simp[D.memOk])) (.inl rfl) ?_;simp only[go_sem])|refine sw_seq ?_|refine sw_block ?_|refine sw_inBlock ?_|refine sw_skip ?_|refine sw_go 0 kp37 fun K hK=>?_|refine fun (K:KT) (hK:KOk S 0 _ _ _ K)=>?_|((first|refine runL_go ?_|refine sw_ret (ret0 ?_)|refine sw_ret ?_);simp (disch:=(refine Om.mk ?_;omega)) only[go_sem,Tryz.results37])|(refine hK.nil ?_;clear hK K;simp only[go_sem])|((first|refine sw_cond rfl ?_ ?_)<;>intro h<;>try simp (disch:=(refine Om.mk ?_;omega)) only[go_sem] at h)|refine sw_exit rfl ?_|refine sw_loopEnd ?_|refine hK.c0 rfl rfl rfl (toRule_fc _ (by exact hq i (by omega))) rfl rfl rfl ?_|(with_reducible refine And.intro (by first|omega|(simp only[lens];omega)) ?_)|((with_reducible refine And.intro ?_ ?_);· first|(intro x hx;subst hx;rfl)|(intro x;refine And.intro ?_ ?_<;>(intros;subst_vars;rfl)))|fail
 ·exact⟨i+1,(by(refine covers_mk0 rfl rfl ?_ ?_ ?_ ?_<;>simp (disch:=(refine Om.mk ?_;omega)) only[go_sem]<;>(try omega));exact fillF_put (f:=fun j=>[.sl .any (((xs.getD j default)).l.map (.int .i64)),.sl .any (((xs.getD j default)).r.map (.int .i64))]) (fun _=>rfl) rfl (by omega)),by omega,by omega⟩
 ·trivial
def kp8:List (Nat×List Nat):=[(0,[1,2]),(1,[1,2,3]),(2,[1,2,3]),(3,[2,3]),(4,[2])]
attribute [go_sem] kp8
theorem toSystem_fc (x:SystemT) (hn:cntSystem x≤1048576):FC S 8 [] [] [] [SystemD x] (SystemD x) [] []:=by
 have hn':=hn
 simp only[cntSystem] at hn'
 refine fc_body Tryz.func8 rfl (by kernel_rfl) (by simp[Tryz.f8]) fun B=>?_
 simp only[Tryz.ntmps8,enumD,lst0,Nat.reduceAdd]
 repeat' first|refine sw_seq ?_|refine sw_skip ?_|refine sw_go 0 kp8 fun K hK=>?_|refine fun (K:KT) (hK:KOk S 0 _ _ _ K)=>?_|((first|refine runL_go ?_|refine sw_ret (ret0 ?_)|refine sw_ret ?_);simp (disch:=(refine Om.mk ?_;omega)) only[go_sem,Tryz.results8])|(refine hK.nil ?_;clear hK K;simp only[go_sem])|refine sw_loopEnd ?_|refine hK.c0 rfl rfl rfl (toSig_fc _ (by omega)) rfl rfl rfl ?_|refine hK.c0 rfl rfl rfl (toRuleS_fc _ _ (by omega)) rfl rfl rfl ?_|(with_reducible refine And.intro (by first|omega|(simp only[lens];omega)) ?_)|fail
 all_goals exact D.le.refl _
end Go.Proofs.YtpennhjjnlkbiaaGreat
end
section
namespace Go.Proofs.YtpennhjjnlkbiaaGreat
open Go Go.Lg
set_option linter.unusedSimpArgs false
set_option maxHeartbeats 4000000
attribute [local irreducible] SW runL runQ runG runQG FC Ret1
def SigOkP (rs:List Int):Prop:=(1≤rs.length∧rs.length≤8)∧∀j<rs.length,0≤rs.getD j default∧rs.getD j default≤3
def arS (rs:List Int) (n:Int):Int:=if -24≤n∧n≤-1 then 0 else if 0≤n∧n≤rs.length-1 then rs.getD n.toNat default else -1
def scan (rs:List Int):List Int→Int→Nat→Int
 | [],_,_=>-1
 | x::r,need,i=>if arS rs x<0 then -1 else if need+arS rs x-1=0 then (i:Int)+1 else scan rs r (need+arS rs x-1) (i+1)
def endS (rs t:List Int) (a:Nat):Int:=scan rs (t.drop a) 1 a
def TermOkP (rs t:List Int):Prop:=SigOkP rs∧(1≤t.length∧t.length≤60)∧endS rs t 0=t.length
theorem scan_step (rs t:List Int) (need:Int) (i:Nat) (h:i<t.length):scan rs (t.drop i) need i=if arS rs (t.getD i default)<0 then -1 else if need+arS rs (t.getD i default)-1=0 then (i:Int)+1 else scan rs (t.drop (i+1)) (need+arS rs (t.getD i default)-1) (i+1):=by
 rw[List.drop_eq_getElem_cons h]
 simp[scan,List.getD,List.getElem?_eq_getElem h]
theorem scan_end (rs t:List Int) (need:Int) (i:Nat) (h:t.length≤i):scan rs (t.drop i) need i=-1:=by
 rw[List.drop_of_length_le h];rfl
theorem arS_rng {rs:List Int} (hs:SigOkP rs) (n:Int):-1≤arS rs n∧arS rs n≤3:=by
 unfold arS
 split
 ·omega
 ·split
  ·rename_i h
   have:=hs.2 n.toNat (by omega)
   omega
  ·omega
theorem arS_var {rs:List Int} {n:Int} (h:-24≤n∧n≤-1):arS rs n=0:=if_pos h
theorem arS_sym {rs:List Int} {n:Int} (h:0≤n∧n≤rs.length-1):arS rs n=rs.getD n.toNat default:=by
 unfold arS;rw[if_neg (by omega),if_pos h]
theorem arS_none {rs:List Int} {n:Int} (h1:¬(-24≤n∧n≤-1)) (h2:¬(0≤n∧n≤rs.length-1)):arS rs n=-1:=by
 unfold arS;rw[if_neg h1,if_neg h2]
theorem scan_all {rs:List Int}:∀(l:List Int) (need:Int) (i:Nat),scan rs l need i=i+l.length→∀x∈l,0≤arS rs x
 | [],_,_,_,x,hx=>by cases hx
 | y::r,need,i,h,x,hx=>by
  simp only[scan] at h
  split at h
  ·simp only[List.length_cons] at h;omega
  ·split at h
   ·have:r=[]:=by
     cases r with
     | nil=>rfl
     | cons _ _=>simp only[List.length_cons] at h;omega
    subst this
    obtain rfl:x=y:=by simpa using hx
    omega
   ·rcases List.mem_cons.1 hx with rfl|hx
    ·omega
    ·exact scan_all r _ _ (by rw[h];simp only[List.length_cons];omega) x hx
theorem ge24_of_arS {rs:List Int} {x:Int} (h:0≤arS rs x):-24≤x:=by
 unfold arS at h
 split at h
 ·omega
 ·split at h<;>omega
theorem TermOkP.ge {rs t:List Int} (h:TermOkP rs t):∀x∈t,-24≤x:=fun x hx=>by
 have:=h.2.2
 unfold endS at this
 rw[List.drop_zero] at this
 exact ge24_of_arS (scan_all (rs:=rs) t 1 0 (by omega) x hx)
def skipS (rs:List Int):List Int→Int→Nat→Nat×Bool
 | [],_,i=>(i,false)
 | x::r,need,i=>if arS rs x<0 then (i,false) else if need+arS rs x-1=0 then (i+1,true) else skipS rs r (need+arS rs x-1) (i+1)
theorem skip_scan (rs:List Int):∀(l:List Int) (need:Int) (i:Nat),scan rs l need i=if (skipS rs l need i).2=true then ((skipS rs l need i).1:Int) else -1
 | [],_,_=>rfl
 | x::r,need,i=>by
  simp only[scan,skipS]
  split
  ·rfl
  ·split
   ·simp
   ·exact skip_scan rs r _ _
theorem skip_step (rs t:List Int) (need:Int) (i:Nat) (h:i<t.length):skipS rs (t.drop i) need i=if arS rs (t.getD i default)<0 then (i,false) else if need+arS rs (t.getD i default)-1=0 then (i+1,true) else skipS rs (t.drop (i+1)) (need+arS rs (t.getD i default)-1) (i+1):=by
 rw[List.drop_eq_getElem_cons h]
 simp[skipS,List.getD,List.getElem?_eq_getElem h]
theorem skip_end (rs t:List Int) (need:Int) (i:Nat) (h:t.length≤i):skipS rs (t.drop i) need i=(i,false):=by
 rw[List.drop_of_length_le h];rfl
def nxS (rs t:List Int) (a:Nat):Int:=if a<t.length then arS rs (t.getD a default) else -1
def minAt (xs:List Int):Nat→Int
 | 0=>xs.getD 0 default
 | n+1=>if xs.getD (n+1) default<minAt xs n then xs.getD (n+1) default else minAt xs n
theorem minAt_ge (xs:List Int) (c:Int):∀n,c≤minAt xs n↔∀j≤n,c≤xs.getD j default
  | 0 => ⟨fun h j hj => by obtain rfl : j = 0 := by omega
                           exact h,fun h=>h 0 (by omega)⟩
  | n+1=>by
    have ih:=minAt_ge xs c n
    simp only[minAt]
    constructor
    · intro h j hj
      split at h
      · rcases Nat.lt_or_ge j (n+1) with e|e
        · exact ih.1 (by omega) j (by omega)
        · obtain rfl:j=n+1:=by omega
          exact h
      · rcases Nat.lt_or_ge j (n+1) with e|e
        · exact ih.1 h j (by omega)
        · obtain rfl:j=n+1:=by omega
          omega
    · intro h
      split
      · exact h _ (by omega)
      · exact ih.2 fun j hj=>h j (by omega)
theorem minAt_all {xs:List Int} {c:Int} (h:0<xs.length):c≤minAt xs (xs.length-1)↔∀x∈xs,c≤x:=by
 rw[minAt_ge,←forall_getD (P:=fun x=>c≤x)]
 exact⟨fun hh j hj=>hh j (by omega),fun hh j hj=>hh j (by omega)⟩
def kp64:List (Nat×List Nat):=[(0,[0,1,2]),(1,[6])]
attribute [go_sem] kp64
theorem l1In_fc (n lo hi:Int):FC S 64 [] [] [] [.int .i64 n,.int .i64 lo,.int .i64 hi] (.bool (tst (lo≤n∧n≤hi))) [] []:=by
 refine fc_body Tryz.func64 rfl (by kernel_rfl) (by simp[Tryz.f64]) fun B=>?_
 simp only[Tryz.ntmps64,enumD,lst0,Nat.reduceAdd]
 repeat' first|refine sw_seq ?_|refine sw_go 0 kp64 fun K hK=>?_|((first|refine runL_go ?_|refine sw_ret (ret0 ?_)|refine sw_ret ?_);simp (disch:=(refine Om.mk ?_;omega)) only[go_sem,Tryz.results64])|(refine hK.nil ?_;clear hK K;simp only[go_sem])|((first|refine runG_fork rfl rfl rfl rfl rfl ?_ ?_)<;>intro h<;>try simp (disch:=(refine Om.mk ?_;omega)) only[go_sem] at h)|fail
 ·simp[decide_tst,h]
 ·omega
def kp95:List (Nat×List Nat):=[(0,[1]),(1,[1,8]),(2,[2]),(3,[1,3]),(4,[1,3,13]),(6,[1,3,22]),(7,[2]),(5,[1,3]),(8,[2])]
attribute [go_sem] kp95
theorem specSigOk_fc (tk:Tk) (rs:List Int):FC S 95 [] [] [] [.agg [.sl tk (rs.map (.int .i64))]] (.bool (tst (SigOkP rs))) [] []:=by
 refine fc_body Tryz.func95 rfl (by kernel_rfl) (by simp[Tryz.f95]) fun B=>?_
 simp only[Tryz.ntmps95,enumD,lst0,Nat.reduceAdd]
 refine sw_bnd_agg 0 0 rfl rfl fun hb0_0=>?_
 simp only[D.bnd,List.length_map] at hb0_0
 repeat' first|refine sw_seq ?_|refine sw_block ?_|refine sw_skip ?_|refine sw_go 0 kp95 fun K hK=>?_|((first|refine runL_go ?_|refine sw_ret (ret0 ?_)|refine sw_ret ?_);simp (disch:=(refine Om.mk ?_;omega)) only[go_sem,Tryz.results95])|(refine hK.nil ?_;clear hK K;simp only[go_sem])|((first|refine sw_cond rfl ?_ ?_)<;>intro h<;>try simp (disch:=(refine Om.mk ?_;omega)) only[go_sem] at h)|refine hK.c0 rfl rfl rfl (l1In_fc _ _ _) rfl rfl rfl ?_|fail
 ·rintro⟨h1,_⟩;omega
 refine sw_loopU (ι:=Nat) (fun i=>[(3,.int .i64 i)]) (fun _=>[]) (fun i=>i≤rs.length∧(∀j<i,0≤rs.getD j default∧rs.getD j default≤3)) (fun i=>rs.length-i) 0 (by(refine covers_mk0 rfl rfl ?_ ?_ ?_ ?_<;>simp (disch:=(refine Om.mk ?_;omega)) only[go_sem]<;>(try omega))) ⟨by omega,?_⟩ (fun i ⟨hi,hj⟩=>?_)
 rotate_left
 simp only[go_sem]
 repeat' first|refine sw_seq ?_|refine sw_block ?_|refine sw_inBlock ?_|refine sw_skip ?_|refine sw_go 0 kp95 fun K hK=>?_|((first|refine runL_go ?_|refine sw_ret (ret0 ?_)|refine sw_ret ?_);simp (disch:=(refine Om.mk ?_;omega)) only[go_sem,Tryz.results95])|(refine hK.nil ?_;clear hK K;simp only[go_sem])|((first|refine sw_cond rfl ?_ ?_)<;>intro h<;>try simp (disch:=(refine Om.mk ?_;omega)) only[go_sem] at h)|refine sw_exit rfl ?_|refine sw_loopEnd ?_|refine hK.c0 rfl rfl rfl (l1In_fc _ _ _) rfl rfl rfl ?_|(with_reducible refine And.intro (by first|omega|(simp only[lens];omega)) ?_)|fail
 ·rintro⟨_,h2⟩;exact h (h2 i (by omega))
 ·exact⟨i+1,by(refine covers_mk0 rfl rfl ?_ ?_ ?_ ?_<;>simp (disch:=(refine Om.mk ?_;omega)) only[go_sem]<;>(try omega)),⟨by omega,upto_succ hj (by assumption)⟩,by omega⟩
 ·exact⟨⟨by omega,by omega⟩,fun j hj'=>hj j (by omega)⟩
 ·intro j hj';omega
def kp105:List (Nat×List Nat):=[(0,[1]),(1,[1,14]),(2,[2]),(3,[16,17,18]),(4,[16,17,18,19]),(5,[4,16,17,18]),(6,[16,17,18,27]),(7,[2]),(8,[16,17,18]),(9,[2])]
attribute [go_sem] kp105
theorem implSigOk_fc (tk:Tk) (rs:List Int):FC S 105 [] [] [] [.agg [.sl tk (rs.map (.int .i64))]] (.bool (tst (SigOkP rs))) [] []:=by
 refine fc_body Tryz.func105 rfl (by kernel_rfl) (by simp[Tryz.f105]) fun B=>?_
 simp only[Tryz.ntmps105,enumD,lst0,Nat.reduceAdd]
 refine sw_bnd_agg 0 0 rfl rfl fun hb0_0=>?_
 simp only[D.bnd,List.length_map] at hb0_0
 repeat' first|refine sw_seq ?_|refine sw_block ?_|refine sw_skip ?_|refine sw_go 0 kp105 fun K hK=>?_|((first|refine runL_go ?_|refine sw_ret (ret0 ?_)|refine sw_ret ?_);simp (disch:=(refine Om.mk ?_;omega)) only[go_sem,Tryz.results105])|(refine hK.nil ?_;clear hK K;simp only[go_sem])|((first|refine runG_fork rfl rfl rfl rfl rfl ?_ ?_|refine sw_cond rfl ?_ ?_)<;>intro h<;>try simp (disch:=(refine Om.mk ?_;omega)) only[go_sem] at h)|fail
 ·rintro⟨h1,_⟩;omega
 ·rintro⟨h1,_⟩;omega
 refine sw_loopU (ι:=Nat) (fun i=>[(18,.int .i64 i)]) (fun _=>[]) (fun i=>i≤rs.length∧(∀j<i,0≤rs.getD j default∧rs.getD j default≤3)) (fun i=>rs.length-i) 0 (by(refine covers_mk0 rfl rfl ?_ ?_ ?_ ?_<;>simp (disch:=(refine Om.mk ?_;omega)) only[go_sem]<;>(try omega))) ⟨by omega,?_⟩ (fun i ⟨hi,hj⟩=>?_)
 rotate_left
 simp only[go_sem]
 repeat' first|refine sw_seq ?_|refine sw_block ?_|refine sw_inBlock ?_|refine sw_skip ?_|refine sw_go 0 kp105 fun K hK=>?_|((first|refine runL_go ?_|refine sw_ret (ret0 ?_)|refine sw_ret ?_);simp (disch:=(refine Om.mk ?_;omega)) only[go_sem,Tryz.results105])|(refine hK.nil ?_;clear hK K;simp only[go_sem])|((first|refine runG_fork rfl rfl rfl rfl rfl ?_ ?_|refine sw_cond rfl ?_ ?_)<;>intro h<;>try simp (disch:=(refine Om.mk ?_;omega)) only[go_sem] at h)|refine sw_exit rfl ?_|refine sw_loopEnd ?_|(with_reducible refine And.intro (by first|omega|(simp only[lens];omega)) ?_)|fail
 ·rintro⟨_,h2⟩;have:=h2 i (by omega);omega
 ·rintro⟨_,h2⟩;have:=h2 i (by omega);omega
 ·exact⟨i+1,by(refine covers_mk0 rfl rfl ?_ ?_ ?_ ?_<;>simp (disch:=(refine Om.mk ?_;omega)) only[go_sem]<;>(try omega)),⟨by omega,upto_succ hj ⟨by assumption,by assumption⟩⟩,by omega⟩
 ·exact⟨⟨by omega,by omega⟩,fun j hj'=>hj j (by omega)⟩
 ·intro j hj';omega
def kp159:List (Nat×List Nat):=[(0,[1,2]),(1,[1,2,5]),(2,[4]),(3,[1,2,8]),(4,[4]),(5,[4])]
attribute [go_sem] kp159
theorem l1Arity_fc (tk:Tk) (rs:List Int) (n:Int):FC S 159 [] [] [] [.agg [.sl tk (rs.map (.int .i64))],.int .i64 n] (.int .i64 (arS rs n)) [] []:=by
 refine fc_body Tryz.func159 rfl (by kernel_rfl) (by simp[Tryz.f159]) fun B=>?_
 simp only[Tryz.ntmps159,enumD,lst0,Nat.reduceAdd]
 refine sw_bnd_agg 0 0 rfl rfl fun hb0_0=>?_
 simp only[D.bnd,List.length_map] at hb0_0
 repeat' first|refine sw_seq ?_|refine sw_block ?_|refine sw_inBlock ?_|refine sw_skip ?_|refine sw_go 0 kp159 fun K hK=>?_|((first|refine runL_go ?_|refine sw_ret (ret0 ?_)|refine sw_ret ?_);simp (disch:=(refine Om.mk ?_;omega)) only[go_sem,Tryz.results159])|(refine hK.nil ?_;clear hK K;simp only[go_sem])|((first|refine sw_cond rfl ?_ ?_)<;>intro h<;>try simp (disch:=(refine Om.mk ?_;omega)) only[go_sem] at h)|refine hK.c0 rfl rfl rfl (l1In_fc _ _ _) rfl rfl rfl ?_|(with_reducible refine And.intro (by first|omega|(simp only[lens];omega)) ?_)|fail
 ·exact(arS_var h).symm
 ·rw[arS_sym (by omega)]
 ·exact(arS_none (by assumption) (by assumption)).symm
def kp146:List (Nat×List Nat):=[(0,[1,2,3]),(1,[1,2,3,7]),(2,[1,3,7,8]),(3,[1,3,7,8,14]),(5,[1,3,7,8,9]),(6,[1,3,7,8,9,24]),(7,[6]),(8,[1,3,7,8]),(9,[1,3,7,8,30]),(10,[6]),(4,[1,3,7,8]),(11,[6])]
attribute [go_sem] kp146
theorem l1End_fc (tk tk':Tk) (rs t:List Int) (a:Int) (hs:SigOkP rs) (hl:t.length≤60) (ha:0≤a):FC S 146 [] [] [] [.agg [.sl tk (rs.map (.int .i64))],.sl tk' (t.map (.int .i64)),.int .i64 a] (.int .i64 (endS rs t a.toNat)) [] []:=by
 refine fc_body Tryz.func146 rfl (by kernel_rfl) (by simp[Tryz.f146]) fun B=>?_
 simp only[Tryz.ntmps146,enumD,lst0,Nat.reduceAdd]
 refine sw_bnd 1 rfl fun hb1=>?_
 simp only[D.bnd,List.length_map] at hb1
 repeat' first|refine sw_seq ?_|refine sw_block ?_|refine sw_go 0 kp146 fun K hK=>?_|((first|refine runL_go ?_|refine runQ_go ?_|refine sw_ret (ret0 ?_)|refine sw_ret ?_);simp (disch:=(refine Om.mk ?_;omega)) only[go_sem,Tryz.results146])|(refine hK.nil ?_;clear hK K;simp only[go_sem])|fail
 refine sw_loopU (ι:=Nat×Int) (fun p=>[(8,.int .i64 p.1),(7,.int .i64 p.2)]) (fun p=>[]) (fun p=>(a.toNat≤p.1∧endS rs t a.toNat=scan rs (t.drop p.1) p.2 p.1)∧1≤p.2∧p.2≤1+3*p.1) (fun p=>t.length-p.1) (a.toNat,1) (by(refine covers_mk0 rfl rfl ?_ ?_ ?_ ?_<;>simp (disch:=(refine Om.mk ?_;omega)) only[go_sem]<;>(try omega))) ?_ (fun p hp=>?_)
 rotate_left
 simp only[go_sem]
 obtain⟨i,need⟩:=p
 obtain⟨⟨h1,h2⟩,h3,h4⟩:=hp
 have hr:=arS_rng hs (t.getD i default)
 have hb:i<t.length→scan rs (t.drop i) need i=_:=scan_step rs t need i
 repeat' first|refine sw_seq ?_|refine sw_block ?_|refine sw_inBlock ?_|refine sw_skip ?_|refine sw_go 0 kp146 fun K hK=>?_|refine sw_goD kp146 (by kernel_rfl) fun K hK=>?_|((first|refine runL_go ?_|refine runQ_go ?_|refine sw_ret (ret0 ?_)|refine sw_ret ?_);simp (disch:=(refine Om.mk ?_;omega)) only[go_sem,Tryz.results146])|(refine hK.nil ?_;clear hK K;simp only[go_sem])|((first|refine sw_cond rfl ?_ ?_)<;>intro h<;>try simp (disch:=(refine Om.mk ?_;omega)) only[go_sem] at h)|refine sw_exit rfl ?_|refine sw_loopEnd ?_|refine hK.c0 rfl rfl rfl (l1Arity_fc _ _ _) rfl rfl rfl ?_|(with_reducible refine And.intro (by first|omega|(simp only[lens];omega)) ?_)|fail
 ·rw[h2,hb (by omega),if_pos h]
 ·rw[h2,hb (by omega),if_neg (by omega),if_pos h]
 ·refine⟨(i+1,need+arS rs (t.getD i default)-1),by(refine covers_mk0 rfl rfl ?_ ?_ ?_ ?_<;>simp (disch:=(refine Om.mk ?_;omega)) only[go_sem]<;>(try omega)),⟨⟨by omega,?_⟩,by omega,by omega⟩,by omega⟩
  rw[h2,hb (by omega),if_neg (by omega),if_neg h]
 ·rw[h2,scan_end rs t need i (by omega)]
 ·exact⟨⟨by omega,rfl⟩,by omega,by omega⟩
def kp126:List (Nat×List Nat):=[(0,[1,2]),(1,[4])]
attribute [go_sem] kp126
theorem specTermOk_fc (tk tk':Tk) (rs t:List Int):FC S 126 [] [] [] [.agg [.sl tk (rs.map (.int .i64))],.sl tk' (t.map (.int .i64))] (.bool (tst (TermOkP rs t))) [] []:=by
 refine fc_body Tryz.func126 rfl (by kernel_rfl) (by simp[Tryz.f126]) fun B=>?_
 simp only[Tryz.ntmps126,enumD,lst0,Nat.reduceAdd]
 refine sw_bnd_agg 0 0 rfl rfl fun hb0_0=>?_
 simp only[D.bnd,List.length_map] at hb0_0
 refine sw_bnd 1 rfl fun hb1=>?_
 simp only[D.bnd,List.length_map] at hb1
 repeat' first|refine sw_seq ?_|refine sw_go 0 kp126 fun K hK=>?_|((first|refine runL_go ?_|refine sw_ret (ret0 ?_)|refine sw_ret ?_);simp (disch:=(refine Om.mk ?_;omega)) only[go_sem,Tryz.results126])|(refine hK.nil ?_;clear hK K;simp only[go_sem])|((first|refine runG_fork rfl rfl rfl rfl rfl ?_ ?_)<;>intro h<;>try simp (disch:=(refine Om.mk ?_;omega)) only[go_sem] at h)|refine hK.skp rfl rfl ?_|refine hK.c0 rfl rfl rfl (specSigOk_fc _ _) rfl rfl rfl ?_|refine hK.c0 rfl rfl rfl (l1In_fc _ _ _) rfl rfl rfl ?_|refine hK.c0 rfl rfl rfl (l1End_fc _ _ _ _ _ (by assumption) (by omega) (by omega)) rfl rfl rfl ?_|fail
 all_goals (simp only[TermOkP] at *;grind)
def kp148:List (Nat×List Nat):=[(0,[0]),(1,[0,7]),(2,[0]),(3,[0,3]),(4,[0,3,4]),(5,[0,3,4,15]),(7,[0,3,4]),(6,[0,3,4]),(8,[2])]
attribute [go_sem] kp148
theorem min_fc (tk:Tk) (xs:List Int) (h0:0<xs.length):FC S 148 [] [] [] [.sl tk (xs.map (.int .i64))] (.int .i64 (minAt xs (xs.length-1))) [] []:=by
 refine fc_body Tryz.func148 rfl (by kernel_rfl) (by simp[Tryz.f148]) fun B=>?_
 simp only[Tryz.ntmps148,enumD,lst0,Nat.reduceAdd]
 refine sw_bnd 0 rfl fun hb0=>?_
 simp only[D.bnd,List.length_map] at hb0
 repeat' first|refine sw_seq ?_|refine sw_block ?_|refine sw_skip ?_|refine sw_go 0 kp148 fun K hK=>?_|((first|refine runL_go ?_|refine sw_ret (ret0 ?_)|refine sw_ret ?_);simp (disch:=(refine Om.mk ?_;omega)) only[go_sem,Tryz.results148])|(refine hK.nil ?_;clear hK K;simp only[go_sem])|((first|refine sw_cond rfl ?_ ?_)<;>intro h<;>try simp (disch:=(refine Om.mk ?_;omega)) only[go_sem] at h)|(with_reducible refine And.intro (by first|omega|(simp only[lens];omega)) ?_)|fail
 ·omega
 refine sw_loopU (ι:=Nat) (fun p=>[(4,.int .i64 (p+1)),(3,.int .i64 (minAt xs p))]) (fun p=>[]) (fun p=>p<xs.length) (fun p=>xs.length-p) 0 (by(refine covers_mk0 rfl rfl ?_ ?_ ?_ ?_<;>simp (disch:=(refine Om.mk ?_;omega)) only[go_sem]<;>(try omega));exact⟨rfl,rfl⟩) ?_ (fun p hp=>?_)
 rotate_left
 simp only[go_sem]
 repeat' first|refine sw_seq ?_|refine sw_block ?_|refine sw_inBlock ?_|refine sw_skip ?_|refine sw_go 0 kp148 fun K hK=>?_|((first|refine runL_go ?_|refine sw_ret (ret0 ?_)|refine sw_ret ?_);simp (disch:=(refine Om.mk ?_;omega)) only[go_sem,Tryz.results148])|(refine hK.nil ?_;clear hK K;simp only[go_sem])|((first|refine sw_cond rfl ?_ ?_)<;>intro h<;>try simp (disch:=(refine Om.mk ?_;omega)) only[go_sem] at h)|refine sw_exit rfl ?_|refine sw_loopEnd ?_|(with_reducible refine And.intro (by first|omega|(simp only[lens];omega)) ?_)|fail
 ·exact⟨p+1,(by(refine covers_mk0 rfl rfl ?_ ?_ ?_ ?_<;>simp (disch:=(refine Om.mk ?_;omega)) only[go_sem]<;>(try omega));exact⟨rfl,by omega⟩),by omega,by omega⟩
 ·rw[show p=xs.length-1 by omega]
 ·exact h0
def kp141:List (Nat×List Nat):=[(0,[1,2]),(1,[1,2,6]),(2,[4]),(3,[4])]
attribute [go_sem] kp141
theorem arityAt_fc (tk:Tk) (rs:List Int) (n:Int) (hn:-24≤n∧n<rs.length):FC S 141 [] [] [] [.agg [.sl tk (rs.map (.int .i64))],.int .i64 n] (.int .i64 (arS rs n)) [] []:=by
 refine fc_body Tryz.func141 rfl (by kernel_rfl) (by simp[Tryz.f141]) fun B=>?_
 simp only[Tryz.ntmps141,enumD,lst0,Nat.reduceAdd]
 refine sw_bnd_agg 0 0 rfl rfl fun hb0_0=>?_
 simp only[D.bnd,List.length_map] at hb0_0
 repeat' first|refine sw_seq ?_|refine sw_skip ?_|refine sw_go 0 kp141 fun K hK=>?_|((first|refine runL_go ?_|refine sw_ret (ret0 ?_)|refine sw_ret ?_);simp (disch:=(refine Om.mk ?_;omega)) only[go_sem,Tryz.results141])|(refine hK.nil ?_;clear hK K;simp only[go_sem])|((first|refine sw_cond rfl ?_ ?_)<;>intro h<;>try simp (disch:=(refine Om.mk ?_;omega)) only[go_sem] at h)|(with_reducible refine And.intro (by first|omega|(simp only[lens];omega)) ?_)|fail
 ·exact(arS_var (by omega)).symm
 ·rw[arS_sym (by omega)]
def kp162:List (Nat×List Nat):=[(0,[0]),(1,[0,31]),(2,[2]),(3,[0]),(4,[2])]
attribute [go_sem] kp162
theorem next_fc (id:Nat) (rs t:List Int) (a:Nat) (hs:SigOkP rs) (ht:∀x∈t,-24≤x):FC S 162 [] [(id,[.sl .any (rs.map (.int .i64)),.sl .any (t.map (.int .i64)),.int .i64 a])] [] [.box id 0] (.int .i64 (nxS rs t a)) [(id,[.sl .any (rs.map (.int .i64)),.sl .any (t.map (.int .i64)),.int .i64 ((if nxS rs t a<0 then a else a+1:Nat):Int)])] []:=by
 have hx:a<t.length→-24≤t.getD a default:=fun h=>ht _ (getD_mem t a h)
 refine fc_body Tryz.func162 rfl (by kernel_rfl) (by simp[Tryz.f162]) fun B=>?_
 simp only[Tryz.ntmps162,enumD,lst0,Nat.reduceAdd]
 refine sw_bnd_box id 1 (if_pos rfl) rfl fun hbid_1=>?_
 simp only[D.bnd,List.length_map] at hbid_1
 repeat' first|refine sw_seq ?_|refine sw_skip ?_|refine sw_go 0 kp162 fun K hK=>?_|refine sw_goD kp162 (by kernel_rfl) fun K hK=>?_|((first|refine runL_go ?_|refine runQ_go ?_|refine sw_ret (ret0 ?_)|refine sw_ret ?_);simp (disch:=(refine Om.mk ?_;omega)) only[go_sem,Tryz.results162])|(refine hK.nil ?_;clear hK K;simp only[go_sem])|((first|refine runG_fork rfl rfl rfl rfl rfl ?_ ?_|refine runQG_fork rfl rfl rfl rfl rfl ?_ ?_|refine sw_cond rfl ?_ ?_)<;>intro h<;>try simp (disch:=(refine Om.mk ?_;omega)) only[go_sem] at h)|refine hK.c0 rfl rfl rfl (arityAt_fc _ _ _ ⟨by omega,by omega⟩) rfl rfl rfl ?_|(with_reducible refine And.intro (by first|omega|(simp only[lens];omega)) ?_)|fail
 ·have e:nxS rs t a=-1:=if_neg (by omega)
  simp[e]
 ·have e:nxS rs t a=-1:=by rw[nxS,if_pos (by omega),arS_none (by omega) (by omega)]
  simp[e]
 ·have e:nxS rs t a=arS rs (t.getD a default):=if_pos (by omega)
  have h0:0≤arS rs (t.getD a default):=by
   by_cases hn:t.getD a default<0
   ·rw[arS_var (by omega)];omega
   ·rw[arS_sym (by omega)];exact(hs.2 _ (by omega)).1
  rw[if_neg (by omega)]
  exact⟨e.symm,by simp⟩
def kp153:List (Nat×List Nat):=[(0,[0]),(1,[0,3]),(2,[0,3,6]),(4,[0,3,4]),(5,[0,3,4,12]),(6,[2]),(7,[0,3]),(3,[0,3]),(8,[2])]
attribute [go_sem] kp153
theorem skip_fc (id:Nat) (rs t:List Int) (a:Nat) (hs:SigOkP rs) (ht:∀x∈t,-24≤x) (hl:t.length≤60):FC S 153 [] [(id,[.sl .any (rs.map (.int .i64)),.sl .any (t.map (.int .i64)),.int .i64 a])] [] [.box id 0] (.bool (skipS rs (t.drop a) 1 a).2) [(id,[.sl .any (rs.map (.int .i64)),.sl .any (t.map (.int .i64)),.int .i64 (skipS rs (t.drop a) 1 a).1])] []:=by
 refine fc_body Tryz.func153 rfl (by kernel_rfl) (by simp[Tryz.f153]) fun B=>?_
 simp only[Tryz.ntmps153,enumD,lst0,Nat.reduceAdd]
 refine sw_bnd_box id 1 (if_pos rfl) rfl fun hbid_1=>?_
 simp only[D.bnd,List.length_map] at hbid_1
 repeat' first|refine sw_seq ?_|refine sw_block ?_|refine sw_go 0 kp153 fun K hK=>?_|((first|refine runL_go ?_|refine sw_ret (ret0 ?_)|refine sw_ret ?_);simp (disch:=(refine Om.mk ?_;omega)) only[go_sem,Tryz.results153])|(refine hK.nil ?_;clear hK K;simp only[go_sem])|fail
 refine sw_loopU (ι:=Nat×Int) (fun p=>[(3,.int .i64 p.2)]) (fun p=>[(id,[.sl .any (rs.map (.int .i64)),.sl .any (t.map (.int .i64)),.int .i64 p.1])]) (fun p=>(a≤p.1∧((1≤p.2∧skipS rs (t.drop a) 1 a=skipS rs (t.drop p.1) p.2 p.1)∨(p.2=0∧skipS rs (t.drop a) 1 a=(p.1,true))))∧p.2≤1+3*p.1) (fun p=>t.length-p.1) (a,1) (by(refine covers_mk0 rfl rfl ?_ ?_ ?_ ?_<;>simp (disch:=(refine Om.mk ?_;omega)) only[go_sem]<;>(try omega))) ?_ (fun p hp=>?_)
 rotate_left
 simp only[go_sem]
 obtain⟨i,need⟩:=p
 obtain⟨⟨h1,h2⟩,h4⟩:=hp
 dsimp only at h1 h2 h4
 have hr:=arS_rng hs (t.getD i default)
 have hn:nxS rs t i≤3:=by unfold nxS;split<;>omega
 have hb:i<t.length→skipS rs (t.drop i) need i=_:=skip_step rs t need i
 repeat' first|refine sw_seq ?_|refine sw_block ?_|refine sw_inBlock ?_|refine sw_skip ?_|refine sw_go 0 kp153 fun K hK=>?_|((first|refine runL_go ?_|refine sw_ret (ret0 ?_)|refine sw_ret ?_);simp (disch:=(refine Om.mk ?_;omega)) only[go_sem,Tryz.results153])|(refine hK.nil ?_;clear hK K;simp only[go_sem])|((first|refine sw_cond rfl ?_ ?_)<;>intro h<;>try simp (disch:=(refine Om.mk ?_;omega)) only[go_sem] at h)|refine sw_exit rfl ?_|refine sw_loopEnd ?_|(refine hK.callB rfl rfl rfl (next_fc id rs t i hs ht) ⟨⟨by simp only[Nat.reduceLT],(by first|(simp;all_goals fail)|(simp[LS.getBox,Lg.look];all_goals fail)),by(simp[Lg.look];all_goals fail),by(simp;all_goals fail),by(simp;all_goals fail)⟩,⟨by(simp[D.ids,D.idsL];all_goals fail),by(simp[D.ids,D.idsL];all_goals fail),by(simp[D.tks,D.tksL];all_goals fail),by(simp[D.tks,D.tksL];all_goals fail),by(simp;all_goals fail)⟩,rfl⟩ ?_;simp (disch:=(refine Om.mk ?_;omega)) only[go_sem])|fail
 ·have e:i<t.length→nxS rs t i=arS rs (t.getD i default):=fun h=>if_pos h
  rcases h2 with⟨h2,h3⟩|⟨h2,h3⟩
  ·rw[h3]
   by_cases hi:i<t.length
   ·rw[hb hi,if_pos (by rw[←e hi];assumption),if_pos (by assumption)];simp
   ·rw[skip_end rs t need i (by omega),if_pos (by assumption)];simp
  ·omega
 ·have hi:i<t.length:=by
   by_cases hi:i<t.length
   ·exact hi
   ·have:nxS rs t i=-1:=if_neg hi
    omega
  have e:nxS rs t i=arS rs (t.getD i default):=if_pos hi
  refine⟨(i+1,need+nxS rs t i-1),(by(refine covers_mk0 rfl rfl ?_ ?_ ?_ ?_<;>simp (disch:=(refine Om.mk ?_;omega)) only[go_sem]<;>(try omega));rw[if_neg (by omega)]),⟨⟨by omega,?_⟩,by omega⟩,by omega⟩
  rcases h2 with⟨h2,h3⟩|⟨h2,h3⟩
  ·rw[h3,hb hi,if_neg (by omega),←e]
   by_cases hz:need+nxS rs t i-1=0
   ·rw[if_pos hz];exact .inr ⟨hz,rfl⟩
   ·rw[if_neg hz];exact .inl ⟨by dsimp only;omega,rfl⟩
  ·omega
 ·rcases h2 with⟨h2,h3⟩|⟨h2,h3⟩
  ·omega
  ·rw[h3];simp
 ·exact⟨⟨by omega,.inl ⟨by omega,rfl⟩⟩,by omega⟩
def kp138:List (Nat×List Nat):=[(0,[1,2,3]),(1,[7]),(2,[7,13]),(3,[6]),(4,[6])]
attribute [go_sem] kp138
theorem endAt_fc (tk tk':Tk) (rs t:List Int) (a:Int) (hs:SigOkP rs) (ht:∀x∈t,-24≤x) (hl:t.length≤60) (ha:0≤a):FC S 138 [] [] [] [.agg [.sl tk (rs.map (.int .i64))],.sl tk' (t.map (.int .i64)),.int .i64 a] (.int .i64 (endS rs t a.toNat)) [] []:=by
 obtain⟨a,rfl⟩:=Int.eq_ofNat_of_zero_le ha
 refine FC.args (args':=[.agg [.sl .any (rs.map (.int .i64))],.sl .any (t.map (.int .i64)),.int .i64 a]) ?_ (by simp only[go_sem])
 refine fc_body Tryz.func138 rfl (by kernel_rfl) (by simp[Tryz.f138]) fun B=>?_
 simp only[Tryz.ntmps138,enumD,lst0,Nat.reduceAdd]
 repeat' first|refine sw_seq ?_|refine sw_skip ?_|refine sw_go 0 kp138 fun K hK=>?_|((first|refine runL_go ?_|refine sw_ret (ret0 ?_)|refine sw_ret ?_);simp (disch:=(refine Om.mk ?_;omega)) only[go_sem,Tryz.results138])|(refine hK.nil ?_;clear hK K;simp only[go_sem])|((first|refine sw_cond rfl ?_ ?_)<;>intro h<;>try simp (disch:=(refine Om.mk ?_;omega)) only[go_sem] at h)|(refine hK.callB rfl rfl rfl (skip_fc 7 rs t a hs ht hl) ⟨⟨by simp only[Nat.reduceLT],(by first|(simp;all_goals fail)|(simp[LS.getBox,Lg.look];all_goals fail)),by(simp[Lg.look];all_goals fail),by(simp;all_goals fail),by(simp;all_goals fail)⟩,⟨by(simp[D.ids,D.idsL];all_goals fail),by(simp[D.ids,D.idsL];all_goals fail),by(simp[D.tks,D.tksL];all_goals fail),by(simp[D.tks,D.tksL];all_goals fail),by(simp;all_goals fail)⟩,rfl⟩ ?_;simp (disch:=(refine Om.mk ?_;omega)) only[go_sem])|fail
 all_goals first|(rw[endS,skip_scan,h];rfl)
def kp129:List (Nat×List Nat):=[(0,[1,2]),(1,[4])]
attribute [go_sem] kp129
theorem implTermOk_fc (tk tk':Tk) (rs t:List Int):FC S 129 [] [] [] [.agg [.sl tk (rs.map (.int .i64))],.sl tk' (t.map (.int .i64))] (.bool (tst (TermOkP rs t))) [] []:=by
 refine fc_body Tryz.func129 rfl (by kernel_rfl) (by simp[Tryz.f129]) fun B=>?_
 simp only[Tryz.ntmps129,enumD,lst0,Nat.reduceAdd]
 refine sw_bnd_agg 0 0 rfl rfl fun hb0_0=>?_
 simp only[D.bnd,List.length_map] at hb0_0
 refine sw_bnd 1 rfl fun hb1=>?_
 simp only[D.bnd,List.length_map] at hb1
 repeat' first|refine sw_seq ?_|refine sw_go 0 kp129 fun K hK=>?_|((first|refine runL_go ?_|refine sw_ret (ret0 ?_)|refine sw_ret ?_);simp (disch:=(refine Om.mk ?_;omega)) only[go_sem,Tryz.results129])|(refine hK.nil ?_;clear hK K;simp only[go_sem])|((first|refine runG_fork rfl rfl rfl rfl rfl ?_ ?_)<;>intro h<;>try simp (disch:=(refine Om.mk ?_;omega)) only[go_sem] at h)|refine hK.skp rfl rfl ?_|refine hK.c0 rfl rfl rfl (implSigOk_fc _ _) rfl rfl rfl ?_|refine hK.c0 rfl rfl rfl (min_fc _ _ (by omega)) rfl rfl rfl ?_|refine hK.c0 rfl rfl rfl (endAt_fc _ _ _ _ _ (by assumption) ((minAt_all (by omega)).1 (by assumption)) (by omega) (by omega)) rfl rfl rfl ?_|fail
 ·rename_i h1 h2 h3
  have h4:=(minAt_all (by omega)).1 h
  simp only[TermOkP,Int.toNat_zero]
  exact⟨fun e=>⟨h1,by omega,e⟩,fun e=>e.2.2⟩
 ·intro e
  have:=(minAt_all (c:=-24) (by omega)).2 e.ge
  omega
 ·rintro⟨_,h1,_⟩;omega
 ·rintro⟨_,h1,_⟩;omega
 ·rintro⟨h1,_⟩;contradiction
end Go.Proofs.YtpennhjjnlkbiaaGreat
end
