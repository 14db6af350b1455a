/-
  Ty, HFnExactDeadLines, A01, one behind the other.
-/
import Derived.Test.YtkfkdgginfpdnaaGreatDoorSet
import Derived.Test.YtkfkdgginfpdnaaGreatDoorLgK4
import Derived.Test.YtkfkdgginfpdnaaGreatDoorLgK5
namespace Go.Proofs.YtkfkdgginfpdnaaGreatDoor
open Go Go.Lg
set_option linter.unusedSimpArgs false
set_option linter.unusedVariables false
set_option maxHeartbeats 4000000
section
def IntsD (x:List Int):D:=.sl .any (x.map (.int .i64))
attribute [go_sem] IntsD
theorem ints_set (ys:List (List Int)) (i:Nat) (u:List Int):(ys.map IntsD).set i (.sl .any (u.map (.int .i64)))=(ys.set i u).map IntsD:=by rw[List.map_set];rfl
attribute [go_sem] ints_set
def cntInt64S (xs:List Int):Nat:=xs.length
def SigD (x:List Int):D:=.agg [.sl .any (x.map (.int .i64))]
attribute [go_sem] SigD
def cntSig (x:List Int):Nat:=cntInt64S x
def cntInt64SS (xs:List (List Int)):Nat:=xs.length+(xs.map cntInt64S).sum
def cntSubst (x:List (List Int)):Nat:=cntInt64SS x
structure StepT where
 at_:Int
 rule:Int
 to:List Int
 deriving Inhabited
def cntStep (x:StepT):Nat:=cntInt64S x.to
def cntStepS (xs:List StepT):Nat:=xs.length+(xs.map cntStep).sum
structure WalkT where
 frm:List Int
 steps:List StepT
 deriving Inhabited
def cntWalk (x:WalkT):Nat:=cntInt64S x.frm+cntStepS x.steps
structure TransT where
 sym:Int
 args:List Int
 to:Int
 deriving Inhabited
structure LineT where
 fun_:Int
 pats:List (List Int)
 body:List Int
 deriving Inhabited
def LineD (x:LineT):D:=.agg [.int .i64 x.fun_,.sl .any (x.pats.map IntsD),.sl .any (x.body.map (.int .i64))]
attribute [go_sem] LineD
def cntLine (x:LineT):Nat:=cntInt64SS x.pats+cntInt64S x.body
def cntLineS (xs:List LineT):Nat:=xs.length+(xs.map cntLine).sum
structure FrontT where
 sig:List Int
 funs:List Int
 lines:List LineT
 deriving Inhabited
def FrontD (x:FrontT):D:=.agg [.sl .any (x.sig.map (.int .i64)),.sl .any (x.funs.map (.int .i64)),.sl .any (x.lines.map LineD)]
attribute [go_sem] FrontD
def cntFront (x:FrontT):Nat:=cntSig x.sig+cntInt64S x.funs+cntLineS x.lines
theorem szd_rng {b:Int} {n:Nat} (h:-1≤b∧b≤1048576):-1≤szd b n∧szd b n≤1048576:=by unfold szd;split<;>omega
end
section
attribute [local irreducible] SW runL runQ runG runQG FC Ret Ret1
def kp14:List (Nat×List Nat):=[(0,[0,1]),(1,[0,1,10]),(2,[4]),(3,[0,1,5]),(4,[0,1,5,14]),(6,[0,1,5,25]),(7,[4]),(5,[0,1,5]),(8,[4])]
attribute [go_sem] kp14 Tryz.results14 Tryz.ntmps14
theorem eqInt64S_fc (tk tk':Tk) (xs ys:List Int):FC S 14 [] [] [] [.sl tk (xs.map (.int .i64)),.sl tk' (ys.map (.int .i64))] (.bool (tst (xs=ys))) [] []:=by
 refine fcb Tryz.func14 fun B=>?_
 refine sw_bndg 0 fun hb0=>?_
 refine sw_bndg 1 fun hb1=>?_
 repeat' first|exact h.elim|refine sw_n ?_|refine sw_go 0 kp14 fun K hK=>?_|refine fun (K:KT) (hK:KOk S 0 _ _ _ K)=>?_|refine sw_goD kp14 (by kernel_rfl) fun K hK=>?_|refine runL_g ?_|refine runQ_g ?_|refine sw_retg0 ?_|refine sw_retg ?_|(refine hK.n0 ?_;clear hK K)|refine sw_condg rfl (fun h=>?_) fun h=>?_|refine sw_exit rfl ?_|refine sw_loopEnd ?_|with_reducible refine and_o ?_|apply tTT
 ·intro e;exact h (by rw[e])
 refine sw_loopU (ι:=Nat) (fun i=>[(5,.int .i64 i)]) (fun _=>[]) (fun i=>i≤xs.length∧(∀j<i,xs.getD j default=ys.getD j default)) (fun i=>xs.length-i) 0 cvA ⟨by omega,?_⟩ (fun i ⟨hi,hj⟩=>?_)
 rotate_left
 simp only[go_sem]
 repeat' first|exact h.elim|refine sw_n ?_|refine sw_go 0 kp14 fun K hK=>?_|refine fun (K:KT) (hK:KOk S 0 _ _ _ K)=>?_|refine sw_goD kp14 (by kernel_rfl) fun K hK=>?_|refine runL_g ?_|refine runQ_g ?_|refine sw_retg0 ?_|refine sw_retg ?_|(refine hK.n0 ?_;clear hK K)|refine sw_condg rfl (fun h=>?_) fun h=>?_|refine sw_exit rfl ?_|refine sw_loopEnd ?_|with_reducible refine and_o ?_|apply tTT
 ·intro e;exact h (by rw[e])
 ·exact⟨i+1,by(refine covers_mk0 rfl rfl ?_ ?_ ?_ ?_<;>simp (disch:=(refine Om.mk ?_;omega)) only[go_sem]<;>(try omega)),⟨by omega,upto_succ hj (by assumption)⟩,by omega⟩
 ·exact ext_getD (by assumption) fun j hj'=>hj j (by omega)
 ·intro j hj';omega
def kp153:List (Nat×List Nat):=[(0,[0,1]),(1,[0,1,10]),(2,[4]),(3,[0,1,5]),(4,[0,1,5,14]),(6,[0,1,5,26]),(7,[4]),(5,[0,1,5]),(8,[4])]
attribute [go_sem] kp153 Tryz.results153 Tryz.ntmps153
theorem eqInt64SS_fc (tk tk':Tk) (xs ys:List (List Int)):FC S 153 [] [] [] [.sl tk (xs.map IntsD),.sl tk' (ys.map IntsD)] (.bool (tst (xs=ys))) [] []:=by
 refine fcb Tryz.func153 fun B=>?_
 refine sw_bndg 0 fun hb0=>?_
 refine sw_bndg 1 fun hb1=>?_
 repeat' first|exact h.elim|refine sw_n ?_|refine sw_go 0 kp153 fun K hK=>?_|refine fun (K:KT) (hK:KOk S 0 _ _ _ K)=>?_|refine sw_goD kp153 (by kernel_rfl) fun K hK=>?_|refine runL_g ?_|refine runQ_g ?_|refine sw_retg0 ?_|refine sw_retg ?_|(refine hK.n0 ?_;clear hK K)|refine sw_condg rfl (fun h=>?_) fun h=>?_|refine sw_exit rfl ?_|refine sw_loopEnd ?_|with_reducible refine and_o ?_|apply tTT
 ·intro e;exact h (by rw[e])
 refine sw_loopU (ι:=Nat) (fun i=>[(5,.int .i64 i)]) (fun _=>[]) (fun i=>i≤xs.length∧(∀j<i,xs.getD j default=ys.getD j default)) (fun i=>xs.length-i) 0 cvA ⟨by omega,?_⟩ (fun i ⟨hi,hj⟩=>?_)
 rotate_left
 simp only[go_sem]
 repeat' first|exact h.elim|refine sw_n ?_|refine sw_go 0 kp153 fun K hK=>?_|refine fun (K:KT) (hK:KOk S 0 _ _ _ K)=>?_|refine sw_goD kp153 (by kernel_rfl) fun K hK=>?_|refine runL_g ?_|refine runQ_g ?_|refine sw_retg0 ?_|refine sw_retg ?_|(refine hK.n0 ?_;clear hK K)|refine sw_condg rfl (fun h=>?_) fun h=>?_|refine sw_exit rfl ?_|refine sw_loopEnd ?_|refine hK.c1 rfl rfl rfl (eqInt64S_fc _ _ _ _) ?_|with_reducible refine and_o ?_|apply tTT
 ·intro e;exact h (by rw[e])
 ·exact⟨i+1,by(refine covers_mk0 rfl rfl ?_ ?_ ?_ ?_<;>simp (disch:=(refine Om.mk ?_;omega)) only[go_sem]<;>(try omega)),⟨by omega,upto_succ hj (by assumption)⟩,by omega⟩
 ·exact ext_getD (by assumption) fun j hj'=>hj j (by omega)
 ·intro j hj';omega
def kp36:List (Nat×List Nat):=[(0,[2,3]),(1,[10]),(2,[4]),(3,[4])]
attribute [go_sem] kp36 Tryz.results36 Tryz.ntmps36
theorem eqSig_fc (x y:List Int):FC S 36 [] [] [] [SigD x,SigD y] (.bool (tst (x=y))) [] []:=by
 refine fcb Tryz.func36 fun B=>?_
 repeat' first|exact h.elim|refine sw_n ?_|refine sw_go 0 kp36 fun K hK=>?_|refine fun (K:KT) (hK:KOk S 0 _ _ _ K)=>?_|refine runL_g ?_|refine sw_retg0 ?_|refine sw_retg ?_|(refine hK.n0 ?_;clear hK K)|refine sw_condg rfl (fun h=>?_) fun h=>?_|refine sw_loopEnd ?_|refine hK.c1 rfl rfl rfl (eqInt64S_fc _ _ _ _) ?_|with_reducible refine and_o ?_|apply tTT
 all_goals first|assumption|(intro e;subst e;contradiction)|(cases x;cases y;simp_all)
def kp112:List (Nat×List Nat):=[(0,[2,3]),(1,[2,3,9]),(2,[4]),(3,[2,3,15]),(4,[4]),(5,[21]),(6,[4]),(7,[4])]
attribute [go_sem] kp112 Tryz.results112 Tryz.ntmps112
theorem eqLine_fc (x y:LineT):FC S 112 [] [] [] [LineD x,LineD y] (.bool (tst (x=y))) [] []:=by
 refine fcb Tryz.func112 fun B=>?_
 repeat' first|exact h.elim|refine sw_n ?_|refine sw_go 0 kp112 fun K hK=>?_|refine fun (K:KT) (hK:KOk S 0 _ _ _ K)=>?_|refine runL_g ?_|refine sw_retg0 ?_|refine sw_retg ?_|(refine hK.n0 ?_;clear hK K)|refine sw_condg rfl (fun h=>?_) fun h=>?_|refine sw_loopEnd ?_|refine hK.c1 rfl rfl rfl (eqInt64SS_fc _ _ _ _) ?_|refine hK.c1 rfl rfl rfl (eqInt64S_fc _ _ _ _) ?_|with_reducible refine and_o ?_|apply tTT
 all_goals first|assumption|(intro e;subst e;contradiction)|(cases x;cases y;simp_all)
def kp56:List (Nat×List Nat):=[(0,[0,1]),(1,[0,1,10]),(2,[4]),(3,[0,1,5]),(4,[0,1,5,14]),(6,[0,1,5,26]),(7,[4]),(5,[0,1,5]),(8,[4])]
attribute [go_sem] kp56 Tryz.results56 Tryz.ntmps56
theorem eqLineS_fc (tk tk':Tk) (xs ys:List LineT):FC S 56 [] [] [] [.sl tk (xs.map LineD),.sl tk' (ys.map LineD)] (.bool (tst (xs=ys))) [] []:=by
 refine fcb Tryz.func56 fun B=>?_
 refine sw_bndg 0 fun hb0=>?_
 refine sw_bndg 1 fun hb1=>?_
 repeat' first|exact h.elim|refine sw_n ?_|refine sw_go 0 kp56 fun K hK=>?_|refine fun (K:KT) (hK:KOk S 0 _ _ _ K)=>?_|refine sw_goD kp56 (by kernel_rfl) fun K hK=>?_|refine runL_g ?_|refine runQ_g ?_|refine sw_retg0 ?_|refine sw_retg ?_|(refine hK.n0 ?_;clear hK K)|refine sw_condg rfl (fun h=>?_) fun h=>?_|refine sw_exit rfl ?_|refine sw_loopEnd ?_|with_reducible refine and_o ?_|apply tTT
 ·intro e;exact h (by rw[e])
 refine sw_loopU (ι:=Nat) (fun i=>[(5,.int .i64 i)]) (fun _=>[]) (fun i=>i≤xs.length∧(∀j<i,xs.getD j default=ys.getD j default)) (fun i=>xs.length-i) 0 cvA ⟨by omega,?_⟩ (fun i ⟨hi,hj⟩=>?_)
 rotate_left
 simp only[go_sem]
 repeat' first|exact h.elim|refine sw_n ?_|refine sw_go 0 kp56 fun K hK=>?_|refine fun (K:KT) (hK:KOk S 0 _ _ _ K)=>?_|refine sw_goD kp56 (by kernel_rfl) fun K hK=>?_|refine runL_g ?_|refine runQ_g ?_|refine sw_retg0 ?_|refine sw_retg ?_|(refine hK.n0 ?_;clear hK K)|refine sw_condg rfl (fun h=>?_) fun h=>?_|refine sw_exit rfl ?_|refine sw_loopEnd ?_|refine hK.c1 rfl rfl rfl (eqLine_fc _ _) ?_|with_reducible refine and_o ?_|apply tTT
 ·intro e;exact h (by rw[e])
 ·exact⟨i+1,by(refine covers_mk0 rfl rfl ?_ ?_ ?_ ?_<;>simp (disch:=(refine Om.mk ?_;omega)) only[go_sem]<;>(try omega)),⟨by omega,upto_succ hj (by assumption)⟩,by omega⟩
 ·exact ext_getD (by assumption) fun j hj'=>hj j (by omega)
 ·intro j hj';omega
def kp19:List (Nat×List Nat):=[(0,[2,3]),(1,[2,3,10]),(2,[4]),(3,[2,3,16]),(4,[4]),(5,[22]),(6,[4]),(7,[4])]
attribute [go_sem] kp19 Tryz.results19 Tryz.ntmps19
theorem eqFront_fc (x y:FrontT):FC S 19 [] [] [] [FrontD x,FrontD y] (.bool (tst (x=y))) [] []:=by
 refine fcb Tryz.func19 fun B=>?_
 repeat' first|exact h.elim|refine sw_n ?_|refine sw_go 0 kp19 fun K hK=>?_|refine fun (K:KT) (hK:KOk S 0 _ _ _ K)=>?_|refine runL_g ?_|refine sw_retg0 ?_|refine sw_retg ?_|(refine hK.n0 ?_;clear hK K)|refine sw_condg rfl (fun h=>?_) fun h=>?_|refine sw_loopEnd ?_|refine hK.c1 rfl rfl rfl (eqSig_fc _ _) ?_|refine hK.c1 rfl rfl rfl (eqInt64S_fc _ _ _ _) ?_|refine hK.c1 rfl rfl rfl (eqLineS_fc _ _ _ _) ?_|with_reducible refine and_o ?_|apply tTT
 all_goals first|assumption|(intro e;subst e;contradiction)|(cases x;cases y;simp_all)
def kp43:List (Nat×List Nat):=[(0,[0,1]),(1,[1]),(2,[1,10]),(3,[4]),(4,[4])]
attribute [go_sem] kp43 Tryz.results43 Tryz.ntmps43
theorem szInt64S_fc (tk:Tk) (xs:List Int) (b:Int) (hb:-1≤b∧b≤1048576):FC S 43 [] [] [] [.sl tk (xs.map (.int .i64)),.int .i64 b] (.int .i64 (szd b (cntInt64S xs))) [] []:=by
 refine fcb Tryz.func43 fun B=>?_
 refine sw_bndg 0 fun hb0=>?_
 repeat' first|exact h.elim|refine sw_n ?_|refine sw_go 0 kp43 fun K hK=>?_|refine fun (K:KT) (hK:KOk S 0 _ _ _ K)=>?_|refine runL_g ?_|refine sw_retg0 ?_|refine sw_retg ?_|(refine hK.n0 ?_;clear hK K)|refine sw_condg rfl (fun h=>?_) fun h=>?_|refine sw_loopEnd ?_|with_reducible refine and_o ?_|apply tTT
 all_goals (simp only[szd,cntInt64S] at *;grind)
def kp136:List (Nat×List Nat):=[(0,[0,1]),(1,[0,1]),(2,[0,1,11]),(3,[4]),(4,[0,1,5]),(5,[0,1,5,15]),(7,[0,1,5]),(8,[0,1,5,25]),(9,[4]),(6,[0,1,5]),(10,[4])]
attribute [go_sem] kp136 Tryz.results136 Tryz.ntmps136
theorem szInt64SS_fc (tk:Tk) (xs:List (List Int)) (b:Int) (hb:-1≤b∧b≤1048576):FC S 136 [] [] [] [.sl tk (xs.map IntsD),.int .i64 b] (.int .i64 (szd b (cntInt64SS xs))) [] []:=by
 refine fcb Tryz.func136 fun B=>?_
 refine sw_bndg 0 fun hb0=>?_
 repeat' first|exact h.elim|refine sw_n ?_|refine sw_go 0 kp136 fun K hK=>?_|refine fun (K:KT) (hK:KOk S 0 _ _ _ K)=>?_|refine runL_g ?_|refine sw_retg0 ?_|refine sw_retg ?_|(refine hK.n0 ?_;clear hK K)|refine sw_condg rfl (fun h=>?_) fun h=>?_|refine sw_exit rfl ?_|refine sw_loopEnd ?_|with_reducible refine and_o ?_|apply tTT
 ·simp only[szd,cntInt64SS];grind
 refine sw_loopU (ι:=Nat) (fun i=>[(5,.int .i64 i),(1,.int .i64 (b-xs.length-csum cntInt64S xs i))]) (fun _=>[]) (fun i=>i≤xs.length∧(0≤b-xs.length-csum cntInt64S xs i)) (fun i=>xs.length-i) 0 cvA ⟨by omega,?_⟩ (fun i ⟨hi,hj⟩=>?_)
 rotate_left
 simp only[go_sem]
 repeat' first|exact h.elim|refine sw_n ?_|refine sw_go 0 kp136 fun K hK=>?_|refine fun (K:KT) (hK:KOk S 0 _ _ _ K)=>?_|refine runL_g ?_|refine sw_retg0 ?_|refine sw_retg ?_|(refine hK.n0 ?_;clear hK K)|refine sw_condg rfl (fun h=>?_) fun h=>?_|refine sw_exit rfl ?_|refine sw_loopEnd ?_|refine hK.c1 rfl rfl rfl (szInt64S_fc _ _ _ (by omega)) ?_|with_reducible refine and_o ?_|apply tTT
 ·have hs:=csum_succ cntInt64S xs i (by omega)
  have hl:=csum_le cntInt64S xs (i+1)
  simp only[szd,cntInt64SS] at *;grind
 ·have hs:=csum_succ cntInt64S xs i (by omega)
  refine⟨i+1,(by(refine covers_mk0 rfl rfl ?_ ?_ ?_ ?_<;>simp (disch:=(refine Om.mk ?_;omega)) only[go_sem]<;>(try omega));rw[hs];simp only[szd] at *;grind),⟨by omega,?_⟩,by omega⟩
  simp only[szd] at *;grind
 ·have hs:=csum_all cntInt64S xs i (by omega)
  simp only[szd,cntInt64SS] at *;grind
 ·rw[csum_zero];omega
def kp23:List (Nat×List Nat):=[(0,[1,2]),(1,[1]),(2,[1,10]),(3,[4]),(4,[4])]
attribute [go_sem] kp23 Tryz.results23 Tryz.ntmps23
theorem szSig_fc (x:List Int) (b:Int) (hb:-1≤b∧b≤1048576):FC S 23 [] [] [] [SigD x,.int .i64 b] (.int .i64 (szd b (cntSig x))) [] []:=by
 refine fcb Tryz.func23 fun B=>?_
 repeat' first|exact h.elim|refine sw_n ?_|refine sw_go 0 kp23 fun K hK=>?_|refine fun (K:KT) (hK:KOk S 0 _ _ _ K)=>?_|refine runL_g ?_|refine sw_retg0 ?_|refine sw_retg ?_|(refine hK.n0 ?_;clear hK K)|refine sw_condg rfl (fun h=>?_) fun h=>?_|refine sw_loopEnd ?_|refine hK.c1 rfl rfl rfl (szInt64S_fc _ _ _ (by(first|exact hb|exact szd_rng hb|exact szd_rng (szd_rng hb)|exact szd_rng (szd_rng (szd_rng hb))|exact szd_rng (szd_rng (szd_rng (szd_rng hb)))|exact szd_rng (szd_rng (szd_rng (szd_rng (szd_rng hb))))|omega))) ?_|with_reducible refine and_o ?_|apply tTT
 all_goals (simp only[szd,cntSig] at *;grind)
def kp84:List (Nat×List Nat):=[(0,[1,2]),(1,[1,2]),(2,[1,2,10]),(3,[4]),(4,[1]),(5,[1,16]),(6,[4]),(7,[4])]
attribute [go_sem] kp84 Tryz.results84 Tryz.ntmps84
theorem szLine_fc (x:LineT) (b:Int) (hb:-1≤b∧b≤1048576):FC S 84 [] [] [] [LineD x,.int .i64 b] (.int .i64 (szd b (cntLine x))) [] []:=by
 refine fcb Tryz.func84 fun B=>?_
 repeat' first|exact h.elim|refine sw_n ?_|refine sw_go 0 kp84 fun K hK=>?_|refine fun (K:KT) (hK:KOk S 0 _ _ _ K)=>?_|refine runL_g ?_|refine sw_retg0 ?_|refine sw_retg ?_|(refine hK.n0 ?_;clear hK K)|refine sw_condg rfl (fun h=>?_) fun h=>?_|refine sw_loopEnd ?_|refine hK.c1 rfl rfl rfl (szInt64SS_fc _ _ _ (by(first|exact hb|exact szd_rng hb|exact szd_rng (szd_rng hb)|exact szd_rng (szd_rng (szd_rng hb))|exact szd_rng (szd_rng (szd_rng (szd_rng hb)))|exact szd_rng (szd_rng (szd_rng (szd_rng (szd_rng hb))))|omega))) ?_|refine hK.c1 rfl rfl rfl (szInt64S_fc _ _ _ (by(first|exact hb|exact szd_rng hb|exact szd_rng (szd_rng hb)|exact szd_rng (szd_rng (szd_rng hb))|exact szd_rng (szd_rng (szd_rng (szd_rng hb)))|exact szd_rng (szd_rng (szd_rng (szd_rng (szd_rng hb))))|omega))) ?_|with_reducible refine and_o ?_|apply tTT
 all_goals (simp only[szd,cntLine] at *;grind)
def kp44:List (Nat×List Nat):=[(0,[0,1]),(1,[0,1]),(2,[0,1,11]),(3,[4]),(4,[0,1,5]),(5,[0,1,5,15]),(7,[0,1,5]),(8,[0,1,5,25]),(9,[4]),(6,[0,1,5]),(10,[4])]
attribute [go_sem] kp44 Tryz.results44 Tryz.ntmps44
theorem szLineS_fc (tk:Tk) (xs:List LineT) (b:Int) (hb:-1≤b∧b≤1048576):FC S 44 [] [] [] [.sl tk (xs.map LineD),.int .i64 b] (.int .i64 (szd b (cntLineS xs))) [] []:=by
 refine fcb Tryz.func44 fun B=>?_
 refine sw_bndg 0 fun hb0=>?_
 repeat' first|exact h.elim|refine sw_n ?_|refine sw_go 0 kp44 fun K hK=>?_|refine fun (K:KT) (hK:KOk S 0 _ _ _ K)=>?_|refine runL_g ?_|refine sw_retg0 ?_|refine sw_retg ?_|(refine hK.n0 ?_;clear hK K)|refine sw_condg rfl (fun h=>?_) fun h=>?_|refine sw_exit rfl ?_|refine sw_loopEnd ?_|with_reducible refine and_o ?_|apply tTT
 ·simp only[szd,cntLineS];grind
 refine sw_loopU (ι:=Nat) (fun i=>[(5,.int .i64 i),(1,.int .i64 (b-xs.length-csum cntLine xs i))]) (fun _=>[]) (fun i=>i≤xs.length∧(0≤b-xs.length-csum cntLine xs i)) (fun i=>xs.length-i) 0 cvA ⟨by omega,?_⟩ (fun i ⟨hi,hj⟩=>?_)
 rotate_left
 simp only[go_sem]
 repeat' first|exact h.elim|refine sw_n ?_|refine sw_go 0 kp44 fun K hK=>?_|refine fun (K:KT) (hK:KOk S 0 _ _ _ K)=>?_|refine runL_g ?_|refine sw_retg0 ?_|refine sw_retg ?_|(refine hK.n0 ?_;clear hK K)|refine sw_condg rfl (fun h=>?_) fun h=>?_|refine sw_exit rfl ?_|refine sw_loopEnd ?_|refine hK.c1 rfl rfl rfl (szLine_fc _ _ (by omega)) ?_|with_reducible refine and_o ?_|apply tTT
 ·have hs:=csum_succ cntLine xs i (by omega)
  have hl:=csum_le cntLine xs (i+1)
  simp only[szd,cntLineS] at *;grind
 ·have hs:=csum_succ cntLine xs i (by omega)
  refine⟨i+1,(by(refine covers_mk0 rfl rfl ?_ ?_ ?_ ?_<;>simp (disch:=(refine Om.mk ?_;omega)) only[go_sem]<;>(try omega));rw[hs];simp only[szd] at *;grind),⟨by omega,?_⟩,by omega⟩
  simp only[szd] at *;grind
 ·have hs:=csum_all cntLine xs i (by omega)
  simp only[szd,cntLineS] at *;grind
 ·rw[csum_zero];omega
def kp15:List (Nat×List Nat):=[(0,[1,2]),(1,[1,2]),(2,[1,2,10]),(3,[4]),(4,[1,2]),(5,[1,2,16]),(6,[4]),(7,[1]),(8,[1,22]),(9,[4]),(10,[4])]
attribute [go_sem] kp15 Tryz.results15 Tryz.ntmps15
theorem szFront_fc (x:FrontT) (b:Int) (hb:-1≤b∧b≤1048576):FC S 15 [] [] [] [FrontD x,.int .i64 b] (.int .i64 (szd b (cntFront x))) [] []:=by
 refine fcb Tryz.func15 fun B=>?_
 repeat' first|exact h.elim|refine sw_n ?_|refine sw_go 0 kp15 fun K hK=>?_|refine fun (K:KT) (hK:KOk S 0 _ _ _ K)=>?_|refine runL_g ?_|refine sw_retg0 ?_|refine sw_retg ?_|(refine hK.n0 ?_;clear hK K)|refine sw_condg rfl (fun h=>?_) fun h=>?_|refine sw_loopEnd ?_|refine hK.c1 rfl rfl rfl (szSig_fc _ _ (by(first|exact hb|exact szd_rng hb|exact szd_rng (szd_rng hb)|exact szd_rng (szd_rng (szd_rng hb))|exact szd_rng (szd_rng (szd_rng (szd_rng hb)))|exact szd_rng (szd_rng (szd_rng (szd_rng (szd_rng hb))))|omega))) ?_|refine hK.c1 rfl rfl rfl (szInt64S_fc _ _ _ (by(first|exact hb|exact szd_rng hb|exact szd_rng (szd_rng hb)|exact szd_rng (szd_rng (szd_rng hb))|exact szd_rng (szd_rng (szd_rng (szd_rng hb)))|exact szd_rng (szd_rng (szd_rng (szd_rng (szd_rng hb))))|omega))) ?_|refine hK.c1 rfl rfl rfl (szLineS_fc _ _ _ (by(first|exact hb|exact szd_rng hb|exact szd_rng (szd_rng hb)|exact szd_rng (szd_rng (szd_rng hb))|exact szd_rng (szd_rng (szd_rng (szd_rng hb)))|exact szd_rng (szd_rng (szd_rng (szd_rng (szd_rng hb))))|omega))) ?_|with_reducible refine and_o ?_|apply tTT
 all_goals (simp only[szd,cntFront] at *;grind)
def kp12:List (Nat×List Nat):=[(0,[0]),(1,[0,3]),(2,[0,3,4]),(3,[0,3,4,11]),(5,[0,3,4]),(4,[0,3,4]),(6,[2])]
attribute [go_sem] kp12 Tryz.results12 Tryz.ntmps12
theorem toInt64S_fc (tk:Tk) (xs:List Int) (hn:cntInt64S xs≤1048576):FC S 12 [] [] [] [.sl tk (xs.map (.int .i64))] (.sl .any (xs.map (.int .i64))) [] []:=by
 have hl:xs.length≤1048576:=hn
 refine fcb Tryz.func12 fun B=>?_
 refine sw_bndg 0 fun hb0=>?_
 repeat' first|exact h.elim|refine sw_n ?_|refine sw_go 0 kp12 fun K hK=>?_|refine fun (K:KT) (hK:KOk S 0 _ _ _ K)=>?_|refine runL_g ?_|refine sw_retg0 ?_|refine sw_retg ?_|(refine hK.n0 ?_;clear hK K)|refine sw_condg rfl (fun h=>?_) fun h=>?_|refine sw_exit rfl ?_|refine sw_loopEnd ?_|with_reducible refine and_o ?_|((with_reducible refine And.intro ?_ ?_);· first|(intro x hx;subst hx;rfl)|(intro x;refine And.intro ?_ ?_<;>(intros;subst_vars;rfl)))|apply tTT
 refine sw_loopU (ι:=Nat) (fun i=>[(4,.int .i64 i)]) (fun i=>[(7,fillL (fun j=>.int .i64 (xs.getD j default)) (.int .i64 0) i xs.length)]) (fun i=>i≤xs.length∧(True)) (fun i=>xs.length-i) 0 (by(refine covers_mk0 rfl rfl ?_ ?_ ?_ ?_<;>simp (disch:=(refine Om.mk ?_;omega)) only[go_sem]<;>(try omega));exact fillL_start _ _ _) ⟨by omega,?_⟩ (fun i ⟨hi,hj⟩=>?_)
 rotate_left
 simp only[go_sem]
 repeat' first|exact h.elim|(refine sw_freezeAt 6 3 1 .any (xs.map (.int .i64)) rfl rfl (by rw[show i=xs.length by omega];exact(fillL_done (.int .i64) _ xs).trans (flat_ones _ _ (fun _=>rfl)).symm) (by rw[List.length_map]) (cells_one fun _=>rfl) (fillL_memOk (fun _=>rfl) rfl) (.inl rfl) ?_;simp only[go_sem])|refine sw_n ?_|refine sw_go 0 kp12 fun K hK=>?_|refine fun (K:KT) (hK:KOk S 0 _ _ _ K)=>?_|refine runL_g ?_|refine sw_retg0 ?_|refine sw_retg ?_|(refine hK.n0 ?_;clear hK K)|refine sw_condg rfl (fun h=>?_) fun h=>?_|refine sw_exit rfl ?_|refine sw_loopEnd ?_|with_reducible refine and_o ?_|((with_reducible refine And.intro ?_ ?_);· first|(intro x hx;subst hx;rfl)|(intro x;refine And.intro ?_ ?_<;>(intros;subst_vars;rfl)))|apply tTT
 ·exact⟨i+1,(by(refine covers_mk0 rfl rfl ?_ ?_ ?_ ?_<;>simp (disch:=(refine Om.mk ?_;omega)) only[go_sem]<;>(try omega));exact fillL_set (fun j=>.int .i64 (xs.getD j default)) _ _ _),by omega,by omega⟩
 all_goals trivial
def kp139:List (Nat×List Nat):=[(0,[0]),(1,[0,3]),(2,[0,3,4]),(3,[0,3,4,11]),(5,[0,3,4]),(4,[0,3,4]),(6,[2])]
attribute [go_sem] kp139 Tryz.results139 Tryz.ntmps139
theorem toInt64SS_fc (tk:Tk) (xs:List (List Int)) (hn:cntInt64SS xs≤1048576):FC S 139 [] [] [] [.sl tk (xs.map IntsD)] (.sl .any (xs.map IntsD)) [] []:=by
 have hl:xs.length≤1048576:=by unfold cntInt64SS at hn;omega
 have hq:∀i<xs.length,cntInt64S (xs.getD i default)≤1048576:=fun i hi=>by
  have:=f_le_sum cntInt64S xs i hi
  unfold cntInt64SS at hn;omega
 refine fcb Tryz.func139 fun B=>?_
 refine sw_bndg 0 fun hb0=>?_
 repeat' first|exact h.elim|refine sw_n ?_|refine sw_go 0 kp139 fun K hK=>?_|refine fun (K:KT) (hK:KOk S 0 _ _ _ K)=>?_|refine runL_g ?_|refine sw_retg0 ?_|refine sw_retg ?_|(refine hK.n0 ?_;clear hK K)|refine sw_condg rfl (fun h=>?_) fun h=>?_|refine sw_exit rfl ?_|refine sw_loopEnd ?_|with_reducible refine and_o ?_|((with_reducible refine And.intro ?_ ?_);· first|(intro x hx;subst hx;rfl)|(intro x;refine And.intro ?_ ?_<;>(intros;subst_vars;rfl)))|apply tTT
 refine sw_loopU (ι:=Nat) (fun i=>[(4,.int .i64 i)]) (fun i=>[(7,fillL (fun j=>.sl .any ((xs.getD j default).map (.int .i64))) (.sl .nil []) i xs.length)]) (fun i=>i≤xs.length∧(True)) (fun i=>xs.length-i) 0 (by(refine covers_mk0 rfl rfl ?_ ?_ ?_ ?_<;>simp (disch:=(refine Om.mk ?_;omega)) only[go_sem]<;>(try omega));exact fillL_start _ _ _) ⟨by omega,?_⟩ (fun i ⟨hi,hj⟩=>?_)
 rotate_left
 simp only[go_sem]
 repeat' first|exact h.elim|(refine sw_freezeAt 6 3 1 .any (xs.map IntsD) rfl rfl (by rw[show i=xs.length by omega];exact(fillL_done IntsD _ xs).trans (flat_ones _ _ (fun _=>rfl)).symm) (by rw[List.length_map]) (cells_one fun _=>rfl) (fillL_memOk (fun _=>rfl) rfl) (.inl rfl) ?_;simp only[go_sem])|refine sw_n ?_|refine sw_go 0 kp139 fun K hK=>?_|refine fun (K:KT) (hK:KOk S 0 _ _ _ K)=>?_|refine runL_g ?_|refine sw_retg0 ?_|refine sw_retg ?_|(refine hK.n0 ?_;clear hK K)|refine sw_condg rfl (fun h=>?_) fun h=>?_|refine sw_exit rfl ?_|refine sw_loopEnd ?_|refine hK.c1 rfl rfl rfl (toInt64S_fc _ _ (by exact hq i (by omega))) ?_|with_reducible refine and_o ?_|((with_reducible refine And.intro ?_ ?_);· first|(intro x hx;subst hx;rfl)|(intro x;refine And.intro ?_ ?_<;>(intros;subst_vars;rfl)))|apply tTT
 ·exact⟨i+1,(by(refine covers_mk0 rfl rfl ?_ ?_ ?_ ?_<;>simp (disch:=(refine Om.mk ?_;omega)) only[go_sem]<;>(try omega));exact fillL_set (fun j=>.sl .any ((xs.getD j default).map (.int .i64))) _ _ _),by omega,by omega⟩
 all_goals trivial
def kp29:List (Nat×List Nat):=[(0,[1,2]),(1,[1,2,3]),(2,[2,3]),(3,[2])]
attribute [go_sem] kp29 Tryz.results29 Tryz.ntmps29
theorem toSig_fc (x:List Int) (hn:cntSig x≤1048576):FC S 29 [] [] [] [SigD x] (SigD x) [] []:=by
 have hn':=hn
 simp only[cntSig] at hn'
 refine fcb Tryz.func29 fun B=>?_
 repeat' first|refine sw_n ?_|refine sw_go 0 kp29 fun K hK=>?_|refine fun (K:KT) (hK:KOk S 0 _ _ _ K)=>?_|refine runL_g ?_|refine sw_retg0 ?_|refine sw_retg ?_|(refine hK.n0 ?_;clear hK K)|refine sw_loopEnd ?_|refine hK.c1 rfl rfl rfl (toInt64S_fc _ _ (by omega)) ?_|with_reducible refine and_o ?_|apply tTT
 all_goals exact D.le.refl _
def kp97:List (Nat×List Nat):=[(0,[1,2]),(1,[1,2,3]),(2,[1,2,3]),(3,[1,2,3]),(4,[2,3]),(5,[2])]
attribute [go_sem] kp97 Tryz.results97 Tryz.ntmps97
theorem toLine_fc (x:LineT) (hn:cntLine x≤1048576):FC S 97 [] [] [] [LineD x] (LineD x) [] []:=by
 have hn':=hn
 simp only[cntLine] at hn'
 refine fcb Tryz.func97 fun B=>?_
 repeat' first|refine sw_n ?_|refine sw_go 0 kp97 fun K hK=>?_|refine fun (K:KT) (hK:KOk S 0 _ _ _ K)=>?_|refine runL_g ?_|refine sw_retg0 ?_|refine sw_retg ?_|(refine hK.n0 ?_;clear hK K)|refine sw_loopEnd ?_|refine hK.c1 rfl rfl rfl (toInt64SS_fc _ _ (by omega)) ?_|refine hK.c1 rfl rfl rfl (toInt64S_fc _ _ (by omega)) ?_|with_reducible refine and_o ?_|apply tTT
 all_goals exact D.le.refl _
def kp50:List (Nat×List Nat):=[(0,[0]),(1,[0,3]),(2,[0,3,4]),(3,[0,3,4,11]),(5,[0,3,4]),(4,[0,3,4]),(6,[2])]
attribute [go_sem] kp50 Tryz.results50 Tryz.ntmps50
theorem toLineS_fc (tk:Tk) (xs:List LineT) (hn:cntLineS xs≤1048576):FC S 50 [] [] [] [.sl tk (xs.map LineD)] (.sl .any (xs.map LineD)) [] []:=by
 have hl:xs.length≤1048576:=by unfold cntLineS at hn;omega
 have hq:∀i<xs.length,cntLine (xs.getD i default)≤1048576:=fun i hi=>by
  have:=f_le_sum cntLine xs i hi
  unfold cntLineS at hn;omega
 refine fcb Tryz.func50 fun B=>?_
 refine sw_bndg 0 fun hb0=>?_
 repeat' first|exact h.elim|refine sw_n ?_|refine sw_go 0 kp50 fun K hK=>?_|refine fun (K:KT) (hK:KOk S 0 _ _ _ K)=>?_|refine runL_g ?_|refine sw_retg0 ?_|refine sw_retg ?_|(refine hK.n0 ?_;clear hK K)|refine sw_condg rfl (fun h=>?_) fun h=>?_|refine sw_exit rfl ?_|refine sw_loopEnd ?_|with_reducible refine and_o ?_|((with_reducible refine And.intro ?_ ?_);· first|(intro x hx;subst hx;rfl)|(intro x;refine And.intro ?_ ?_<;>(intros;subst_vars;rfl)))|apply tTT
 refine sw_loopU (ι:=Nat) (fun i=>[(4,.int .i64 i)]) (fun i=>[(7,fillF (fun j=>[.int .i64 ((xs.getD j default)).fun_,.sl .any (((xs.getD j default)).pats.map IntsD),.sl .any (((xs.getD j default)).body.map (.int .i64))]) [.int .i64 0,.sl .nil [],.sl .nil []] i xs.length)]) (fun i=>i≤xs.length∧(True)) (fun i=>xs.length-i) 0 (by(refine covers_mk0 rfl rfl ?_ ?_ ?_ ?_<;>simp (disch:=(refine Om.mk ?_;omega)) only[go_sem]<;>(try omega));exact fillF_start _ _ _) ⟨by omega,?_⟩ (fun i ⟨hi,hj⟩=>?_)
 rotate_left
 simp only[go_sem]
 have hm:i*3+3≤3*xs.length∨xs.length≤i:=by omega
 repeat' first|exact h.elim|(refine sw_freezeAt 6 3 3 .any (xs.map LineD) rfl rfl (by rw[show i=xs.length by omega];exact fillF_done LineD _ xs) (by rw[List.length_map]) (cells_n fun _=>rfl) (fillF_memOk (fun j d hd=>by revert d hd;simp[D.memOk]) (by simp[D.memOk])) (.inl rfl) ?_;simp only[go_sem])|refine sw_n ?_|refine sw_go 0 kp50 fun K hK=>?_|refine fun (K:KT) (hK:KOk S 0 _ _ _ K)=>?_|refine runL_g ?_|refine sw_retg0 ?_|refine sw_retg ?_|(refine hK.n0 ?_;clear hK K)|refine sw_condg rfl (fun h=>?_) fun h=>?_|refine sw_exit rfl ?_|refine sw_loopEnd ?_|refine hK.c1 rfl rfl rfl (toLine_fc _ (by exact hq i (by omega))) ?_|with_reducible refine and_o ?_|((with_reducible refine And.intro ?_ ?_);· first|(intro x hx;subst hx;rfl)|(intro x;refine And.intro ?_ ?_<;>(intros;subst_vars;rfl)))|apply tTT
 ·exact⟨i+1,(by(refine covers_mk0 rfl rfl ?_ ?_ ?_ ?_<;>simp (disch:=(refine Om.mk ?_;omega)) only[go_sem]<;>(try omega));exact fillF_put (f:=fun j=>[.int .i64 ((xs.getD j default)).fun_,.sl .any (((xs.getD j default)).pats.map IntsD),.sl .any (((xs.getD j default)).body.map (.int .i64))]) (fun _=>rfl) rfl (by omega)),by omega,by omega⟩
 all_goals trivial
def kp17:List (Nat×List Nat):=[(0,[1,2]),(1,[1,2,3]),(2,[1,2,3]),(3,[1,2,3]),(4,[2,3]),(5,[2])]
attribute [go_sem] kp17 Tryz.results17 Tryz.ntmps17
theorem toFront_fc (x:FrontT) (hn:cntFront x≤1048576):FC S 17 [] [] [] [FrontD x] (FrontD x) [] []:=by
 have hn':=hn
 simp only[cntFront] at hn'
 refine fcb Tryz.func17 fun B=>?_
 repeat' first|refine sw_n ?_|refine sw_go 0 kp17 fun K hK=>?_|refine fun (K:KT) (hK:KOk S 0 _ _ _ K)=>?_|refine runL_g ?_|refine sw_retg0 ?_|refine sw_retg ?_|(refine hK.n0 ?_;clear hK K)|refine sw_loopEnd ?_|refine hK.c1 rfl rfl rfl (toSig_fc _ (by omega)) ?_|refine hK.c1 rfl rfl rfl (toInt64S_fc _ _ (by omega)) ?_|refine hK.c1 rfl rfl rfl (toLineS_fc _ _ (by omega)) ?_|with_reducible refine and_o ?_|apply tTT
 all_goals exact D.le.refl _
end
section
attribute [local irreducible] SW runL runQ runG runQG FC Ret1
def SigOkP (rs:List Int):Prop:=(1≤rs.length∧rs.length≤8)∧∀j<rs.length,0≤rs.getD j default∧rs.getD j default≤3
def arS (rs:List Int) (n:Int):Int:=if -24≤n∧n≤-1 then 0 else if 0≤n∧n≤rs.length-1 then rs.getD n.toNat default else -1
def scan (rs:List Int):List Int→Int→Nat→Int
 | [],_,_=>-1
 | x::r,need,i=>if arS rs x<0 then -1 else if need+arS rs x-1=0 then (i:Int)+1 else scan rs r (need+arS rs x-1) (i+1)
def endS (rs t:List Int) (a:Nat):Int:=scan rs (t.drop a) 1 a
def TermOkP (rs t:List Int):Prop:=SigOkP rs∧(1≤t.length∧t.length≤60)∧endS rs t 0=t.length
theorem scan_step (rs t:List Int) (need:Int) (i:Nat) (h:i<t.length):scan rs (t.drop i) need i=if arS rs (t.getD i default)<0 then -1 else if need+arS rs (t.getD i default)-1=0 then (i:Int)+1 else scan rs (t.drop (i+1)) (need+arS rs (t.getD i default)-1) (i+1):=by
 rw[List.drop_eq_getElem_cons h]
 simp[scan,List.getD,List.getElem?_eq_getElem h]
theorem scan_end (rs t:List Int) (need:Int) (i:Nat) (h:t.length≤i):scan rs (t.drop i) need i=-1:=by
 rw[List.drop_of_length_le h];rfl
theorem arS_rng {rs:List Int} (hs:SigOkP rs) (n:Int):-1≤arS rs n∧arS rs n≤3:=by
 unfold arS
 split
 ·omega
 ·split
  ·rename_i h
   have:=hs.2 n.toNat (by omega)
   omega
  ·omega
theorem arS_var {rs:List Int} {n:Int} (h:-24≤n∧n≤-1):arS rs n=0:=if_pos h
theorem arS_sym {rs:List Int} {n:Int} (h:0≤n∧n≤rs.length-1):arS rs n=rs.getD n.toNat default:=by
 unfold arS;rw[if_neg (by omega),if_pos h]
theorem arS_none {rs:List Int} {n:Int} (h1:¬(-24≤n∧n≤-1)) (h2:¬(0≤n∧n≤rs.length-1)):arS rs n=-1:=by
 unfold arS;rw[if_neg h1,if_neg h2]
theorem scan_all {rs:List Int}:∀(l:List Int) (need:Int) (i:Nat),scan rs l need i=i+l.length→∀x∈l,0≤arS rs x
 | [],_,_,_,x,hx=>by cases hx
 | y::r,need,i,h,x,hx=>by
  simp only[scan] at h
  split at h
  ·simp only[List.length_cons] at h;omega
  ·split at h
   ·have:r=[]:=by
     cases r with
     | nil=>rfl
     | cons _ _=>simp only[List.length_cons] at h;omega
    subst this
    obtain rfl:x=y:=by simpa using hx
    omega
   ·rcases List.mem_cons.1 hx with rfl|hx
    ·omega
    ·exact scan_all r _ _ (by rw[h];simp only[List.length_cons];omega) x hx
theorem ge24_of_arS {rs:List Int} {x:Int} (h:0≤arS rs x):-24≤x:=by
 unfold arS at h
 split at h
 ·omega
 ·split at h<;>omega
theorem TermOkP.ge {rs t:List Int} (h:TermOkP rs t):∀x∈t,-24≤x:=fun x hx=>by
 have:=h.2.2
 unfold endS at this
 rw[List.drop_zero] at this
 exact ge24_of_arS (scan_all (rs:=rs) t 1 0 (by omega) x hx)
def skipS (rs:List Int):List Int→Int→Nat→Nat×Bool
 | [],_,i=>(i,false)
 | x::r,need,i=>if arS rs x<0 then (i,false) else if need+arS rs x-1=0 then (i+1,true) else skipS rs r (need+arS rs x-1) (i+1)
theorem skip_scan (rs:List Int):∀(l:List Int) (need:Int) (i:Nat),scan rs l need i=if (skipS rs l need i).2=true then ((skipS rs l need i).1:Int) else -1
 | [],_,_=>rfl
 | x::r,need,i=>by
  simp only[scan,skipS]
  split
  ·rfl
  ·split
   ·simp
   ·exact skip_scan rs r _ _
theorem skip_step (rs t:List Int) (need:Int) (i:Nat) (h:i<t.length):skipS rs (t.drop i) need i=if arS rs (t.getD i default)<0 then (i,false) else if need+arS rs (t.getD i default)-1=0 then (i+1,true) else skipS rs (t.drop (i+1)) (need+arS rs (t.getD i default)-1) (i+1):=by
 rw[List.drop_eq_getElem_cons h]
 simp[skipS,List.getD,List.getElem?_eq_getElem h]
theorem skip_end (rs t:List Int) (need:Int) (i:Nat) (h:t.length≤i):skipS rs (t.drop i) need i=(i,false):=by
 rw[List.drop_of_length_le h];rfl
def nxS (rs t:List Int) (a:Nat):Int:=if a<t.length then arS rs (t.getD a default) else -1
def minAt (xs:List Int):Nat→Int
 | 0=>xs.getD 0 default
 | n+1=>if xs.getD (n+1) default<minAt xs n then xs.getD (n+1) default else minAt xs n
theorem minAt_ge (xs:List Int) (c:Int):∀n,c≤minAt xs n↔∀j≤n,c≤xs.getD j default
  | 0 => ⟨fun h j hj => by obtain rfl : j = 0 := by omega
                           exact h,fun h=>h 0 (by omega)⟩
  | n+1=>by
    have ih:=minAt_ge xs c n
    simp only[minAt]
    constructor
    · intro h j hj
      split at h
      · rcases Nat.lt_or_ge j (n+1) with e|e
        · exact ih.1 (by omega) j (by omega)
        · obtain rfl:j=n+1:=by omega
          exact h
      · rcases Nat.lt_or_ge j (n+1) with e|e
        · exact ih.1 h j (by omega)
        · obtain rfl:j=n+1:=by omega
          omega
    · intro h
      split
      · exact h _ (by omega)
      · exact ih.2 fun j hj=>h j (by omega)
theorem minAt_all {xs:List Int} {c:Int} (h:0<xs.length):c≤minAt xs (xs.length-1)↔∀x∈xs,c≤x:=by
 rw[minAt_ge,←forall_getD (P:=fun x=>c≤x)]
 exact⟨fun hh j hj=>hh j (by omega),fun hh j hj=>hh j (by omega)⟩
def kp126:List (Nat×List Nat):=[(0,[0,1,2]),(1,[6])]
attribute [go_sem] kp126 Tryz.results126 Tryz.ntmps126
theorem l1In_fc (n lo hi:Int):FC S 126 [] [] [] [.int .i64 n,.int .i64 lo,.int .i64 hi] (.bool (tst (lo≤n∧n≤hi))) [] []:=by
 refine fcb Tryz.func126 fun B=>?_
 repeat' first|exact h.elim|refine sw_n ?_|refine sw_go 0 kp126 fun K hK=>?_|refine runL_g ?_|refine sw_retg0 ?_|(refine hK.n0 ?_;clear hK K)|refine runG_fk (fun h=>?_) fun h=>?_|apply tTT
 ·simp[decide_tst,h]
 ·omega
def kp85:List (Nat×List Nat):=[(0,[1]),(1,[1,8]),(2,[2]),(3,[1,3]),(4,[1,3,13]),(6,[1,3,22]),(7,[2]),(5,[1,3]),(8,[2])]
attribute [go_sem] kp85 Tryz.results85 Tryz.ntmps85
theorem specSigOk_fc (tk:Tk) (rs:List Int):FC S 85 [] [] [] [.agg [.sl tk (rs.map (.int .i64))]] (.bool (tst (SigOkP rs))) [] []:=by
 refine fcb Tryz.func85 fun B=>?_
 refine sw_bnd_aggg 0 0 fun hb0_0=>?_
 repeat' first|exact h.elim|refine sw_n ?_|refine sw_go 0 kp85 fun K hK=>?_|refine runL_g ?_|refine sw_retg0 ?_|(refine hK.n0 ?_;clear hK K)|refine sw_condg rfl (fun h=>?_) fun h=>?_|refine hK.c1 rfl rfl rfl (l1In_fc _ _ _) ?_|apply tTT
 ·rintro⟨h1,_⟩;omega
 refine sw_loopU (ι:=Nat) (fun i=>[(3,.int .i64 i)]) (fun _=>[]) (fun i=>i≤rs.length∧(∀j<i,0≤rs.getD j default∧rs.getD j default≤3)) (fun i=>rs.length-i) 0 cvA ⟨by omega,?_⟩ (fun i ⟨hi,hj⟩=>?_)
 rotate_left
 simp only[go_sem]
 repeat' first|exact h.elim|refine sw_n ?_|refine sw_go 0 kp85 fun K hK=>?_|refine runL_g ?_|refine sw_retg0 ?_|(refine hK.n0 ?_;clear hK K)|refine sw_condg rfl (fun h=>?_) fun h=>?_|refine sw_exit rfl ?_|refine sw_loopEnd ?_|refine hK.c1 rfl rfl rfl (l1In_fc _ _ _) ?_|with_reducible refine and_o ?_|apply tTT
 ·rintro⟨_,h2⟩;exact h (h2 i (by omega))
 ·exact⟨i+1,by(refine covers_mk0 rfl rfl ?_ ?_ ?_ ?_<;>simp (disch:=(refine Om.mk ?_;omega)) only[go_sem]<;>(try omega)),⟨by omega,upto_succ hj (by assumption)⟩,by omega⟩
 ·exact⟨⟨by omega,by omega⟩,fun j hj'=>hj j (by omega)⟩
 ·intro j hj';omega
def kp98:List (Nat×List Nat):=[(0,[1]),(1,[1,14]),(2,[2]),(3,[16,17,18]),(4,[16,17,18,19]),(5,[4,16,17,18]),(6,[16,17,18,27]),(7,[2]),(8,[16,17,18]),(9,[2])]
attribute [go_sem] kp98 Tryz.results98 Tryz.ntmps98
theorem implSigOk_fc (tk:Tk) (rs:List Int):FC S 98 [] [] [] [.agg [.sl tk (rs.map (.int .i64))]] (.bool (tst (SigOkP rs))) [] []:=by
 refine fcb Tryz.func98 fun B=>?_
 refine sw_bnd_aggg 0 0 fun hb0_0=>?_
 repeat' first|exact h.elim|refine sw_n ?_|refine sw_go 0 kp98 fun K hK=>?_|refine runL_g ?_|refine sw_retg0 ?_|(refine hK.n0 ?_;clear hK K)|refine runG_fk (fun h=>?_) fun h=>?_|refine sw_condg rfl (fun h=>?_) fun h=>?_|apply tTT
 ·rintro⟨h1,_⟩;omega
 ·rintro⟨h1,_⟩;omega
 refine sw_loopU (ι:=Nat) (fun i=>[(18,.int .i64 i)]) (fun _=>[]) (fun i=>i≤rs.length∧(∀j<i,0≤rs.getD j default∧rs.getD j default≤3)) (fun i=>rs.length-i) 0 cvA ⟨by omega,?_⟩ (fun i ⟨hi,hj⟩=>?_)
 rotate_left
 simp only[go_sem]
 repeat' first|exact h.elim|refine sw_n ?_|refine sw_go 0 kp98 fun K hK=>?_|refine runL_g ?_|refine sw_retg0 ?_|(refine hK.n0 ?_;clear hK K)|refine runG_fk (fun h=>?_) fun h=>?_|refine sw_condg rfl (fun h=>?_) fun h=>?_|refine sw_exit rfl ?_|refine sw_loopEnd ?_|with_reducible refine and_o ?_|apply tTT
 ·rintro⟨_,h2⟩;have:=h2 i (by omega);omega
 ·rintro⟨_,h2⟩;have:=h2 i (by omega);omega
 ·exact⟨i+1,by(refine covers_mk0 rfl rfl ?_ ?_ ?_ ?_<;>simp (disch:=(refine Om.mk ?_;omega)) only[go_sem]<;>(try omega)),⟨by omega,upto_succ hj ⟨by assumption,by assumption⟩⟩,by omega⟩
 ·exact⟨⟨by omega,by omega⟩,fun j hj'=>hj j (by omega)⟩
 ·intro j hj';omega
def kp129:List (Nat×List Nat):=[(0,[1,2]),(1,[1,2,5]),(2,[4]),(3,[1,2,8]),(4,[4]),(5,[4])]
attribute [go_sem] kp129 Tryz.results129 Tryz.ntmps129
theorem l1Arity_fc (tk:Tk) (rs:List Int) (n:Int):FC S 129 [] [] [] [.agg [.sl tk (rs.map (.int .i64))],.int .i64 n] (.int .i64 (arS rs n)) [] []:=by
 refine fcb Tryz.func129 fun B=>?_
 refine sw_bnd_aggg 0 0 fun hb0_0=>?_
 repeat' first|exact h.elim|refine sw_n ?_|refine sw_go 0 kp129 fun K hK=>?_|refine runL_g ?_|refine sw_retg0 ?_|(refine hK.n0 ?_;clear hK K)|refine sw_condg rfl (fun h=>?_) fun h=>?_|refine hK.c1 rfl rfl rfl (l1In_fc _ _ _) ?_|with_reducible refine and_o ?_|apply tTT
 ·exact(arS_var h).symm
 ·rw[arS_sym (by omega)]
 ·exact(arS_none (by assumption) (by assumption)).symm
def kp127:List (Nat×List Nat):=[(0,[1,2,3]),(1,[1,2,3,7]),(2,[1,3,7,8]),(3,[1,3,7,8,14]),(5,[1,3,7,8,9]),(6,[1,3,7,8,9,24]),(7,[6]),(8,[1,3,7,8]),(9,[1,3,7,8,30]),(10,[6]),(4,[1,3,7,8]),(11,[6])]
attribute [go_sem] kp127 Tryz.results127 Tryz.ntmps127
theorem l1End_fc (tk tk':Tk) (rs t:List Int) (a:Int) (hs:SigOkP rs) (hl:t.length≤60) (ha:0≤a):FC S 127 [] [] [] [.agg [.sl tk (rs.map (.int .i64))],.sl tk' (t.map (.int .i64)),.int .i64 a] (.int .i64 (endS rs t a.toNat)) [] []:=by
 refine fcb Tryz.func127 fun B=>?_
 refine sw_bndg 1 fun hb1=>?_
 repeat' first|refine sw_n ?_|refine sw_go 0 kp127 fun K hK=>?_|refine runL_g ?_|(refine hK.n0 ?_;clear hK K)|apply tTT
 refine sw_loopU (ι:=Nat×Int) (fun p=>[(8,.int .i64 p.1),(7,.int .i64 p.2)]) (fun p=>[]) (fun p=>(a.toNat≤p.1∧endS rs t a.toNat=scan rs (t.drop p.1) p.2 p.1)∧1≤p.2∧p.2≤1+3*p.1) (fun p=>t.length-p.1) (a.toNat,1) cvA ?_ (fun p hp=>?_)
 rotate_left
 simp only[go_sem]
 obtain⟨i,need⟩:=p
 obtain⟨⟨h1,h2⟩,h3,h4⟩:=hp
 have hr:=arS_rng hs (t.getD i default)
 have hb:i<t.length→scan rs (t.drop i) need i=_:=scan_step rs t need i
 repeat' first|exact h.elim|refine sw_n ?_|refine sw_go 0 kp127 fun K hK=>?_|refine sw_goD kp127 (by kernel_rfl) fun K hK=>?_|refine runL_g ?_|refine runQ_g ?_|refine sw_retg0 ?_|(refine hK.n0 ?_;clear hK K)|refine sw_condg rfl (fun h=>?_) fun h=>?_|refine sw_exit rfl ?_|refine sw_loopEnd ?_|refine hK.c1 rfl rfl rfl (l1Arity_fc _ _ _) ?_|with_reducible refine and_o ?_|apply tTT
 ·rw[h2,hb (by omega),if_pos h]
 ·rw[h2,hb (by omega),if_neg (by omega),if_pos h]
 ·refine⟨(i+1,need+arS rs (t.getD i default)-1),by(refine covers_mk0 rfl rfl ?_ ?_ ?_ ?_<;>simp (disch:=(refine Om.mk ?_;omega)) only[go_sem]<;>(try omega)),⟨⟨by omega,?_⟩,by omega,by omega⟩,by omega⟩
  rw[h2,hb (by omega),if_neg (by omega),if_neg h]
 ·rw[h2,scan_end rs t need i (by omega)]
 ·exact⟨⟨by omega,rfl⟩,by omega,by omega⟩
def kp75:List (Nat×List Nat):=[(0,[1,2]),(1,[4])]
attribute [go_sem] kp75 Tryz.results75 Tryz.ntmps75
theorem specTermOk_fc (tk tk':Tk) (rs t:List Int):FC S 75 [] [] [] [.agg [.sl tk (rs.map (.int .i64))],.sl tk' (t.map (.int .i64))] (.bool (tst (TermOkP rs t))) [] []:=by
 refine fcb Tryz.func75 fun B=>?_
 refine sw_bnd_aggg 0 0 fun hb0_0=>?_
 refine sw_bndg 1 fun hb1=>?_
 repeat' first|exact h.elim|refine sw_n ?_|refine sw_go 0 kp75 fun K hK=>?_|refine runL_g ?_|refine sw_retg0 ?_|(refine hK.n0 ?_;clear hK K)|refine runG_fk (fun h=>?_) fun h=>?_|refine hK.skp rfl rfl ?_|refine hK.c1 rfl rfl rfl (specSigOk_fc _ _) ?_|refine hK.c1 rfl rfl rfl (l1In_fc _ _ _) ?_|refine hK.c1 rfl rfl rfl (l1End_fc _ _ _ _ _ (by assumption) (by omega) (by omega)) ?_|apply tTT
 all_goals (simp only[TermOkP] at *;grind)
def kp130:List (Nat×List Nat):=[(0,[0]),(1,[0,7]),(2,[0]),(3,[0,3]),(4,[0,3,4]),(5,[0,3,4,15]),(7,[0,3,4]),(6,[0,3,4]),(8,[2])]
attribute [go_sem] kp130 Tryz.results130 Tryz.ntmps130
theorem min_fc (tk:Tk) (xs:List Int) (h0:0<xs.length):FC S 130 [] [] [] [.sl tk (xs.map (.int .i64))] (.int .i64 (minAt xs (xs.length-1))) [] []:=by
 refine fcb Tryz.func130 fun B=>?_
 refine sw_bndg 0 fun hb0=>?_
 repeat' first|exact h.elim|refine sw_n ?_|refine sw_go 0 kp130 fun K hK=>?_|refine runL_g ?_|(refine hK.n0 ?_;clear hK K)|refine sw_condg rfl (fun h=>?_) fun h=>?_|with_reducible refine and_o ?_|apply tTT
 ·omega
 refine sw_loopU (ι:=Nat) (fun p=>[(4,.int .i64 (p+1)),(3,.int .i64 (minAt xs p))]) (fun p=>[]) (fun p=>p<xs.length) (fun p=>xs.length-p) 0 cvB ?_ (fun p hp=>?_)
 rotate_left
 simp only[go_sem]
 repeat' first|exact h.elim|refine sw_n ?_|refine sw_go 0 kp130 fun K hK=>?_|refine runL_g ?_|refine sw_retg0 ?_|(refine hK.n0 ?_;clear hK K)|refine sw_condg rfl (fun h=>?_) fun h=>?_|refine sw_exit rfl ?_|refine sw_loopEnd ?_|with_reducible refine and_o ?_|apply tTT
 ·exact⟨p+1,cvB,by omega,by omega⟩
 ·rw[show p=xs.length-1 by omega]
 ·exact h0
def kp135:List (Nat×List Nat):=[(0,[1,2]),(1,[1,2,6]),(2,[4]),(3,[4])]
attribute [go_sem] kp135 Tryz.results135 Tryz.ntmps135
theorem arityAt_fc (tk:Tk) (rs:List Int) (n:Int) (hn:-24≤n∧n<rs.length):FC S 135 [] [] [] [.agg [.sl tk (rs.map (.int .i64))],.int .i64 n] (.int .i64 (arS rs n)) [] []:=by
 refine fcb Tryz.func135 fun B=>?_
 refine sw_bnd_aggg 0 0 fun hb0_0=>?_
 repeat' first|exact h.elim|refine sw_n ?_|refine sw_go 0 kp135 fun K hK=>?_|refine runL_g ?_|refine sw_retg0 ?_|(refine hK.n0 ?_;clear hK K)|refine sw_condg rfl (fun h=>?_) fun h=>?_|with_reducible refine and_o ?_|apply tTT
 ·exact(arS_var (by omega)).symm
 ·rw[arS_sym (by omega)]
def kp170:List (Nat×List Nat):=[(0,[0]),(1,[0,31]),(2,[2]),(3,[0]),(4,[2])]
attribute [go_sem] kp170 Tryz.results170 Tryz.ntmps170
theorem next_fc (id:Nat) (rs t:List Int) (a:Nat) (hs:SigOkP rs) (ht:∀x∈t,-24≤x):FC S 170 [] [(id,[.sl .any (rs.map (.int .i64)),.sl .any (t.map (.int .i64)),.int .i64 a])] [] [.box id 0] (.int .i64 (nxS rs t a)) [(id,[.sl .any (rs.map (.int .i64)),.sl .any (t.map (.int .i64)),.int .i64 ((if nxS rs t a<0 then a else a+1:Nat):Int)])] []:=by
 have hx:a<t.length→-24≤t.getD a default:=fun h=>ht _ (getD_mem t a h)
 refine fcb Tryz.func170 fun B=>?_
 refine sw_bnd_box id 1 (if_pos rfl) rfl fun hbid_1=>?_
 simp only[D.bnd,List.length_map] at hbid_1
 repeat' first|exact h.elim|refine sw_n ?_|refine sw_go 0 kp170 fun K hK=>?_|refine sw_goD kp170 (by kernel_rfl) fun K hK=>?_|refine runL_g ?_|refine runQ_g ?_|refine sw_retg0 ?_|(refine hK.n0 ?_;clear hK K)|refine runQG_fk (fun h=>?_) fun h=>?_|refine sw_condg rfl (fun h=>?_) fun h=>?_|refine hK.c1 rfl rfl rfl (arityAt_fc _ _ _ ⟨by omega,by omega⟩) ?_|with_reducible refine and_o ?_|apply tTT
 ·have e:nxS rs t a=-1:=if_neg (by omega)
  simp[e]
 ·have e:nxS rs t a=-1:=by rw[nxS,if_pos (by omega),arS_none (by omega) (by omega)]
  simp[e]
 ·have e:nxS rs t a=arS rs (t.getD a default):=if_pos (by omega)
  have h0:0≤arS rs (t.getD a default):=by
   by_cases hn:t.getD a default<0
   ·rw[arS_var (by omega)];omega
   ·rw[arS_sym (by omega)];exact(hs.2 _ (by omega)).1
  rw[if_neg (by omega)]
  exact⟨e.symm,by simp⟩
def kp156:List (Nat×List Nat):=[(0,[0]),(1,[0,3]),(2,[0,3,6]),(4,[0,3,4]),(5,[0,3,4,12]),(6,[2]),(7,[0,3]),(3,[0,3]),(8,[2])]
attribute [go_sem] kp156 Tryz.results156 Tryz.ntmps156
theorem skip_fc (id:Nat) (rs t:List Int) (a:Nat) (hs:SigOkP rs) (ht:∀x∈t,-24≤x) (hl:t.length≤60):FC S 156 [] [(id,[.sl .any (rs.map (.int .i64)),.sl .any (t.map (.int .i64)),.int .i64 a])] [] [.box id 0] (.bool (skipS rs (t.drop a) 1 a).2) [(id,[.sl .any (rs.map (.int .i64)),.sl .any (t.map (.int .i64)),.int .i64 (skipS rs (t.drop a) 1 a).1])] []:=by
 refine fcb Tryz.func156 fun B=>?_
 refine sw_bnd_box id 1 (if_pos rfl) rfl fun hbid_1=>?_
 simp only[D.bnd,List.length_map] at hbid_1
 repeat' first|refine sw_n ?_|refine sw_go 0 kp156 fun K hK=>?_|refine runL_g ?_|(refine hK.n0 ?_;clear hK K)|apply tTT
 refine sw_loopU (ι:=Nat×Int) (fun p=>[(3,.int .i64 p.2)]) (fun p=>[(id,[.sl .any (rs.map (.int .i64)),.sl .any (t.map (.int .i64)),.int .i64 p.1])]) (fun p=>(a≤p.1∧((1≤p.2∧skipS rs (t.drop a) 1 a=skipS rs (t.drop p.1) p.2 p.1)∨(p.2=0∧skipS rs (t.drop a) 1 a=(p.1,true))))∧p.2≤1+3*p.1) (fun p=>t.length-p.1) (a,1) cvA ?_ (fun p hp=>?_)
 rotate_left
 simp only[go_sem]
 obtain⟨i,need⟩:=p
 obtain⟨⟨h1,h2⟩,h4⟩:=hp
 dsimp only at h1 h2 h4
 have hr:=arS_rng hs (t.getD i default)
 have hn:nxS rs t i≤3:=by unfold nxS;split<;>omega
 have hb:i<t.length→skipS rs (t.drop i) need i=_:=skip_step rs t need i
 repeat' first|exact h.elim|refine sw_n ?_|refine sw_go 0 kp156 fun K hK=>?_|refine runL_g ?_|refine sw_retg0 ?_|(refine hK.n0 ?_;clear hK K)|refine sw_condg rfl (fun h=>?_) fun h=>?_|refine sw_exit rfl ?_|refine sw_loopEnd ?_|refine hK.cB rfl rfl rfl (next_fc id rs t i hs ht) ?_|apply tTT
 ·have e:i<t.length→nxS rs t i=arS rs (t.getD i default):=fun h=>if_pos h
  rcases h2 with⟨h2,h3⟩|⟨h2,h3⟩
  ·rw[h3]
   by_cases hi:i<t.length
   ·rw[hb hi,if_pos (by rw[←e hi];assumption),if_pos (by assumption)];simp
   ·rw[skip_end rs t need i (by omega),if_pos (by assumption)];simp
  ·omega
 ·have hi:i<t.length:=by
   by_cases hi:i<t.length
   ·exact hi
   ·have:nxS rs t i=-1:=if_neg hi
    omega
  have e:nxS rs t i=arS rs (t.getD i default):=if_pos hi
  refine⟨(i+1,need+nxS rs t i-1),(by(refine covers_mk0 rfl rfl ?_ ?_ ?_ ?_<;>simp (disch:=(refine Om.mk ?_;omega)) only[go_sem]<;>(try omega));rw[if_neg (by omega)]),⟨⟨by omega,?_⟩,by omega⟩,by omega⟩
  rcases h2 with⟨h2,h3⟩|⟨h2,h3⟩
  ·rw[h3,hb hi,if_neg (by omega),←e]
   by_cases hz:need+nxS rs t i-1=0
   ·rw[if_pos hz];exact .inr ⟨hz,rfl⟩
   ·rw[if_neg hz];exact .inl ⟨by dsimp only;omega,rfl⟩
  ·omega
 ·rcases h2 with⟨h2,h3⟩|⟨h2,h3⟩
  ·omega
  ·rw[h3];simp
 ·exact⟨⟨by omega,.inl ⟨by omega,rfl⟩⟩,by omega⟩
def kp131:List (Nat×List Nat):=[(0,[1,2,3]),(1,[7]),(2,[7,13]),(3,[6]),(4,[6])]
attribute [go_sem] kp131 Tryz.results131 Tryz.ntmps131
theorem endAt_fc (tk tk':Tk) (rs t:List Int) (a:Int) (hs:SigOkP rs) (ht:∀x∈t,-24≤x) (hl:t.length≤60) (ha:0≤a):FC S 131 [] [] [] [.agg [.sl tk (rs.map (.int .i64))],.sl tk' (t.map (.int .i64)),.int .i64 a] (.int .i64 (endS rs t a.toNat)) [] []:=by
 obtain⟨a,rfl⟩:=Int.eq_ofNat_of_zero_le ha
 refine FC.args (args':=[.agg [.sl .any (rs.map (.int .i64))],.sl .any (t.map (.int .i64)),.int .i64 a]) ?_ (by simp only[go_sem])
 refine fcb Tryz.func131 fun B=>?_
 repeat' first|exact h.elim|refine sw_n ?_|refine sw_go 0 kp131 fun K hK=>?_|refine runL_g ?_|refine sw_retg0 ?_|(refine hK.n0 ?_;clear hK K)|refine sw_condg rfl (fun h=>?_) fun h=>?_|refine hK.cB rfl rfl rfl (skip_fc 7 rs t a hs ht hl) ?_|apply tTT
 all_goals first|(rw[endS,skip_scan,h];rfl)
def kp79:List (Nat×List Nat):=[(0,[1,2]),(1,[4])]
attribute [go_sem] kp79 Tryz.results79 Tryz.ntmps79
theorem implTermOk_fc (tk tk':Tk) (rs t:List Int):FC S 79 [] [] [] [.agg [.sl tk (rs.map (.int .i64))],.sl tk' (t.map (.int .i64))] (.bool (tst (TermOkP rs t))) [] []:=by
 refine fcb Tryz.func79 fun B=>?_
 refine sw_bnd_aggg 0 0 fun hb0_0=>?_
 refine sw_bndg 1 fun hb1=>?_
 repeat' first|exact h.elim|refine sw_n ?_|refine sw_go 0 kp79 fun K hK=>?_|refine runL_g ?_|refine sw_retg0 ?_|(refine hK.n0 ?_;clear hK K)|refine runG_fk (fun h=>?_) fun h=>?_|refine hK.skp rfl rfl ?_|refine hK.c1 rfl rfl rfl (implSigOk_fc _ _) ?_|refine hK.c1 rfl rfl rfl (min_fc _ _ (by omega)) ?_|refine hK.c1 rfl rfl rfl (endAt_fc _ _ _ _ _ (by assumption) ((minAt_all (by omega)).1 (by assumption)) (by omega) (by omega)) ?_|apply tTT
 ·rename_i h1 h2 h3
  have h4:=(minAt_all (by omega)).1 h
  simp only[TermOkP,Int.toNat_zero]
  exact⟨fun e=>⟨h1,by omega,e⟩,fun e=>e.2.2⟩
 ·intro e
  have:=(minAt_all (c:=-24) (by omega)).2 e.ge
  omega
 ·rintro⟨_,h1,_⟩;omega
 ·rintro⟨_,h1,_⟩;omega
 ·rintro⟨h1,_⟩;contradiction
end
end Go.Proofs.YtkfkdgginfpdnaaGreatDoor
