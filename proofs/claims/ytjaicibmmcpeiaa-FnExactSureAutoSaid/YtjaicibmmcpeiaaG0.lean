/-
  Ty, HFnExactSureAuto, A01, Sl, A29, A23, A23b, one behind the other.
-/
import Derived.Test.YtjaicibmmcpeiaaSet
import Derived.Test.YtjaicibmmcpeiaaLgK4
import Derived.Test.YtjaicibmmcpeiaaLgK5
namespace Go.Proofs.Ytjaicibmmcpeiaa
open Go Go.Lg
set_option linter.unusedSimpArgs false
set_option linter.unusedVariables false
set_option maxHeartbeats 4000000
section
def IntsD (x:List Int):D:=.sl .any (x.map (.int .i64))
attribute [go_sem] IntsD
theorem ints_set (ys:List (List Int)) (i:Nat) (u:List Int):(ys.map IntsD).set i (.sl .any (u.map (.int .i64)))=(ys.set i u).map IntsD:=by rw[List.map_set];rfl
attribute [go_sem] ints_set
def cntInt64S (xs:List Int):Nat:=xs.length
def SigD (x:List Int):D:=.agg [.sl .any (x.map (.int .i64))]
attribute [go_sem] SigD
def cntSig (x:List Int):Nat:=cntInt64S x
def cntInt64SS (xs:List (List Int)):Nat:=xs.length+(xs.map cntInt64S).sum
def cntSubst (x:List (List Int)):Nat:=cntInt64SS x
structure StepT where
 at_:Int
 rule:Int
 to:List Int
 deriving Inhabited
def cntStep (x:StepT):Nat:=cntInt64S x.to
def cntStepS (xs:List StepT):Nat:=xs.length+(xs.map cntStep).sum
structure WalkT where
 frm:List Int
 steps:List StepT
 deriving Inhabited
def cntWalk (x:WalkT):Nat:=cntInt64S x.frm+cntStepS x.steps
structure TransT where
 sym:Int
 args:List Int
 to:Int
 deriving Inhabited
def TransD (x:TransT):D:=.agg [.int .i64 x.sym,.sl .any (x.args.map (.int .i64)),.int .i64 x.to]
attribute [go_sem] TransD
def cntTrans (x:TransT):Nat:=cntInt64S x.args
def cntTransS (xs:List TransT):Nat:=xs.length+(xs.map cntTrans).sum
structure AutoT where
 states:Int
 rules:List TransT
 final:List Int
 deriving Inhabited
def AutoD (x:AutoT):D:=.agg [.int .i64 x.states,.sl .any (x.rules.map TransD),.sl .any (x.final.map (.int .i64))]
attribute [go_sem] AutoD
def cntAuto (x:AutoT):Nat:=cntTransS x.rules+cntInt64S x.final
theorem szd_rng {b:Int} {n:Nat} (h:-1≤b∧b≤1048576):-1≤szd b n∧szd b n≤1048576:=by unfold szd;split<;>omega
end
section
attribute [local irreducible] SW runL runQ runG runQG FC Ret Ret1
def kp24:List (Nat×List Nat):=[(0,[0,1]),(1,[0,1,10]),(2,[4]),(3,[0,1,5]),(4,[0,1,5,14]),(6,[0,1,5,25]),(7,[4]),(5,[0,1,5]),(8,[4])]
attribute [go_sem] kp24 Try.results24 Try.ntmps24
theorem eqInt64S_fc (tk tk':Tk) (xs ys:List Int):FC S 24 [] [] [] [.sl tk (xs.map (.int .i64)),.sl tk' (ys.map (.int .i64))] (.bool (tst (xs=ys))) [] []:=by
 refine fcb Try.func24 fun B=>?_
 refine sw_bndg 0 fun hb0=>?_
 refine sw_bndg 1 fun hb1=>?_
 repeat' first|exact h.elim|refine sw_n ?_|refine sw_go 0 kp24 fun K hK=>?_|refine fun (K:KT) (hK:KOk S 0 _ _ _ K)=>?_|refine sw_goD kp24 (by kernel_rfl) fun K hK=>?_|refine runL_g ?_|refine runQ_g ?_|refine sw_retg0 ?_|refine sw_retg ?_|(refine hK.n0 ?_;clear hK K)|refine sw_condg rfl (fun h=>?_) fun h=>?_|refine sw_exit rfl ?_|refine sw_loopEnd ?_|with_reducible refine and_o ?_|apply tTT
 ·intro e;exact h (by rw[e])
 refine sw_loopU (ι:=Nat) (fun i=>[(5,.int .i64 i)]) (fun _=>[]) (fun i=>i≤xs.length∧(∀j<i,xs.getD j default=ys.getD j default)) (fun i=>xs.length-i) 0 cvA ⟨by omega,?_⟩ (fun i ⟨hi,hj⟩=>?_)
 rotate_left
 simp only[go_sem]
 repeat' first|exact h.elim|refine sw_n ?_|refine sw_go 0 kp24 fun K hK=>?_|refine fun (K:KT) (hK:KOk S 0 _ _ _ K)=>?_|refine sw_goD kp24 (by kernel_rfl) fun K hK=>?_|refine runL_g ?_|refine runQ_g ?_|refine sw_retg0 ?_|refine sw_retg ?_|(refine hK.n0 ?_;clear hK K)|refine sw_condg rfl (fun h=>?_) fun h=>?_|refine sw_exit rfl ?_|refine sw_loopEnd ?_|with_reducible refine and_o ?_|apply tTT
 ·intro e;exact h (by rw[e])
 ·exact⟨i+1,by(refine covers_mk0 rfl rfl ?_ ?_ ?_ ?_<;>simp (disch:=(refine Om.mk ?_;omega)) only[go_sem]<;>(try omega)),⟨by omega,upto_succ hj (by assumption)⟩,by omega⟩
 ·exact ext_getD (by assumption) fun j hj'=>hj j (by omega)
 ·intro j hj';omega
def kp14:List (Nat×List Nat):=[(0,[2,3]),(1,[10]),(2,[4]),(3,[4])]
attribute [go_sem] kp14 Try.results14 Try.ntmps14
theorem eqSig_fc (x y:List Int):FC S 14 [] [] [] [SigD x,SigD y] (.bool (tst (x=y))) [] []:=by
 refine fcb Try.func14 fun B=>?_
 repeat' first|exact h.elim|refine sw_n ?_|refine sw_go 0 kp14 fun K hK=>?_|refine fun (K:KT) (hK:KOk S 0 _ _ _ K)=>?_|refine runL_g ?_|refine sw_retg0 ?_|refine sw_retg ?_|(refine hK.n0 ?_;clear hK K)|refine sw_condg rfl (fun h=>?_) fun h=>?_|refine sw_loopEnd ?_|refine hK.c1 rfl rfl rfl (eqInt64S_fc _ _ _ _) ?_|with_reducible refine and_o ?_|apply tTT
 all_goals first|assumption|(intro e;subst e;contradiction)|(cases x;cases y;simp_all)
def kp97:List (Nat×List Nat):=[(0,[2,3]),(1,[2,3,9]),(2,[4]),(3,[2,3,15]),(4,[4]),(5,[20]),(6,[4]),(7,[4])]
attribute [go_sem] kp97 Try.results97 Try.ntmps97
theorem eqTrans_fc (x y:TransT):FC S 97 [] [] [] [TransD x,TransD y] (.bool (tst (x=y))) [] []:=by
 refine fcb Try.func97 fun B=>?_
 repeat' first|exact h.elim|refine sw_n ?_|refine sw_go 0 kp97 fun K hK=>?_|refine fun (K:KT) (hK:KOk S 0 _ _ _ K)=>?_|refine runL_g ?_|refine sw_retg0 ?_|refine sw_retg ?_|(refine hK.n0 ?_;clear hK K)|refine sw_condg rfl (fun h=>?_) fun h=>?_|refine sw_loopEnd ?_|refine hK.c1 rfl rfl rfl (eqInt64S_fc _ _ _ _) ?_|with_reducible refine and_o ?_|apply tTT
 all_goals first|assumption|(intro e;subst e;contradiction)|(cases x;cases y;simp_all)
def kp50:List (Nat×List Nat):=[(0,[0,1]),(1,[0,1,10]),(2,[4]),(3,[0,1,5]),(4,[0,1,5,14]),(6,[0,1,5,26]),(7,[4]),(5,[0,1,5]),(8,[4])]
attribute [go_sem] kp50 Try.results50 Try.ntmps50
theorem eqTransS_fc (tk tk':Tk) (xs ys:List TransT):FC S 50 [] [] [] [.sl tk (xs.map TransD),.sl tk' (ys.map TransD)] (.bool (tst (xs=ys))) [] []:=by
 refine fcb Try.func50 fun B=>?_
 refine sw_bndg 0 fun hb0=>?_
 refine sw_bndg 1 fun hb1=>?_
 repeat' first|exact h.elim|refine sw_n ?_|refine sw_go 0 kp50 fun K hK=>?_|refine fun (K:KT) (hK:KOk S 0 _ _ _ K)=>?_|refine sw_goD kp50 (by kernel_rfl) fun K hK=>?_|refine runL_g ?_|refine runQ_g ?_|refine sw_retg0 ?_|refine sw_retg ?_|(refine hK.n0 ?_;clear hK K)|refine sw_condg rfl (fun h=>?_) fun h=>?_|refine sw_exit rfl ?_|refine sw_loopEnd ?_|with_reducible refine and_o ?_|apply tTT
 ·intro e;exact h (by rw[e])
 refine sw_loopU (ι:=Nat) (fun i=>[(5,.int .i64 i)]) (fun _=>[]) (fun i=>i≤xs.length∧(∀j<i,xs.getD j default=ys.getD j default)) (fun i=>xs.length-i) 0 cvA ⟨by omega,?_⟩ (fun i ⟨hi,hj⟩=>?_)
 rotate_left
 simp only[go_sem]
 repeat' first|exact h.elim|refine sw_n ?_|refine sw_go 0 kp50 fun K hK=>?_|refine fun (K:KT) (hK:KOk S 0 _ _ _ K)=>?_|refine sw_goD kp50 (by kernel_rfl) fun K hK=>?_|refine runL_g ?_|refine runQ_g ?_|refine sw_retg0 ?_|refine sw_retg ?_|(refine hK.n0 ?_;clear hK K)|refine sw_condg rfl (fun h=>?_) fun h=>?_|refine sw_exit rfl ?_|refine sw_loopEnd ?_|refine hK.c1 rfl rfl rfl (eqTrans_fc _ _) ?_|with_reducible refine and_o ?_|apply tTT
 ·intro e;exact h (by rw[e])
 ·exact⟨i+1,by(refine covers_mk0 rfl rfl ?_ ?_ ?_ ?_<;>simp (disch:=(refine Om.mk ?_;omega)) only[go_sem]<;>(try omega)),⟨by omega,upto_succ hj (by assumption)⟩,by omega⟩
 ·exact ext_getD (by assumption) fun j hj'=>hj j (by omega)
 ·intro j hj';omega
def kp13:List (Nat×List Nat):=[(0,[2,3]),(1,[2,3,9]),(2,[4]),(3,[2,3,15]),(4,[4]),(5,[21]),(6,[4]),(7,[4])]
attribute [go_sem] kp13 Try.results13 Try.ntmps13
theorem eqAuto_fc (x y:AutoT):FC S 13 [] [] [] [AutoD x,AutoD y] (.bool (tst (x=y))) [] []:=by
 refine fcb Try.func13 fun B=>?_
 repeat' first|exact h.elim|refine sw_n ?_|refine sw_go 0 kp13 fun K hK=>?_|refine fun (K:KT) (hK:KOk S 0 _ _ _ K)=>?_|refine runL_g ?_|refine sw_retg0 ?_|refine sw_retg ?_|(refine hK.n0 ?_;clear hK K)|refine sw_condg rfl (fun h=>?_) fun h=>?_|refine sw_loopEnd ?_|refine hK.c1 rfl rfl rfl (eqTransS_fc _ _ _ _) ?_|refine hK.c1 rfl rfl rfl (eqInt64S_fc _ _ _ _) ?_|with_reducible refine and_o ?_|apply tTT
 all_goals first|assumption|(intro e;subst e;contradiction)|(cases x;cases y;simp_all)
def kp37:List (Nat×List Nat):=[(0,[0,1]),(1,[1]),(2,[1,10]),(3,[4]),(4,[4])]
attribute [go_sem] kp37 Try.results37 Try.ntmps37
theorem szInt64S_fc (tk:Tk) (xs:List Int) (b:Int) (hb:-1≤b∧b≤1048576):FC S 37 [] [] [] [.sl tk (xs.map (.int .i64)),.int .i64 b] (.int .i64 (szd b (cntInt64S xs))) [] []:=by
 refine fcb Try.func37 fun B=>?_
 refine sw_bndg 0 fun hb0=>?_
 repeat' first|exact h.elim|refine sw_n ?_|refine sw_go 0 kp37 fun K hK=>?_|refine fun (K:KT) (hK:KOk S 0 _ _ _ K)=>?_|refine runL_g ?_|refine sw_retg0 ?_|refine sw_retg ?_|(refine hK.n0 ?_;clear hK K)|refine sw_condg rfl (fun h=>?_) fun h=>?_|refine sw_loopEnd ?_|with_reducible refine and_o ?_|apply tTT
 all_goals (simp only[szd,cntInt64S] at *;grind)
def kp7:List (Nat×List Nat):=[(0,[1,2]),(1,[1]),(2,[1,10]),(3,[4]),(4,[4])]
attribute [go_sem] kp7 Try.results7 Try.ntmps7
theorem szSig_fc (x:List Int) (b:Int) (hb:-1≤b∧b≤1048576):FC S 7 [] [] [] [SigD x,.int .i64 b] (.int .i64 (szd b (cntSig x))) [] []:=by
 refine fcb Try.func7 fun B=>?_
 repeat' first|exact h.elim|refine sw_n ?_|refine sw_go 0 kp7 fun K hK=>?_|refine fun (K:KT) (hK:KOk S 0 _ _ _ K)=>?_|refine runL_g ?_|refine sw_retg0 ?_|refine sw_retg ?_|(refine hK.n0 ?_;clear hK K)|refine sw_condg rfl (fun h=>?_) fun h=>?_|refine sw_loopEnd ?_|refine hK.c1 rfl rfl rfl (szInt64S_fc _ _ _ (by(first|exact hb|exact szd_rng hb|exact szd_rng (szd_rng hb)|exact szd_rng (szd_rng (szd_rng hb))|exact szd_rng (szd_rng (szd_rng (szd_rng hb)))|exact szd_rng (szd_rng (szd_rng (szd_rng (szd_rng hb))))|omega))) ?_|with_reducible refine and_o ?_|apply tTT
 all_goals (simp only[szd,cntSig] at *;grind)
def kp81:List (Nat×List Nat):=[(0,[1,2]),(1,[1]),(2,[1,10]),(3,[4]),(4,[4])]
attribute [go_sem] kp81 Try.results81 Try.ntmps81
theorem szTrans_fc (x:TransT) (b:Int) (hb:-1≤b∧b≤1048576):FC S 81 [] [] [] [TransD x,.int .i64 b] (.int .i64 (szd b (cntTrans x))) [] []:=by
 refine fcb Try.func81 fun B=>?_
 repeat' first|exact h.elim|refine sw_n ?_|refine sw_go 0 kp81 fun K hK=>?_|refine fun (K:KT) (hK:KOk S 0 _ _ _ K)=>?_|refine runL_g ?_|refine sw_retg0 ?_|refine sw_retg ?_|(refine hK.n0 ?_;clear hK K)|refine sw_condg rfl (fun h=>?_) fun h=>?_|refine sw_loopEnd ?_|refine hK.c1 rfl rfl rfl (szInt64S_fc _ _ _ (by(first|exact hb|exact szd_rng hb|exact szd_rng (szd_rng hb)|exact szd_rng (szd_rng (szd_rng hb))|exact szd_rng (szd_rng (szd_rng (szd_rng hb)))|exact szd_rng (szd_rng (szd_rng (szd_rng (szd_rng hb))))|omega))) ?_|with_reducible refine and_o ?_|apply tTT
 all_goals (simp only[szd,cntTrans] at *;grind)
def kp38:List (Nat×List Nat):=[(0,[0,1]),(1,[0,1]),(2,[0,1,11]),(3,[4]),(4,[0,1,5]),(5,[0,1,5,15]),(7,[0,1,5]),(8,[0,1,5,25]),(9,[4]),(6,[0,1,5]),(10,[4])]
attribute [go_sem] kp38 Try.results38 Try.ntmps38
theorem szTransS_fc (tk:Tk) (xs:List TransT) (b:Int) (hb:-1≤b∧b≤1048576):FC S 38 [] [] [] [.sl tk (xs.map TransD),.int .i64 b] (.int .i64 (szd b (cntTransS xs))) [] []:=by
 refine fcb Try.func38 fun B=>?_
 refine sw_bndg 0 fun hb0=>?_
 repeat' first|exact h.elim|refine sw_n ?_|refine sw_go 0 kp38 fun K hK=>?_|refine fun (K:KT) (hK:KOk S 0 _ _ _ K)=>?_|refine runL_g ?_|refine sw_retg0 ?_|refine sw_retg ?_|(refine hK.n0 ?_;clear hK K)|refine sw_condg rfl (fun h=>?_) fun h=>?_|refine sw_exit rfl ?_|refine sw_loopEnd ?_|with_reducible refine and_o ?_|apply tTT
 ·simp only[szd,cntTransS];grind
 refine sw_loopU (ι:=Nat) (fun i=>[(5,.int .i64 i),(1,.int .i64 (b-xs.length-csum cntTrans xs i))]) (fun _=>[]) (fun i=>i≤xs.length∧(0≤b-xs.length-csum cntTrans xs i)) (fun i=>xs.length-i) 0 cvA ⟨by omega,?_⟩ (fun i ⟨hi,hj⟩=>?_)
 rotate_left
 simp only[go_sem]
 repeat' first|exact h.elim|refine sw_n ?_|refine sw_go 0 kp38 fun K hK=>?_|refine fun (K:KT) (hK:KOk S 0 _ _ _ K)=>?_|refine runL_g ?_|refine sw_retg0 ?_|refine sw_retg ?_|(refine hK.n0 ?_;clear hK K)|refine sw_condg rfl (fun h=>?_) fun h=>?_|refine sw_exit rfl ?_|refine sw_loopEnd ?_|refine hK.c1 rfl rfl rfl (szTrans_fc _ _ (by omega)) ?_|with_reducible refine and_o ?_|apply tTT
 ·have hs:=csum_succ cntTrans xs i (by omega)
  have hl:=csum_le cntTrans xs (i+1)
  simp only[szd,cntTransS] at *;grind
 ·have hs:=csum_succ cntTrans xs i (by omega)
  refine⟨i+1,(by(refine covers_mk0 rfl rfl ?_ ?_ ?_ ?_<;>simp (disch:=(refine Om.mk ?_;omega)) only[go_sem]<;>(try omega));rw[hs];simp only[szd] at *;grind),⟨by omega,?_⟩,by omega⟩
  simp only[szd] at *;grind
 ·have hs:=csum_all cntTrans xs i (by omega)
  simp only[szd,cntTransS] at *;grind
 ·rw[csum_zero];omega
def kp8:List (Nat×List Nat):=[(0,[1,2]),(1,[1,2]),(2,[1,2,10]),(3,[4]),(4,[1]),(5,[1,16]),(6,[4]),(7,[4])]
attribute [go_sem] kp8 Try.results8 Try.ntmps8
theorem szAuto_fc (x:AutoT) (b:Int) (hb:-1≤b∧b≤1048576):FC S 8 [] [] [] [AutoD x,.int .i64 b] (.int .i64 (szd b (cntAuto x))) [] []:=by
 refine fcb Try.func8 fun B=>?_
 repeat' first|exact h.elim|refine sw_n ?_|refine sw_go 0 kp8 fun K hK=>?_|refine fun (K:KT) (hK:KOk S 0 _ _ _ K)=>?_|refine runL_g ?_|refine sw_retg0 ?_|refine sw_retg ?_|(refine hK.n0 ?_;clear hK K)|refine sw_condg rfl (fun h=>?_) fun h=>?_|refine sw_loopEnd ?_|refine hK.c1 rfl rfl rfl (szTransS_fc _ _ _ (by(first|exact hb|exact szd_rng hb|exact szd_rng (szd_rng hb)|exact szd_rng (szd_rng (szd_rng hb))|exact szd_rng (szd_rng (szd_rng (szd_rng hb)))|exact szd_rng (szd_rng (szd_rng (szd_rng (szd_rng hb))))|omega))) ?_|refine hK.c1 rfl rfl rfl (szInt64S_fc _ _ _ (by(first|exact hb|exact szd_rng hb|exact szd_rng (szd_rng hb)|exact szd_rng (szd_rng (szd_rng hb))|exact szd_rng (szd_rng (szd_rng (szd_rng hb)))|exact szd_rng (szd_rng (szd_rng (szd_rng (szd_rng hb))))|omega))) ?_|with_reducible refine and_o ?_|apply tTT
 all_goals (simp only[szd,cntAuto] at *;grind)
def kp20:List (Nat×List Nat):=[(0,[0]),(1,[0,3]),(2,[0,3,4]),(3,[0,3,4,11]),(5,[0,3,4]),(4,[0,3,4]),(6,[2])]
attribute [go_sem] kp20 Try.results20 Try.ntmps20
theorem toInt64S_fc (tk:Tk) (xs:List Int) (hn:cntInt64S xs≤1048576):FC S 20 [] [] [] [.sl tk (xs.map (.int .i64))] (.sl .any (xs.map (.int .i64))) [] []:=by
 have hl:xs.length≤1048576:=hn
 refine fcb Try.func20 fun B=>?_
 refine sw_bndg 0 fun hb0=>?_
 repeat' first|exact h.elim|refine sw_n ?_|refine sw_go 0 kp20 fun K hK=>?_|refine fun (K:KT) (hK:KOk S 0 _ _ _ K)=>?_|refine runL_g ?_|refine sw_retg0 ?_|refine sw_retg ?_|(refine hK.n0 ?_;clear hK K)|refine sw_condg rfl (fun h=>?_) fun h=>?_|refine sw_exit rfl ?_|refine sw_loopEnd ?_|with_reducible refine and_o ?_|((with_reducible refine And.intro ?_ ?_);· first|(intro x hx;subst hx;rfl)|(intro x;refine And.intro ?_ ?_<;>(intros;subst_vars;rfl)))|apply tTT
 refine sw_loopU (ι:=Nat) (fun i=>[(4,.int .i64 i)]) (fun i=>[(7,fillL (fun j=>.int .i64 (xs.getD j default)) (.int .i64 0) i xs.length)]) (fun i=>i≤xs.length∧(True)) (fun i=>xs.length-i) 0 (by(refine covers_mk0 rfl rfl ?_ ?_ ?_ ?_<;>simp (disch:=(refine Om.mk ?_;omega)) only[go_sem]<;>(try omega));exact fillL_start _ _ _) ⟨by omega,?_⟩ (fun i ⟨hi,hj⟩=>?_)
 rotate_left
 simp only[go_sem]
 repeat' first|exact h.elim|(refine sw_freezeAt 6 3 1 .any (xs.map (.int .i64)) rfl rfl (by rw[show i=xs.length by omega];exact(fillL_done (.int .i64) _ xs).trans (flat_ones _ _ (fun _=>rfl)).symm) (by rw[List.length_map]) (cells_one fun _=>rfl) (fillL_memOk (fun _=>rfl) rfl) (.inl rfl) ?_;simp only[go_sem])|refine sw_n ?_|refine sw_go 0 kp20 fun K hK=>?_|refine fun (K:KT) (hK:KOk S 0 _ _ _ K)=>?_|refine runL_g ?_|refine sw_retg0 ?_|refine sw_retg ?_|(refine hK.n0 ?_;clear hK K)|refine sw_condg rfl (fun h=>?_) fun h=>?_|refine sw_exit rfl ?_|refine sw_loopEnd ?_|with_reducible refine and_o ?_|((with_reducible refine And.intro ?_ ?_);· first|(intro x hx;subst hx;rfl)|(intro x;refine And.intro ?_ ?_<;>(intros;subst_vars;rfl)))|apply tTT
 ·exact⟨i+1,(by(refine covers_mk0 rfl rfl ?_ ?_ ?_ ?_<;>simp (disch:=(refine Om.mk ?_;omega)) only[go_sem]<;>(try omega));exact fillL_set (fun j=>.int .i64 (xs.getD j default)) _ _ _),by omega,by omega⟩
 all_goals trivial
def kp10:List (Nat×List Nat):=[(0,[1,2]),(1,[1,2,3]),(2,[2,3]),(3,[2])]
attribute [go_sem] kp10 Try.results10 Try.ntmps10
theorem toSig_fc (x:List Int) (hn:cntSig x≤1048576):FC S 10 [] [] [] [SigD x] (SigD x) [] []:=by
 have hn':=hn
 simp only[cntSig] at hn'
 refine fcb Try.func10 fun B=>?_
 repeat' first|refine sw_n ?_|refine sw_go 0 kp10 fun K hK=>?_|refine fun (K:KT) (hK:KOk S 0 _ _ _ K)=>?_|refine runL_g ?_|refine sw_retg0 ?_|refine sw_retg ?_|(refine hK.n0 ?_;clear hK K)|refine sw_loopEnd ?_|refine hK.c1 rfl rfl rfl (toInt64S_fc _ _ (by omega)) ?_|with_reducible refine and_o ?_|apply tTT
 all_goals exact D.le.refl _
def kp90:List (Nat×List Nat):=[(0,[1,2]),(1,[1,2,3]),(2,[1,2,3]),(3,[1,2,3]),(4,[2,3]),(5,[2])]
attribute [go_sem] kp90 Try.results90 Try.ntmps90
theorem toTrans_fc (x:TransT) (hn:cntTrans x≤1048576):FC S 90 [] [] [] [TransD x] (TransD x) [] []:=by
 have hn':=hn
 simp only[cntTrans] at hn'
 refine fcb Try.func90 fun B=>?_
 repeat' first|refine sw_n ?_|refine sw_go 0 kp90 fun K hK=>?_|refine fun (K:KT) (hK:KOk S 0 _ _ _ K)=>?_|refine runL_g ?_|refine sw_retg0 ?_|refine sw_retg ?_|(refine hK.n0 ?_;clear hK K)|refine sw_loopEnd ?_|refine hK.c1 rfl rfl rfl (toInt64S_fc _ _ (by omega)) ?_|with_reducible refine and_o ?_|apply tTT
 all_goals exact D.le.refl _
def kp47:List (Nat×List Nat):=[(0,[0]),(1,[0,3]),(2,[0,3,4]),(3,[0,3,4,11]),(5,[0,3,4]),(4,[0,3,4]),(6,[2])]
attribute [go_sem] kp47 Try.results47 Try.ntmps47
theorem toTransS_fc (tk:Tk) (xs:List TransT) (hn:cntTransS xs≤1048576):FC S 47 [] [] [] [.sl tk (xs.map TransD)] (.sl .any (xs.map TransD)) [] []:=by
 have hl:xs.length≤1048576:=by unfold cntTransS at hn;omega
 have hq:∀i<xs.length,cntTrans (xs.getD i default)≤1048576:=fun i hi=>by
  have:=f_le_sum cntTrans xs i hi
  unfold cntTransS at hn;omega
 refine fcb Try.func47 fun B=>?_
 refine sw_bndg 0 fun hb0=>?_
 repeat' first|exact h.elim|refine sw_n ?_|refine sw_go 0 kp47 fun K hK=>?_|refine fun (K:KT) (hK:KOk S 0 _ _ _ K)=>?_|refine runL_g ?_|refine sw_retg0 ?_|refine sw_retg ?_|(refine hK.n0 ?_;clear hK K)|refine sw_condg rfl (fun h=>?_) fun h=>?_|refine sw_exit rfl ?_|refine sw_loopEnd ?_|with_reducible refine and_o ?_|((with_reducible refine And.intro ?_ ?_);· first|(intro x hx;subst hx;rfl)|(intro x;refine And.intro ?_ ?_<;>(intros;subst_vars;rfl)))|apply tTT
 refine sw_loopU (ι:=Nat) (fun i=>[(4,.int .i64 i)]) (fun i=>[(7,fillF (fun j=>[.int .i64 ((xs.getD j default)).sym,.sl .any (((xs.getD j default)).args.map (.int .i64)),.int .i64 ((xs.getD j default)).to]) [.int .i64 0,.sl .nil [],.int .i64 0] i xs.length)]) (fun i=>i≤xs.length∧(True)) (fun i=>xs.length-i) 0 (by(refine covers_mk0 rfl rfl ?_ ?_ ?_ ?_<;>simp (disch:=(refine Om.mk ?_;omega)) only[go_sem]<;>(try omega));exact fillF_start _ _ _) ⟨by omega,?_⟩ (fun i ⟨hi,hj⟩=>?_)
 rotate_left
 simp only[go_sem]
 have hm:i*3+3≤3*xs.length∨xs.length≤i:=by omega
 repeat' first|exact h.elim|(refine sw_freezeAt 6 3 3 .any (xs.map TransD) rfl rfl (by rw[show i=xs.length by omega];exact fillF_done TransD _ xs) (by rw[List.length_map]) (cells_n fun _=>rfl) (fillF_memOk (fun j d hd=>by revert d hd;simp[D.memOk]) (by simp[D.memOk])) (.inl rfl) ?_;simp only[go_sem])|refine sw_n ?_|refine sw_go 0 kp47 fun K hK=>?_|refine fun (K:KT) (hK:KOk S 0 _ _ _ K)=>?_|refine runL_g ?_|refine sw_retg0 ?_|refine sw_retg ?_|(refine hK.n0 ?_;clear hK K)|refine sw_condg rfl (fun h=>?_) fun h=>?_|refine sw_exit rfl ?_|refine sw_loopEnd ?_|refine hK.c1 rfl rfl rfl (toTrans_fc _ (by exact hq i (by omega))) ?_|with_reducible refine and_o ?_|((with_reducible refine And.intro ?_ ?_);· first|(intro x hx;subst hx;rfl)|(intro x;refine And.intro ?_ ?_<;>(intros;subst_vars;rfl)))|apply tTT
 ·exact⟨i+1,(by(refine covers_mk0 rfl rfl ?_ ?_ ?_ ?_<;>simp (disch:=(refine Om.mk ?_;omega)) only[go_sem]<;>(try omega));exact fillF_put (f:=fun j=>[.int .i64 ((xs.getD j default)).sym,.sl .any (((xs.getD j default)).args.map (.int .i64)),.int .i64 ((xs.getD j default)).to]) (fun _=>rfl) rfl (by omega)),by omega,by omega⟩
 all_goals trivial
def kp11:List (Nat×List Nat):=[(0,[1,2]),(1,[1,2,3]),(2,[1,2,3]),(3,[1,2,3]),(4,[2,3]),(5,[2])]
attribute [go_sem] kp11 Try.results11 Try.ntmps11
theorem toAuto_fc (x:AutoT) (hn:cntAuto x≤1048576):FC S 11 [] [] [] [AutoD x] (AutoD x) [] []:=by
 have hn':=hn
 simp only[cntAuto] at hn'
 refine fcb Try.func11 fun B=>?_
 repeat' first|refine sw_n ?_|refine sw_go 0 kp11 fun K hK=>?_|refine fun (K:KT) (hK:KOk S 0 _ _ _ K)=>?_|refine runL_g ?_|refine sw_retg0 ?_|refine sw_retg ?_|(refine hK.n0 ?_;clear hK K)|refine sw_loopEnd ?_|refine hK.c1 rfl rfl rfl (toTransS_fc _ _ (by omega)) ?_|refine hK.c1 rfl rfl rfl (toInt64S_fc _ _ (by omega)) ?_|with_reducible refine and_o ?_|apply tTT
 all_goals exact D.le.refl _
end
section
attribute [local irreducible] SW runL runQ runG runQG FC Ret1
def SigOkP (rs:List Int):Prop:=(1≤rs.length∧rs.length≤8)∧∀j<rs.length,0≤rs.getD j default∧rs.getD j default≤3
def arS (rs:List Int) (n:Int):Int:=if -24≤n∧n≤-1 then 0 else if 0≤n∧n≤rs.length-1 then rs.getD n.toNat default else -1
def skipS (rs:List Int):List Int→Int→Nat→Nat×Bool
 | [],_,i=>(i,false)
 | x::r,need,i=>if arS rs x<0 then (i,false) else if need+arS rs x-1=0 then (i+1,true) else skipS rs r (need+arS rs x-1) (i+1)
theorem skip_step (rs t:List Int) (need:Int) (i:Nat) (h:i<t.length):skipS rs (t.drop i) need i=if arS rs (t.getD i default)<0 then (i,false) else if need+arS rs (t.getD i default)-1=0 then (i+1,true) else skipS rs (t.drop (i+1)) (need+arS rs (t.getD i default)-1) (i+1):=by
 rw[List.drop_eq_getElem_cons h]
 simp[skipS,List.getD,List.getElem?_eq_getElem h]
def kp73:List (Nat×List Nat):=[(0,[0,1,2]),(1,[6])]
attribute [go_sem] kp73 Try.results73 Try.ntmps73
theorem l1In_fc (n lo hi:Int):FC S 73 [] [] [] [.int .i64 n,.int .i64 lo,.int .i64 hi] (.bool (tst (lo≤n∧n≤hi))) [] []:=by
 refine fcb Try.func73 fun B=>?_
 repeat' first|exact h.elim|refine sw_n ?_|refine sw_go 0 kp73 fun K hK=>?_|refine runL_g ?_|refine sw_retg0 ?_|(refine hK.n0 ?_;clear hK K)|refine runG_fk (fun h=>?_) fun h=>?_|apply tTT
 ·simp[decide_tst,h]
 ·omega
def kp82:List (Nat×List Nat):=[(0,[1]),(1,[1,8]),(2,[2]),(3,[1,3]),(4,[1,3,13]),(6,[1,3,22]),(7,[2]),(5,[1,3]),(8,[2])]
attribute [go_sem] kp82 Try.results82 Try.ntmps82
theorem specSigOk_fc (tk:Tk) (rs:List Int):FC S 82 [] [] [] [.agg [.sl tk (rs.map (.int .i64))]] (.bool (tst (SigOkP rs))) [] []:=by
 refine fcb Try.func82 fun B=>?_
 refine sw_bnd_aggg 0 0 fun hb0_0=>?_
 repeat' first|exact h.elim|refine sw_n ?_|refine sw_go 0 kp82 fun K hK=>?_|refine runL_g ?_|refine sw_retg0 ?_|(refine hK.n0 ?_;clear hK K)|refine sw_condg rfl (fun h=>?_) fun h=>?_|refine hK.c1 rfl rfl rfl (l1In_fc _ _ _) ?_|apply tTT
 ·rintro⟨h1,_⟩;omega
 refine sw_loopU (ι:=Nat) (fun i=>[(3,.int .i64 i)]) (fun _=>[]) (fun i=>i≤rs.length∧(∀j<i,0≤rs.getD j default∧rs.getD j default≤3)) (fun i=>rs.length-i) 0 cvA ⟨by omega,?_⟩ (fun i ⟨hi,hj⟩=>?_)
 rotate_left
 simp only[go_sem]
 repeat' first|exact h.elim|refine sw_n ?_|refine sw_go 0 kp82 fun K hK=>?_|refine runL_g ?_|refine sw_retg0 ?_|(refine hK.n0 ?_;clear hK K)|refine sw_condg rfl (fun h=>?_) fun h=>?_|refine sw_exit rfl ?_|refine sw_loopEnd ?_|refine hK.c1 rfl rfl rfl (l1In_fc _ _ _) ?_|with_reducible refine and_o ?_|apply tTT
 ·rintro⟨_,h2⟩;exact h (h2 i (by omega))
 ·exact⟨i+1,by(refine covers_mk0 rfl rfl ?_ ?_ ?_ ?_<;>simp (disch:=(refine Om.mk ?_;omega)) only[go_sem]<;>(try omega)),⟨by omega,upto_succ hj (by assumption)⟩,by omega⟩
 ·exact⟨⟨by omega,by omega⟩,fun j hj'=>hj j (by omega)⟩
 ·intro j hj';omega
def kp91:List (Nat×List Nat):=[(0,[1]),(1,[1,14]),(2,[2]),(3,[16,17,18]),(4,[16,17,18,19]),(5,[4,16,17,18]),(6,[16,17,18,27]),(7,[2]),(8,[16,17,18]),(9,[2])]
attribute [go_sem] kp91 Try.results91 Try.ntmps91
theorem implSigOk_fc (tk:Tk) (rs:List Int):FC S 91 [] [] [] [.agg [.sl tk (rs.map (.int .i64))]] (.bool (tst (SigOkP rs))) [] []:=by
 refine fcb Try.func91 fun B=>?_
 refine sw_bnd_aggg 0 0 fun hb0_0=>?_
 repeat' first|exact h.elim|refine sw_n ?_|refine sw_go 0 kp91 fun K hK=>?_|refine runL_g ?_|refine sw_retg0 ?_|(refine hK.n0 ?_;clear hK K)|refine runG_fk (fun h=>?_) fun h=>?_|refine sw_condg rfl (fun h=>?_) fun h=>?_|apply tTT
 ·rintro⟨h1,_⟩;omega
 ·rintro⟨h1,_⟩;omega
 refine sw_loopU (ι:=Nat) (fun i=>[(18,.int .i64 i)]) (fun _=>[]) (fun i=>i≤rs.length∧(∀j<i,0≤rs.getD j default∧rs.getD j default≤3)) (fun i=>rs.length-i) 0 cvA ⟨by omega,?_⟩ (fun i ⟨hi,hj⟩=>?_)
 rotate_left
 simp only[go_sem]
 repeat' first|exact h.elim|refine sw_n ?_|refine sw_go 0 kp91 fun K hK=>?_|refine runL_g ?_|refine sw_retg0 ?_|(refine hK.n0 ?_;clear hK K)|refine runG_fk (fun h=>?_) fun h=>?_|refine sw_condg rfl (fun h=>?_) fun h=>?_|refine sw_exit rfl ?_|refine sw_loopEnd ?_|with_reducible refine and_o ?_|apply tTT
 ·rintro⟨_,h2⟩;have:=h2 i (by omega);omega
 ·rintro⟨_,h2⟩;have:=h2 i (by omega);omega
 ·exact⟨i+1,by(refine covers_mk0 rfl rfl ?_ ?_ ?_ ?_<;>simp (disch:=(refine Om.mk ?_;omega)) only[go_sem]<;>(try omega)),⟨by omega,upto_succ hj ⟨by assumption,by assumption⟩⟩,by omega⟩
 ·exact⟨⟨by omega,by omega⟩,fun j hj'=>hj j (by omega)⟩
 ·intro j hj';omega
attribute [go_sem] Try.results143 Try.ntmps143
attribute [go_sem] Try.results120 Try.ntmps120
attribute [go_sem] Try.results98 Try.ntmps98
attribute [go_sem] Try.results123 Try.ntmps123
attribute [go_sem] Try.results167 Try.ntmps167
attribute [go_sem] Try.results155 Try.ntmps155
attribute [go_sem] Try.results144 Try.ntmps144
attribute [go_sem] Try.results124 Try.ntmps124
attribute [go_sem] Try.results100 Try.ntmps100
def kp115:List (Nat×List Nat):=[(0,[0,1]),(1,[0,1,7,8]),(2,[0,1,7,8,9]),(3,[0,1,5,7,8]),(4,[0,1,5,7,8,16]),(5,[4]),(6,[0,1,7,8]),(7,[4])]
attribute [go_sem] kp115 Try.results115 Try.ntmps115
theorem indexFuncTrans_fc (tk:Tk) (xs:List (TransT)) (p:TransT→Prop) (f:Nat) (cap:List D) (ro:List (Nat×List D)) (hro:∀p∈ro,Lg.look ro p.1=some p.2) (hf:∀x∈xs,FC S f ro [] [] ([TransD x]++cap) (.bool (tst (p x))) [] []):FC S 115 ro [] [] [.sl tk (xs.map TransD),.fn f cap] (.int .i64 (fidx p xs)) [] []:=by
 refine fcb Try.func115 fun B=>?_
 refine sw_bndg 0 fun hb0=>?_
 repeat' first|exact h.elim|refine sw_n ?_|refine sw_go 0 kp115 fun K hK=>?_|refine fun (K:KT) (hK:KOk S 0 _ _ _ K)=>?_|refine runL_g ?_|refine sw_retg0 ?_|refine sw_retg ?_|(refine hK.n0 ?_;clear hK K)|refine sw_condg rfl (fun h=>?_) fun h=>?_|refine sw_exit rfl ?_|refine sw_loopEnd ?_|with_reducible refine and_o ?_|apply tTT
 refine sw_loopU (ι:=Nat) (fun i=>[(8,.int .i64 i)]) (fun _=>[]) (fun i=>i≤xs.length∧(∀j<i,¬p (xs.getD j default))) (fun i=>xs.length-i) 0 (by(refine covers_mk0 rfl rfl ?_ ?_ ?_ ?_<;>simp (disch:=(refine Om.mk ?_;omega)) only[go_sem]<;>(try omega));exact boxLe_mk hro) ⟨by omega,?_⟩ (fun i ⟨hi,hj⟩=>?_)
 rotate_left
 simp only[go_sem]
 repeat' first|exact h.elim|refine sw_n ?_|refine sw_go 0 kp115 fun K hK=>?_|refine fun (K:KT) (hK:KOk S 0 _ _ _ K)=>?_|refine runL_g ?_|refine sw_retg0 ?_|refine sw_retg ?_|(refine hK.n0 ?_;clear hK K)|refine sw_condg rfl (fun h=>?_) fun h=>?_|refine sw_exit rfl ?_|refine sw_loopEnd ?_|with_reducible refine and_o ?_|apply tTT
 ·refine hK.call rfl rfl rfl (hf (xs.getD i default) (getD_mem _ _ (by omega))) ⟨hro,rfl,rfl,(by simp only[dstOk,Nat.reduceLT])⟩ ?_
  repeat' first|exact h.elim|refine sw_n ?_|refine sw_go 0 kp115 fun K hK=>?_|refine fun (K:KT) (hK:KOk S 0 _ _ _ K)=>?_|refine runL_g ?_|refine sw_retg0 ?_|refine sw_retg ?_|(refine hK.n0 ?_;clear hK K)|refine sw_condg rfl (fun h=>?_) fun h=>?_|refine sw_exit rfl ?_|refine sw_loopEnd ?_|with_reducible refine and_o ?_|apply tTT
  ·exact(fidx_at hj (by omega) h).symm
  ·exact⟨i+1,(by(refine covers_mk0 rfl rfl ?_ ?_ ?_ ?_<;>simp (disch:=(refine Om.mk ?_;omega)) only[go_sem]<;>(try omega));exact boxLe_mk hro),⟨by omega,upto_succ hj h⟩,by omega⟩
 ·exact(fidx_none fun j hj'=>hj j (by omega)).symm
 ·intro j hj';omega
def kp140:List (Nat×List Nat):=[(0,[0,1]),(1,[0,1,7,8]),(2,[0,1,7,8,9]),(3,[0,1,5,7,8]),(4,[0,1,5,7,8,16]),(5,[4]),(6,[0,1,7,8]),(7,[4])]
attribute [go_sem] kp140 Try.results140 Try.ntmps140
theorem indexFuncInt64_fc (tk:Tk) (xs:List (Int)) (p:Int→Prop) (f:Nat) (cap:List D) (ro:List (Nat×List D)) (hro:∀p∈ro,Lg.look ro p.1=some p.2) (hf:∀x∈xs,FC S f ro [] [] ([.int .i64 x]++cap) (.bool (tst (p x))) [] []):FC S 140 ro [] [] [.sl tk (xs.map (.int .i64)),.fn f cap] (.int .i64 (fidx p xs)) [] []:=by
 refine fcb Try.func140 fun B=>?_
 refine sw_bndg 0 fun hb0=>?_
 repeat' first|exact h.elim|refine sw_n ?_|refine sw_go 0 kp140 fun K hK=>?_|refine fun (K:KT) (hK:KOk S 0 _ _ _ K)=>?_|refine runL_g ?_|refine sw_retg0 ?_|refine sw_retg ?_|(refine hK.n0 ?_;clear hK K)|refine sw_condg rfl (fun h=>?_) fun h=>?_|refine sw_exit rfl ?_|refine sw_loopEnd ?_|with_reducible refine and_o ?_|apply tTT
 refine sw_loopU (ι:=Nat) (fun i=>[(8,.int .i64 i)]) (fun _=>[]) (fun i=>i≤xs.length∧(∀j<i,¬p (xs.getD j default))) (fun i=>xs.length-i) 0 (by(refine covers_mk0 rfl rfl ?_ ?_ ?_ ?_<;>simp (disch:=(refine Om.mk ?_;omega)) only[go_sem]<;>(try omega));exact boxLe_mk hro) ⟨by omega,?_⟩ (fun i ⟨hi,hj⟩=>?_)
 rotate_left
 simp only[go_sem]
 repeat' first|exact h.elim|refine sw_n ?_|refine sw_go 0 kp140 fun K hK=>?_|refine fun (K:KT) (hK:KOk S 0 _ _ _ K)=>?_|refine runL_g ?_|refine sw_retg0 ?_|refine sw_retg ?_|(refine hK.n0 ?_;clear hK K)|refine sw_condg rfl (fun h=>?_) fun h=>?_|refine sw_exit rfl ?_|refine sw_loopEnd ?_|with_reducible refine and_o ?_|apply tTT
 ·refine hK.call rfl rfl rfl (hf (xs.getD i default) (getD_mem _ _ (by omega))) ⟨hro,rfl,rfl,(by simp only[dstOk,Nat.reduceLT])⟩ ?_
  repeat' first|exact h.elim|refine sw_n ?_|refine sw_go 0 kp140 fun K hK=>?_|refine fun (K:KT) (hK:KOk S 0 _ _ _ K)=>?_|refine runL_g ?_|refine sw_retg0 ?_|refine sw_retg ?_|(refine hK.n0 ?_;clear hK K)|refine sw_condg rfl (fun h=>?_) fun h=>?_|refine sw_exit rfl ?_|refine sw_loopEnd ?_|with_reducible refine and_o ?_|apply tTT
  ·exact(fidx_at hj (by omega) h).symm
  ·exact⟨i+1,(by(refine covers_mk0 rfl rfl ?_ ?_ ?_ ?_<;>simp (disch:=(refine Om.mk ?_;omega)) only[go_sem]<;>(try omega));exact boxLe_mk hro),⟨by omega,upto_succ hj h⟩,by omega⟩
 ·exact(fidx_none fun j hj'=>hj j (by omega)).symm
 ·intro j hj';omega
def kp93:List (Nat×List Nat):=[(0,[0,1]),(1,[4])]
attribute [go_sem] kp93 Try.results93 Try.ntmps93
theorem containsFuncTrans_fc (tk:Tk) (xs:List (TransT)) (p:TransT→Prop) (f:Nat) (cap:List D) (ro:List (Nat×List D)) (hro:∀p∈ro,Lg.look ro p.1=some p.2) (hf:∀x∈xs,FC S f ro [] [] ([TransD x]++cap) (.bool (tst (p x))) [] []):FC S 93 ro [] [] [.sl tk (xs.map TransD),.fn f cap] (.bool (tst (∃x∈xs,p x))) [] []:=by
 refine fcb Try.func93 fun B=>?_
 repeat' first|refine sw_n ?_|refine sw_go 0 kp93 fun K hK=>?_|refine fun (K:KT) (hK:KOk S 0 _ _ _ K)=>?_|refine runL_g ?_|refine sw_retg0 ?_|refine sw_retg ?_|(refine hK.n0 ?_;clear hK K)|refine sw_loopEnd ?_|with_reducible refine and_o ?_|apply tTT
 refine hK.call rfl rfl rfl (indexFuncTrans_fc _ _ p _ _ ro hro hf) ⟨hro,rfl,rfl,(by simp only[dstOk,Nat.reduceLT])⟩ ?_
 repeat' first|refine sw_n ?_|refine sw_go 0 kp93 fun K hK=>?_|refine fun (K:KT) (hK:KOk S 0 _ _ _ K)=>?_|refine runL_g ?_|refine sw_retg0 ?_|refine sw_retg ?_|(refine hK.n0 ?_;clear hK K)|refine sw_loopEnd ?_|with_reducible refine and_o ?_|apply tTT
 exact fidx_ge
def kp113:List (Nat×List Nat):=[(0,[0,1]),(1,[4])]
attribute [go_sem] kp113 Try.results113 Try.ntmps113
theorem containsFuncInt64_fc (tk:Tk) (xs:List (Int)) (p:Int→Prop) (f:Nat) (cap:List D) (ro:List (Nat×List D)) (hro:∀p∈ro,Lg.look ro p.1=some p.2) (hf:∀x∈xs,FC S f ro [] [] ([.int .i64 x]++cap) (.bool (tst (p x))) [] []):FC S 113 ro [] [] [.sl tk (xs.map (.int .i64)),.fn f cap] (.bool (tst (∃x∈xs,p x))) [] []:=by
 refine fcb Try.func113 fun B=>?_
 repeat' first|refine sw_n ?_|refine sw_go 0 kp113 fun K hK=>?_|refine fun (K:KT) (hK:KOk S 0 _ _ _ K)=>?_|refine runL_g ?_|refine sw_retg0 ?_|refine sw_retg ?_|(refine hK.n0 ?_;clear hK K)|with_reducible refine and_o ?_|apply tTT
 refine hK.call rfl rfl rfl (indexFuncInt64_fc _ _ p _ _ ro hro hf) ⟨hro,rfl,rfl,(by simp only[dstOk,Nat.reduceLT])⟩ ?_
 repeat' first|refine sw_n ?_|refine sw_go 0 kp113 fun K hK=>?_|refine fun (K:KT) (hK:KOk S 0 _ _ _ K)=>?_|refine runL_g ?_|refine sw_retg0 ?_|refine sw_retg ?_|(refine hK.n0 ?_;clear hK K)|with_reducible refine and_o ?_|apply tTT
 exact fidx_ge
attribute [go_sem] Try.results170 Try.ntmps170
def kp87:List (Nat×List Nat):=[(0,[0,1]),(1,[0,1,10]),(2,[4]),(3,[0,1,5]),(4,[0,1,5,14]),(6,[0,1,5,25]),(7,[4]),(5,[0,1,5]),(8,[4])]
attribute [go_sem] kp87 Try.results87 Try.ntmps87
theorem specSameTerm_fc (tk tk':Tk) (xs ys:List Int):FC S 87 [] [] [] [.sl tk (xs.map (.int .i64)),.sl tk' (ys.map (.int .i64))] (.bool (tst (xs=ys))) [] []:=by
 refine fcb Try.func87 fun B=>?_
 refine sw_bndg 0 fun hb0=>?_
 refine sw_bndg 1 fun hb1=>?_
 repeat' first|exact h.elim|refine sw_n ?_|refine sw_go 0 kp87 fun K hK=>?_|refine runL_g ?_|refine sw_retg0 ?_|(refine hK.n0 ?_;clear hK K)|refine sw_condg rfl (fun h=>?_) fun h=>?_|apply tTT
 ·intro e;exact h (by rw[e])
 refine sw_loopU (ι:=Nat) (fun i=>[(5,.int .i64 i)]) (fun _=>[]) (fun i=>i≤xs.length∧(∀j<i,xs.getD j default=ys.getD j default)) (fun i=>xs.length-i) 0 cvA ⟨by omega,?_⟩ (fun i ⟨hi,hj⟩=>?_)
 rotate_left
 simp only[go_sem]
 repeat' first|exact h.elim|refine sw_n ?_|refine sw_go 0 kp87 fun K hK=>?_|refine sw_goD kp87 (by kernel_rfl) fun K hK=>?_|refine runL_g ?_|refine runQ_g ?_|refine sw_retg0 ?_|(refine hK.n0 ?_;clear hK K)|refine sw_condg rfl (fun h=>?_) fun h=>?_|refine sw_exit rfl ?_|refine sw_loopEnd ?_|with_reducible refine and_o ?_|apply tTT
 ·intro e;exact h (by rw[e])
 ·exact⟨i+1,by(refine covers_mk0 rfl rfl ?_ ?_ ?_ ?_<;>simp (disch:=(refine Om.mk ?_;omega)) only[go_sem]<;>(try omega)),⟨by omega,upto_succ hj (by assumption)⟩,by omega⟩
 ·exact ext_getD (by assumption) fun j hj'=>hj j (by omega)
 ·intro j hj';omega
def SetAt (xs:List Int) (n:Int) (j:Nat):Prop:=(0≤xs.getD j default∧xs.getD j default≤n-1)∧(0<j→xs.getD (j-1) default<xs.getD j default)
def SetP (xs:List Int) (n:Int):Prop:=∀j<xs.length,SetAt xs n j
theorem SetP.ge {xs:List Int} {n:Int} (h:SetP xs n):∀j<xs.length,(j:Int)≤xs.getD j default
 | 0,h0=>by have:=(h 0 h0).1;omega
 | j+1,h0=>by
  have h1:=SetP.ge h j (by omega)
  have h2:=(h (j+1) h0).2 (by omega)
  simp only[Nat.add_sub_cancel] at h2
  omega
theorem SetP.len {xs:List Int} {n:Int} (h:SetP xs n) (hn:0≤n):(xs.length:Int)≤n:=by
 by_cases h0:xs.length=0
 ·omega
 ·have h1:=h.ge (xs.length-1) (by omega)
  have h2:=(h (xs.length-1) (by omega)).1
  omega
def InP (n:Int) (xs:List Int):Prop:=∀j<xs.length,0≤xs.getD j default∧xs.getD j default≤n-1
def TransOkP (rs:List Int) (n:Int) (r:TransT):Prop:=(0≤r.sym∧r.sym≤rs.length-1)∧(r.args.length:Int)=rs.getD r.sym.toNat default∧(0≤r.to∧r.to≤n-1)∧InP n r.args
def SameFromP (r s:TransT):Prop:=r.sym=s.sym∧r.args=s.args
def AutoOkP (rs:List Int) (a:AutoT):Prop:=(SigOkP rs∧(1≤a.states∧a.states≤16)∧a.rules.length≤300∧SetP a.final a.states) ∧
 ∀i<a.rules.length,TransOkP rs a.states (a.rules.getD i default)∧∀k<i,¬a.rules.getD k default=a.rules.getD i default
theorem trans_eq (r s:TransT):r=s↔SameFromP r s∧r.to=s.to:=by
 cases r;cases s
 simp only[SameFromP,TransT.mk.injEq]
 exact⟨fun⟨a,b,c⟩=>⟨⟨a,b⟩,c⟩,fun⟨⟨a,b⟩,c⟩=>⟨a,b,c⟩⟩
def cmpI (a b:Int):Int:=if a<b then -1 else if b<a then 1 else 0
theorem cmpI_zero (a b:Int):cmpI a b=0↔a=b:=by
 unfold cmpI
 split
 ·omega
 ·split<;>omega
def cmpL:List Int→List Int→Int
 | [],[]=>0
 | [],_::_=>-1
 | _::_,[]=>1
 | x::xs,y::ys=>if cmpI x y≠0 then cmpI x y else cmpL xs ys
theorem cmpL_zero:∀xs ys:List Int,cmpL xs ys=0↔xs=ys
 | [],[]=>by simp[cmpL]
 | [],_::_=>by simp[cmpL]
 | _::_,[]=>by simp[cmpL]
 | x::xs,y::ys=>by
  simp only[cmpL,List.cons.injEq]
  split
  ·rename_i h
   exact⟨fun e=>absurd e h,fun e=>absurd ((cmpI_zero x y).2 e.1) h⟩
  ·rename_i h
   have h:=(cmpI_zero x y).1 (Classical.not_not.1 h)
   simp[h,cmpL_zero xs ys]
def cmpT (r s:TransT):Int:=if r.sym≠s.sym then cmpI r.sym s.sym else if cmpL r.args s.args≠0 then cmpL r.args s.args else cmpI r.to s.to
theorem cmpT_zero (r s:TransT):cmpT r s=0↔r=s:=by
 rw[trans_eq]
 unfold cmpT SameFromP
 split
 ·rename_i h
  rw[cmpI_zero]
  simp[h]
 ·rename_i h
  have h:=Classical.not_not.1 h
  split
  ·rename_i h2
   exact⟨fun e=>absurd e h2,fun e=>absurd ((cmpL_zero _ _).2 e.1.2) h2⟩
  ·rename_i h2
   have h2:=(cmpL_zero _ _).1 (Classical.not_not.1 h2)
   simp[h,h2,cmpI_zero]
def kp83:List (Nat×List Nat):=[(0,[0,1]),(1,[0,1,5]),(2,[0,1,5,9]),(4,[0,1,5,35]),(5,[4]),(3,[0,1,5]),(6,[4])]
attribute [go_sem] kp83 Try.results83 Try.ntmps83
theorem l23Set_fc (tk:Tk) (xs:List Int) (n:Int) (hn:0≤n∧n≤9223372036854775807):FC S 83 [] [] [] [.sl tk (xs.map (.int .i64)),.int .i64 n] (.bool (tst (SetP xs n))) [] []:=by
 refine fcb Try.func83 fun B=>?_
 refine sw_bndg 0 fun hb0=>?_
 repeat' first|exact h.elim|refine sw_n ?_|refine sw_go 0 kp83 fun K hK=>?_|refine fun (K:KT) (hK:KOk S 0 _ _ _ K)=>?_|refine sw_goD kp83 (by kernel_rfl) fun K hK=>?_|refine runL_g ?_|refine runQ_g ?_|refine sw_retg0 ?_|refine sw_retg ?_|(refine hK.n0 ?_;clear hK K)|refine runG_fk (fun h=>?_) fun h=>?_|refine runQG_fk (fun h=>?_) fun h=>?_|refine sw_condg rfl (fun h=>?_) fun h=>?_|refine hK.skp rfl rfl ?_|refine sw_exit rfl ?_|refine sw_loopEnd ?_|(refine hK.fork rfl rfl rfl ?_ ?_<;>intro h<;>try simp (disch:=(refine Om.mk ?_;omega)) only[go_sem] at h)|with_reducible refine and_o ?_|apply tTT
 refine sw_loopU (ι:=Nat) (fun i=>[(5,.int .i64 i)]) (fun _=>[]) (fun i=>i≤xs.length∧(∀j<i,SetAt xs n j)) (fun i=>xs.length-i) 0 cvA ⟨by omega,?_⟩ (fun i ⟨hi,hj⟩=>?_)
 rotate_left
 simp only[go_sem]
 repeat' first|exact h.elim|refine sw_n ?_|refine sw_go 0 kp83 fun K hK=>?_|refine fun (K:KT) (hK:KOk S 0 _ _ _ K)=>?_|refine sw_goD kp83 (by kernel_rfl) fun K hK=>?_|refine runL_g ?_|refine runQ_g ?_|refine sw_retg0 ?_|refine sw_retg ?_|(refine hK.n0 ?_;clear hK K)|refine runG_fk (fun h=>?_) fun h=>?_|refine runQG_fk (fun h=>?_) fun h=>?_|refine sw_condg rfl (fun h=>?_) fun h=>?_|refine hK.skp rfl rfl ?_|refine sw_exit rfl ?_|refine sw_loopEnd ?_|refine hK.c1 rfl rfl rfl (l1In_fc _ _ _) ?_|(refine hK.fork rfl rfl rfl ?_ ?_<;>intro h<;>try simp (disch:=(refine Om.mk ?_;omega)) only[go_sem] at h)|with_reducible refine and_o ?_|apply tTT
 ·intro h2;have:=h2 i (by omega);simp only[SetAt] at this;omega
 ·intro h2;have:=h2 i (by omega);simp only[SetAt] at this;omega
 ·exact⟨i+1,by(refine covers_mk0 rfl rfl ?_ ?_ ?_ ?_<;>simp (disch:=(refine Om.mk ?_;omega)) only[go_sem]<;>(try omega)),⟨by omega,upto_succ hj ⟨by assumption,fun _=>by assumption⟩⟩,by omega⟩
 ·exact⟨i+1,by(refine covers_mk0 rfl rfl ?_ ?_ ?_ ?_<;>simp (disch:=(refine Om.mk ?_;omega)) only[go_sem]<;>(try omega)),⟨by omega,upto_succ hj ⟨by assumption,fun h0=>by omega⟩⟩,by omega⟩
 ·exact fun j hj'=>hj j (by omega)
 ·intro j hj';omega
def kp84:List (Nat×List Nat):=[(0,[1,3,5]),(1,[1,5,35]),(2,[6]),(3,[1,5,7]),(4,[1,5,7,40]),(6,[1,5,7,51]),(7,[6]),(5,[1,5,7]),(8,[6])]
attribute [go_sem] kp84 Try.results84 Try.ntmps84
theorem l23Trans_fc (tk:Tk) (rs:List Int) (n:Int) (r:TransT) (hn:0≤n∧n≤9223372036854775807):FC S 84 [] [] [] [.agg [.sl tk (rs.map (.int .i64))],.int .i64 n,TransD r] (.bool (tst (TransOkP rs n r))) [] []:=by
 refine fcb Try.func84 fun B=>?_
 refine sw_bnd_aggg 0 0 fun hb0_0=>?_
 refine sw_bnd_aggg 2 1 fun hb2_1=>?_
 repeat' first|exact h.elim|refine sw_n ?_|refine sw_go 0 kp84 fun K hK=>?_|refine fun (K:KT) (hK:KOk S 0 _ _ _ K)=>?_|refine sw_goD kp84 (by kernel_rfl) fun K hK=>?_|refine runL_g ?_|refine runQ_g ?_|refine sw_retg0 ?_|refine sw_retg ?_|(refine hK.n0 ?_;clear hK K)|refine runG_fk (fun h=>?_) fun h=>?_|refine runQG_fk (fun h=>?_) fun h=>?_|refine sw_condg rfl (fun h=>?_) fun h=>?_|refine hK.skp rfl rfl ?_|refine sw_exit rfl ?_|refine sw_loopEnd ?_|refine hK.c1 rfl rfl rfl (l1In_fc _ _ _) ?_|(refine hK.fork rfl rfl rfl ?_ ?_<;>intro h<;>try simp (disch:=(refine Om.mk ?_;omega)) only[go_sem] at h)|with_reducible refine and_o ?_|apply tTT
 iterate 3
  ·rintro⟨h1,h2,h3,_⟩;omega
 refine sw_loopU (ι:=Nat) (fun i=>[(7,.int .i64 i)]) (fun _=>[]) (fun i=>i≤r.args.length∧(∀j<i,0≤r.args.getD j default∧r.args.getD j default≤n-1)) (fun i=>r.args.length-i) 0 cvA ⟨by omega,?_⟩ (fun i ⟨hi,hj⟩=>?_)
 rotate_left
 simp only[go_sem]
 repeat' first|exact h.elim|refine sw_n ?_|refine sw_go 0 kp84 fun K hK=>?_|refine fun (K:KT) (hK:KOk S 0 _ _ _ K)=>?_|refine sw_goD kp84 (by kernel_rfl) fun K hK=>?_|refine runL_g ?_|refine runQ_g ?_|refine sw_retg0 ?_|refine sw_retg ?_|(refine hK.n0 ?_;clear hK K)|refine runG_fk (fun h=>?_) fun h=>?_|refine runQG_fk (fun h=>?_) fun h=>?_|refine sw_condg rfl (fun h=>?_) fun h=>?_|refine hK.skp rfl rfl ?_|refine sw_exit rfl ?_|refine sw_loopEnd ?_|refine hK.c1 rfl rfl rfl (l1In_fc _ _ _) ?_|(refine hK.fork rfl rfl rfl ?_ ?_<;>intro h<;>try simp (disch:=(refine Om.mk ?_;omega)) only[go_sem] at h)|with_reducible refine and_o ?_|apply tTT
 ·rintro⟨_,_,_,h2⟩;exact h (h2 i (by omega))
 ·exact⟨i+1,by(refine covers_mk0 rfl rfl ?_ ?_ ?_ ?_<;>simp (disch:=(refine Om.mk ?_;omega)) only[go_sem]<;>(try omega)),⟨by omega,upto_succ hj h⟩,by omega⟩
 ·exact⟨by assumption,by assumption,by assumption,fun j hj'=>hj j (by omega)⟩
 ·intro j hj';omega
def kp85:List (Nat×List Nat):=[(0,[2,3]),(1,[4])]
attribute [go_sem] kp85 Try.results85 Try.ntmps85
theorem l23From_fc (r s:TransT):FC S 85 [] [] [] [TransD r,TransD s] (.bool (tst (SameFromP r s))) [] []:=by
 refine fcb Try.func85 fun B=>?_
 repeat' first|exact h.elim|refine sw_n ?_|refine sw_go 0 kp85 fun K hK=>?_|refine fun (K:KT) (hK:KOk S 0 _ _ _ K)=>?_|refine runL_g ?_|refine sw_retg0 ?_|refine sw_retg ?_|(refine hK.n0 ?_;clear hK K)|refine runG_fk (fun h=>?_) fun h=>?_|refine hK.skp rfl rfl ?_|refine sw_loopEnd ?_|refine hK.c1 rfl rfl rfl (specSameTerm_fc _ _ _ _) ?_|(refine hK.fork rfl rfl rfl ?_ ?_<;>intro h<;>try simp (disch:=(refine Om.mk ?_;omega)) only[go_sem] at h)|with_reducible refine and_o ?_|apply tTT
 all_goals (simp only[SameFromP];grind)
def kp39:List (Nat×List Nat):=[(0,[2,3]),(1,[2,3,37]),(2,[4]),(3,[2,3,5]),(4,[2,3,5,42]),(6,[2,3,5,54]),(7,[4]),(8,[2,3,5,6]),(9,[2,3,5,6,57]),(11,[2,3,5,6,85]),(12,[4]),(10,[2,3,5,6]),(5,[2,3,5]),(13,[4])]
attribute [go_sem] kp39 Try.results39 Try.ntmps39
theorem specAutoOk_fc (tk:Tk) (rs:List Int) (a:AutoT):FC S 39 [] [] [] [.agg [.sl tk (rs.map (.int .i64))],AutoD a] (.bool (tst (AutoOkP rs a))) [] []:=by
 refine fcb Try.func39 fun B=>?_
 refine sw_bnd_aggg 1 1 fun hb1_1=>?_
 refine sw_bnd_aggg 1 2 fun hb1_2=>?_
 repeat' first|exact h.elim|refine sw_n ?_|refine sw_go 0 kp39 fun K hK=>?_|refine fun (K:KT) (hK:KOk S 0 _ _ _ K)=>?_|refine sw_goD kp39 (by kernel_rfl) fun K hK=>?_|refine runL_g ?_|refine runQ_g ?_|refine sw_retg0 ?_|refine sw_retg ?_|(refine hK.n0 ?_;clear hK K)|refine runG_fk (fun h=>?_) fun h=>?_|refine runQG_fk (fun h=>?_) fun h=>?_|refine sw_condg rfl (fun h=>?_) fun h=>?_|refine hK.skp rfl rfl ?_|refine sw_exit rfl ?_|refine sw_loopEnd ?_|refine hK.c1 rfl rfl rfl (specSigOk_fc _ _) ?_|refine hK.c1 rfl rfl rfl (l1In_fc _ _ _) ?_|refine hK.c1 rfl rfl rfl (l23Set_fc _ _ _ ⟨by omega,by omega⟩) ?_|(refine hK.fork rfl rfl rfl ?_ ?_<;>intro h<;>try simp (disch:=(refine Om.mk ?_;omega)) only[go_sem] at h)|with_reducible refine and_o ?_|apply tTT
 ·rintro⟨⟨h1,_⟩,_⟩;contradiction
 ·rintro⟨⟨_,h1,_⟩,_⟩;omega
 ·rintro⟨⟨_,_,h1,_⟩,_⟩;omega
 ·rintro⟨⟨_,_,_,h1⟩,_⟩;have:=h1.len (by omega);omega
 ·rintro⟨⟨_,_,_,h1⟩,_⟩;contradiction
 refine sw_loopU (ι:=Nat) (fun i=>[(5,.int .i64 i)]) (fun _=>[]) (fun i=>i≤a.rules.length∧(∀j<i,TransOkP rs a.states (a.rules.getD j default)∧∀k<j,¬a.rules.getD k default=a.rules.getD j default)) (fun i=>a.rules.length-i) 0 cvA ⟨by omega,?_⟩ (fun i ⟨hi,hj⟩=>?_)
 rotate_left
 simp only[go_sem]
 repeat' first|exact h.elim|refine sw_n ?_|refine sw_go 0 kp39 fun K hK=>?_|refine fun (K:KT) (hK:KOk S 0 _ _ _ K)=>?_|refine sw_goD kp39 (by kernel_rfl) fun K hK=>?_|refine runL_g ?_|refine runQ_g ?_|refine sw_retg0 ?_|refine sw_retg ?_|(refine hK.n0 ?_;clear hK K)|refine runG_fk (fun h=>?_) fun h=>?_|refine runQG_fk (fun h=>?_) fun h=>?_|refine sw_condg rfl (fun h=>?_) fun h=>?_|refine hK.skp rfl rfl ?_|refine sw_exit rfl ?_|refine sw_loopEnd ?_|refine hK.c1 rfl rfl rfl (l23Trans_fc _ _ _ (a.rules.getD i default) ⟨by omega,by omega⟩) ?_|(refine hK.fork rfl rfl rfl ?_ ?_<;>intro h<;>try simp (disch:=(refine Om.mk ?_;omega)) only[go_sem] at h)|with_reducible refine and_o ?_|apply tTT
 ·rintro⟨_,h2⟩;exact h (h2 i (by omega)).1
 ·rename_i hi1 _
  have ht:=h
  refine sw_loopU (ι:=Nat) (fun p=>[(6,.int .i64 p)]) (fun p=>[]) (fun p=>p≤i∧∀k<p,¬a.rules.getD k default=a.rules.getD i default) (fun p=>i-p) 0 cvA ?_ (fun p hp=>?_)
  rotate_left
  simp only[go_sem]
  obtain⟨hp1,hp2⟩:=hp
  repeat' first|exact h.elim|refine sw_n ?_|refine sw_go 0 kp39 fun K hK=>?_|refine fun (K:KT) (hK:KOk S 0 _ _ _ K)=>?_|refine sw_goD kp39 (by kernel_rfl) fun K hK=>?_|refine runL_g ?_|refine runQ_g ?_|refine sw_retg0 ?_|refine sw_retg ?_|(refine hK.n0 ?_;clear hK K)|refine runG_fk (fun h=>?_) fun h=>?_|refine runQG_fk (fun h=>?_) fun h=>?_|refine sw_condg rfl (fun h=>?_) fun h=>?_|refine hK.skp rfl rfl ?_|refine sw_exit rfl ?_|refine sw_loopEnd ?_|refine hK.c1 rfl rfl rfl (l23From_fc (a.rules.getD p default) (a.rules.getD i default)) ?_|(refine hK.fork rfl rfl rfl ?_ ?_<;>intro h<;>try simp (disch:=(refine Om.mk ?_;omega)) only[go_sem] at h)|with_reducible refine and_o ?_|apply tTT
  ·rintro⟨_,h2⟩
   exact(h2 i (by omega)).2 p (by omega) ((trans_eq _ _).2 ⟨by assumption,by assumption⟩)
  ·exact⟨p+1,by(refine covers_mk0 rfl rfl ?_ ?_ ?_ ?_<;>simp (disch:=(refine Om.mk ?_;omega)) only[go_sem]<;>(try omega)),⟨by omega,upto_succ hp2 fun e=>h ((trans_eq _ _).1 e).2⟩,by omega⟩
  ·exact⟨p+1,by(refine covers_mk0 rfl rfl ?_ ?_ ?_ ?_<;>simp (disch:=(refine Om.mk ?_;omega)) only[go_sem]<;>(try omega)),⟨by omega,upto_succ hp2 fun e=>absurd ((trans_eq _ _).1 e).1 (by assumption)⟩,by omega⟩
  ·exact⟨i+1,by(refine covers_mk0 rfl rfl ?_ ?_ ?_ ?_<;>simp (disch:=(refine Om.mk ?_;omega)) only[go_sem]<;>(try omega)),⟨by omega,upto_succ hj ⟨ht,fun k hk=>hp2 k (by omega)⟩⟩,by omega⟩
  ·intro k hk;omega
 ·exact⟨⟨by assumption,by assumption,by omega,by assumption⟩,fun j hj'=>hj j (by omega)⟩
 ·intro j hj';omega
theorem take_exists {α:Type} [Inhabited α] {p:α→Prop} {xs:List α} {i:Nat} (hi:i≤xs.length):(∃x∈xs.take i,p x)↔∃k<i,p (xs.getD k default):=by
 constructor
 ·rintro⟨x,hx,hp⟩
  obtain⟨k,hk,rfl⟩:=List.getElem_of_mem hx
  have hk':k<i:=by simp at hk;omega
  exact⟨k,hk',by simpa[List.getD,List.getElem?_eq_getElem (show k<xs.length by omega)] using hp⟩
 ·rintro⟨k,hk,hp⟩
  refine⟨_,?_,hp⟩
  have hk':k<(xs.take i).length:=by simp;omega
  have:=List.getElem_mem hk'
  simpa[List.getD,List.getElem?_eq_getElem (show k<xs.length by omega)] using this
def kp111:List (Nat×List Nat):=[(0,[0,1]),(1,[0,1,5]),(2,[4]),(3,[9]),(4,[4]),(5,[4])]
attribute [go_sem] kp111 Try.results111 Try.ntmps111
theorem compareInts_fc (a b:Int):FC S 111 [] [] [] [.int .i64 a,.int .i64 b] (.int .i64 (cmpI a b)) [] []:=by
 refine fcb Try.func111 fun B=>?_
 repeat' first|exact h.elim|refine sw_n ?_|refine sw_go 0 kp111 fun K hK=>?_|refine fun (K:KT) (hK:KOk S 0 _ _ _ K)=>?_|refine runL_g ?_|refine sw_retg0 ?_|refine sw_retg ?_|(refine hK.n0 ?_;clear hK K)|refine sw_condg rfl (fun h=>?_) fun h=>?_|refine sw_loopEnd ?_|with_reducible refine and_o ?_|apply tTT
 all_goals (unfold cmpI;split<;>first|omega|(split<;>omega))
def kp153:List (Nat×List Nat):=[(0,[0]),(1,[2])]
attribute [go_sem] kp153 Try.results153 Try.ntmps153
theorem isNaN_fc (a:Int):FC S 153 [] [] [] [.int .i64 a] (.bool false) [] []:=by
 refine fcb Try.func153 fun B=>?_
 repeat' first|refine sw_n ?_|refine sw_go 0 kp153 fun K hK=>?_|refine fun (K:KT) (hK:KOk S 0 _ _ _ K)=>?_|refine runL_g ?_|refine sw_retg0 ?_|refine sw_retg ?_|(refine hK.n0 ?_;clear hK K)|with_reducible refine and_o ?_|apply tTT
def kp139:List (Nat×List Nat):=[(0,[0,1]),(1,[0,1,5]),(2,[0,1,5,6]),(3,[0,1,6,11]),(4,[12]),(5,[4]),(6,[4]),(7,[0,1,13]),(8,[4]),(9,[0,1,16]),(10,[4]),(11,[19]),(12,[4]),(13,[4])]
attribute [go_sem] kp139 Try.results139 Try.ntmps139
theorem cmpCompare_fc (a b:Int):FC S 139 [] [] [] [.int .i64 a,.int .i64 b] (.int .i64 (cmpI a b)) [] []:=by
 refine fcb Try.func139 fun B=>?_
 repeat' first|exact h.elim|refine sw_n ?_|refine sw_go 0 kp139 fun K hK=>?_|refine fun (K:KT) (hK:KOk S 0 _ _ _ K)=>?_|refine runL_g ?_|refine sw_retg0 ?_|refine sw_retg ?_|(refine hK.n0 ?_;clear hK K)|refine sw_condg rfl (fun h=>?_) fun h=>?_|refine hK.c1 rfl rfl rfl (isNaN_fc _) ?_|with_reducible refine and_o ?_|apply tTT
 all_goals (unfold cmpI;split<;>first|omega|(split<;>omega))
def kp112:List (Nat×List Nat):=[(0,[0,1]),(1,[0,1,9,10,11]),(2,[0,1,9,10,11,12]),(3,[0,1,5,6,9,10,11]),(4,[0,1,5,6,9,10,11,19]),(5,[4]),(6,[0,1,6,7,9,10,11]),(7,[0,1,8,9,10,11]),(8,[0,1,8,9,10,11,28]),(9,[4]),(10,[0,1,9,10,11]),(11,[35]),(12,[4]),(13,[4])]
attribute [go_sem] kp112 Try.results112 Try.ntmps112
theorem compare_fc (tk tk':Tk) (xs ys:List Int):FC S 112 [] [] [] [.sl tk (xs.map (.int .i64)),.sl tk' (ys.map (.int .i64))] (.int .i64 (cmpL xs ys)) [] []:=by
 refine fcb Try.func112 fun B=>?_
 refine sw_bndg 0 fun hb0=>?_
 refine sw_bndg 1 fun hb1=>?_
 repeat' first|exact h.elim|refine sw_n ?_|refine sw_go 0 kp112 fun K hK=>?_|refine fun (K:KT) (hK:KOk S 0 _ _ _ K)=>?_|refine runL_g ?_|refine sw_retg0 ?_|refine sw_retg ?_|(refine hK.n0 ?_;clear hK K)|refine sw_condg rfl (fun h=>?_) fun h=>?_|refine sw_exit rfl ?_|refine sw_loopEnd ?_|with_reducible refine and_o ?_|apply tTT
 refine sw_loopU (ι:=Nat) (fun i=>[(11,.int .i64 i)]) (fun _=>[]) (fun i=>i≤xs.length∧(i≤ys.length∧cmpL xs ys=cmpL (xs.drop i) (ys.drop i))) (fun i=>xs.length-i) 0 cvA ⟨by omega,?_⟩ (fun i ⟨hi,hj⟩=>?_)
 rotate_left
 simp only[go_sem]
 have hx:i<xs.length→xs.drop i=xs.getD i default::xs.drop (i+1):=fun h=>by rw[List.drop_eq_getElem_cons h];simp[List.getD,List.getElem?_eq_getElem h]
 have hy:i<ys.length→ys.drop i=ys.getD i default::ys.drop (i+1):=fun h=>by rw[List.drop_eq_getElem_cons h];simp[List.getD,List.getElem?_eq_getElem h]
 have hxe:xs.length≤i→xs.drop i=[]:=fun h=>List.drop_of_length_le h
 have hye:ys.length≤i→ys.drop i=[]:=fun h=>List.drop_of_length_le h
 repeat' first|exact h.elim|refine sw_n ?_|refine sw_go 0 kp112 fun K hK=>?_|refine fun (K:KT) (hK:KOk S 0 _ _ _ K)=>?_|refine runL_g ?_|refine sw_retg0 ?_|refine sw_retg ?_|(refine hK.n0 ?_;clear hK K)|refine sw_condg rfl (fun h=>?_) fun h=>?_|refine sw_exit rfl ?_|refine sw_loopEnd ?_|refine hK.c1 rfl rfl rfl (cmpCompare_fc _ _) ?_|with_reducible refine and_o ?_|apply tTT
 ·rw[hj.2,hx (by omega),hye (by omega)];rfl
 ·rw[hj.2,hx (by omega),hy (by omega),cmpL,if_pos (by assumption)]
 ·refine⟨i+1,by(refine covers_mk0 rfl rfl ?_ ?_ ?_ ?_<;>simp (disch:=(refine Om.mk ?_;omega)) only[go_sem]<;>(try omega)),⟨by omega,by omega,?_⟩,by omega⟩
  rw[hj.2,hx (by omega),hy (by omega),cmpL,if_neg (fun hh=>hh (by assumption))]
 ·rw[hj.2,hxe (by omega),hy (by omega)];rfl
 ·rw[hj.2,hxe (by omega),hye (by omega)];rfl
 ·simp
def kp80:List (Nat×List Nat):=[(0,[2,3]),(1,[2,3,10]),(2,[4]),(3,[2,3,5]),(4,[2,3,5,22]),(5,[4]),(6,[4])]
attribute [go_sem] kp80 Try.results80 Try.ntmps80
theorem compareTrans_fc (r s:TransT):FC S 80 [] [] [] [TransD r,TransD s] (.int .i64 (cmpT r s)) [] []:=by
 refine fcb Try.func80 fun B=>?_
 repeat' first|exact h.elim|refine sw_n ?_|refine sw_go 0 kp80 fun K hK=>?_|refine fun (K:KT) (hK:KOk S 0 _ _ _ K)=>?_|refine runL_g ?_|refine sw_retg0 ?_|refine sw_retg ?_|(refine hK.n0 ?_;clear hK K)|refine sw_condg rfl (fun h=>?_) fun h=>?_|refine sw_loopEnd ?_|refine hK.c1 rfl rfl rfl (compareInts_fc _ _) ?_|refine hK.c1 rfl rfl rfl (compare_fc _ _ _ _) ?_|with_reducible refine and_o ?_|apply tTT
 all_goals (unfold cmpT;simp_all)
def kp114:List (Nat×List Nat):=[(0,[0,1]),(1,[3])]
attribute [go_sem] kp114 Try.results114 Try.ntmps114
theorem statesOk1_fc (x:Int) (a:AutoT):FC S 114 [(2,[.int .i64 a.states,.sl .any (a.rules.map TransD),.sl .any (a.final.map (.int .i64))])] [] [] ([.int .i64 x]++[.box 2 0]) (.bool (tst (x<0∨a.states≤x))) [] []:=by
 refine fcb Try.func114 fun B=>?_
 repeat' first|exact h.elim|refine sw_n ?_|refine sw_go 0 kp114 fun K hK=>?_|refine fun (K:KT) (hK:KOk S 0 _ _ _ K)=>?_|refine runL_g ?_|refine sw_retg0 ?_|refine sw_retg ?_|(refine hK.n0 ?_;clear hK K)|refine runG_fk (fun h=>?_) fun h=>?_|refine hK.skp rfl rfl ?_|refine sw_loopEnd ?_|(refine hK.fork rfl rfl rfl ?_ ?_<;>intro h<;>try simp (disch:=(refine Om.mk ?_;omega)) only[go_sem] at h)|with_reducible refine and_o ?_|apply tTT
 all_goals omega
def kp92:List (Nat×List Nat):=[(0,[1,2]),(1,[4])]
attribute [go_sem] kp92 Try.results92 Try.ntmps92
theorem statesOk_fc (tk:Tk) (a:AutoT) (xs:List Int):FC S 92 [] [] [] [AutoD a,.sl tk (xs.map (.int .i64))] (.bool (tst (InP a.states xs))) [] []:=by
 refine fcb Try.func92 fun B=>?_
 repeat' first|refine sw_n ?_|refine sw_go 0 kp92 fun K hK=>?_|refine fun (K:KT) (hK:KOk S 0 _ _ _ K)=>?_|refine runL_g ?_|refine sw_retg0 ?_|refine sw_retg ?_|(refine hK.n0 ?_;clear hK K)|refine sw_loopEnd ?_|refine hK.cR rfl rfl rfl (containsFuncInt64_fc _ _ (fun x=>x<0∨a.states≤x) _ _ [(2,[.int .i64 a.states,.sl .any (a.rules.map TransD),.sl .any (a.final.map (.int .i64))])] (by simp[Lg.look]) (fun x _=>statesOk1_fc x a)) ?_|with_reducible refine and_o ?_|apply tTT
 have key:(¬ ∃x,x∈xs∧(x<0∨a.states≤x))↔InP a.states xs:=by
  constructor
  ·intro hn j hj'
   have:=(forall_getD (P:=fun x=>¬(x<0∨a.states≤x))).2 (fun x hx hh=>hn ⟨x,hx,hh⟩) j hj'
   omega
  ·rintro h2 ⟨x,hx,hh⟩
   have:=(forall_getD (P:=fun x=>0≤x∧x≤a.states-1)).1 h2 x hx
   omega
 rw[←key,Classical.not_not]
def kp94:List (Nat×List Nat):=[(0,[1,2]),(1,[3])]
attribute [go_sem] kp94 Try.results94 Try.ntmps94
theorem autoOk1_fc (r s:TransT):FC S 94 [(6,[.int .i64 r.sym,.sl .any (r.args.map (.int .i64)),.int .i64 r.to])] [] [] ([TransD s]++[.box 6 0]) (.bool (tst (r=s))) [] []:=by
 refine fcb Try.func94 fun B=>?_
 repeat' first|refine sw_n ?_|refine sw_go 100 kp94 fun K hK=>?_|refine fun (K:KT) (hK:KOk S 100 _ _ _ K)=>?_|refine runL_g ?_|refine sw_retg0 ?_|refine sw_retg ?_|(refine hK.n0 ?_;clear hK K)|refine sw_loopEnd ?_|refine hK.c1 rfl rfl rfl (compareTrans_fc r s) ?_|with_reducible refine and_o ?_|apply tTT
 exact cmpT_zero r s
end
end Go.Proofs.Ytjaicibmmcpeiaa
