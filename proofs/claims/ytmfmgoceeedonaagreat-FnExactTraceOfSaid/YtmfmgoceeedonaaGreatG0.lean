/-
  Ty, HFnExactTraceOf, A01, A03t, Sl, A01b, A02c, one behind the other.
-/
import Derived.Test.YtmfmgoceeedonaaGreatSet
import Derived.Test.YtmfmgoceeedonaaGreatLgK4
import Derived.Test.YtmfmgoceeedonaaGreatLgK5
import Derived.Test.YtmfmgoceeedonaaGreatLgK6
import Derived.Test.YtmfmgoceeedonaaGreatLgK7
namespace Go.Proofs.YtmfmgoceeedonaaGreat
open Go Go.Lg
set_option linter.unusedSimpArgs false
set_option linter.unusedVariables false
set_option maxHeartbeats 4000000
section
def dT(x:List Int):D:=.sl .any (x.map (.int .i64))
attribute [go_sem] dT
def d9(xs:List Int):Nat:=xs.length
def aF6(x:List Int):D:=.agg [.sl .any (x.map (.int .i64))]
attribute [go_sem] aF6
def qT(x:List Int):Nat:=d9 x
def aOS(xs:List (List Int)):Nat:=xs.length+(xs.map d9).sum
def aKx(x:List (List Int)):Nat:=aOS x
structure RuleT where
 l:List Int
 r:List Int
 deriving Inhabited
def fO(x:RuleT):D:=.agg [.sl .any (x.l.map (.int .i64)),.sl .any (x.r.map (.int .i64))]
attribute [go_sem] fO
def gP(x:RuleT):Nat:=d9 x.l+d9 x.r
def iH(xs:List RuleT):Nat:=xs.length+(xs.map gP).sum
structure SystemT where
 sig:List Int
 rules:List RuleT
 deriving Inhabited
def bR(x:SystemT):D:=.agg [.sl .any (x.sig.map (.int .i64)),.sl .any (x.rules.map fO)]
attribute [go_sem] bR
def iK(x:SystemT):Nat:=qT x.sig+iH x.rules
structure StepT where
 at_:Int
 rule:Int
 to:List Int
 deriving Inhabited
def aWg(x:StepT):Nat:=d9 x.to
def aVt(xs:List StepT):Nat:=xs.length+(xs.map aWg).sum
structure WalkT where
 frm:List Int
 steps:List StepT
 deriving Inhabited
def aXA(x:WalkT):Nat:=d9 x.frm+aVt x.steps
structure PolyT where
 const:Int
 coef:List Int
 deriving Inhabited
def bP(x:PolyT):D:=.agg [.int .i64 x.const,.sl .any (x.coef.map (.int .i64))]
attribute [go_sem] bP
structure DepPairT where
 l:List Int
 r:List Int
 rule:Int
 at_:Int
 deriving Inhabited
def bN(x:DepPairT):D:=.agg [.sl .any (x.l.map (.int .i64)),.sl .any (x.r.map (.int .i64)),.int .i64 x.rule,.int .i64 x.at_]
attribute [go_sem] bN
structure PairStepT where
 part:List Int
 proj:List Int
 polys:List PolyT
 gone:List Int
 deriving Inhabited
def fB(x:PairStepT):D:=.agg [.sl .any (x.part.map (.int .i64)),.sl .any (x.proj.map (.int .i64)),.sl .any (x.polys.map bP),.sl .any (x.gone.map (.int .i64))]
attribute [go_sem] fB
theorem bE{b:Int}{n:Nat}(h:-1≤b/\b≤1048576):-1≤szd b n/\szd b n≤1048576:=by unfold szd;split<;>omega
end
section
attribute [local irreducible] SW bA bC dM bZ FC Ret dX
def aV7:List (Nat×List Nat):=[(0,[0,1]),(1,[0,1,10]),(2,[4]),(3,[0,1,5]),(4,[0,1,5,14]),(6,[0,1,5,25]),(7,[4]),(5,[0,1,5]),(8,[4])]
attribute [go_sem] aV7 Tryz.results70 Tryz.ntmps70
theorem o5(tk tk':Tk)(xs ys:List Int):FC S 70 [] [] [] [.sl tk (xs.map (.int .i64)),.sl tk' (ys.map (.int .i64))] (.bool (tst (xs=ys))) [] []:=by
 refine fcb Tryz.func70 λB=>?_;refine bM 0 λhb0=>?_;refine bM 1 λhb1=>?_;repeat' first|exact h.elim|apply aG|refine aE 0 aV7 λK hK=>?_|refine aB ?_|refine aC ?_|(refine hK.n0 ?_;clear hK K)|refine aA rfl (λh=>?_) λh=>?_|apply tTT
 ·intro e;exact h (by rw[e])
 refine aV (ι:=Nat) (λi=>[(5,.int .i64 i)]) (λ_=>[]) (λi=>i≤xs.length/\(∀j<i,xs.getD j default=ys.getD j default)) (λi=>xs.length-i) 0 cvA ⟨by omega,?_⟩ (λi ⟨hi,hj⟩=>?_);rotate_left
 simp only[go_sem];repeat' first|exact h.elim|apply aG|refine aE 0 aV7 λK hK=>?_|refine aU aV7 (by kernel_rfl) λK hK=>?_|refine aB ?_|refine aQ ?_|refine aC ?_|(refine hK.n0 ?_;clear hK K)|refine aA rfl (λh=>?_) λh=>?_|refine aJ rfl ?_|apply aF|with_reducible refine aH ?_|apply tTT
 ·intro e;exact h (by rw[e])
 ·exact⟨i+1,by(refine aD rfl rfl ?_ ?_ ?_ ?_<;>simp(disch:=apply aR;omega)only[go_sem]<;>(try omega)),⟨by omega,bJ hj (by assumption)⟩,by omega⟩
 ·exact p5 (by assumption) λj hj'=>hj j (by omega)
 ·intro j hj';omega
def aYh:List (Nat×List Nat):=[(0,[2,3]),(1,[2,3,9]),(2,[4]),(3,[15]),(4,[4]),(5,[4])]
attribute [go_sem] aYh Tryz.results110 Tryz.ntmps110
theorem aQG(x y:PolyT):FC S 110 [] [] [] [bP x,bP y] (.bool (tst (x=y))) [] []:=by
 refine fcb Tryz.func110 λB=>?_;repeat' first|exact h.elim|apply aG|refine aE 0 aYh λK hK=>?_|refine aB ?_|refine aC ?_|(refine hK.n0 ?_;clear hK K)|refine aA rfl (λh=>?_) λh=>?_|refine hK.c1 rfl rfl rfl (o5 _ _ _ _) ?_|apply tTT
 all_goals first|assumption|(intro e;subst e;contradiction)|(cases x;cases y;simp_all)
def aZG:List (Nat×List Nat):=[(0,[2,3]),(1,[2,3,10]),(2,[4]),(3,[16]),(4,[4]),(5,[4])]
attribute [go_sem] aZG Tryz.results72 Tryz.ntmps72
theorem aQi(x y:RuleT):FC S 72 [] [] [] [fO x,fO y] (.bool (tst (x=y))) [] []:=by
 refine fcb Tryz.func72 λB=>?_;repeat' first|exact h.elim|apply aG|refine aE 0 aZG λK hK=>?_|refine aB ?_|refine aC ?_|(refine hK.n0 ?_;clear hK K)|refine aA rfl (λh=>?_) λh=>?_|refine hK.c1 rfl rfl rfl (o5 _ _ _ _) ?_|apply tTT
 all_goals first|assumption|(intro e;subst e;contradiction)|(cases x;cases y;simp_all)
def aZ4:List (Nat×List Nat):=[(0,[2,3]),(1,[10]),(2,[4]),(3,[4])]
attribute [go_sem] aZ4 Tryz.results33 Tryz.ntmps33
theorem aUt(x y:List Int):FC S 33 [] [] [] [aF6 x,aF6 y] (.bool (tst (x=y))) [] []:=by
 refine fcb Tryz.func33 λB=>?_;repeat' first|exact h.elim|apply aG|refine aE 0 aZ4 λK hK=>?_|refine aB ?_|refine aC ?_|(refine hK.n0 ?_;clear hK K)|refine aA rfl (λh=>?_) λh=>?_|refine hK.c1 rfl rfl rfl (o5 _ _ _ _) ?_|apply tTT
 all_goals first|assumption|(intro e;subst e;contradiction)|(cases x;cases y;simp_all)
def aWl:List (Nat×List Nat):=[(0,[0,1]),(1,[0,1,10]),(2,[4]),(3,[0,1,5]),(4,[0,1,5,14]),(6,[0,1,5,26]),(7,[4]),(5,[0,1,5]),(8,[4])]
attribute [go_sem] aWl Tryz.results71 Tryz.ntmps71
theorem aNg(tk tk':Tk)(xs ys:List PolyT):FC S 71 [] [] [] [.sl tk (xs.map bP),.sl tk' (ys.map bP)] (.bool (tst (xs=ys))) [] []:=by
 refine fcb Tryz.func71 λB=>?_;refine bM 0 λhb0=>?_;refine bM 1 λhb1=>?_;repeat' first|exact h.elim|apply aG|refine aE 0 aWl λK hK=>?_|refine aB ?_|refine aC ?_|(refine hK.n0 ?_;clear hK K)|refine aA rfl (λh=>?_) λh=>?_|apply tTT
 ·intro e;exact h (by rw[e])
 refine aV (ι:=Nat) (λi=>[(5,.int .i64 i)]) (λ_=>[]) (λi=>i≤xs.length/\(∀j<i,xs.getD j default=ys.getD j default)) (λi=>xs.length-i) 0 cvA ⟨by omega,?_⟩ (λi ⟨hi,hj⟩=>?_);rotate_left
 simp only[go_sem];repeat' first|exact h.elim|apply aG|refine aE 0 aWl λK hK=>?_|refine aU aWl (by kernel_rfl) λK hK=>?_|refine aB ?_|refine aQ ?_|refine aC ?_|(refine hK.n0 ?_;clear hK K)|refine aA rfl (λh=>?_) λh=>?_|refine aJ rfl ?_|apply aF|refine hK.c1 rfl rfl rfl (aQG _ _) ?_|with_reducible refine aH ?_|apply tTT
 ·intro e;exact h (by rw[e])
 ·exact⟨i+1,by(refine aD rfl rfl ?_ ?_ ?_ ?_<;>simp(disch:=apply aR;omega)only[go_sem]<;>(try omega)),⟨by omega,bJ hj (by assumption)⟩,by omega⟩
 ·exact p5 (by assumption) λj hj'=>hj j (by omega)
 ·intro j hj';omega
def aWS:List (Nat×List Nat):=[(0,[0,1]),(1,[0,1,10]),(2,[4]),(3,[0,1,5]),(4,[0,1,5,14]),(6,[0,1,5,26]),(7,[4]),(5,[0,1,5]),(8,[4])]
attribute [go_sem] aWS Tryz.results34 Tryz.ntmps34
theorem aNY(tk tk':Tk)(xs ys:List RuleT):FC S 34 [] [] [] [.sl tk (xs.map fO),.sl tk' (ys.map fO)] (.bool (tst (xs=ys))) [] []:=by
 refine fcb Tryz.func34 λB=>?_;refine bM 0 λhb0=>?_;refine bM 1 λhb1=>?_;repeat' first|exact h.elim|apply aG|refine aE 0 aWS λK hK=>?_|refine aB ?_|refine aC ?_|(refine hK.n0 ?_;clear hK K)|refine aA rfl (λh=>?_) λh=>?_|apply tTT
 ·intro e;exact h (by rw[e])
 refine aV (ι:=Nat) (λi=>[(5,.int .i64 i)]) (λ_=>[]) (λi=>i≤xs.length/\(∀j<i,xs.getD j default=ys.getD j default)) (λi=>xs.length-i) 0 cvA ⟨by omega,?_⟩ (λi ⟨hi,hj⟩=>?_);rotate_left
 simp only[go_sem];repeat' first|exact h.elim|apply aG|refine aE 0 aWS λK hK=>?_|refine aU aWS (by kernel_rfl) λK hK=>?_|refine aB ?_|refine aQ ?_|refine aC ?_|(refine hK.n0 ?_;clear hK K)|refine aA rfl (λh=>?_) λh=>?_|refine aJ rfl ?_|apply aF|refine hK.c1 rfl rfl rfl (aQi _ _) ?_|with_reducible refine aH ?_|apply tTT
 ·intro e;exact h (by rw[e])
 ·exact⟨i+1,by(refine aD rfl rfl ?_ ?_ ?_ ?_<;>simp(disch:=apply aR;omega)only[go_sem]<;>(try omega)),⟨by omega,bJ hj (by assumption)⟩,by omega⟩
 ·exact p5 (by assumption) λj hj'=>hj j (by omega)
 ·intro j hj';omega
def aZT:List (Nat×List Nat):=[(0,[2,3]),(1,[2,3,10]),(2,[4]),(3,[2,3,16]),(4,[4]),(5,[2,3,22]),(6,[4]),(7,[28]),(8,[4]),(9,[4])]
attribute [go_sem] aZT Tryz.results32 Tryz.ntmps32
theorem aFP(x y:PairStepT):FC S 32 [] [] [] [fB x,fB y] (.bool (tst (x=y))) [] []:=by
 refine fcb Tryz.func32 λB=>?_;repeat' first|exact h.elim|apply aG|refine aE 0 aZT λK hK=>?_|refine aB ?_|refine aC ?_|(refine hK.n0 ?_;clear hK K)|refine aA rfl (λh=>?_) λh=>?_|refine hK.c1 rfl rfl rfl (o5 _ _ _ _) ?_|refine hK.c1 rfl rfl rfl (aNg _ _ _ _) ?_|apply tTT
 all_goals first|assumption|(intro e;subst e;contradiction)|(cases x;cases y;simp_all)
def kp9:List (Nat×List Nat):=[(0,[2,3]),(1,[2,3,10]),(2,[4]),(3,[16]),(4,[4]),(5,[4])]
attribute [go_sem] kp9 Tryz.results9 Tryz.ntmps9
theorem aKY(x y:SystemT):FC S 9 [] [] [] [bR x,bR y] (.bool (tst (x=y))) [] []:=by
 refine fcb Tryz.func9 λB=>?_;repeat' first|exact h.elim|apply aG|refine aE 0 kp9 λK hK=>?_|refine aB ?_|refine aC ?_|(refine hK.n0 ?_;clear hK K)|refine aA rfl (λh=>?_) λh=>?_|refine hK.c1 rfl rfl rfl (aUt _ _) ?_|refine hK.c1 rfl rfl rfl (aNY _ _ _ _) ?_|apply tTT
 all_goals first|assumption|(intro e;subst e;contradiction)|(cases x;cases y;simp_all)
def kp8:List (Nat×List Nat):=[(0,[0,1]),(1,[0,1,10]),(2,[4]),(3,[0,1,5]),(4,[0,1,5,14]),(6,[0,1,5,26]),(7,[4]),(5,[0,1,5]),(8,[4])]
attribute [go_sem] kp8 Tryz.results8 Tryz.ntmps8
theorem aFs(tk tk':Tk)(xs ys:List PairStepT):FC S 8 [] [] [] [.sl tk (xs.map fB),.sl tk' (ys.map fB)] (.bool (tst (xs=ys))) [] []:=by
 refine fcb Tryz.func8 λB=>?_;refine bM 0 λhb0=>?_;refine bM 1 λhb1=>?_;repeat' first|exact h.elim|apply aG|refine aE 0 kp8 λK hK=>?_|refine aB ?_|refine aC ?_|(refine hK.n0 ?_;clear hK K)|refine aA rfl (λh=>?_) λh=>?_|apply tTT
 ·intro e;exact h (by rw[e])
 refine aV (ι:=Nat) (λi=>[(5,.int .i64 i)]) (λ_=>[]) (λi=>i≤xs.length/\(∀j<i,xs.getD j default=ys.getD j default)) (λi=>xs.length-i) 0 cvA ⟨by omega,?_⟩ (λi ⟨hi,hj⟩=>?_);rotate_left
 simp only[go_sem];repeat' first|exact h.elim|apply aG|refine aE 0 kp8 λK hK=>?_|refine aU kp8 (by kernel_rfl) λK hK=>?_|refine aB ?_|refine aQ ?_|refine aC ?_|(refine hK.n0 ?_;clear hK K)|refine aA rfl (λh=>?_) λh=>?_|refine aJ rfl ?_|apply aF|refine hK.c1 rfl rfl rfl (aFP _ _) ?_|with_reducible refine aH ?_|apply tTT
 ·intro e;exact h (by rw[e])
 ·exact⟨i+1,by(refine aD rfl rfl ?_ ?_ ?_ ?_<;>simp(disch:=apply aR;omega)only[go_sem]<;>(try omega)),⟨by omega,bJ hj (by assumption)⟩,by omega⟩
 ·exact p5 (by assumption) λj hj'=>hj j (by omega)
 ·intro j hj';omega
def aZH:List (Nat×List Nat):=[(0,[0,1]),(1,[1]),(2,[1,10]),(3,[4]),(4,[4])]
attribute [go_sem] aZH Tryz.results41 Tryz.ntmps41
theorem aCN(tk:Tk)(xs:List Int)(b:Int)(hb:-1≤b/\b≤1048576):FC S 41 [] [] [] [.sl tk (xs.map (.int .i64)),.int .i64 b] (.int .i64 (szd b (d9 xs))) [] []:=by
 refine fcb Tryz.func41 λB=>?_;refine bM 0 λhb0=>?_;repeat' first|exact h.elim|apply aG|refine aE 0 aZH λK hK=>?_|refine aB ?_|refine aC ?_|(refine hK.n0 ?_;clear hK K)|refine aA rfl (λh=>?_) λh=>?_|apply tTT
 all_goals (simp only[szd,d9] at *;grind)
def aZZ:List (Nat×List Nat):=[(0,[1,2]),(1,[1,2]),(2,[1,2,10]),(3,[4]),(4,[1]),(5,[1,16]),(6,[4]),(7,[4])]
attribute [go_sem] aZZ Tryz.results42 Tryz.ntmps42
theorem aRF(x:RuleT)(b:Int)(hb:-1≤b/\b≤1048576):FC S 42 [] [] [] [fO x,.int .i64 b] (.int .i64 (szd b (gP x))) [] []:=by
 refine fcb Tryz.func42 λB=>?_;repeat' first|exact h.elim|apply aG|refine aE 0 aZZ λK hK=>?_|refine aB ?_|refine aC ?_|(refine hK.n0 ?_;clear hK K)|refine aA rfl (λh=>?_) λh=>?_|refine hK.c1 rfl rfl rfl (aCN _ _ _ (by(first|exact hb|exact bE hb|exact bE (bE hb)|exact bE (bE (bE hb))|exact bE (bE (bE (bE hb)))|exact bE (bE (bE (bE (bE hb))))|omega))) ?_|apply tTT
 all_goals (simp only[szd,gP] at *;grind)
def aZP:List (Nat×List Nat):=[(0,[1,2]),(1,[1]),(2,[1,10]),(3,[4]),(4,[4])]
attribute [go_sem] aZP Tryz.results13 Tryz.ntmps13
theorem aVU(x:List Int)(b:Int)(hb:-1≤b/\b≤1048576):FC S 13 [] [] [] [aF6 x,.int .i64 b] (.int .i64 (szd b (qT x))) [] []:=by
 refine fcb Tryz.func13 λB=>?_;repeat' first|exact h.elim|apply aG|refine aE 0 aZP λK hK=>?_|refine aB ?_|refine aC ?_|(refine hK.n0 ?_;clear hK K)|refine aA rfl (λh=>?_) λh=>?_|refine hK.c1 rfl rfl rfl (aCN _ _ _ (by(first|exact hb|exact bE hb|exact bE (bE hb)|exact bE (bE (bE hb))|exact bE (bE (bE (bE hb)))|exact bE (bE (bE (bE (bE hb))))|omega))) ?_|apply tTT
 all_goals (simp only[szd,qT] at *;grind)
def aYQ:List (Nat×List Nat):=[(0,[0,1]),(1,[0,1]),(2,[0,1,11]),(3,[4]),(4,[0,1,5]),(5,[0,1,5,15]),(7,[0,1,5]),(8,[0,1,5,25]),(9,[4]),(6,[0,1,5]),(10,[4])]
attribute [go_sem] aYQ Tryz.results14 Tryz.ntmps14
theorem aOx(tk:Tk)(xs:List RuleT)(b:Int)(hb:-1≤b/\b≤1048576):FC S 14 [] [] [] [.sl tk (xs.map fO),.int .i64 b] (.int .i64 (szd b (iH xs))) [] []:=by
 refine fcb Tryz.func14 λB=>?_;refine bM 0 λhb0=>?_;repeat' first|exact h.elim|apply aG|refine aE 0 aYQ λK hK=>?_|refine aB ?_|refine aC ?_|(refine hK.n0 ?_;clear hK K)|refine aA rfl (λh=>?_) λh=>?_|apply tTT
 ·simp only[szd,iH];grind
 refine aV (ι:=Nat) (λi=>[(5,.int .i64 i),(1,.int .i64 (b-xs.length-aE0 gP xs i))]) (λ_=>[]) (λi=>i≤xs.length/\(0≤b-xs.length-aE0 gP xs i)) (λi=>xs.length-i) 0 cvA ⟨by omega,?_⟩ (λi ⟨hi,hj⟩=>?_);rotate_left
 simp only[go_sem];repeat' first|exact h.elim|apply aG|refine aE 0 aYQ λK hK=>?_|refine aB ?_|refine aC ?_|(refine hK.n0 ?_;clear hK K)|refine aA rfl (λh=>?_) λh=>?_|refine aJ rfl ?_|apply aF|refine hK.c1 rfl rfl rfl (aRF _ _ (by omega)) ?_|with_reducible refine aH ?_|apply tTT
 ·have hs:=aBA gP xs i (by omega);have hl:=aPM gP xs (i+1);simp only[szd,iH] at *;grind
 ·have hs:=aBA gP xs i (by omega);refine⟨i+1,(by(refine aD rfl rfl ?_ ?_ ?_ ?_<;>simp(disch:=apply aR;omega)only[go_sem]<;>(try omega));rw[hs];simp only[szd] at *;grind),⟨by omega,?_⟩,by omega⟩;simp only[szd] at *;grind
 ·have hs:=aVN gP xs i (by omega);simp only[szd,iH] at *;grind
 ·rw[aHQ];omega
def kp4:List (Nat×List Nat):=[(0,[1,2]),(1,[1,2]),(2,[1,2,10]),(3,[4]),(4,[1]),(5,[1,16]),(6,[4]),(7,[4])]
attribute [go_sem] kp4 Tryz.results4 Tryz.ntmps4
theorem aMd(x:SystemT)(b:Int)(hb:-1≤b/\b≤1048576):FC S 4 [] [] [] [bR x,.int .i64 b] (.int .i64 (szd b (iK x))) [] []:=by
 refine fcb Tryz.func4 λB=>?_;repeat' first|exact h.elim|apply aG|refine aE 0 kp4 λK hK=>?_|refine aB ?_|refine aC ?_|(refine hK.n0 ?_;clear hK K)|refine aA rfl (λh=>?_) λh=>?_|refine hK.c1 rfl rfl rfl (aVU _ _ (by(first|exact hb|exact bE hb|exact bE (bE hb)|exact bE (bE (bE hb))|exact bE (bE (bE (bE hb)))|exact bE (bE (bE (bE (bE hb))))|omega))) ?_|refine hK.c1 rfl rfl rfl (aOx _ _ _ (by(first|exact hb|exact bE hb|exact bE (bE hb)|exact bE (bE (bE hb))|exact bE (bE (bE (bE hb)))|exact bE (bE (bE (bE (bE hb))))|omega))) ?_|apply tTT
 all_goals (simp only[szd,iK] at *;grind)
def aUs:List (Nat×List Nat):=[(0,[0]),(1,[0,3]),(2,[0,3,4]),(3,[0,3,4,11]),(5,[0,3,4]),(4,[0,3,4]),(6,[2])]
attribute [go_sem] aUs Tryz.results53 Tryz.ntmps53
theorem aC4(tk:Tk)(xs:List Int)(hn:d9 xs≤1048576):FC S 53 [] [] [] [.sl tk (xs.map (.int .i64))] (.sl .any (xs.map (.int .i64))) [] []:=by
 have hl:xs.length≤1048576:=hn;refine fcb Tryz.func53 λB=>?_;refine bM 0 λhb0=>?_;repeat' first|apply aG|refine aE 0 aUs λK hK=>?_|refine aB ?_|(refine hK.n0 ?_;clear hK K)|with_reducible refine aH ?_|apply tTT
 refine aV (ι:=Nat) (λi=>[(4,.int .i64 i)]) (λi=>[(7,lG (λj=>.int .i64 (xs.getD j default)) (.int .i64 0) i xs.length)]) (λi=>i≤xs.length/\(True)) (λi=>xs.length-i) 0 (by(refine aD rfl rfl ?_ ?_ ?_ ?_<;>simp(disch:=apply aR;omega)only[go_sem]<;>(try omega));exact aCG _ _ _) ⟨by omega,?_⟩ (λi ⟨hi,hj⟩=>?_);rotate_left
 simp only[go_sem];repeat' first|exact h.elim|(refine kZ 6 3 1 .any (xs.map (.int .i64)) rfl rfl (by rw[show i=xs.length by omega];exact(aDZ (.int .i64) _ xs).trans (aCu _ _ (λ_=>rfl)).symm) (by rw[zC]) (fI λ_=>rfl) (aCz (λ_=>rfl) rfl) (.inl rfl) ?_;simp only[go_sem])|apply aG|refine aE 0 aUs λK hK=>?_|refine aB ?_|refine aC ?_|(refine hK.n0 ?_;clear hK K)|refine aA rfl (λh=>?_) λh=>?_|refine aJ rfl ?_|apply aF|with_reducible refine aH ?_|apply tTT
 ·exact⟨i+1,(by(refine aD rfl rfl ?_ ?_ ?_ ?_<;>simp(disch:=apply aR;omega)only[go_sem]<;>(try omega));exact aHt (λj=>.int .i64 (xs.getD j default)) _ _ _),by omega,by omega⟩
 all_goals trivial
def aZB:List (Nat×List Nat):=[(0,[1,2]),(1,[1,2,3]),(2,[1,2,3]),(3,[2,3]),(4,[2])]
attribute [go_sem] aZB Tryz.results54 Tryz.ntmps54
theorem aQD(x:RuleT)(hn:gP x≤1048576):FC S 54 [] [] [] [fO x] (fO x) [] []:=by
 have hn':=hn;simp only[gP] at hn';refine fcb Tryz.func54 λB=>?_;repeat' first|apply aG|refine aE 0 aZB λK hK=>?_|refine aB ?_|refine aC ?_|(refine hK.n0 ?_;clear hK K)|refine hK.c1 rfl rfl rfl (aC4 _ _ (by omega)) ?_|apply tTT
 all_goals exact D.le.refl _
def aZf:List (Nat×List Nat):=[(0,[1,2]),(1,[1,2,3]),(2,[2,3]),(3,[2])]
attribute [go_sem] aZf Tryz.results21 Tryz.ntmps21
theorem aTO(x:List Int)(hn:qT x≤1048576):FC S 21 [] [] [] [aF6 x] (aF6 x) [] []:=by
 have hn':=hn;simp only[qT] at hn';refine fcb Tryz.func21 λB=>?_;repeat' first|apply aG|refine aE 0 aZf λK hK=>?_|refine aB ?_|refine aC ?_|(refine hK.n0 ?_;clear hK K)|refine hK.c1 rfl rfl rfl (aC4 _ _ (by omega)) ?_|apply tTT
 all_goals exact D.le.refl _
def aVF:List (Nat×List Nat):=[(0,[0]),(1,[0,3]),(2,[0,3,4]),(3,[0,3,4,11]),(5,[0,3,4]),(4,[0,3,4]),(6,[2])]
attribute [go_sem] aVF Tryz.results22 Tryz.ntmps22
theorem aOT(tk:Tk)(xs:List RuleT)(hn:iH xs≤1048576):FC S 22 [] [] [] [.sl tk (xs.map fO)] (.sl .any (xs.map fO)) [] []:=by
 have hl:xs.length≤1048576:=by unfold iH at hn;omega
 have hq:∀i<xs.length,gP (xs.getD i default)≤1048576:=λi hi=>by
  have:=aKK gP xs i hi;unfold iH at hn;omega
 refine fcb Tryz.func22 λB=>?_;refine bM 0 λhb0=>?_;repeat' first|apply aG|refine aE 0 aVF λK hK=>?_|refine aB ?_|(refine hK.n0 ?_;clear hK K)|with_reducible refine aH ?_|apply tTT
 refine aV (ι:=Nat) (λi=>[(4,.int .i64 i)]) (λi=>[(7,m7 (λj=>[.sl .any (((xs.getD j default)).l.map (.int .i64)),.sl .any (((xs.getD j default)).r.map (.int .i64))]) [.sl .nil [],.sl .nil []] i xs.length)]) (λi=>i≤xs.length/\(True)) (λi=>xs.length-i) 0 (by(refine aD rfl rfl ?_ ?_ ?_ ?_<;>simp(disch:=apply aR;omega)only[go_sem]<;>(try omega));exact aC2 _ _ _) ⟨by omega,?_⟩ (λi ⟨hi,hj⟩=>?_);rotate_left
 simp only[go_sem];have hm:i*2+2≤2*xs.length∨xs.length≤i:=by omega
 repeat' first|exact h.elim|(refine kZ 6 3 2 .any (xs.map fO) rfl rfl (by rw[show i=xs.length by omega];exact aOg fO _ xs) (by rw[zC]) (aWn λ_=>rfl) (aC7 (λj d hd=>by revert d hd;simp[D.memOk]) (by simp[D.memOk])) (.inl rfl) ?_;simp only[go_sem])|apply aG|refine aE 0 aVF λK hK=>?_|refine aB ?_|refine aC ?_|(refine hK.n0 ?_;clear hK K)|refine aA rfl (λh=>?_) λh=>?_|refine aJ rfl ?_|apply aF|refine hK.c1 rfl rfl rfl (aQD _ (by exact hq i (by omega))) ?_|with_reducible refine aH ?_|apply tTT
 ·exact⟨i+1,(by(refine aD rfl rfl ?_ ?_ ?_ ?_<;>simp(disch:=apply aR;omega)only[go_sem]<;>(try omega));exact aHO (f:=λj=>[.sl .any (((xs.getD j default)).l.map (.int .i64)),.sl .any (((xs.getD j default)).r.map (.int .i64))]) (λ_=>rfl) rfl (by omega)),by omega,by omega⟩
 all_goals trivial
def kp6:List (Nat×List Nat):=[(0,[1,2]),(1,[1,2,3]),(2,[1,2,3]),(3,[2,3]),(4,[2])]
attribute [go_sem] kp6 Tryz.results6 Tryz.ntmps6
theorem aLV(x:SystemT)(hn:iK x≤1048576):FC S 6 [] [] [] [bR x] (bR x) [] []:=by
 have hn':=hn;simp only[iK] at hn';refine fcb Tryz.func6 λB=>?_;repeat' first|apply aG|refine aE 0 kp6 λK hK=>?_|refine aB ?_|refine aC ?_|(refine hK.n0 ?_;clear hK K)|refine hK.c1 rfl rfl rfl (aTO _ (by omega)) ?_|refine hK.c1 rfl rfl rfl (aOT _ _ (by omega)) ?_|apply tTT
 all_goals exact D.le.refl _
end
section
attribute [local irreducible] SW bA bC dM bZ FC dX
def eQ(rs:List Int):Prop:=(1≤rs.length/\rs.length≤8)/\∀j<rs.length,0≤rs.getD j default/\rs.getD j default≤3
def arS(rs:List Int)(n:Int):Int:=if -24≤n/\n≤-1 then 0 else if 0≤n/\n≤rs.length-1 then rs.getD n.toNat default else -1
def scan(rs:List Int):List Int->Int->Nat->Int
 | [],_,_=>-1
 | x::r,need,i=>if arS rs x<0 then -1 else if need+arS rs x-1=0 then (i:Int)+1 else scan rs r (need+arS rs x-1) (i+1)
def eJ(rs t:List Int)(a:Nat):Int:=scan rs (t.drop a) 1 a
def aT(rs t:List Int):Prop:=eQ rs/\(1≤t.length/\t.length≤60)/\eJ rs t 0=t.length
theorem aBd(rs t:List Int)(need:Int)(i:Nat)(h:i<t.length):scan rs (t.drop i) need i=if arS rs (t.getD i default)<0 then -1 else if need+arS rs (t.getD i default)-1=0 then (i:Int)+1 else scan rs (t.drop (i+1)) (need+arS rs (t.getD i default)-1) (i+1):=by
 rw[List.drop_eq_getElem_cons h];simp[scan,List.getD,zB h]
theorem aEI(rs t:List Int)(need:Int)(i:Nat)(h:t.length≤i):scan rs (t.drop i) need i=-1:=by
 rw[List.drop_of_length_le h];rfl
theorem wJ{rs:List Int}(hs:eQ rs)(n:Int):-1≤arS rs n/\arS rs n≤3:=by
 unfold arS;split
 ·omega
 ·split
  ·rename_i h;have:=hs.2 n.toNat (by omega);omega
  ·omega
theorem jZ{rs:List Int}{n:Int}(h:-24≤n/\n≤-1):arS rs n=0:=if_pos h
theorem lJ{rs:List Int}{n:Int}(h:0≤n/\n≤rs.length-1):arS rs n=rs.getD n.toNat default:=by
 unfold arS;rw[if_neg (by omega),if_pos h]
theorem aFr{rs:List Int}{n:Int}(h1:¬(-24≤n/\n≤-1))(h2:¬(0≤n/\n≤rs.length-1)):arS rs n=-1:=by
 unfold arS;rw[if_neg h1,if_neg h2]
theorem aEx{rs:List Int}:∀(l:List Int) (need:Int) (i:Nat),scan rs l need i=i+l.length->∀x∈l,0≤arS rs x
 | [],_,_,_,x,hx=>by cases hx
 | y::r,need,i,h,x,hx=>by
  simp only[scan] at h;split at h
  ·simp only[List.length_cons] at h;omega
  ·split at h
   ·have:r=[]:=by
     cases r with
     | nil=>rfl
     | cons _ _=>simp only[List.length_cons] at h;omega
    subst this;obtain rfl:x=y:=by simpa using hx
    omega
   ·rcases zO.1 hx with rfl|hx
    ·omega
    ·exact aEx r _ _ (by rw[h];simp only[List.length_cons];omega) x hx
theorem aKq{rs:List Int}{x:Int}(h:0≤arS rs x):-24≤x:=by
 unfold arS at h;split at h
 ·omega
 ·split at h<;>omega
theorem aT.ge{rs t:List Int}(h:aT rs t):∀x∈t,-24≤x:=λx hx=>by
 have:=h.2.2;unfold eJ at this;rw[List.drop_zero] at this;exact aKq (aEx (rs:=rs) t 1 0 (by omega) x hx)
def kW(rs:List Int):List Int->Int->Nat->Nat×Bool
 | [],_,i=>(i,false)
 | x::r,need,i=>if arS rs x<0 then (i,false) else if need+arS rs x-1=0 then (i+1,true) else kW rs r (need+arS rs x-1) (i+1)
theorem aBB(rs:List Int):∀(l:List Int) (need:Int) (i:Nat),scan rs l need i=if (kW rs l need i).2=true then ((kW rs l need i).1:Int) else -1
 | [],_,_=>rfl
 | x::r,need,i=>by
  simp only[scan,kW];split
  ·rfl
  ·split
   ·simp
   ·exact aBB rs r _ _
theorem aGI(rs t:List Int)(need:Int)(i:Nat)(h:i<t.length):kW rs (t.drop i) need i=if arS rs (t.getD i default)<0 then (i,false) else if need+arS rs (t.getD i default)-1=0 then (i+1,true) else kW rs (t.drop (i+1)) (need+arS rs (t.getD i default)-1) (i+1):=by
 rw[List.drop_eq_getElem_cons h];simp[kW,List.getD,zB h]
theorem aKB(rs t:List Int)(need:Int)(i:Nat)(h:t.length≤i):kW rs (t.drop i) need i=(i,false):=by
 rw[List.drop_of_length_le h];rfl
def nxS(rs t:List Int)(a:Nat):Int:=if a<t.length then arS rs (t.getD a default) else -1
def aFG(xs:List Int):Nat->Int
 | 0=>xs.getD 0 default
 | n+1=>if xs.getD (n+1) default<aFG xs n then xs.getD (n+1) default else aFG xs n
theorem aKQ(xs:List Int)(c:Int):∀n,c≤aFG xs n↔∀j≤n,c≤xs.getD j default
  | 0 => ⟨fun h j hj => by obtain rfl : j = 0 := by omega
                           exact h,λh=>h 0 (by omega)⟩
  | n+1=>by
    have ih:=aKQ xs c n;simp only[aFG];constructor
    · intro h j hj;split at h
      · rcases Nat.lt_or_ge j (n+1) with e|e
        · exact ih.1 (by omega) j (by omega)
        · obtain rfl:j=n+1:=by omega
          exact h
      · rcases Nat.lt_or_ge j (n+1) with e|e
        · exact ih.1 h j (by omega)
        · obtain rfl:j=n+1:=by omega
          omega
    · intro h;split
      · exact h _ (by omega)
      · exact ih.2 λj hj=>h j (by omega)
theorem aBv{xs:List Int}{c:Int}(h:0<xs.length):c≤aFG xs (xs.length-1)↔∀x∈xs,c≤x:=by
 rw[aKQ,←uH (P:=λx=>c≤x)];exact⟨λhh j hj=>hh j (by omega),λhh j hj=>hh j (by omega)⟩
def aYd:List (Nat×List Nat):=[(0,[0,1,2]),(1,[6])]
attribute [go_sem] aYd Tryz.results111 Tryz.ntmps111
theorem o6(n lo hi:Int):FC S 111 [] [] [] [.int .i64 n,.int .i64 lo,.int .i64 hi] (.bool (tst (lo≤n/\n≤hi))) [] []:=by
 refine fcb Tryz.func111 λB=>?_;repeat' first|exact h.elim|apply aG|refine aE 0 aYd λK hK=>?_|refine aB ?_|refine aC ?_|(refine hK.n0 ?_;clear hK K)|refine aZ (λh=>?_) λh=>?_|apply tTT
 ·simp[rO,h]
 ·omega
def aZg:List (Nat×List Nat):=[(0,[1]),(1,[1,8]),(2,[2]),(3,[1,3]),(4,[1,3,13]),(6,[1,3,22]),(7,[2]),(5,[1,3]),(8,[2])]
attribute [go_sem] aZg Tryz.results73 Tryz.ntmps73
theorem nB(tk:Tk)(rs:List Int):FC S 73 [] [] [] [.agg [.sl tk (rs.map (.int .i64))]] (.bool (tst (eQ rs))) [] []:=by
 refine fcb Tryz.func73 λB=>?_;refine b6 0 0 λhb0_0=>?_;repeat' first|exact h.elim|apply aG|refine aE 0 aZg λK hK=>?_|refine aB ?_|refine aC ?_|(refine hK.n0 ?_;clear hK K)|refine aA rfl (λh=>?_) λh=>?_|refine hK.c1 rfl rfl rfl (o6 _ _ _) ?_|apply tTT
 ·rintro⟨h1,_⟩;omega
 refine aV (ι:=Nat) (λi=>[(3,.int .i64 i)]) (λ_=>[]) (λi=>i≤rs.length/\(∀j<i,0≤rs.getD j default/\rs.getD j default≤3)) (λi=>rs.length-i) 0 cvA ⟨by omega,?_⟩ (λi ⟨hi,hj⟩=>?_);rotate_left
 simp only[go_sem];repeat' first|exact h.elim|apply aG|refine aE 0 aZg λK hK=>?_|refine aB ?_|refine aC ?_|(refine hK.n0 ?_;clear hK K)|refine aA rfl (λh=>?_) λh=>?_|refine aJ rfl ?_|apply aF|refine hK.c1 rfl rfl rfl (o6 _ _ _) ?_|with_reducible refine aH ?_|apply tTT
 ·rintro⟨_,h2⟩;exact h (h2 i (by omega))
 ·exact⟨i+1,by(refine aD rfl rfl ?_ ?_ ?_ ?_<;>simp(disch:=apply aR;omega)only[go_sem]<;>(try omega)),⟨by omega,bJ hj (by assumption)⟩,by omega⟩
 ·exact⟨⟨by omega,by omega⟩,λj hj'=>hj j (by omega)⟩
 ·intro j hj';omega
def aYS:List (Nat×List Nat):=[(0,[1]),(1,[1,14]),(2,[2]),(3,[16,17,18]),(4,[16,17,18,19]),(5,[4,16,17,18]),(6,[16,17,18,27]),(7,[2]),(8,[16,17,18]),(9,[2])]
attribute [go_sem] aYS Tryz.results96 Tryz.ntmps96
theorem qV(tk:Tk)(rs:List Int):FC S 96 [] [] [] [.agg [.sl tk (rs.map (.int .i64))]] (.bool (tst (eQ rs))) [] []:=by
 refine fcb Tryz.func96 λB=>?_;refine b6 0 0 λhb0_0=>?_;repeat' first|exact h.elim|apply aG|refine aE 0 aYS λK hK=>?_|refine aB ?_|refine aC ?_|(refine hK.n0 ?_;clear hK K)|refine aZ (λh=>?_) λh=>?_|refine aA rfl (λh=>?_) λh=>?_|apply tTT
 ·rintro⟨h1,_⟩;omega
 ·rintro⟨h1,_⟩;omega
 refine aV (ι:=Nat) (λi=>[(18,.int .i64 i)]) (λ_=>[]) (λi=>i≤rs.length/\(∀j<i,0≤rs.getD j default/\rs.getD j default≤3)) (λi=>rs.length-i) 0 cvA ⟨by omega,?_⟩ (λi ⟨hi,hj⟩=>?_);rotate_left
 simp only[go_sem];repeat' first|exact h.elim|apply aG|refine aE 0 aYS λK hK=>?_|refine aB ?_|refine aC ?_|(refine hK.n0 ?_;clear hK K)|refine aZ (λh=>?_) λh=>?_|refine aA rfl (λh=>?_) λh=>?_|refine aJ rfl ?_|apply aF|with_reducible refine aH ?_|apply tTT
 ·rintro⟨_,h2⟩;have:=h2 i (by omega);omega
 ·rintro⟨_,h2⟩;have:=h2 i (by omega);omega
 ·exact⟨i+1,by(refine aD rfl rfl ?_ ?_ ?_ ?_<;>simp(disch:=apply aR;omega)only[go_sem]<;>(try omega)),⟨by omega,bJ hj ⟨by assumption,by assumption⟩⟩,by omega⟩
 ·exact⟨⟨by omega,by omega⟩,λj hj'=>hj j (by omega)⟩
 ·intro j hj';omega
def aX6:List (Nat×List Nat):=[(0,[1,2]),(1,[1,2,5]),(2,[4]),(3,[1,2,8]),(4,[4]),(5,[4])]
attribute [go_sem] aX6 Tryz.results151 Tryz.ntmps151
theorem aMq(tk:Tk)(rs:List Int)(n:Int):FC S 151 [] [] [] [.agg [.sl tk (rs.map (.int .i64))],.int .i64 n] (.int .i64 (arS rs n)) [] []:=by
 refine fcb Tryz.func151 λB=>?_;refine b6 0 0 λhb0_0=>?_;repeat' first|exact h.elim|apply aG|refine aE 0 aX6 λK hK=>?_|refine aB ?_|refine aC ?_|(refine hK.n0 ?_;clear hK K)|refine aA rfl (λh=>?_) λh=>?_|refine hK.c1 rfl rfl rfl (o6 _ _ _) ?_|with_reducible refine aH ?_|apply tTT
 ·exact(jZ h).symm
 ·rw[lJ (by omega)]
 ·exact(aFr (by assumption) (by assumption)).symm
def aPZ:List (Nat×List Nat):=[(0,[1,2,3]),(1,[1,2,3,7]),(2,[1,3,7,8]),(3,[1,3,7,8,14]),(5,[1,3,7,8,9]),(6,[1,3,7,8,9,24]),(7,[6]),(8,[1,3,7,8]),(9,[1,3,7,8,30]),(10,[6]),(4,[1,3,7,8]),(11,[6])]
attribute [go_sem] aPZ Tryz.results135 Tryz.ntmps135
theorem aSU(tk tk':Tk)(rs t:List Int)(a:Int)(hs:eQ rs)(hl:t.length≤60)(ha:0≤a):FC S 135 [] [] [] [.agg [.sl tk (rs.map (.int .i64))],.sl tk' (t.map (.int .i64)),.int .i64 a] (.int .i64 (eJ rs t a.toNat)) [] []:=by
 refine fcb Tryz.func135 λB=>?_;refine bM 1 λhb1=>?_;repeat' first|apply aG|refine aE 0 aPZ λK hK=>?_|refine aB ?_|(refine hK.n0 ?_;clear hK K)|apply tTT
 refine aV (ι:=Nat×Int) (λp=>[(8,.int .i64 p.1),(7,.int .i64 p.2)]) (λp=>[]) (λp=>(a.toNat≤p.1/\eJ rs t a.toNat=scan rs (t.drop p.1) p.2 p.1)/\1≤p.2/\p.2≤1+3*p.1) (λp=>t.length-p.1) (a.toNat,1) cvA ?_ (λp hp=>?_);rotate_left
 simp only[go_sem];obtain⟨i,need⟩:=p;obtain⟨⟨h1,h2⟩,h3,h4⟩:=hp;have hr:=wJ hs (t.getD i default);have hb:i<t.length->scan rs (t.drop i) need i=_:=aBd rs t need i;repeat' first|exact h.elim|apply aG|refine aE 0 aPZ λK hK=>?_|refine aU aPZ (by kernel_rfl) λK hK=>?_|refine aB ?_|refine aQ ?_|refine aC ?_|(refine hK.n0 ?_;clear hK K)|refine aA rfl (λh=>?_) λh=>?_|refine aJ rfl ?_|apply aF|refine hK.c1 rfl rfl rfl (aMq _ _ _) ?_|with_reducible refine aH ?_|apply tTT
 ·rw[h2,hb (by omega),if_pos h]
 ·rw[h2,hb (by omega),if_neg (by omega),if_pos h]
 ·refine⟨(i+1,need+arS rs (t.getD i default)-1),by(refine aD rfl rfl ?_ ?_ ?_ ?_<;>simp(disch:=apply aR;omega)only[go_sem]<;>(try omega)),⟨⟨by omega,?_⟩,by omega,by omega⟩,by omega⟩;rw[h2,hb (by omega),if_neg (by omega),if_neg h]
 ·rw[h2,aEI rs t need i (by omega)]
 ·exact⟨⟨by omega,rfl⟩,by omega,by omega⟩
def aX9:List (Nat×List Nat):=[(0,[1,2]),(1,[4])]
attribute [go_sem] aX9 Tryz.results112 Tryz.ntmps112
theorem g8(tk tk':Tk)(rs t:List Int):FC S 112 [] [] [] [.agg [.sl tk (rs.map (.int .i64))],.sl tk' (t.map (.int .i64))] (.bool (tst (aT rs t))) [] []:=by
 refine fcb Tryz.func112 λB=>?_;refine b6 0 0 λhb0_0=>?_;refine bM 1 λhb1=>?_;repeat' first|exact h.elim|apply aG|refine aE 0 aX9 λK hK=>?_|refine aB ?_|refine aC ?_|(refine hK.n0 ?_;clear hK K)|refine aZ (λh=>?_) λh=>?_|refine hK.skp rfl rfl ?_|refine hK.c1 rfl rfl rfl (nB _ _) ?_|refine hK.c1 rfl rfl rfl (o6 _ _ _) ?_|refine hK.c1 rfl rfl rfl (aSU _ _ _ _ _ (by assumption) (by omega) (by omega)) ?_|apply tTT
 all_goals (simp only[aT] at *;grind)
def aTf:List (Nat×List Nat):=[(0,[0]),(1,[0,7]),(2,[0]),(3,[0,3]),(4,[0,3,4]),(5,[0,3,4,15]),(7,[0,3,4]),(6,[0,3,4]),(8,[2])]
attribute [go_sem] aTf Tryz.results140 Tryz.ntmps140
theorem aYG(tk:Tk)(xs:List Int)(h0:0<xs.length):FC S 140 [] [] [] [.sl tk (xs.map (.int .i64))] (.int .i64 (aFG xs (xs.length-1))) [] []:=by
 refine fcb Tryz.func140 λB=>?_;refine bM 0 λhb0=>?_;repeat' first|exact h.elim|apply aG|refine aE 0 aTf λK hK=>?_|refine aB ?_|(refine hK.n0 ?_;clear hK K)|refine aA rfl (λh=>?_) λh=>?_|with_reducible refine aH ?_|apply tTT
 ·omega
 refine aV (ι:=Nat) (λp=>[(4,.int .i64 (p+1)),(3,.int .i64 (aFG xs p))]) (λp=>[]) (λp=>p<xs.length) (λp=>xs.length-p) 0 cvB ?_ (λp hp=>?_);rotate_left
 simp only[go_sem];repeat' first|exact h.elim|apply aG|refine aE 0 aTf λK hK=>?_|refine aB ?_|refine aC ?_|(refine hK.n0 ?_;clear hK K)|refine aA rfl (λh=>?_) λh=>?_|refine aJ rfl ?_|apply aF|with_reducible refine aH ?_|apply tTT
 ·exact⟨p+1,cvB,by omega,by omega⟩
 ·rw[show p=xs.length-1 by omega]
 ·exact h0
def aUJ:List (Nat×List Nat):=[(0,[1,2]),(1,[1,2,6]),(2,[4]),(3,[4])]
attribute [go_sem] aUJ Tryz.results130 Tryz.ntmps130
theorem aFK(tk:Tk)(rs:List Int)(n:Int)(hn:-24≤n/\n<rs.length):FC S 130 [] [] [] [.agg [.sl tk (rs.map (.int .i64))],.int .i64 n] (.int .i64 (arS rs n)) [] []:=by
 refine fcb Tryz.func130 λB=>?_;refine b6 0 0 λhb0_0=>?_;repeat' first|exact h.elim|apply aG|refine aE 0 aUJ λK hK=>?_|refine aB ?_|refine aC ?_|(refine hK.n0 ?_;clear hK K)|refine aA rfl (λh=>?_) λh=>?_|with_reducible refine aH ?_|apply tTT
 ·exact(jZ (by omega)).symm
 ·rw[lJ (by omega)]
def aLk:List (Nat×List Nat):=[(0,[0]),(1,[0,31]),(2,[2]),(3,[0]),(4,[2])]
attribute [go_sem] aLk Tryz.results155 Tryz.ntmps155
theorem aWt(id:Nat)(rs t:List Int)(a:Nat)(hs:eQ rs)(ht:∀x∈t,-24≤x):FC S 155 [] [(id,[.sl .any (rs.map (.int .i64)),.sl .any (t.map (.int .i64)),.int .i64 a])] [] [.box id 0] (.int .i64 (nxS rs t a)) [(id,[.sl .any (rs.map (.int .i64)),.sl .any (t.map (.int .i64)),.int .i64 ((if nxS rs t a<0 then a else a+1:Nat):Int)])] []:=by
 have hx:a<t.length->-24≤t.getD a default:=λh=>ht _ (aX t a h);refine fcb Tryz.func155 λB=>?_;refine r7 id 1 (if_pos rfl) rfl λhbid_1=>?_;simp only[D.bnd,zC] at hbid_1;repeat' first|exact h.elim|apply aG|refine aE 0 aLk λK hK=>?_|refine aU aLk (by kernel_rfl) λK hK=>?_|refine aB ?_|refine aQ ?_|refine aC ?_|(refine hK.n0 ?_;clear hK K)|refine bH (λh=>?_) λh=>?_|refine aA rfl (λh=>?_) λh=>?_|refine hK.c1 rfl rfl rfl (aFK _ _ _ ⟨by omega,by omega⟩) ?_|with_reducible refine aH ?_|apply tTT
 ·have e:nxS rs t a=-1:=if_neg (by omega);simp[e]
 ·have e:nxS rs t a=-1:=by rw[nxS,if_pos (by omega),aFr (by omega) (by omega)]
  simp[e]
 ·have e:nxS rs t a=arS rs (t.getD a default):=if_pos (by omega);have h0:0≤arS rs (t.getD a default):=by
   by_cases hn:t.getD a default<0
   ·rw[jZ (by omega)];omega
   ·rw[lJ (by omega)];exact(hs.2 _ (by omega)).1
  rw[if_neg (by omega)];exact⟨e.symm,by simp⟩
def aJK:List (Nat×List Nat):=[(0,[0]),(1,[0,3]),(2,[0,3,6]),(4,[0,3,4]),(5,[0,3,4,12]),(6,[2]),(7,[0,3]),(3,[0,3]),(8,[2])]
attribute [go_sem] aJK Tryz.results143 Tryz.ntmps143
theorem aXv(id:Nat)(rs t:List Int)(a:Nat)(hs:eQ rs)(ht:∀x∈t,-24≤x)(hl:t.length≤60):FC S 143 [] [(id,[.sl .any (rs.map (.int .i64)),.sl .any (t.map (.int .i64)),.int .i64 a])] [] [.box id 0] (.bool (kW rs (t.drop a) 1 a).2) [(id,[.sl .any (rs.map (.int .i64)),.sl .any (t.map (.int .i64)),.int .i64 (kW rs (t.drop a) 1 a).1])] []:=by
 refine fcb Tryz.func143 λB=>?_;refine r7 id 1 (if_pos rfl) rfl λhbid_1=>?_;simp only[D.bnd,zC] at hbid_1;repeat' first|apply aG|refine aE 0 aJK λK hK=>?_|refine aB ?_|(refine hK.n0 ?_;clear hK K)|apply tTT
 refine aV (ι:=Nat×Int) (λp=>[(3,.int .i64 p.2)]) (λp=>[(id,[.sl .any (rs.map (.int .i64)),.sl .any (t.map (.int .i64)),.int .i64 p.1])]) (λp=>(a≤p.1/\((1≤p.2/\kW rs (t.drop a) 1 a=kW rs (t.drop p.1) p.2 p.1)∨(p.2=0/\kW rs (t.drop a) 1 a=(p.1,true))))/\p.2≤1+3*p.1) (λp=>t.length-p.1) (a,1) cvA ?_ (λp hp=>?_);rotate_left
 simp only[go_sem];obtain⟨i,need⟩:=p;obtain⟨⟨h1,h2⟩,h4⟩:=hp;dsimp only at h1 h2 h4;have hr:=wJ hs (t.getD i default);have hn:nxS rs t i≤3:=by unfold nxS;split<;>omega
 have hb:i<t.length->kW rs (t.drop i) need i=_:=aGI rs t need i;repeat' first|exact h.elim|apply aG|refine aE 0 aJK λK hK=>?_|refine aB ?_|refine aC ?_|(refine hK.n0 ?_;clear hK K)|refine aA rfl (λh=>?_) λh=>?_|refine aJ rfl ?_|apply aF|refine hK.cB rfl rfl rfl (aWt id rs t i hs ht) ?_|apply tTT
 ·have e:i<t.length->nxS rs t i=arS rs (t.getD i default):=λh=>if_pos h;rcases h2 with⟨h2,h3⟩|⟨h2,h3⟩
  ·rw[h3];by_cases hi:i<t.length
   ·rw[hb hi,if_pos (by rw[←e hi];assumption),if_pos (by assumption)];simp
   ·rw[aKB rs t need i (by omega),if_pos (by assumption)];simp
  ·omega
 ·have hi:i<t.length:=by
   by_cases hi:i<t.length
   ·exact hi
   ·have:nxS rs t i=-1:=if_neg hi;omega
  have e:nxS rs t i=arS rs (t.getD i default):=if_pos hi;refine⟨(i+1,need+nxS rs t i-1),(by(refine aD rfl rfl ?_ ?_ ?_ ?_<;>simp(disch:=apply aR;omega)only[go_sem]<;>(try omega));rw[if_neg (by omega)]),⟨⟨by omega,?_⟩,by omega⟩,by omega⟩;rcases h2 with⟨h2,h3⟩|⟨h2,h3⟩
  ·rw[h3,hb hi,if_neg (by omega),←e];by_cases hz:need+nxS rs t i-1=0
   ·rw[if_pos hz];exact .inr ⟨hz,rfl⟩
   ·rw[if_neg hz];exact .inl ⟨by dsimp only;omega,rfl⟩
  ·omega
 ·rcases h2 with⟨h2,h3⟩|⟨h2,h3⟩
  ·omega
  ·rw[h3];simp
 ·exact⟨⟨by omega,.inl ⟨by omega,rfl⟩⟩,by omega⟩
def aUm:List (Nat×List Nat):=[(0,[1,2,3]),(1,[7]),(2,[7,13]),(3,[6]),(4,[6])]
attribute [go_sem] aUm Tryz.results126 Tryz.ntmps126
theorem aAg(tk tk':Tk)(rs t:List Int)(a:Int)(hs:eQ rs)(ht:∀x∈t,-24≤x)(hl:t.length≤60)(ha:0≤a):FC S 126 [] [] [] [.agg [.sl tk (rs.map (.int .i64))],.sl tk' (t.map (.int .i64)),.int .i64 a] (.int .i64 (eJ rs t a.toNat)) [] []:=by
 obtain⟨a,rfl⟩:=Int.eq_ofNat_of_zero_le ha;refine FC.args (args':=[.agg [.sl .any (rs.map (.int .i64))],.sl .any (t.map (.int .i64)),.int .i64 a]) ?_ (by simp only[go_sem]);refine fcb Tryz.func126 λB=>?_;repeat' first|exact h.elim|apply aG|refine aE 0 aUm λK hK=>?_|refine aB ?_|refine aC ?_|(refine hK.n0 ?_;clear hK K)|refine aA rfl (λh=>?_) λh=>?_|refine hK.cB rfl rfl rfl (aXv 7 rs t a hs ht hl) ?_|apply tTT
 all_goals first|(rw[eJ,aBB,h];rfl)
def aXU:List (Nat×List Nat):=[(0,[1,2]),(1,[4])]
attribute [go_sem] aXU Tryz.results123 Tryz.ntmps123
theorem xK(tk tk':Tk)(rs t:List Int):FC S 123 [] [] [] [.agg [.sl tk (rs.map (.int .i64))],.sl tk' (t.map (.int .i64))] (.bool (tst (aT rs t))) [] []:=by
 refine fcb Tryz.func123 λB=>?_;refine b6 0 0 λhb0_0=>?_;refine bM 1 λhb1=>?_;repeat' first|exact h.elim|apply aG|refine aE 0 aXU λK hK=>?_|refine aB ?_|refine aC ?_|(refine hK.n0 ?_;clear hK K)|refine aZ (λh=>?_) λh=>?_|refine hK.skp rfl rfl ?_|refine hK.c1 rfl rfl rfl (qV _ _) ?_|refine hK.c1 rfl rfl rfl (aYG _ _ (by omega)) ?_|refine hK.c1 rfl rfl rfl (aAg _ _ _ _ _ (by assumption) ((aBv (by omega)).1 (by assumption)) (by omega) (by omega)) ?_|apply tTT
 ·rename_i h1 h2 h3;have h4:=(aBv (by omega)).1 h;simp only[aT,Int.toNat_zero];exact⟨λe=>⟨h1,by omega,e⟩,λe=>e.2.2⟩
 ·intro e;have:=(aBv (c:=-24) (by omega)).2 e.ge;omega
 ·rintro⟨_,h1,_⟩;omega
 ·rintro⟨_,h1,_⟩;omega
 ·rintro⟨h1,_⟩;contradiction
end
section
inductive Fl (rs:List Int):Nat->List Int->Prop
 | nil:Fl rs 0 []
 | cons {n:Int} {k:Nat} {l:List Int} (h:0≤arS rs n) (r:Fl rs (k+(arS rs n).toNat) l):Fl rs (k+1) (n::l)
theorem Fl.zero{rs l:List Int}(h:Fl rs 0 l):l=[]:=by
 generalize e:(0:Nat)=k at h;cases h with
 | nil=>rfl
 | cons _ _=>omega
theorem Fl.len{rs l:List Int}{k:Nat}(h:Fl rs k l):k≤l.length:=by
 induction h with
 | nil=>exact zQ _
 | cons _ _ ih=>simp only[List.length_cons];omega
theorem Fl.app{rs l:List Int}{j:Nat}(h:Fl rs j l):∀ {k:Nat} {m:List Int},Fl rs k m->Fl rs (j+k) (l++m):=by
 induction h with
 | nil=>intro k m hm;rw[Nat.zero_add];exact hm
 | @cons n i l h r ih =>
  intro k m hm;have:=ih hm;rw[show i+1+k=(i+k)+1 by omega];exact .cons h (by rw[show i+k+(arS rs n).toNat=i+(arS rs n).toNat+k by omega];exact this)
theorem Fl.split{rs:List Int}:∀(l:List Int) (j k:Nat),Fl rs (j+k) l->∃l1 l2,l=l1++l2/\Fl rs j l1/\Fl rs k l2
 | [],j,k,h=>by
  have:=h.len;simp only[List.length_nil] at this;obtain rfl:j=0:=by omega
  obtain rfl:k=0:=by omega
  exact⟨[],[],rfl,.nil,.nil⟩
 | n::l,0,k,h=>⟨[],n::l,rfl,.nil,by rw[Nat.zero_add] at h;exact h⟩
 | n::l,j+1,k,h=>by
  rw[show j+1+k=(j+k)+1 by omega] at h;cases h with
  | cons h r =>
   rw[show j+k+(arS rs n).toNat=(j+(arS rs n).toNat)+k by omega] at r;obtain⟨l1,l2,e,h1,h2⟩:=Fl.split l _ _ r;exact⟨n::l1,l2,by rw[e];rfl,.cons h h1,h2⟩
theorem Fl.scan{rs:List Int}{k:Nat}{l:List Int}(h:Fl rs k l):∀(r:List Int) (i:Nat),1≤k->Go.Proofs.YtmfmgoceeedonaaGreat.scan rs (l++r) k i=i+l.length:=by
 induction h with
 | nil=>intro r i h0;omega
 | @cons n k l h hr ih =>
  intro r i _;simp only[List.cons_append,Go.Proofs.YtmfmgoceeedonaaGreat.scan];rw[if_neg (by omega)];by_cases e:k+(arS rs n).toNat=0
  ·rw[if_pos (by omega)];rw[e] at hr;rw[hr.zero];simp
  ·rw[if_neg (by omega)];have:=ih r (i+1) (by omega);rw[show ((k+1:Nat):Int)+arS rs n-1=((k+(arS rs n).toNat:Nat):Int) by omega,this];simp only[List.length_cons];omega
theorem aPI{rs:List Int}:∀(l:List Int) (k i:Nat) (e:Int),1≤k->scan rs l k i=e->0≤e->∃l1 l2,l=l1++l2/\Fl rs k l1/\e=i+l1.length
 | [],k,i,e,_,h,he=>by simp only[scan] at h;omega
 | n::l,k,i,e,hk,h,he=>by
  simp only[scan] at h;split at h
  ·omega
  ·rename_i h0;obtain⟨k,rfl⟩:∃q,k=q+1:=⟨k-1,by omega⟩;split at h
   ·rename_i h1;obtain⟨rfl,h3⟩:k=0/\arS rs n=0:=by omega
    exact⟨[n],l,rfl,.cons (by omega) (by rw[h3];exact .nil),by simp;omega⟩
   ·rename_i h1;obtain⟨l1,l2,e1,e2,e3⟩:=aPI l (k+(arS rs n).toNat) (i+1) e (by omega) (by rw[←h];congr 1;omega) he;exact⟨n::l1,l2,by rw[e1];rfl,.cons (by omega) e2,by simp only[List.length_cons];omega⟩
theorem Fl.uniq{rs:List Int}{k:Nat}{l:List Int}(h:Fl rs k l):∀ {m r s:List Int},Fl rs k m->l++r=m++s->l=m/\r=s:=by
 induction h with
 | nil=>intro m r s hm e;rw[hm.zero] at e ⊢;exact⟨rfl,e⟩
 | @cons n k l h hr ih =>
  intro m r s hm e;cases hm with
  | @cons n' _ m h' hr' =>
   simp only[List.cons_append,List.cons.injEq] at e;obtain⟨rfl,e⟩:=e;obtain⟨rfl,rfl⟩:=ih hr' e;exact⟨rfl,rfl⟩
theorem Fl.pre{rs:List Int}{k:Nat}{l:List Int}(h:Fl rs k l){m:List Int}(hm:Fl rs k m){r:List Int}(e:l=m++r):l=m/\r=[]:=by
 have:=Fl.uniq h hm (r:=[]) (s:=r) (by simpa using e);exact⟨this.1,this.2.symm⟩
theorem vN{rs t:List Int}(h:aT rs t):Fl rs 1 t:=by
 obtain⟨_,_,h3⟩:=h;unfold eJ at h3;rw[List.drop_zero] at h3;obtain⟨l1,l2,e1,e2,e3⟩:=aPI t 1 0 _ (by omega) h3 (by omega);have:l2=[]:=by
  have:=congrArg List.length e1;rw[zK] at this;exact List.length_eq_zero_iff.1 (by omega)
 rw[e1,this,List.append_nil];exact e2
theorem aGZ{rs t:List Int}(hs:eQ rs)(h:Fl rs 1 t)(hl:t.length≤60):aT rs t:=by
 refine⟨hs,⟨h.len,hl⟩,?_⟩;have:=h.scan [] 0 (by omega);unfold eJ;rw[List.drop_zero];simpa using this
theorem uA{rs:List Int}{p u r:List Int}(h:Fl rs 1 u):eJ rs (p++(u++r)) p.length=p.length+u.length:=by
 unfold eJ;rw[List.drop_left];exact h.scan r p.length (by omega)
theorem Fl.at{rs:List Int}:∀(l:List Int) (k a:Nat),Fl rs k l->a<l.length->∃p u r,l=p++(u++r)/\p.length=a/\Fl rs 1 u
 | [],_,a,_,ha=>absurd ha (Nat.not_lt_zero _)
 | n::l,k,0,h,_=>by
  obtain⟨k,rfl⟩:∃q,k=q+1:=by cases h;exact⟨_,rfl⟩
  obtain⟨l1,l2,e,h1,_⟩:=Fl.split (n::l) 1 k (by rw[Nat.add_comm];exact h);exact⟨[],l1,l2,e,rfl,h1⟩
 | n::l,k,a+1,h,ha=>by
  cases h with
  | cons h r =>
   obtain⟨p,u,s,e,hp,hu⟩:=Fl.at l _ a r (by simpa using ha);exact⟨n::p,u,s,by rw[e];rfl,by simp[hp],hu⟩
theorem aT.at{rs t:List Int}(h:aT rs t){a:Nat}(ha:a<t.length):∃p u r,t=p++(u++r)/\p.length=a/\Fl rs 1 u:=Fl.at t 1 a (vN h) ha
def eD(rs t:List Int)(a:Nat):List Int:=(t.take (eJ rs t a).toNat).drop a
theorem aAk{rs p u r:List Int}(h:Fl rs 1 u):eD rs (p++(u++r)) p.length=u:=by
 unfold eD;rw[uA h,show ((p.length:Int)+u.length).toNat=p.length+u.length by omega,←List.append_assoc,List.take_left' (by simp),List.drop_left]
theorem oW{rs t:List Int}(h:aT rs t){a:Nat}(ha:a<t.length):aT rs (eD rs t a):=by
 obtain⟨p,u,r,rfl,rfl,hu⟩:=h.at ha;rw[aAk hu];refine aGZ h.1 hu ?_;have:=h.2.1.2;simp only[zK] at this;omega
theorem gQ{rs t:List Int}(h:aT rs t){a:Nat}(ha:a<t.length):a<eJ rs t a/\eJ rs t a≤t.length:=by
 obtain⟨p,u,r,rfl,rfl,hu⟩:=h.at ha;rw[uA hu];have:=hu.len;simp only[zK];omega
def yG(rs t:List Int):Nat->Nat->List Nat
 | 0,_=>[]
 | k+1,a=>a::yG rs t k (eJ rs t a).toNat
def dN(rs t:List Int)(a:Nat):List Nat:=yG rs t (arS rs (t.getD a default)).toNat (a+1)
theorem fE(rs t:List Int):∀k a,(yG rs t k a).length=k
 | 0,_=>rfl
 | k+1,a=>by simp[yG,fE rs t k]
theorem aPe{rs:List Int}:∀(k:Nat) (p l r:List Int),Fl rs k l->∀x∈yG rs (p++(l++r)) k p.length,p.length≤x/\x<(p++l).length
 | 0,_,_,_,_,x,hx=>by cases hx
 | k+1,p,l,r,h,x,hx=>by
  obtain⟨l1,l2,rfl,h1,h2⟩:=Fl.split l 1 k (by rw[Nat.add_comm];exact h);have hl:=h1.len;simp only[yG,zO] at hx;rcases hx with rfl|hx
  ·simp only[zK];omega
  ·rw[List.append_assoc,uA h1,show ((p.length:Int)+l1.length).toNat=(p++l1).length by simp;omega,←List.append_assoc p l1 (l2++r)] at hx;have:=aPe k (p++l1) l2 r h2 x hx;simp only[zK] at this ⊢;omega
def d8(rs t:List Int)(a:Nat):Nat->Nat
 | 0=>a
 | j+1=>(eJ rs t (d8 rs t a j)).toNat
theorem xT(rs t:List Int)(a:Nat):∀j,d8 rs t a (j+1)=d8 rs t (eJ rs t a).toNat j
 | 0=>rfl
 | j+1=>by
  show (eJ rs t (d8 rs t a (j+1))).toNat=_;rw[xT rs t a j];rfl
theorem aBo(rs t:List Int):∀(k a:Nat),yG rs t (k+1) a=yG rs t k a++[d8 rs t a k]
 | 0,a=>rfl
 | k+1,a=>by
  show a::yG rs t (k+1) (eJ rs t a).toNat=_;rw[aBo rs t k,xT];rfl
theorem aBa(rs t:List Int):∀(k a j:Nat),j<k->(yG rs t k a).getD j default=d8 rs t a j
 | 0,_,_,h=>absurd h (Nat.not_lt_zero _)
 | k+1,a,0,_=>rfl
 | k+1,a,j+1,h=>by
  rw[xT,←aBa rs t k _ j (by omega)];rfl
theorem Fl.cut{rs:List Int}(p r:List Int):∀(j:Nat) (k:Nat) (l:List Int),Fl rs k l->j≤k->∃l1 l2,l=l1++l2/\Fl rs j l1/\Fl rs (k-j) l2/\d8 rs (p++(l++r)) p.length j=(p++l1).length
 | 0,k,l,h,_=>⟨[],l,rfl,.nil,by simpa using h,by simp[d8]⟩
 | j+1,k,l,h,hj=>by
  obtain⟨l1,l2,rfl,h1,h2,h3⟩:=Fl.cut p r j k l h (by omega);obtain⟨m1,m2,rfl,h4,h5⟩:=Fl.split l2 1 (k-(j+1)) (by rw[show 1+(k-(j+1))=k-j by omega];exact h2);refine⟨l1++m1,m2,by simp,h1.app h4,h5,?_⟩;have e:p++(l1++(m1++m2)++r)=(p++l1)++(m1++(m2++r)):=by simp
  show (eJ rs _ (d8 rs _ _ j)).toNat=_;rw[h3,e,uA h4];simp only[zK];omega
theorem aL3{rs t:List Int}(h:aT rs t){a:Nat}(ha:a<t.length):∃p l r,t=p++(t.getD a default::l++r)/\p.length=a/\0≤arS rs (t.getD a default)/\Fl rs (arS rs (t.getD a default)).toNat l:=by
 obtain⟨p,u,r,e,rfl,hu⟩:=h.at ha;cases hu with
 | @cons n k l h0 hr =>
  have hn:t.getD p.length default=n:=by rw[e];simp[List.getD]
  rw[hn];exact⟨p,l,r,by rw[e],rfl,h0,by rw[Nat.zero_add] at hr;exact hr⟩
theorem aDW{rs t:List Int}(h:aT rs t){a:Nat}(ha:a<t.length):∀x∈dN rs t a,a<x/\x<t.length:=by
 obtain⟨p,l,r,e,rfl,h0,hl⟩:=aL3 h ha;intro x hx;unfold dN at hx;have e2:t=(p++[t.getD p.length default])++(l++r):=by simpa using e
 have hlen:(p++[t.getD p.length default]).length=p.length+1:=by simp
 have:=aPe _ (p++[t.getD p.length default]) l r hl x (by rw[←e2,hlen];exact hx);have h3:=congrArg List.length e2;simp only[zK,List.length_cons,List.length_nil] at this h3;omega
theorem oU{rs t:List Int}(h:aT rs t){a:Nat}(ha:a<t.length){j:Nat}(hj:j<(arS rs (t.getD a default)).toNat):a<d8 rs t (a+1) j/\d8 rs t (a+1) j<t.length:=by
 rw[←aBa rs t _ (a+1) j hj];exact aDW h ha _ (aX _ _ (by unfold dN;rw[fE];exact hj))
theorem aDD{rs t:List Int}(h:aT rs t){a:Nat}(ha:a<t.length):∀ {j:Nat},j≤(arS rs (t.getD a default)).toNat->a<d8 rs t (a+1) j/\d8 rs t (a+1) j≤t.length
 | 0,_=>by simp only[d8];omega
 | j+1,hj=>by
  obtain⟨h1,h2⟩:=oU h ha (show j<_ by omega);have:=gQ h h2;simp only[d8];omega
end
section
attribute [local irreducible] SW bA bC dM bZ FC dX
def aPz:List (Nat×List Nat):=[(0,[0,1]),(1,[0,1,7,8]),(2,[0,1,7,8,9]),(3,[0,1,5,7,8]),(4,[0,1,5,7,8,16]),(5,[4]),(6,[0,1,7,8]),(7,[4])]
attribute [go_sem] aPz Tryz.results154 Tryz.ntmps154
theorem aBD(tk:Tk)(xs:List (RuleT))(p:RuleT->Prop)(f:Nat)(cap:List D)(ro:List (Nat×List D))(hro:∀p∈ro,Lg.look ro p.1=some p.2)(hf:∀x∈xs,FC S f ro [] [] ([fO x]++cap) (.bool (tst (p x))) [] []):FC S 154 ro [] [] [.sl tk (xs.map fO),.fn f cap] (.int .i64 (aJU p xs)) [] []:=by
 refine fcb Tryz.func154 λB=>?_;refine bM 0 λhb0=>?_;repeat' first|apply aG|refine aE 0 aPz λK hK=>?_|refine aB ?_|(refine hK.n0 ?_;clear hK K)|apply tTT
 refine aV (ι:=Nat) (λi=>[(8,.int .i64 i)]) (λ_=>[]) (λi=>i≤xs.length/\(∀j<i,¬p (xs.getD j default))) (λi=>xs.length-i) 0 (by(refine aD rfl rfl ?_ ?_ ?_ ?_<;>simp(disch:=apply aR;omega)only[go_sem]<;>(try omega));exact aFc hro) ⟨by omega,?_⟩ (λi ⟨hi,hj⟩=>?_);rotate_left
 simp only[go_sem];repeat' first|exact h.elim|apply aG|refine aE 0 aPz λK hK=>?_|refine aB ?_|refine aC ?_|(refine hK.n0 ?_;clear hK K)|refine aA rfl (λh=>?_) λh=>?_|refine aJ rfl ?_|with_reducible refine aH ?_|apply tTT
 ·refine hK.call rfl rfl rfl (hf (xs.getD i default) (aX _ _ (by omega))) ⟨hro,rfl,rfl,(by simp only[fG,Nat.reduceLT])⟩ ?_;repeat' first|exact h.elim|apply aG|refine aE 0 aPz λK hK=>?_|refine aB ?_|refine aC ?_|(refine hK.n0 ?_;clear hK K)|refine aA rfl (λh=>?_) λh=>?_|apply aF|apply tTT
  ·exact(aPW hj (by omega) h).symm
  ·exact⟨i+1,(by(refine aD rfl rfl ?_ ?_ ?_ ?_<;>simp(disch:=apply aR;omega)only[go_sem]<;>(try omega));exact aFc hro),⟨by omega,bJ hj h⟩,by omega⟩
 ·exact(aGs λj hj'=>hj j (by omega)).symm
 ·intro j hj';omega
def aX7:List (Nat×List Nat):=[(0,[0,1]),(1,[4])]
attribute [go_sem] aX7 Tryz.results141 Tryz.ntmps141
theorem xB(tk:Tk)(xs:List (RuleT))(p:RuleT->Prop)(f:Nat)(cap:List D)(ro:List (Nat×List D))(hro:∀p∈ro,Lg.look ro p.1=some p.2)(hf:∀x∈xs,FC S f ro [] [] ([fO x]++cap) (.bool (tst (p x))) [] []):FC S 141 ro [] [] [.sl tk (xs.map fO),.fn f cap] (.bool (tst (∃x∈xs,p x))) [] []:=by
 refine fcb Tryz.func141 λB=>?_;repeat' first|apply aG|refine aE 0 aX7 λK hK=>?_|refine aB ?_|(refine hK.n0 ?_;clear hK K)|apply tTT
 refine hK.call rfl rfl rfl (aBD _ _ p _ _ ro hro hf) ⟨hro,rfl,rfl,(by simp only[fG,Nat.reduceLT])⟩ ?_;repeat' first|refine aB ?_|refine aC ?_|(refine hK.n0 ?_;clear hK K)|apply tTT
 exact aPy
def aPG:List (Nat×List Nat):=[(0,[0,1]),(1,[0,1,10]),(2,[4]),(3,[0,1,12,13]),(4,[0,1,12,13,14]),(5,[0,1,5,12,13]),(6,[0,1,12,13,24]),(7,[4]),(8,[0,1,12,13]),(9,[4])]
attribute [go_sem] aPG Tryz.results106 Tryz.ntmps106
theorem xI(tk tk':Tk)(xs ys:List (Int)):FC S 106 [] [] [] [.sl tk (xs.map (.int .i64)),.sl tk' (ys.map (.int .i64))] (.bool (tst (xs=ys))) [] []:=by
 refine fcb Tryz.func106 λB=>?_;refine bM 0 λhb0=>?_;refine bM 1 λhb1=>?_;repeat' first|exact h.elim|apply aG|refine aE 0 aPG λK hK=>?_|refine aB ?_|refine aC ?_|(refine hK.n0 ?_;clear hK K)|refine aA rfl (λh=>?_) λh=>?_|apply tTT
 ·intro e;exact h (by rw[e])
 refine aV (ι:=Nat) (λi=>[(13,.int .i64 i)]) (λ_=>[]) (λi=>i≤xs.length/\(∀j<i,xs.getD j default=ys.getD j default)) (λi=>xs.length-i) 0 cvA ⟨by omega,?_⟩ (λi ⟨hi,hj⟩=>?_);rotate_left
 simp only[go_sem];repeat' first|exact h.elim|apply aG|refine aE 0 aPG λK hK=>?_|refine aU aPG (by kernel_rfl) λK hK=>?_|refine aB ?_|refine aQ ?_|refine aC ?_|(refine hK.n0 ?_;clear hK K)|refine aA rfl (λh=>?_) λh=>?_|refine aJ rfl ?_|apply aF|with_reducible refine aH ?_|apply tTT
 ·intro e;exact h (by rw[e])
 ·exact⟨i+1,by(refine aD rfl rfl ?_ ?_ ?_ ?_<;>simp(disch:=apply aR;omega)only[go_sem]<;>(try omega)),⟨by omega,bJ hj (by assumption)⟩,by omega⟩
 ·exact p5 (by assumption) λj hj'=>hj j (by omega)
 ·intro j hj';omega
end
section
attribute [local irreducible] SW bA bC dM bZ FC
def eX:List Int->Int->List Int
 | [],n=>[n]
 | x::r,n=>if x<n then x::eX r n else if x=n then x::r else n::x::r
theorem mE(m:Int):∀(xs:List Int) (n:Int),m∈eX xs n↔m∈xs∨m=n
 | [],n=>by simp[eX]
 | x::r,n=>by
  simp only[eX];split
  ·simp only[zO,mE m r n,or_assoc]
  ·split
   ·rename_i h;subst h;simp only[zO];exact⟨.inl,λh=>h.elim id .inl⟩
   ·simp only[zO];exact⟨λh=>h.elim .inr .inl,λh=>h.elim .inr .inl⟩
theorem aL0(n:Int):∀(xs:List Int) (k:Nat),k≤xs.length->(∀j<k,xs.getD j default<n)->eX xs n=xs.take k++eX (xs.drop k) n
 | xs,0,_,_=>by simp
 | x::r,k+1,hk,h=>by
  have h0:=h 0 (by omega);simp only[List.getD_cons_zero] at h0;rw[eX,if_pos h0,aL0 n r k (by simpa using hk) (λj hj=>by simpa using h (j+1) (by omega))];simp
 | [],k+1,hk,_=>by simp at hk
theorem aSB{α:Type} [Inhabited α] {xs:List α}{k:Nat}(h:k<xs.length):xs.drop k=xs.getD k default::xs.drop (k+1):=by
 rw[List.drop_eq_getElem_cons h];simp[List.getD,zB h]
def aYZ:List (Nat×List Nat):=[(0,[0,1]),(1,[0,1,5]),(2,[0,1,5,9]),(4,[0,1,5,17]),(5,[4]),(3,[0,1,5]),(6,[4])]
attribute [go_sem] aYZ Tryz.results47 Tryz.ntmps47
theorem iI(tk:Tk)(xs:List Int)(n:Int):FC S 47 [] [] [] [.sl tk (xs.map (.int .i64)),.int .i64 n] (.bool (tst (n∈xs))) [] []:=by
 refine fcb Tryz.func47 λB=>?_;refine bM 0 λhb0=>?_;repeat' first|apply aG|refine aE 0 aYZ λK hK=>?_|refine aB ?_|(refine hK.n0 ?_;clear hK K)|apply tTT
 refine aV (ι:=Nat) (λi=>[(5,.int .i64 i)]) (λ_=>[]) (λi=>i≤xs.length/\(∀j<i,¬xs.getD j default=n)) (λi=>xs.length-i) 0 cvA ⟨by omega,?_⟩ (λi ⟨hi,hj⟩=>?_);rotate_left
 simp only[go_sem];repeat' first|exact h.elim|apply aG|refine aE 0 aYZ λK hK=>?_|refine aB ?_|refine aC ?_|(refine hK.n0 ?_;clear hK K)|refine aA rfl (λh=>?_) λh=>?_|refine aJ rfl ?_|apply aF|with_reducible refine aH ?_|apply tTT
 ·rw[←h];exact aX _ _ (by omega)
 ·exact⟨i+1,by(refine aD rfl rfl ?_ ?_ ?_ ?_<;>simp(disch:=apply aR;omega)only[go_sem]<;>(try omega)),⟨by omega,bJ hj h⟩,by omega⟩
 ·intro hm;exact(uH (P:=λx=>¬x=n)).1 (λj hj'=>hj j (by omega)) n hm rfl
 ·intro j hj';omega
def aTY:List (Nat×List Nat):=[(0,[0,1]),(1,[0,1,7,8]),(2,[0,1,7,8,9]),(3,[0,1,5,7,8]),(4,[0,1,5,7,8,16]),(5,[4]),(6,[0,1,7,8]),(7,[4])]
attribute [go_sem] aTY Tryz.results102 Tryz.ntmps102
theorem aUv(tk:Tk)(xs:List Int)(n:Int):FC S 102 [] [] [] [.sl tk (xs.map (.int .i64)),.int .i64 n] (.int .i64 (aJU (λx=>x=n) xs)) [] []:=by
 refine fcb Tryz.func102 λB=>?_;refine bM 0 λhb0=>?_;repeat' first|apply aG|refine aE 0 aTY λK hK=>?_|refine aB ?_|(refine hK.n0 ?_;clear hK K)|apply tTT
 refine aV (ι:=Nat) (λi=>[(8,.int .i64 i)]) (λ_=>[]) (λi=>i≤xs.length/\(∀j<i,¬xs.getD j default=n)) (λi=>xs.length-i) 0 cvA ⟨by omega,?_⟩ (λi ⟨hi,hj⟩=>?_);rotate_left
 simp only[go_sem];repeat' first|exact h.elim|apply aG|refine aE 0 aTY λK hK=>?_|refine aB ?_|refine aC ?_|(refine hK.n0 ?_;clear hK K)|refine aA rfl (λh=>?_) λh=>?_|refine aJ rfl ?_|apply aF|with_reducible refine aH ?_|apply tTT
 ·exact(aPW (p:=λx=>x=n) hj (by omega) h.symm).symm
 ·exact⟨i+1,by(refine aD rfl rfl ?_ ?_ ?_ ?_<;>simp(disch:=apply aR;omega)only[go_sem]<;>(try omega)),⟨by omega,bJ hj λe=>h e.symm⟩,by omega⟩
 ·exact(aGs (p:=λx=>x=n) λj hj'=>hj j (by omega)).symm
 ·intro j hj';omega
def bAl:List (Nat×List Nat):=[(0,[0,1]),(1,[4])]
attribute [go_sem] bAl Tryz.results58 Tryz.ntmps58
theorem tJ(tk:Tk)(xs:List Int)(n:Int):FC S 58 [] [] [] [.sl tk (xs.map (.int .i64)),.int .i64 n] (.bool (tst (n∈xs))) [] []:=by
 refine fcb Tryz.func58 λB=>?_;repeat' first|apply aG|refine aE 0 bAl λK hK=>?_|refine aB ?_|refine aC ?_|(refine hK.n0 ?_;clear hK K)|refine hK.c1 rfl rfl rfl (aUv _ _ _) ?_|apply tTT
 rw[aPy (p:=λx=>x=n)];exact⟨λ⟨x,hx,e⟩=>e ▸ hx,λh=>⟨n,h,rfl⟩⟩
def aZy:List (Nat×List Nat):=[(0,[0]),(1,[2])]
attribute [go_sem] aZy Tryz.results76 Tryz.ntmps76
theorem aGO(tk:Tk)(xs:List Int)(hl:xs.length≤17592186044416):FC S 76 [] [] [] [.sl tk (xs.map (.int .i64))] (.sl (.own 0 2 1) (xs.map (.int .i64))) [] [0]:=by
 refine FC.args (args':=[.sl .any (xs.map (.int .i64))]) ?_ (by simp only[go_sem]);refine aQz Tryz.func76 λB=>?_;refine bM 0 λhb0=>?_;repeat' first|apply aG|refine aE 0 aZy λK hK=>?_|refine aB ?_|refine gL ?_|(refine hK.n0 ?_;clear hK K)|with_reducible refine aH ?_|apply tTT
 exact n7 rfl (by simp)
def aYY:List (Nat×List Nat):=[(0,[0,1]),(1,[0,1,5]),(2,[0,1,5,18]),(3,[0,1,5]),(4,[0,1,5,32]),(5,[4]),(6,[0,5,6]),(7,[4])]
attribute [go_sem] aYY Tryz.results82 Tryz.ntmps82
theorem pQ(tk:Tk)(xs:List Int)(n:Int)(hl:xs.length≤1099511627776):FC S 82 [] [] [] [.sl tk (xs.map (.int .i64)),.int .i64 n] (.sl .any ((eX xs n).map (.int .i64))) [] []:=by
 refine FC.args (args':=[.sl .any (xs.map (.int .i64)),.int .i64 n]) ?_ (by simp only[go_sem]);refine fcb Tryz.func82 λB=>?_;refine bM 0 λhb0=>?_;repeat' first|apply aG|refine aE 0 aYY λK hK=>?_|refine aB ?_|(refine hK.n0 ?_;clear hK K)|apply tTT
 refine aV (ι:=Nat) (λi=>[(5,.int .i64 i)]) (λ_=>[]) (λi=>i≤xs.length/\(∀j<i,xs.getD j default<n)) (λi=>xs.length-i) 0 cvA ⟨by omega,?_⟩ (λi ⟨hi,hj⟩=>?_);rotate_left
 simp only[go_sem];have key:=aL0 n xs i hi hj;have hd:i<xs.length->xs.drop i=_:=aSB;have hlt:(xs.take i).length≤1099511627776:=by simp;omega
 repeat' first|exact h.elim|apply aG|refine aE 0 aYY λK hK=>?_|refine aB ?_|refine aC ?_|(refine hK.n0 ?_;clear hK K)|refine aZ (λh=>?_) λh=>?_|refine aA rfl (λh=>?_) λh=>?_|refine aJ rfl ?_|apply aF|refine hK.cB rfl rfl rfl (aGO .any (xs.take i) (by omega)) ?_|with_reducible refine aH ?_|((with_reducible refine And.intro ?_ ?_);· first|(intro x hx;subst hx;rfl)|(intro x;refine And.intro ?_ ?_<;>(intros;subst_vars;rfl)))|apply tTT
 ·exact⟨i+1,by(refine aD rfl rfl ?_ ?_ ?_ ?_<;>simp(disch:=apply aR;omega)only[go_sem]<;>(try omega)),⟨by omega,bJ hj h⟩,by omega⟩
 all_goals first
  | (intro j hj';omega)
  | (rw[key,hd (by omega),eX,if_neg (by omega),if_pos (by assumption),←hd (by omega),List.take_append_drop])
  | (rw[key,hd (by omega),eX,if_neg (by omega),if_neg (by assumption),List.append_assoc];rfl)
  | (rw[key,show xs.drop i=[] from List.drop_of_length_le (by omega),eX,List.append_nil])
end
section
attribute [local irreducible] SW bA bC dM bZ FC aK
end
end Go.Proofs.YtmfmgoceeedonaaGreat
