/-
  Ty, HFnExactEndsByPairs, A01, A03t, Sl, one behind the other.
-/
import Derived.Test.YtpennhjjnlkbiaaGreatSet
import Derived.Test.YtpennhjjnlkbiaaGreatLgK4
import Derived.Test.YtpennhjjnlkbiaaGreatLgK5
namespace Go.Proofs.YtpennhjjnlkbiaaGreat
open Go Go.Lg
set_option linter.unusedSimpArgs false
set_option linter.unusedVariables false
set_option maxHeartbeats 4000000
section
def b6(x:List Int):D:=.sl .any (x.map (.int .i64))
attribute [go_sem] b6
theorem ints_set(ys:List (List Int))(i:Nat)(u:List Int):(ys.map b6).set i (.sl .any (u.map (.int .i64)))=(ys.set i u).map b6:=by rw[List.map_set];rfl
attribute [go_sem] ints_set
def kT(xs:List Int):Nat:=xs.length
def aPb(x:List Int):D:=.agg [.sl .any (x.map (.int .i64))]
attribute [go_sem] aPb
def aDn(x:List Int):Nat:=kT x
structure RuleT where
 l:List Int
 r:List Int
 deriving Inhabited
def fT(x:RuleT):D:=.agg [.sl .any (x.l.map (.int .i64)),.sl .any (x.r.map (.int .i64))]
attribute [go_sem] fT
def iZ(x:RuleT):Nat:=kT x.l+kT x.r
def lG(xs:List RuleT):Nat:=xs.length+(xs.map iZ).sum
structure SystemT where
 sig:List Int
 rules:List RuleT
 deriving Inhabited
def bP(x:SystemT):D:=.agg [.sl .any (x.sig.map (.int .i64)),.sl .any (x.rules.map fT)]
attribute [go_sem] bP
def tT(x:SystemT):Nat:=aDn x.sig+lG x.rules
structure PolyT where
 const:Int
 coef:List Int
 deriving Inhabited
def bS(x:PolyT):D:=.agg [.int .i64 x.const,.sl .any (x.coef.map (.int .i64))]
attribute [go_sem] bS
structure DepPairT where
 l:List Int
 r:List Int
 rule:Int
 at_:Int
 deriving Inhabited
def bK(x:DepPairT):D:=.agg [.sl .any (x.l.map (.int .i64)),.sl .any (x.r.map (.int .i64)),.int .i64 x.rule,.int .i64 x.at_]
attribute [go_sem] bK
structure PairStepT where
 part:List Int
 proj:List Int
 polys:List PolyT
 gone:List Int
 deriving Inhabited
def iC(x:PairStepT):D:=.agg [.sl .any (x.part.map (.int .i64)),.sl .any (x.proj.map (.int .i64)),.sl .any (x.polys.map bS),.sl .any (x.gone.map (.int .i64))]
attribute [go_sem] iC
theorem bF{b:Int}{n:Nat}(h:-1≤b/\b≤1048576):-1≤szd b n/\szd b n≤1048576:=by unfold szd;split<;>omega
end
section
attribute [local irreducible] SW bC bE dE bU FC Ret dO
def aVH:List (Nat×List Nat):=[(0,[0,1]),(1,[0,1,10]),(2,[4]),(3,[0,1,5]),(4,[0,1,5,14]),(6,[0,1,5,25]),(7,[4]),(5,[0,1,5]),(8,[4])]
attribute [go_sem] aVH
theorem aAW(tk tk':Tk)(xs ys:List Int):FC S 13 [] [] [] [.sl tk (xs.map (.int .i64)),.sl tk' (ys.map (.int .i64))] (.bool (tst (xs=ys))) [] []:=by
 refine aP Tryz.func13 rfl (by kernel_rfl) (by simp[Tryz.f13]) λB=>?_
 simp only[Tryz.ntmps13,aS,aZ,Nat.reduceAdd]
 refine bZ 0 rfl λhb0=>?_
 simp only[D.bnd,zC] at hb0
 refine bZ 1 rfl λhb1=>?_
 simp only[D.bnd,zC] at hb1
 repeat' first|apply aE|apply aG|apply aJ|refine aI 0 aVH λK hK=>?_|((first|apply aD|apply aK|refine aA (aO ?_)|apply aA);simp(disch:=apply aB;omega)only[go_sem,Tryz.results13])|(apply hK.nil;clear hK K;simp only[go_sem])|((first|refine aF rfl ?_ ?_)<;>intro h<;>try simp(disch:=apply aB;omega)only[go_sem] at h)|fail
 ·intro e;exact h (by rw[e])
 refine bB (ι:=Nat) (λi=>[(5,.int .i64 i)]) (λ_=>[]) (λi=>i≤xs.length/\(∀j<i,xs.getD j default=ys.getD j default)) (λi=>xs.length-i) 0 (by(refine aC rfl rfl ?_ ?_ ?_ ?_<;>simp(disch:=apply aB;omega)only[go_sem]<;>(try omega))) ⟨by omega,?_⟩ (λi ⟨hi,hj⟩=>?_)
 rotate_left
 simp only[go_sem]
 repeat' first|apply aE|apply aG|apply aM|apply aJ|refine aI 0 aVH λK hK=>?_|refine aY aVH (by kernel_rfl) λK hK=>?_|((first|apply aD|apply aK|refine aA (aO ?_)|apply aA);simp(disch:=apply aB;omega)only[go_sem,Tryz.results13])|(apply hK.nil;clear hK K;simp only[go_sem])|((first|refine aF rfl ?_ ?_)<;>intro h<;>try simp(disch:=apply aB;omega)only[go_sem] at h)|refine aT rfl ?_|apply aL|(with_reducible refine And.intro (by first|omega|(simp only[lens];omega)) ?_)|fail
 ·intro e;exact h (by rw[e])
 ·exact⟨i+1,by(refine aC rfl rfl ?_ ?_ ?_ ?_<;>simp(disch:=apply aB;omega)only[go_sem]<;>(try omega)),⟨by omega,bJ hj (by assumption)⟩,by omega⟩
 ·exact xP (by assumption) λj hj'=>hj j (by omega)
 ·intro j hj';omega
def aYM:List (Nat×List Nat):=[(0,[2,3]),(1,[2,3,10]),(2,[4]),(3,[16]),(4,[4]),(5,[4])]
attribute [go_sem] aYM
theorem aPk(x y:RuleT):FC S 81 [] [] [] [fT x,fT y] (.bool (tst (x=y))) [] []:=by
 refine aP Tryz.func81 rfl (by kernel_rfl) (by simp[Tryz.f81]) λB=>?_
 simp only[Tryz.ntmps81,aS,aZ,Nat.reduceAdd]
 repeat' first|apply aE|apply aJ|refine aI 0 aYM λK hK=>?_|((first|apply aD|refine aA (aO ?_)|apply aA);simp(disch:=apply aB;omega)only[go_sem,Tryz.results81])|(apply hK.nil;clear hK K;simp only[go_sem])|((first|refine aF rfl ?_ ?_)<;>intro h<;>try simp(disch:=apply aB;omega)only[go_sem] at h)|refine hK.c0 rfl rfl rfl (aAW _ _ _ _) rfl rfl rfl ?_|fail
 all_goals first|assumption|(intro e;subst e;contradiction)|(cases x;cases y;simp_all)
def aXM:List (Nat×List Nat):=[(0,[2,3]),(1,[10]),(2,[4]),(3,[4])]
attribute [go_sem] aXM
theorem aRY(x y:List Int):FC S 42 [] [] [] [aPb x,aPb y] (.bool (tst (x=y))) [] []:=by
 refine aP Tryz.func42 rfl (by kernel_rfl) (by simp[Tryz.f42]) λB=>?_
 simp only[Tryz.ntmps42,aS,aZ,Nat.reduceAdd]
 repeat' first|apply aE|apply aJ|refine aI 0 aXM λK hK=>?_|((first|apply aD|refine aA (aO ?_)|apply aA);simp(disch:=apply aB;omega)only[go_sem,Tryz.results42])|(apply hK.nil;clear hK K;simp only[go_sem])|((first|refine aF rfl ?_ ?_)<;>intro h<;>try simp(disch:=apply aB;omega)only[go_sem] at h)|refine hK.c0 rfl rfl rfl (aAW _ _ _ _) rfl rfl rfl ?_|fail
 all_goals first|assumption|(intro e;subst e;contradiction)|(cases x;cases y;simp_all)
def aUW:List (Nat×List Nat):=[(0,[0,1]),(1,[0,1,10]),(2,[4]),(3,[0,1,5]),(4,[0,1,5,14]),(6,[0,1,5,26]),(7,[4]),(5,[0,1,5]),(8,[4])]
attribute [go_sem] aUW
theorem aL9(tk tk':Tk)(xs ys:List RuleT):FC S 43 [] [] [] [.sl tk (xs.map fT),.sl tk' (ys.map fT)] (.bool (tst (xs=ys))) [] []:=by
 refine aP Tryz.func43 rfl (by kernel_rfl) (by simp[Tryz.f43]) λB=>?_
 simp only[Tryz.ntmps43,aS,aZ,Nat.reduceAdd]
 refine bZ 0 rfl λhb0=>?_
 simp only[D.bnd,zC] at hb0
 refine bZ 1 rfl λhb1=>?_
 simp only[D.bnd,zC] at hb1
 repeat' first|apply aE|apply aG|apply aJ|refine aI 0 aUW λK hK=>?_|((first|apply aD|apply aK|refine aA (aO ?_)|apply aA);simp(disch:=apply aB;omega)only[go_sem,Tryz.results43])|(apply hK.nil;clear hK K;simp only[go_sem])|((first|refine aF rfl ?_ ?_)<;>intro h<;>try simp(disch:=apply aB;omega)only[go_sem] at h)|fail
 ·intro e;exact h (by rw[e])
 refine bB (ι:=Nat) (λi=>[(5,.int .i64 i)]) (λ_=>[]) (λi=>i≤xs.length/\(∀j<i,xs.getD j default=ys.getD j default)) (λi=>xs.length-i) 0 (by(refine aC rfl rfl ?_ ?_ ?_ ?_<;>simp(disch:=apply aB;omega)only[go_sem]<;>(try omega))) ⟨by omega,?_⟩ (λi ⟨hi,hj⟩=>?_)
 rotate_left
 simp only[go_sem]
 repeat' first|apply aE|apply aG|apply aM|apply aJ|refine aI 0 aUW λK hK=>?_|refine aY aUW (by kernel_rfl) λK hK=>?_|((first|apply aD|apply aK|refine aA (aO ?_)|apply aA);simp(disch:=apply aB;omega)only[go_sem,Tryz.results43])|(apply hK.nil;clear hK K;simp only[go_sem])|((first|refine aF rfl ?_ ?_)<;>intro h<;>try simp(disch:=apply aB;omega)only[go_sem] at h)|refine aT rfl ?_|apply aL|refine hK.c0 rfl rfl rfl (aPk _ _) rfl rfl rfl ?_|(with_reducible refine And.intro (by first|omega|(simp only[lens];omega)) ?_)|fail
 ·intro e;exact h (by rw[e])
 ·exact⟨i+1,by(refine aC rfl rfl ?_ ?_ ?_ ?_<;>simp(disch:=apply aB;omega)only[go_sem]<;>(try omega)),⟨by omega,bJ hj (by assumption)⟩,by omega⟩
 ·exact xP (by assumption) λj hj'=>hj j (by omega)
 ·intro j hj';omega
def aXS:List (Nat×List Nat):=[(0,[2,3]),(1,[2,3,10]),(2,[4]),(3,[16]),(4,[4]),(5,[4])]
attribute [go_sem] aXS
theorem aJz(x y:SystemT):FC S 12 [] [] [] [bP x,bP y] (.bool (tst (x=y))) [] []:=by
 refine aP Tryz.func12 rfl (by kernel_rfl) (by simp[Tryz.f12]) λB=>?_
 simp only[Tryz.ntmps12,aS,aZ,Nat.reduceAdd]
 repeat' first|apply aE|apply aJ|refine aI 0 aXS λK hK=>?_|((first|apply aD|refine aA (aO ?_)|apply aA);simp(disch:=apply aB;omega)only[go_sem,Tryz.results12])|(apply hK.nil;clear hK K;simp only[go_sem])|((first|refine aF rfl ?_ ?_)<;>intro h<;>try simp(disch:=apply aB;omega)only[go_sem] at h)|refine hK.c0 rfl rfl rfl (aRY _ _) rfl rfl rfl ?_|refine hK.c0 rfl rfl rfl (aL9 _ _ _ _) rfl rfl rfl ?_|fail
 all_goals first|assumption|(intro e;subst e;contradiction)|(cases x;cases y;simp_all)
def aXZ:List (Nat×List Nat):=[(0,[0,1]),(1,[1]),(2,[1,10]),(3,[4]),(4,[4])]
attribute [go_sem] aXZ
theorem aA0(tk:Tk)(xs:List Int)(b:Int)(hb:-1≤b/\b≤1048576):FC S 60 [] [] [] [.sl tk (xs.map (.int .i64)),.int .i64 b] (.int .i64 (szd b (kT xs))) [] []:=by
 refine aP Tryz.func60 rfl (by kernel_rfl) (by simp[Tryz.f60]) λB=>?_
 simp only[Tryz.ntmps60,aS,aZ,Nat.reduceAdd]
 refine bZ 0 rfl λhb0=>?_
 simp only[D.bnd,zC] at hb0
 repeat' first|apply aE|apply aJ|refine aI 0 aXZ λK hK=>?_|((first|apply aD|refine aA (aO ?_)|apply aA);simp(disch:=apply aB;omega)only[go_sem,Tryz.results60])|(apply hK.nil;clear hK K;simp only[go_sem])|((first|refine aF rfl ?_ ?_)<;>intro h<;>try simp(disch:=apply aB;omega)only[go_sem] at h)|fail
 all_goals (simp only[szd,kT] at *;grind)
def aXO:List (Nat×List Nat):=[(0,[1,2]),(1,[1,2]),(2,[1,2,10]),(3,[4]),(4,[1]),(5,[1,16]),(6,[4]),(7,[4])]
attribute [go_sem] aXO
theorem aPf(x:RuleT)(b:Int)(hb:-1≤b/\b≤1048576):FC S 61 [] [] [] [fT x,.int .i64 b] (.int .i64 (szd b (iZ x))) [] []:=by
 refine aP Tryz.func61 rfl (by kernel_rfl) (by simp[Tryz.f61]) λB=>?_
 simp only[Tryz.ntmps61,aS,aZ,Nat.reduceAdd]
 repeat' first|apply aE|apply aJ|refine aI 0 aXO λK hK=>?_|((first|apply aD|refine aA (aO ?_)|apply aA);simp(disch:=apply aB;omega)only[go_sem,Tryz.results61])|(apply hK.nil;clear hK K;simp only[go_sem])|((first|refine aF rfl ?_ ?_)<;>intro h<;>try simp(disch:=apply aB;omega)only[go_sem] at h)|refine hK.c0 rfl rfl rfl (aA0 _ _ _ (by(first|exact hb|exact bF hb|exact bF (bF hb)|exact bF (bF (bF hb))|exact bF (bF (bF (bF hb)))|exact bF (bF (bF (bF (bF hb))))|omega))) rfl rfl rfl ?_|fail
 all_goals (simp only[szd,iZ] at *;grind)
def aY4:List (Nat×List Nat):=[(0,[1,2]),(1,[1]),(2,[1,10]),(3,[4]),(4,[4])]
attribute [go_sem] aY4
theorem aTU(x:List Int)(b:Int)(hb:-1≤b/\b≤1048576):FC S 25 [] [] [] [aPb x,.int .i64 b] (.int .i64 (szd b (aDn x))) [] []:=by
 refine aP Tryz.func25 rfl (by kernel_rfl) (by simp[Tryz.f25]) λB=>?_
 simp only[Tryz.ntmps25,aS,aZ,Nat.reduceAdd]
 repeat' first|apply aE|apply aJ|refine aI 0 aY4 λK hK=>?_|((first|apply aD|refine aA (aO ?_)|apply aA);simp(disch:=apply aB;omega)only[go_sem,Tryz.results25])|(apply hK.nil;clear hK K;simp only[go_sem])|((first|refine aF rfl ?_ ?_)<;>intro h<;>try simp(disch:=apply aB;omega)only[go_sem] at h)|refine hK.c0 rfl rfl rfl (aA0 _ _ _ (by(first|exact hb|exact bF hb|exact bF (bF hb)|exact bF (bF (bF hb))|exact bF (bF (bF (bF hb)))|exact bF (bF (bF (bF (bF hb))))|omega))) rfl rfl rfl ?_|fail
 all_goals (simp only[szd,aDn] at *;grind)
def aXD:List (Nat×List Nat):=[(0,[0,1]),(1,[0,1]),(2,[0,1,11]),(3,[4]),(4,[0,1,5]),(5,[0,1,5,15]),(7,[0,1,5]),(8,[0,1,5,25]),(9,[4]),(6,[0,1,5]),(10,[4])]
attribute [go_sem] aXD
theorem aMW(tk:Tk)(xs:List RuleT)(b:Int)(hb:-1≤b/\b≤1048576):FC S 26 [] [] [] [.sl tk (xs.map fT),.int .i64 b] (.int .i64 (szd b (lG xs))) [] []:=by
 refine aP Tryz.func26 rfl (by kernel_rfl) (by simp[Tryz.f26]) λB=>?_
 simp only[Tryz.ntmps26,aS,aZ,Nat.reduceAdd]
 refine bZ 0 rfl λhb0=>?_
 simp only[D.bnd,zC] at hb0
 repeat' first|apply aE|apply aG|apply aJ|refine aI 0 aXD λK hK=>?_|((first|apply aD|refine aA (aO ?_)|apply aA);simp(disch:=apply aB;omega)only[go_sem,Tryz.results26])|(apply hK.nil;clear hK K;simp only[go_sem])|((first|refine aF rfl ?_ ?_)<;>intro h<;>try simp(disch:=apply aB;omega)only[go_sem] at h)|fail
 ·simp only[szd,lG];grind
 refine bB (ι:=Nat) (λi=>[(5,.int .i64 i),(1,.int .i64 (b-xs.length-aBS iZ xs i))]) (λ_=>[]) (λi=>i≤xs.length/\(0≤b-xs.length-aBS iZ xs i)) (λi=>xs.length-i) 0 (by(refine aC rfl rfl ?_ ?_ ?_ ?_<;>simp(disch:=apply aB;omega)only[go_sem]<;>(try omega))) ⟨by omega,?_⟩ (λi ⟨hi,hj⟩=>?_)
 rotate_left
 simp only[go_sem]
 repeat' first|apply aE|apply aG|apply aM|apply aJ|refine aI 0 aXD λK hK=>?_|((first|apply aD|refine aA (aO ?_)|apply aA);simp(disch:=apply aB;omega)only[go_sem,Tryz.results26])|(apply hK.nil;clear hK K;simp only[go_sem])|((first|refine aF rfl ?_ ?_)<;>intro h<;>try simp(disch:=apply aB;omega)only[go_sem] at h)|refine aT rfl ?_|apply aL|refine hK.c0 rfl rfl rfl (aPf _ _ (by omega)) rfl rfl rfl ?_|(with_reducible refine And.intro (by first|omega|(simp only[lens];omega)) ?_)|fail
 ·have hs:=aAw iZ xs i (by omega)
  have hl:=aNL iZ xs (i+1)
  simp only[szd,lG] at *;grind
 ·have hs:=aAw iZ xs i (by omega)
  refine⟨i+1,(by(refine aC rfl rfl ?_ ?_ ?_ ?_<;>simp(disch:=apply aB;omega)only[go_sem]<;>(try omega));rw[hs];simp only[szd] at *;grind),⟨by omega,?_⟩,by omega⟩
  simp only[szd] at *;grind
 ·have hs:=aTC iZ xs i (by omega)
  simp only[szd,lG] at *;grind
 ·rw[aEN];omega
def kp6:List (Nat×List Nat):=[(0,[1,2]),(1,[1,2]),(2,[1,2,10]),(3,[4]),(4,[1]),(5,[1,16]),(6,[4]),(7,[4])]
attribute [go_sem] kp6
theorem aKh(x:SystemT)(b:Int)(hb:-1≤b/\b≤1048576):FC S 6 [] [] [] [bP x,.int .i64 b] (.int .i64 (szd b (tT x))) [] []:=by
 refine aP Tryz.func6 rfl (by kernel_rfl) (by simp[Tryz.f6]) λB=>?_
 simp only[Tryz.ntmps6,aS,aZ,Nat.reduceAdd]
 repeat' first|apply aE|apply aJ|refine aI 0 kp6 λK hK=>?_|((first|apply aD|refine aA (aO ?_)|apply aA);simp(disch:=apply aB;omega)only[go_sem,Tryz.results6])|(apply hK.nil;clear hK K;simp only[go_sem])|((first|refine aF rfl ?_ ?_)<;>intro h<;>try simp(disch:=apply aB;omega)only[go_sem] at h)|refine hK.c0 rfl rfl rfl (aTU _ _ (by(first|exact hb|exact bF hb|exact bF (bF hb)|exact bF (bF (bF hb))|exact bF (bF (bF (bF hb)))|exact bF (bF (bF (bF (bF hb))))|omega))) rfl rfl rfl ?_|refine hK.c0 rfl rfl rfl (aMW _ _ _ (by(first|exact hb|exact bF hb|exact bF (bF hb)|exact bF (bF (bF hb))|exact bF (bF (bF (bF hb)))|exact bF (bF (bF (bF (bF hb))))|omega))) rfl rfl rfl ?_|fail
 all_goals (simp only[szd,tT] at *;grind)
def kp9:List (Nat×List Nat):=[(0,[0]),(1,[0,3]),(2,[0,3,4]),(3,[0,3,4,11]),(5,[0,3,4]),(4,[0,3,4]),(6,[2])]
attribute [go_sem] kp9
theorem aA3(tk:Tk)(xs:List Int)(hn:kT xs≤1048576):FC S 9 [] [] [] [.sl tk (xs.map (.int .i64))] (.sl .any (xs.map (.int .i64))) [] []:=by
 have hl:xs.length≤1048576:=hn
 refine aP Tryz.func9 rfl (by kernel_rfl) (by simp[Tryz.f9]) λB=>?_
 simp only[Tryz.ntmps9,aS,aZ,Nat.reduceAdd]
 refine bZ 0 rfl λhb0=>?_
 simp only[D.bnd,zC] at hb0
 repeat' first|apply aE|apply aG|refine aI 0 kp9 λK hK=>?_|((first|apply aD|refine aA (aO ?_)|apply aA);simp(disch:=apply aB;omega)only[go_sem,Tryz.results9])|(apply hK.nil;clear hK K;simp only[go_sem])|(with_reducible refine And.intro (by first|omega|(simp only[lens];omega)) ?_)|fail
 refine bB (ι:=Nat) (λi=>[(4,.int .i64 i)]) (λi=>[(7,j6 (λj=>.int .i64 (xs.getD j default)) (.int .i64 0) i xs.length)]) (λi=>i≤xs.length/\(True)) (λi=>xs.length-i) 0 (by(refine aC rfl rfl ?_ ?_ ?_ ?_<;>simp(disch:=apply aB;omega)only[go_sem]<;>(try omega));exact aI1 _ _ _) ⟨by omega,?_⟩ (λi ⟨hi,hj⟩=>?_)
 rotate_left
 simp only[go_sem]
 repeat' first|(refine jU 6 3 1 .any (xs.map (.int .i64)) rfl rfl (by rw[show i=xs.length by omega];exact(aNj (.int .i64) _ xs).trans (aFf _ _ (λ_=>rfl)).symm) (by rw[zC]) (eZ λ_=>rfl) (aIn (λ_=>rfl) rfl) (.inl rfl) ?_;simp only[go_sem])|apply aE|apply aG|apply aM|apply aJ|refine aI 0 kp9 λK hK=>?_|((first|apply aD|refine aA (aO ?_)|apply aA);simp(disch:=apply aB;omega)only[go_sem,Tryz.results9])|(apply hK.nil;clear hK K;simp only[go_sem])|((first|refine aF rfl ?_ ?_)<;>intro h<;>try simp(disch:=apply aB;omega)only[go_sem] at h)|refine aT rfl ?_|apply aL|(with_reducible refine And.intro (by first|omega|(simp only[lens];omega)) ?_)|fail
 ·exact⟨i+1,(by(refine aC rfl rfl ?_ ?_ ?_ ?_<;>simp(disch:=apply aB;omega)only[go_sem]<;>(try omega));exact aP0 (λj=>.int .i64 (xs.getD j default)) _ _ _),by omega,by omega⟩
 ·trivial
def aYe:List (Nat×List Nat):=[(0,[1,2]),(1,[1,2,3]),(2,[1,2,3]),(3,[2,3]),(4,[2])]
attribute [go_sem] aYe
theorem aO7(x:RuleT)(hn:iZ x≤1048576):FC S 72 [] [] [] [fT x] (fT x) [] []:=by
 have hn':=hn
 simp only[iZ] at hn'
 refine aP Tryz.func72 rfl (by kernel_rfl) (by simp[Tryz.f72]) λB=>?_
 simp only[Tryz.ntmps72,aS,aZ,Nat.reduceAdd]
 repeat' first|apply aE|refine aI 0 aYe λK hK=>?_|((first|apply aD|refine aA (aO ?_)|apply aA);simp(disch:=apply aB;omega)only[go_sem,Tryz.results72])|(apply hK.nil;clear hK K;simp only[go_sem])|refine hK.c0 rfl rfl rfl (aA3 _ _ (by omega)) rfl rfl rfl ?_|fail
 all_goals exact D.le.refl _
def aYN:List (Nat×List Nat):=[(0,[1,2]),(1,[1,2,3]),(2,[2,3]),(3,[2])]
attribute [go_sem] aYN
theorem aR2(x:List Int)(hn:aDn x≤1048576):FC S 36 [] [] [] [aPb x] (aPb x) [] []:=by
 have hn':=hn
 simp only[aDn] at hn'
 refine aP Tryz.func36 rfl (by kernel_rfl) (by simp[Tryz.f36]) λB=>?_
 simp only[Tryz.ntmps36,aS,aZ,Nat.reduceAdd]
 repeat' first|apply aE|refine aI 0 aYN λK hK=>?_|((first|apply aD|refine aA (aO ?_)|apply aA);simp(disch:=apply aB;omega)only[go_sem,Tryz.results36])|(apply hK.nil;clear hK K;simp only[go_sem])|refine hK.c0 rfl rfl rfl (aA3 _ _ (by omega)) rfl rfl rfl ?_|fail
 all_goals exact D.le.refl _
def aWC:List (Nat×List Nat):=[(0,[0]),(1,[0,3]),(2,[0,3,4]),(3,[0,3,4,11]),(5,[0,3,4]),(4,[0,3,4]),(6,[2])]
attribute [go_sem] aWC
theorem aMv(tk:Tk)(xs:List RuleT)(hn:lG xs≤1048576):FC S 37 [] [] [] [.sl tk (xs.map fT)] (.sl .any (xs.map fT)) [] []:=by
 have hl:xs.length≤1048576:=by unfold lG at hn;omega
 have hq:∀i<xs.length,iZ (xs.getD i default)≤1048576:=λi hi=>by
  have:=aSm iZ xs i hi
  unfold lG at hn;omega
 refine aP Tryz.func37 rfl (by kernel_rfl) (by simp[Tryz.f37]) λB=>?_
 simp only[Tryz.ntmps37,aS,aZ,Nat.reduceAdd]
 refine bZ 0 rfl λhb0=>?_
 simp only[D.bnd,zC] at hb0
 repeat' first|apply aE|apply aG|refine aI 0 aWC λK hK=>?_|((first|apply aD|refine aA (aO ?_)|apply aA);simp(disch:=apply aB;omega)only[go_sem,Tryz.results37])|(apply hK.nil;clear hK K;simp only[go_sem])|(with_reducible refine And.intro (by first|omega|(simp only[lens];omega)) ?_)|fail
 refine bB (ι:=Nat) (λi=>[(4,.int .i64 i)]) (λi=>[(7,jY (λj=>[.sl .any (((xs.getD j default)).l.map (.int .i64)),.sl .any (((xs.getD j default)).r.map (.int .i64))]) [.sl .nil [],.sl .nil []] i xs.length)]) (λi=>i≤xs.length/\(True)) (λi=>xs.length-i) 0 (by(refine aC rfl rfl ?_ ?_ ?_ ?_<;>simp(disch:=apply aB;omega)only[go_sem]<;>(try omega));exact aJX _ _ _) ⟨by omega,?_⟩ (λi ⟨hi,hj⟩=>?_)
 rotate_left
 simp only[go_sem]
 have hm:i*2+2≤2*xs.length∨xs.length≤i:=by omega
 repeat' first|(refine jU 6 3 2 .any (xs.map fT) rfl rfl (by rw[show i=xs.length by omega];exact aMU fT _ xs) (by rw[zC]) (aUy λ_=>rfl) (aIt (λj d hd=>by revert d hd;simp[D.memOk]) (by simp[D.memOk])) (.inl rfl) ?_;simp only[go_sem])|apply aE|apply aG|apply aM|apply aJ|refine aI 0 aWC λK hK=>?_|((first|apply aD|refine aA (aO ?_)|apply aA);simp(disch:=apply aB;omega)only[go_sem,Tryz.results37])|(apply hK.nil;clear hK K;simp only[go_sem])|((first|refine aF rfl ?_ ?_)<;>intro h<;>try simp(disch:=apply aB;omega)only[go_sem] at h)|refine aT rfl ?_|apply aL|refine hK.c0 rfl rfl rfl (aO7 _ (by exact hq i (by omega))) rfl rfl rfl ?_|(with_reducible refine And.intro (by first|omega|(simp only[lens];omega)) ?_)|fail
 ·exact⟨i+1,(by(refine aC rfl rfl ?_ ?_ ?_ ?_<;>simp(disch:=apply aB;omega)only[go_sem]<;>(try omega));exact aQJ (f:=λj=>[.sl .any (((xs.getD j default)).l.map (.int .i64)),.sl .any (((xs.getD j default)).r.map (.int .i64))]) (λ_=>rfl) rfl (by omega)),by omega,by omega⟩
 ·trivial
def kp8:List (Nat×List Nat):=[(0,[1,2]),(1,[1,2,3]),(2,[1,2,3]),(3,[2,3]),(4,[2])]
attribute [go_sem] kp8
theorem aIl(x:SystemT)(hn:tT x≤1048576):FC S 8 [] [] [] [bP x] (bP x) [] []:=by
 have hn':=hn
 simp only[tT] at hn'
 refine aP Tryz.func8 rfl (by kernel_rfl) (by simp[Tryz.f8]) λB=>?_
 simp only[Tryz.ntmps8,aS,aZ,Nat.reduceAdd]
 repeat' first|apply aE|refine aI 0 kp8 λK hK=>?_|((first|apply aD|refine aA (aO ?_)|apply aA);simp(disch:=apply aB;omega)only[go_sem,Tryz.results8])|(apply hK.nil;clear hK K;simp only[go_sem])|refine hK.c0 rfl rfl rfl (aR2 _ (by omega)) rfl rfl rfl ?_|refine hK.c0 rfl rfl rfl (aMv _ _ (by omega)) rfl rfl rfl ?_|fail
 all_goals exact D.le.refl _
end
section
attribute [local irreducible] SW bC bE dE bU FC dO
def eA(rs:List Int):Prop:=(1≤rs.length/\rs.length≤8)/\∀j<rs.length,0≤rs.getD j default/\rs.getD j default≤3
def arS(rs:List Int)(n:Int):Int:=if -24≤n/\n≤-1 then 0 else if 0≤n/\n≤rs.length-1 then rs.getD n.toNat default else -1
def scan(rs:List Int):List Int->Int->Nat->Int
 | [],_,_=>-1
 | x::r,need,i=>if arS rs x<0 then -1 else if need+arS rs x-1=0 then (i:Int)+1 else scan rs r (need+arS rs x-1) (i+1)
def d7(rs t:List Int)(a:Nat):Int:=scan rs (t.drop a) 1 a
def aX(rs t:List Int):Prop:=eA rs/\(1≤t.length/\t.length≤60)/\d7 rs t 0=t.length
theorem aAi(rs t:List Int)(need:Int)(i:Nat)(h:i<t.length):scan rs (t.drop i) need i=if arS rs (t.getD i default)<0 then -1 else if need+arS rs (t.getD i default)-1=0 then (i:Int)+1 else scan rs (t.drop (i+1)) (need+arS rs (t.getD i default)-1) (i+1):=by
 rw[List.drop_eq_getElem_cons h]
 simp[scan,List.getD,zB h]
theorem aCm(rs t:List Int)(need:Int)(i:Nat)(h:t.length≤i):scan rs (t.drop i) need i=-1:=by
 rw[List.drop_of_length_le h];rfl
theorem sA{rs:List Int}(hs:eA rs)(n:Int):-1≤arS rs n/\arS rs n≤3:=by
 unfold arS
 split
 ·omega
 ·split
  ·rename_i h
   have:=hs.2 n.toNat (by omega)
   omega
  ·omega
theorem iX{rs:List Int}{n:Int}(h:-24≤n/\n≤-1):arS rs n=0:=if_pos h
theorem jZ{rs:List Int}{n:Int}(h:0≤n/\n≤rs.length-1):arS rs n=rs.getD n.toNat default:=by
 unfold arS;rw[if_neg (by omega),if_pos h]
theorem aC7{rs:List Int}{n:Int}(h1:¬(-24≤n/\n≤-1))(h2:¬(0≤n/\n≤rs.length-1)):arS rs n=-1:=by
 unfold arS;rw[if_neg h1,if_neg h2]
theorem aCb{rs:List Int}:∀(l:List Int) (need:Int) (i:Nat),scan rs l need i=i+l.length->∀x∈l,0≤arS rs x
 | [],_,_,_,x,hx=>by cases hx
 | y::r,need,i,h,x,hx=>by
  simp only[scan] at h
  split at h
  ·simp only[List.length_cons] at h;omega
  ·split at h
   ·have:r=[]:=by
     cases r with
     | nil=>rfl
     | cons _ _=>simp only[List.length_cons] at h;omega
    subst this
    obtain rfl:x=y:=by simpa using hx
    omega
   ·rcases zO.1 hx with rfl|hx
    ·omega
    ·exact aCb r _ _ (by rw[h];simp only[List.length_cons];omega) x hx
theorem aIk{rs:List Int}{x:Int}(h:0≤arS rs x):-24≤x:=by
 unfold arS at h
 split at h
 ·omega
 ·split at h<;>omega
theorem aX.ge{rs t:List Int}(h:aX rs t):∀x∈t,-24≤x:=λx hx=>by
 have:=h.2.2
 unfold d7 at this
 rw[List.drop_zero] at this
 exact aIk (aCb (rs:=rs) t 1 0 (by omega) x hx)
def jQ(rs:List Int):List Int->Int->Nat->Nat×Bool
 | [],_,i=>(i,false)
 | x::r,need,i=>if arS rs x<0 then (i,false) else if need+arS rs x-1=0 then (i+1,true) else jQ rs r (need+arS rs x-1) (i+1)
theorem aAF(rs:List Int):∀(l:List Int) (need:Int) (i:Nat),scan rs l need i=if (jQ rs l need i).2=true then ((jQ rs l need i).1:Int) else -1
 | [],_,_=>rfl
 | x::r,need,i=>by
  simp only[scan,jQ]
  split
  ·rfl
  ·split
   ·simp
   ·exact aAF rs r _ _
theorem aEt(rs t:List Int)(need:Int)(i:Nat)(h:i<t.length):jQ rs (t.drop i) need i=if arS rs (t.getD i default)<0 then (i,false) else if need+arS rs (t.getD i default)-1=0 then (i+1,true) else jQ rs (t.drop (i+1)) (need+arS rs (t.getD i default)-1) (i+1):=by
 rw[List.drop_eq_getElem_cons h]
 simp[jQ,List.getD,zB h]
theorem aKv(rs t:List Int)(need:Int)(i:Nat)(h:t.length≤i):jQ rs (t.drop i) need i=(i,false):=by
 rw[List.drop_of_length_le h];rfl
def nxS(rs t:List Int)(a:Nat):Int:=if a<t.length then arS rs (t.getD a default) else -1
def aDf(xs:List Int):Nat->Int
 | 0=>xs.getD 0 default
 | n+1=>if xs.getD (n+1) default<aDf xs n then xs.getD (n+1) default else aDf xs n
theorem aJ3(xs:List Int)(c:Int):∀n,c≤aDf xs n↔∀j≤n,c≤xs.getD j default
  | 0 => ⟨fun h j hj => by obtain rfl : j = 0 := by omega
                           exact h,λh=>h 0 (by omega)⟩
  | n+1=>by
    have ih:=aJ3 xs c n
    simp only[aDf]
    constructor
    · intro h j hj
      split at h
      · rcases Nat.lt_or_ge j (n+1) with e|e
        · exact ih.1 (by omega) j (by omega)
        · obtain rfl:j=n+1:=by omega
          exact h
      · rcases Nat.lt_or_ge j (n+1) with e|e
        · exact ih.1 h j (by omega)
        · obtain rfl:j=n+1:=by omega
          omega
    · intro h
      split
      · exact h _ (by omega)
      · exact ih.2 λj hj=>h j (by omega)
theorem yO{xs:List Int}{c:Int}(h:0<xs.length):c≤aDf xs (xs.length-1)↔∀x∈xs,c≤x:=by
 rw[aJ3,←rR (P:=λx=>c≤x)]
 exact⟨λhh j hj=>hh j (by omega),λhh j hj=>hh j (by omega)⟩
def aX8:List (Nat×List Nat):=[(0,[0,1,2]),(1,[6])]
attribute [go_sem] aX8
theorem nN(n lo hi:Int):FC S 64 [] [] [] [.int .i64 n,.int .i64 lo,.int .i64 hi] (.bool (tst (lo≤n/\n≤hi))) [] []:=by
 refine aP Tryz.func64 rfl (by kernel_rfl) (by simp[Tryz.f64]) λB=>?_
 simp only[Tryz.ntmps64,aS,aZ,Nat.reduceAdd]
 repeat' first|apply aE|refine aI 0 aX8 λK hK=>?_|((first|apply aD|refine aA (aO ?_)|apply aA);simp(disch:=apply aB;omega)only[go_sem,Tryz.results64])|(apply hK.nil;clear hK K;simp only[go_sem])|((first|refine aH rfl rfl rfl rfl rfl ?_ ?_)<;>intro h<;>try simp(disch:=apply aB;omega)only[go_sem] at h)|fail
 ·simp[kF,h]
 ·omega
def aXk:List (Nat×List Nat):=[(0,[1]),(1,[1,8]),(2,[2]),(3,[1,3]),(4,[1,3,13]),(6,[1,3,22]),(7,[2]),(5,[1,3]),(8,[2])]
attribute [go_sem] aXk
theorem lS(tk:Tk)(rs:List Int):FC S 95 [] [] [] [.agg [.sl tk (rs.map (.int .i64))]] (.bool (tst (eA rs))) [] []:=by
 refine aP Tryz.func95 rfl (by kernel_rfl) (by simp[Tryz.f95]) λB=>?_
 simp only[Tryz.ntmps95,aS,aZ,Nat.reduceAdd]
 refine bX 0 0 rfl rfl λhb0_0=>?_
 simp only[D.bnd,zC] at hb0_0
 repeat' first|apply aE|apply aG|apply aJ|refine aI 0 aXk λK hK=>?_|((first|apply aD|refine aA (aO ?_)|apply aA);simp(disch:=apply aB;omega)only[go_sem,Tryz.results95])|(apply hK.nil;clear hK K;simp only[go_sem])|((first|refine aF rfl ?_ ?_)<;>intro h<;>try simp(disch:=apply aB;omega)only[go_sem] at h)|refine hK.c0 rfl rfl rfl (nN _ _ _) rfl rfl rfl ?_|fail
 ·rintro⟨h1,_⟩;omega
 refine bB (ι:=Nat) (λi=>[(3,.int .i64 i)]) (λ_=>[]) (λi=>i≤rs.length/\(∀j<i,0≤rs.getD j default/\rs.getD j default≤3)) (λi=>rs.length-i) 0 (by(refine aC rfl rfl ?_ ?_ ?_ ?_<;>simp(disch:=apply aB;omega)only[go_sem]<;>(try omega))) ⟨by omega,?_⟩ (λi ⟨hi,hj⟩=>?_)
 rotate_left
 simp only[go_sem]
 repeat' first|apply aE|apply aG|apply aM|apply aJ|refine aI 0 aXk λK hK=>?_|((first|apply aD|refine aA (aO ?_)|apply aA);simp(disch:=apply aB;omega)only[go_sem,Tryz.results95])|(apply hK.nil;clear hK K;simp only[go_sem])|((first|refine aF rfl ?_ ?_)<;>intro h<;>try simp(disch:=apply aB;omega)only[go_sem] at h)|refine aT rfl ?_|apply aL|refine hK.c0 rfl rfl rfl (nN _ _ _) rfl rfl rfl ?_|(with_reducible refine And.intro (by first|omega|(simp only[lens];omega)) ?_)|fail
 ·rintro⟨_,h2⟩;exact h (h2 i (by omega))
 ·exact⟨i+1,by(refine aC rfl rfl ?_ ?_ ?_ ?_<;>simp(disch:=apply aB;omega)only[go_sem]<;>(try omega)),⟨by omega,bJ hj (by assumption)⟩,by omega⟩
 ·exact⟨⟨by omega,by omega⟩,λj hj'=>hj j (by omega)⟩
 ·intro j hj';omega
def aUa:List (Nat×List Nat):=[(0,[1]),(1,[1,14]),(2,[2]),(3,[16,17,18]),(4,[16,17,18,19]),(5,[4,16,17,18]),(6,[16,17,18,27]),(7,[2]),(8,[16,17,18]),(9,[2])]
attribute [go_sem] aUa
theorem pM(tk:Tk)(rs:List Int):FC S 105 [] [] [] [.agg [.sl tk (rs.map (.int .i64))]] (.bool (tst (eA rs))) [] []:=by
 refine aP Tryz.func105 rfl (by kernel_rfl) (by simp[Tryz.f105]) λB=>?_
 simp only[Tryz.ntmps105,aS,aZ,Nat.reduceAdd]
 refine bX 0 0 rfl rfl λhb0_0=>?_
 simp only[D.bnd,zC] at hb0_0
 repeat' first|apply aE|apply aG|apply aJ|refine aI 0 aUa λK hK=>?_|((first|apply aD|refine aA (aO ?_)|apply aA);simp(disch:=apply aB;omega)only[go_sem,Tryz.results105])|(apply hK.nil;clear hK K;simp only[go_sem])|((first|refine aH rfl rfl rfl rfl rfl ?_ ?_|refine aF rfl ?_ ?_)<;>intro h<;>try simp(disch:=apply aB;omega)only[go_sem] at h)|fail
 ·rintro⟨h1,_⟩;omega
 ·rintro⟨h1,_⟩;omega
 refine bB (ι:=Nat) (λi=>[(18,.int .i64 i)]) (λ_=>[]) (λi=>i≤rs.length/\(∀j<i,0≤rs.getD j default/\rs.getD j default≤3)) (λi=>rs.length-i) 0 (by(refine aC rfl rfl ?_ ?_ ?_ ?_<;>simp(disch:=apply aB;omega)only[go_sem]<;>(try omega))) ⟨by omega,?_⟩ (λi ⟨hi,hj⟩=>?_)
 rotate_left
 simp only[go_sem]
 repeat' first|apply aE|apply aG|apply aM|apply aJ|refine aI 0 aUa λK hK=>?_|((first|apply aD|refine aA (aO ?_)|apply aA);simp(disch:=apply aB;omega)only[go_sem,Tryz.results105])|(apply hK.nil;clear hK K;simp only[go_sem])|((first|refine aH rfl rfl rfl rfl rfl ?_ ?_|refine aF rfl ?_ ?_)<;>intro h<;>try simp(disch:=apply aB;omega)only[go_sem] at h)|refine aT rfl ?_|apply aL|(with_reducible refine And.intro (by first|omega|(simp only[lens];omega)) ?_)|fail
 ·rintro⟨_,h2⟩;have:=h2 i (by omega);omega
 ·rintro⟨_,h2⟩;have:=h2 i (by omega);omega
 ·exact⟨i+1,by(refine aC rfl rfl ?_ ?_ ?_ ?_<;>simp(disch:=apply aB;omega)only[go_sem]<;>(try omega)),⟨by omega,bJ hj ⟨by assumption,by assumption⟩⟩,by omega⟩
 ·exact⟨⟨by omega,by omega⟩,λj hj'=>hj j (by omega)⟩
 ·intro j hj';omega
def aWe:List (Nat×List Nat):=[(0,[1,2]),(1,[1,2,5]),(2,[4]),(3,[1,2,8]),(4,[4]),(5,[4])]
attribute [go_sem] aWe
theorem aLS(tk:Tk)(rs:List Int)(n:Int):FC S 159 [] [] [] [.agg [.sl tk (rs.map (.int .i64))],.int .i64 n] (.int .i64 (arS rs n)) [] []:=by
 refine aP Tryz.func159 rfl (by kernel_rfl) (by simp[Tryz.f159]) λB=>?_
 simp only[Tryz.ntmps159,aS,aZ,Nat.reduceAdd]
 refine bX 0 0 rfl rfl λhb0_0=>?_
 simp only[D.bnd,zC] at hb0_0
 repeat' first|apply aE|apply aG|apply aM|apply aJ|refine aI 0 aWe λK hK=>?_|((first|apply aD|refine aA (aO ?_)|apply aA);simp(disch:=apply aB;omega)only[go_sem,Tryz.results159])|(apply hK.nil;clear hK K;simp only[go_sem])|((first|refine aF rfl ?_ ?_)<;>intro h<;>try simp(disch:=apply aB;omega)only[go_sem] at h)|refine hK.c0 rfl rfl rfl (nN _ _ _) rfl rfl rfl ?_|(with_reducible refine And.intro (by first|omega|(simp only[lens];omega)) ?_)|fail
 ·exact(iX h).symm
 ·rw[jZ (by omega)]
 ·exact(aC7 (by assumption) (by assumption)).symm
def aN1:List (Nat×List Nat):=[(0,[1,2,3]),(1,[1,2,3,7]),(2,[1,3,7,8]),(3,[1,3,7,8,14]),(5,[1,3,7,8,9]),(6,[1,3,7,8,9,24]),(7,[6]),(8,[1,3,7,8]),(9,[1,3,7,8,30]),(10,[6]),(4,[1,3,7,8]),(11,[6])]
attribute [go_sem] aN1
theorem aSP(tk tk':Tk)(rs t:List Int)(a:Int)(hs:eA rs)(hl:t.length≤60)(ha:0≤a):FC S 146 [] [] [] [.agg [.sl tk (rs.map (.int .i64))],.sl tk' (t.map (.int .i64)),.int .i64 a] (.int .i64 (d7 rs t a.toNat)) [] []:=by
 refine aP Tryz.func146 rfl (by kernel_rfl) (by simp[Tryz.f146]) λB=>?_
 simp only[Tryz.ntmps146,aS,aZ,Nat.reduceAdd]
 refine bZ 1 rfl λhb1=>?_
 simp only[D.bnd,zC] at hb1
 repeat' first|apply aE|apply aG|refine aI 0 aN1 λK hK=>?_|((first|apply aD|apply aK|refine aA (aO ?_)|apply aA);simp(disch:=apply aB;omega)only[go_sem,Tryz.results146])|(apply hK.nil;clear hK K;simp only[go_sem])|fail
 refine bB (ι:=Nat×Int) (λp=>[(8,.int .i64 p.1),(7,.int .i64 p.2)]) (λp=>[]) (λp=>(a.toNat≤p.1/\d7 rs t a.toNat=scan rs (t.drop p.1) p.2 p.1)/\1≤p.2/\p.2≤1+3*p.1) (λp=>t.length-p.1) (a.toNat,1) (by(refine aC rfl rfl ?_ ?_ ?_ ?_<;>simp(disch:=apply aB;omega)only[go_sem]<;>(try omega))) ?_ (λp hp=>?_)
 rotate_left
 simp only[go_sem]
 obtain⟨i,need⟩:=p
 obtain⟨⟨h1,h2⟩,h3,h4⟩:=hp
 have hr:=sA hs (t.getD i default)
 have hb:i<t.length->scan rs (t.drop i) need i=_:=aAi rs t need i
 repeat' first|apply aE|apply aG|apply aM|apply aJ|refine aI 0 aN1 λK hK=>?_|refine aY aN1 (by kernel_rfl) λK hK=>?_|((first|apply aD|apply aK|refine aA (aO ?_)|apply aA);simp(disch:=apply aB;omega)only[go_sem,Tryz.results146])|(apply hK.nil;clear hK K;simp only[go_sem])|((first|refine aF rfl ?_ ?_)<;>intro h<;>try simp(disch:=apply aB;omega)only[go_sem] at h)|refine aT rfl ?_|apply aL|refine hK.c0 rfl rfl rfl (aLS _ _ _) rfl rfl rfl ?_|(with_reducible refine And.intro (by first|omega|(simp only[lens];omega)) ?_)|fail
 ·rw[h2,hb (by omega),if_pos h]
 ·rw[h2,hb (by omega),if_neg (by omega),if_pos h]
 ·refine⟨(i+1,need+arS rs (t.getD i default)-1),by(refine aC rfl rfl ?_ ?_ ?_ ?_<;>simp(disch:=apply aB;omega)only[go_sem]<;>(try omega)),⟨⟨by omega,?_⟩,by omega,by omega⟩,by omega⟩
  rw[h2,hb (by omega),if_neg (by omega),if_neg h]
 ·rw[h2,aCm rs t need i (by omega)]
 ·exact⟨⟨by omega,rfl⟩,by omega,by omega⟩
def aV7:List (Nat×List Nat):=[(0,[1,2]),(1,[4])]
attribute [go_sem] aV7
theorem fY(tk tk':Tk)(rs t:List Int):FC S 126 [] [] [] [.agg [.sl tk (rs.map (.int .i64))],.sl tk' (t.map (.int .i64))] (.bool (tst (aX rs t))) [] []:=by
 refine aP Tryz.func126 rfl (by kernel_rfl) (by simp[Tryz.f126]) λB=>?_
 simp only[Tryz.ntmps126,aS,aZ,Nat.reduceAdd]
 refine bX 0 0 rfl rfl λhb0_0=>?_
 simp only[D.bnd,zC] at hb0_0
 refine bZ 1 rfl λhb1=>?_
 simp only[D.bnd,zC] at hb1
 repeat' first|apply aE|refine aI 0 aV7 λK hK=>?_|((first|apply aD|refine aA (aO ?_)|apply aA);simp(disch:=apply aB;omega)only[go_sem,Tryz.results126])|(apply hK.nil;clear hK K;simp only[go_sem])|((first|refine aH rfl rfl rfl rfl rfl ?_ ?_)<;>intro h<;>try simp(disch:=apply aB;omega)only[go_sem] at h)|refine hK.skp rfl rfl ?_|refine hK.c0 rfl rfl rfl (lS _ _) rfl rfl rfl ?_|refine hK.c0 rfl rfl rfl (nN _ _ _) rfl rfl rfl ?_|refine hK.c0 rfl rfl rfl (aSP _ _ _ _ _ (by assumption) (by omega) (by omega)) rfl rfl rfl ?_|fail
 all_goals (simp only[aX] at *;grind)
def aRf:List (Nat×List Nat):=[(0,[0]),(1,[0,7]),(2,[0]),(3,[0,3]),(4,[0,3,4]),(5,[0,3,4,15]),(7,[0,3,4]),(6,[0,3,4]),(8,[2])]
attribute [go_sem] aRf
theorem aXq(tk:Tk)(xs:List Int)(h0:0<xs.length):FC S 148 [] [] [] [.sl tk (xs.map (.int .i64))] (.int .i64 (aDf xs (xs.length-1))) [] []:=by
 refine aP Tryz.func148 rfl (by kernel_rfl) (by simp[Tryz.f148]) λB=>?_
 simp only[Tryz.ntmps148,aS,aZ,Nat.reduceAdd]
 refine bZ 0 rfl λhb0=>?_
 simp only[D.bnd,zC] at hb0
 repeat' first|apply aE|apply aG|apply aJ|refine aI 0 aRf λK hK=>?_|((first|apply aD|refine aA (aO ?_)|apply aA);simp(disch:=apply aB;omega)only[go_sem,Tryz.results148])|(apply hK.nil;clear hK K;simp only[go_sem])|((first|refine aF rfl ?_ ?_)<;>intro h<;>try simp(disch:=apply aB;omega)only[go_sem] at h)|(with_reducible refine And.intro (by first|omega|(simp only[lens];omega)) ?_)|fail
 ·omega
 refine bB (ι:=Nat) (λp=>[(4,.int .i64 (p+1)),(3,.int .i64 (aDf xs p))]) (λp=>[]) (λp=>p<xs.length) (λp=>xs.length-p) 0 (by(refine aC rfl rfl ?_ ?_ ?_ ?_<;>simp(disch:=apply aB;omega)only[go_sem]<;>(try omega));exact⟨rfl,rfl⟩) ?_ (λp hp=>?_)
 rotate_left
 simp only[go_sem]
 repeat' first|apply aE|apply aG|apply aM|apply aJ|refine aI 0 aRf λK hK=>?_|((first|apply aD|refine aA (aO ?_)|apply aA);simp(disch:=apply aB;omega)only[go_sem,Tryz.results148])|(apply hK.nil;clear hK K;simp only[go_sem])|((first|refine aF rfl ?_ ?_)<;>intro h<;>try simp(disch:=apply aB;omega)only[go_sem] at h)|refine aT rfl ?_|apply aL|(with_reducible refine And.intro (by first|omega|(simp only[lens];omega)) ?_)|fail
 ·exact⟨p+1,(by(refine aC rfl rfl ?_ ?_ ?_ ?_<;>simp(disch:=apply aB;omega)only[go_sem]<;>(try omega));exact⟨rfl,by omega⟩),by omega,by omega⟩
 ·rw[show p=xs.length-1 by omega]
 ·exact h0
def aSK:List (Nat×List Nat):=[(0,[1,2]),(1,[1,2,6]),(2,[4]),(3,[4])]
attribute [go_sem] aSK
theorem aC8(tk:Tk)(rs:List Int)(n:Int)(hn:-24≤n/\n<rs.length):FC S 141 [] [] [] [.agg [.sl tk (rs.map (.int .i64))],.int .i64 n] (.int .i64 (arS rs n)) [] []:=by
 refine aP Tryz.func141 rfl (by kernel_rfl) (by simp[Tryz.f141]) λB=>?_
 simp only[Tryz.ntmps141,aS,aZ,Nat.reduceAdd]
 refine bX 0 0 rfl rfl λhb0_0=>?_
 simp only[D.bnd,zC] at hb0_0
 repeat' first|apply aE|apply aJ|refine aI 0 aSK λK hK=>?_|((first|apply aD|refine aA (aO ?_)|apply aA);simp(disch:=apply aB;omega)only[go_sem,Tryz.results141])|(apply hK.nil;clear hK K;simp only[go_sem])|((first|refine aF rfl ?_ ?_)<;>intro h<;>try simp(disch:=apply aB;omega)only[go_sem] at h)|(with_reducible refine And.intro (by first|omega|(simp only[lens];omega)) ?_)|fail
 ·exact(iX (by omega)).symm
 ·rw[jZ (by omega)]
def aIN:List (Nat×List Nat):=[(0,[0]),(1,[0,31]),(2,[2]),(3,[0]),(4,[2])]
attribute [go_sem] aIN
theorem aUJ(id:Nat)(rs t:List Int)(a:Nat)(hs:eA rs)(ht:∀x∈t,-24≤x):FC S 162 [] [(id,[.sl .any (rs.map (.int .i64)),.sl .any (t.map (.int .i64)),.int .i64 a])] [] [.box id 0] (.int .i64 (nxS rs t a)) [(id,[.sl .any (rs.map (.int .i64)),.sl .any (t.map (.int .i64)),.int .i64 ((if nxS rs t a<0 then a else a+1:Nat):Int)])] []:=by
 have hx:a<t.length->-24≤t.getD a default:=λh=>ht _ (bA t a h)
 refine aP Tryz.func162 rfl (by kernel_rfl) (by simp[Tryz.f162]) λB=>?_
 simp only[Tryz.ntmps162,aS,aZ,Nat.reduceAdd]
 refine o9 id 1 (if_pos rfl) rfl λhbid_1=>?_
 simp only[D.bnd,zC] at hbid_1
 repeat' first|apply aE|apply aJ|refine aI 0 aIN λK hK=>?_|refine aY aIN (by kernel_rfl) λK hK=>?_|((first|apply aD|apply aK|refine aA (aO ?_)|apply aA);simp(disch:=apply aB;omega)only[go_sem,Tryz.results162])|(apply hK.nil;clear hK K;simp only[go_sem])|((first|refine aH rfl rfl rfl rfl rfl ?_ ?_|refine aN rfl rfl rfl rfl rfl ?_ ?_|refine aF rfl ?_ ?_)<;>intro h<;>try simp(disch:=apply aB;omega)only[go_sem] at h)|refine hK.c0 rfl rfl rfl (aC8 _ _ _ ⟨by omega,by omega⟩) rfl rfl rfl ?_|(with_reducible refine And.intro (by first|omega|(simp only[lens];omega)) ?_)|fail
 ·have e:nxS rs t a=-1:=if_neg (by omega)
  simp[e]
 ·have e:nxS rs t a=-1:=by rw[nxS,if_pos (by omega),aC7 (by omega) (by omega)]
  simp[e]
 ·have e:nxS rs t a=arS rs (t.getD a default):=if_pos (by omega)
  have h0:0≤arS rs (t.getD a default):=by
   by_cases hn:t.getD a default<0
   ·rw[iX (by omega)];omega
   ·rw[jZ (by omega)];exact(hs.2 _ (by omega)).1
  rw[if_neg (by omega)]
  exact⟨e.symm,by simp⟩
def aI8:List (Nat×List Nat):=[(0,[0]),(1,[0,3]),(2,[0,3,6]),(4,[0,3,4]),(5,[0,3,4,12]),(6,[2]),(7,[0,3]),(3,[0,3]),(8,[2])]
attribute [go_sem] aI8
theorem aVC(id:Nat)(rs t:List Int)(a:Nat)(hs:eA rs)(ht:∀x∈t,-24≤x)(hl:t.length≤60):FC S 153 [] [(id,[.sl .any (rs.map (.int .i64)),.sl .any (t.map (.int .i64)),.int .i64 a])] [] [.box id 0] (.bool (jQ rs (t.drop a) 1 a).2) [(id,[.sl .any (rs.map (.int .i64)),.sl .any (t.map (.int .i64)),.int .i64 (jQ rs (t.drop a) 1 a).1])] []:=by
 refine aP Tryz.func153 rfl (by kernel_rfl) (by simp[Tryz.f153]) λB=>?_
 simp only[Tryz.ntmps153,aS,aZ,Nat.reduceAdd]
 refine o9 id 1 (if_pos rfl) rfl λhbid_1=>?_
 simp only[D.bnd,zC] at hbid_1
 repeat' first|apply aE|apply aG|refine aI 0 aI8 λK hK=>?_|((first|apply aD|refine aA (aO ?_)|apply aA);simp(disch:=apply aB;omega)only[go_sem,Tryz.results153])|(apply hK.nil;clear hK K;simp only[go_sem])|fail
 refine bB (ι:=Nat×Int) (λp=>[(3,.int .i64 p.2)]) (λp=>[(id,[.sl .any (rs.map (.int .i64)),.sl .any (t.map (.int .i64)),.int .i64 p.1])]) (λp=>(a≤p.1/\((1≤p.2/\jQ rs (t.drop a) 1 a=jQ rs (t.drop p.1) p.2 p.1)∨(p.2=0/\jQ rs (t.drop a) 1 a=(p.1,true))))/\p.2≤1+3*p.1) (λp=>t.length-p.1) (a,1) (by(refine aC rfl rfl ?_ ?_ ?_ ?_<;>simp(disch:=apply aB;omega)only[go_sem]<;>(try omega))) ?_ (λp hp=>?_)
 rotate_left
 simp only[go_sem]
 obtain⟨i,need⟩:=p
 obtain⟨⟨h1,h2⟩,h4⟩:=hp
 dsimp only at h1 h2 h4
 have hr:=sA hs (t.getD i default)
 have hn:nxS rs t i≤3:=by unfold nxS;split<;>omega
 have hb:i<t.length->jQ rs (t.drop i) need i=_:=aEt rs t need i
 repeat' first|apply aE|apply aG|apply aM|apply aJ|refine aI 0 aI8 λK hK=>?_|((first|apply aD|refine aA (aO ?_)|apply aA);simp(disch:=apply aB;omega)only[go_sem,Tryz.results153])|(apply hK.nil;clear hK K;simp only[go_sem])|((first|refine aF rfl ?_ ?_)<;>intro h<;>try simp(disch:=apply aB;omega)only[go_sem] at h)|refine aT rfl ?_|apply aL|(refine hK.callB rfl rfl rfl (aUJ id rs t i hs ht) ⟨⟨by simp only[Nat.reduceLT],(by first|(simp;all_goals fail)|(simp[LS.getBox,Lg.look];all_goals fail)),by(simp[Lg.look];all_goals fail),by(simp;all_goals fail),by(simp;all_goals fail)⟩,⟨by(simp[D.ids,D.idsL];all_goals fail),by(simp[D.ids,D.idsL];all_goals fail),by(simp[D.tks,D.tksL];all_goals fail),by(simp[D.tks,D.tksL];all_goals fail),by(simp;all_goals fail)⟩,rfl⟩ ?_;simp(disch:=apply aB;omega)only[go_sem])|fail
 ·have e:i<t.length->nxS rs t i=arS rs (t.getD i default):=λh=>if_pos h
  rcases h2 with⟨h2,h3⟩|⟨h2,h3⟩
  ·rw[h3]
   by_cases hi:i<t.length
   ·rw[hb hi,if_pos (by rw[←e hi];assumption),if_pos (by assumption)];simp
   ·rw[aKv rs t need i (by omega),if_pos (by assumption)];simp
  ·omega
 ·have hi:i<t.length:=by
   by_cases hi:i<t.length
   ·exact hi
   ·have:nxS rs t i=-1:=if_neg hi
    omega
  have e:nxS rs t i=arS rs (t.getD i default):=if_pos hi
  refine⟨(i+1,need+nxS rs t i-1),(by(refine aC rfl rfl ?_ ?_ ?_ ?_<;>simp(disch:=apply aB;omega)only[go_sem]<;>(try omega));rw[if_neg (by omega)]),⟨⟨by omega,?_⟩,by omega⟩,by omega⟩
  rcases h2 with⟨h2,h3⟩|⟨h2,h3⟩
  ·rw[h3,hb hi,if_neg (by omega),←e]
   by_cases hz:need+nxS rs t i-1=0
   ·rw[if_pos hz];exact .inr ⟨hz,rfl⟩
   ·rw[if_neg hz];exact .inl ⟨by dsimp only;omega,rfl⟩
  ·omega
 ·rcases h2 with⟨h2,h3⟩|⟨h2,h3⟩
  ·omega
  ·rw[h3];simp
 ·exact⟨⟨by omega,.inl ⟨by omega,rfl⟩⟩,by omega⟩
def aR4:List (Nat×List Nat):=[(0,[1,2,3]),(1,[7]),(2,[7,13]),(3,[6]),(4,[6])]
attribute [go_sem] aR4
theorem xU(tk tk':Tk)(rs t:List Int)(a:Int)(hs:eA rs)(ht:∀x∈t,-24≤x)(hl:t.length≤60)(ha:0≤a):FC S 138 [] [] [] [.agg [.sl tk (rs.map (.int .i64))],.sl tk' (t.map (.int .i64)),.int .i64 a] (.int .i64 (d7 rs t a.toNat)) [] []:=by
 obtain⟨a,rfl⟩:=Int.eq_ofNat_of_zero_le ha
 refine FC.args (args':=[.agg [.sl .any (rs.map (.int .i64))],.sl .any (t.map (.int .i64)),.int .i64 a]) ?_ (by simp only[go_sem])
 refine aP Tryz.func138 rfl (by kernel_rfl) (by simp[Tryz.f138]) λB=>?_
 simp only[Tryz.ntmps138,aS,aZ,Nat.reduceAdd]
 repeat' first|apply aE|apply aJ|refine aI 0 aR4 λK hK=>?_|((first|apply aD|refine aA (aO ?_)|apply aA);simp(disch:=apply aB;omega)only[go_sem,Tryz.results138])|(apply hK.nil;clear hK K;simp only[go_sem])|((first|refine aF rfl ?_ ?_)<;>intro h<;>try simp(disch:=apply aB;omega)only[go_sem] at h)|(refine hK.callB rfl rfl rfl (aVC 7 rs t a hs ht hl) ⟨⟨by simp only[Nat.reduceLT],(by first|(simp;all_goals fail)|(simp[LS.getBox,Lg.look];all_goals fail)),by(simp[Lg.look];all_goals fail),by(simp;all_goals fail),by(simp;all_goals fail)⟩,⟨by(simp[D.ids,D.idsL];all_goals fail),by(simp[D.ids,D.idsL];all_goals fail),by(simp[D.tks,D.tksL];all_goals fail),by(simp[D.tks,D.tksL];all_goals fail),by(simp;all_goals fail)⟩,rfl⟩ ?_;simp(disch:=apply aB;omega)only[go_sem])|fail
 all_goals first|(rw[d7,aAF,h];rfl)
def aWg:List (Nat×List Nat):=[(0,[1,2]),(1,[4])]
attribute [go_sem] aWg
theorem t8(tk tk':Tk)(rs t:List Int):FC S 129 [] [] [] [.agg [.sl tk (rs.map (.int .i64))],.sl tk' (t.map (.int .i64))] (.bool (tst (aX rs t))) [] []:=by
 refine aP Tryz.func129 rfl (by kernel_rfl) (by simp[Tryz.f129]) λB=>?_
 simp only[Tryz.ntmps129,aS,aZ,Nat.reduceAdd]
 refine bX 0 0 rfl rfl λhb0_0=>?_
 simp only[D.bnd,zC] at hb0_0
 refine bZ 1 rfl λhb1=>?_
 simp only[D.bnd,zC] at hb1
 repeat' first|apply aE|refine aI 0 aWg λK hK=>?_|((first|apply aD|refine aA (aO ?_)|apply aA);simp(disch:=apply aB;omega)only[go_sem,Tryz.results129])|(apply hK.nil;clear hK K;simp only[go_sem])|((first|refine aH rfl rfl rfl rfl rfl ?_ ?_)<;>intro h<;>try simp(disch:=apply aB;omega)only[go_sem] at h)|refine hK.skp rfl rfl ?_|refine hK.c0 rfl rfl rfl (pM _ _) rfl rfl rfl ?_|refine hK.c0 rfl rfl rfl (aXq _ _ (by omega)) rfl rfl rfl ?_|refine hK.c0 rfl rfl rfl (xU _ _ _ _ _ (by assumption) ((yO (by omega)).1 (by assumption)) (by omega) (by omega)) rfl rfl rfl ?_|fail
 ·rename_i h1 h2 h3
  have h4:=(yO (by omega)).1 h
  simp only[aX,Int.toNat_zero]
  exact⟨λe=>⟨h1,by omega,e⟩,λe=>e.2.2⟩
 ·intro e
  have:=(yO (c:=-24) (by omega)).2 e.ge
  omega
 ·rintro⟨_,h1,_⟩;omega
 ·rintro⟨_,h1,_⟩;omega
 ·rintro⟨h1,_⟩;contradiction
end
section
inductive Fl (rs:List Int):Nat->List Int->Prop
 | nil:Fl rs 0 []
 | cons {n:Int} {k:Nat} {l:List Int} (h:0≤arS rs n) (r:Fl rs (k+(arS rs n).toNat) l):Fl rs (k+1) (n::l)
theorem Fl.zero{rs l:List Int}(h:Fl rs 0 l):l=[]:=by
 generalize e:(0:Nat)=k at h
 cases h with
 | nil=>rfl
 | cons _ _=>omega
theorem Fl.len{rs l:List Int}{k:Nat}(h:Fl rs k l):k≤l.length:=by
 induction h with
 | nil=>exact zQ _
 | cons _ _ ih=>simp only[List.length_cons];omega
theorem Fl.app{rs l:List Int}{j:Nat}(h:Fl rs j l):∀ {k:Nat} {m:List Int},Fl rs k m->Fl rs (j+k) (l++m):=by
 induction h with
 | nil=>intro k m hm;rw[Nat.zero_add];exact hm
 | @cons n i l h r ih =>
  intro k m hm
  have:=ih hm
  rw[show i+1+k=(i+k)+1 by omega]
  exact .cons h (by rw[show i+k+(arS rs n).toNat=i+(arS rs n).toNat+k by omega];exact this)
theorem Fl.split{rs:List Int}:∀(l:List Int) (j k:Nat),Fl rs (j+k) l->∃l1 l2,l=l1++l2/\Fl rs j l1/\Fl rs k l2
 | [],j,k,h=>by
  have:=h.len
  simp only[List.length_nil] at this
  obtain rfl:j=0:=by omega
  obtain rfl:k=0:=by omega
  exact⟨[],[],rfl,.nil,.nil⟩
 | n::l,0,k,h=>⟨[],n::l,rfl,.nil,by rw[Nat.zero_add] at h;exact h⟩
 | n::l,j+1,k,h=>by
  rw[show j+1+k=(j+k)+1 by omega] at h
  cases h with
  | cons h r =>
   rw[show j+k+(arS rs n).toNat=(j+(arS rs n).toNat)+k by omega] at r
   obtain⟨l1,l2,e,h1,h2⟩:=Fl.split l _ _ r
   exact⟨n::l1,l2,by rw[e];rfl,.cons h h1,h2⟩
theorem Fl.scan{rs:List Int}{k:Nat}{l:List Int}(h:Fl rs k l):∀(r:List Int) (i:Nat),1≤k->Go.Proofs.YtpennhjjnlkbiaaGreat.scan rs (l++r) k i=i+l.length:=by
 induction h with
 | nil=>intro r i h0;omega
 | @cons n k l h hr ih =>
  intro r i _
  simp only[List.cons_append,Go.Proofs.YtpennhjjnlkbiaaGreat.scan]
  rw[if_neg (by omega)]
  by_cases e:k+(arS rs n).toNat=0
  ·rw[if_pos (by omega)]
   rw[e] at hr
   rw[hr.zero]
   simp
  ·rw[if_neg (by omega)]
   have:=ih r (i+1) (by omega)
   rw[show ((k+1:Nat):Int)+arS rs n-1=((k+(arS rs n).toNat:Nat):Int) by omega,this]
   simp only[List.length_cons];omega
theorem aNK{rs:List Int}:∀(l:List Int) (k i:Nat) (e:Int),1≤k->scan rs l k i=e->0≤e->∃l1 l2,l=l1++l2/\Fl rs k l1/\e=i+l1.length
 | [],k,i,e,_,h,he=>by simp only[scan] at h;omega
 | n::l,k,i,e,hk,h,he=>by
  simp only[scan] at h
  split at h
  ·omega
  ·rename_i h0
   obtain⟨k,rfl⟩:∃q,k=q+1:=⟨k-1,by omega⟩
   split at h
   ·rename_i h1
    obtain⟨rfl,h3⟩:k=0/\arS rs n=0:=by omega
    exact⟨[n],l,rfl,.cons (by omega) (by rw[h3];exact .nil),by simp;omega⟩
   ·rename_i h1
    obtain⟨l1,l2,e1,e2,e3⟩:=aNK l (k+(arS rs n).toNat) (i+1) e (by omega) (by rw[←h];congr 1;omega) he
    exact⟨n::l1,l2,by rw[e1];rfl,.cons (by omega) e2,by simp only[List.length_cons];omega⟩
theorem Fl.uniq{rs:List Int}{k:Nat}{l:List Int}(h:Fl rs k l):∀ {m r s:List Int},Fl rs k m->l++r=m++s->l=m/\r=s:=by
 induction h with
 | nil=>intro m r s hm e;rw[hm.zero] at e ⊢;exact⟨rfl,e⟩
 | @cons n k l h hr ih =>
  intro m r s hm e
  cases hm with
  | @cons n' _ m h' hr' =>
   simp only[List.cons_append,List.cons.injEq] at e
   obtain⟨rfl,e⟩:=e
   obtain⟨rfl,rfl⟩:=ih hr' e
   exact⟨rfl,rfl⟩
theorem Fl.pre{rs:List Int}{k:Nat}{l:List Int}(h:Fl rs k l){m:List Int}(hm:Fl rs k m){r:List Int}(e:l=m++r):l=m/\r=[]:=by
 have:=Fl.uniq h hm (r:=[]) (s:=r) (by simpa using e)
 exact⟨this.1,this.2.symm⟩
theorem sL{rs t:List Int}(h:aX rs t):Fl rs 1 t:=by
 obtain⟨_,_,h3⟩:=h
 unfold d7 at h3
 rw[List.drop_zero] at h3
 obtain⟨l1,l2,e1,e2,e3⟩:=aNK t 1 0 _ (by omega) h3 (by omega)
 have:l2=[]:=by
  have:=congrArg List.length e1
  rw[zK] at this
  exact List.length_eq_zero_iff.1 (by omega)
 rw[e1,this,List.append_nil];exact e2
theorem aFl{rs t:List Int}(hs:eA rs)(h:Fl rs 1 t)(hl:t.length≤60):aX rs t:=by
 refine⟨hs,⟨h.len,hl⟩,?_⟩
 have:=h.scan [] 0 (by omega)
 unfold d7
 rw[List.drop_zero]
 simpa using this
theorem rN{rs:List Int}{p u r:List Int}(h:Fl rs 1 u):d7 rs (p++(u++r)) p.length=p.length+u.length:=by
 unfold d7
 rw[List.drop_left]
 exact h.scan r p.length (by omega)
theorem Fl.at{rs:List Int}:∀(l:List Int) (k a:Nat),Fl rs k l->a<l.length->∃p u r,l=p++(u++r)/\p.length=a/\Fl rs 1 u
 | [],_,a,_,ha=>absurd ha (Nat.not_lt_zero _)
 | n::l,k,0,h,_=>by
  obtain⟨k,rfl⟩:∃q,k=q+1:=by cases h;exact⟨_,rfl⟩
  obtain⟨l1,l2,e,h1,_⟩:=Fl.split (n::l) 1 k (by rw[Nat.add_comm];exact h)
  exact⟨[],l1,l2,e,rfl,h1⟩
 | n::l,k,a+1,h,ha=>by
  cases h with
  | cons h r =>
   obtain⟨p,u,s,e,hp,hu⟩:=Fl.at l _ a r (by simpa using ha)
   exact⟨n::p,u,s,by rw[e];rfl,by simp[hp],hu⟩
theorem aX.at{rs t:List Int}(h:aX rs t){a:Nat}(ha:a<t.length):∃p u r,t=p++(u++r)/\p.length=a/\Fl rs 1 u:=Fl.at t 1 a (sL h) ha
def dJ(rs t:List Int)(a:Nat):List Int:=(t.take (d7 rs t a).toNat).drop a
theorem xT{rs p u r:List Int}(h:Fl rs 1 u):dJ rs (p++(u++r)) p.length=u:=by
 unfold dJ
 rw[rN h,show ((p.length:Int)+u.length).toNat=p.length+u.length by omega,←List.append_assoc,List.take_left' (by simp),List.drop_left]
theorem nH{rs t:List Int}(h:aX rs t){a:Nat}(ha:a<t.length):aX rs (dJ rs t a):=by
 obtain⟨p,u,r,rfl,rfl,hu⟩:=h.at ha
 rw[xT hu]
 refine aFl h.1 hu ?_
 have:=h.2.1.2
 simp only[zK] at this
 omega
theorem fN{rs t:List Int}(h:aX rs t){a:Nat}(ha:a<t.length):a<d7 rs t a/\d7 rs t a≤t.length:=by
 obtain⟨p,u,r,rfl,rfl,hu⟩:=h.at ha
 rw[rN hu]
 have:=hu.len
 simp only[zK]
 omega
def vG(rs t:List Int):Nat->Nat->List Nat
 | 0,_=>[]
 | k+1,a=>a::vG rs t k (d7 rs t a).toNat
def dD(rs t:List Int)(a:Nat):List Nat:=vG rs t (arS rs (t.getD a default)).toNat (a+1)
theorem eM(rs t:List Int):∀k a,(vG rs t k a).length=k
 | 0,_=>rfl
 | k+1,a=>by simp[vG,eM rs t k]
theorem aOm{rs:List Int}:∀(k:Nat) (p l r:List Int),Fl rs k l->∀x∈vG rs (p++(l++r)) k p.length,p.length≤x/\x<(p++l).length
 | 0,_,_,_,_,x,hx=>by cases hx
 | k+1,p,l,r,h,x,hx=>by
  obtain⟨l1,l2,rfl,h1,h2⟩:=Fl.split l 1 k (by rw[Nat.add_comm];exact h)
  have hl:=h1.len
  simp only[vG,zO] at hx
  rcases hx with rfl|hx
  ·simp only[zK];omega
  ·rw[List.append_assoc,rN h1,show ((p.length:Int)+l1.length).toNat=(p++l1).length by simp;omega,←List.append_assoc p l1 (l2++r)] at hx
   have:=aOm k (p++l1) l2 r h2 x hx
   simp only[zK] at this ⊢
   omega
def dQ(rs t:List Int)(a:Nat):Nat->Nat
 | 0=>a
 | j+1=>(d7 rs t (dQ rs t a j)).toNat
theorem vL(rs t:List Int)(a:Nat):∀j,dQ rs t a (j+1)=dQ rs t (d7 rs t a).toNat j
 | 0=>rfl
 | j+1=>by
  show (d7 rs t (dQ rs t a (j+1))).toNat=_
  rw[vL rs t a j]
  rfl
theorem yA(rs t:List Int):∀(k a:Nat),vG rs t (k+1) a=vG rs t k a++[dQ rs t a k]
 | 0,a=>rfl
 | k+1,a=>by
  show a::vG rs t (k+1) (d7 rs t a).toNat=_
  rw[yA rs t k,vL]
  rfl
theorem wA(rs t:List Int):∀(k a j:Nat),j<k->(vG rs t k a).getD j default=dQ rs t a j
 | 0,_,_,h=>absurd h (Nat.not_lt_zero _)
 | k+1,a,0,_=>rfl
 | k+1,a,j+1,h=>by
  rw[vL,←wA rs t k _ j (by omega)]
  rfl
theorem Fl.cut{rs:List Int}(p r:List Int):∀(j:Nat) (k:Nat) (l:List Int),Fl rs k l->j≤k->∃l1 l2,l=l1++l2/\Fl rs j l1/\Fl rs (k-j) l2/\dQ rs (p++(l++r)) p.length j=(p++l1).length
 | 0,k,l,h,_=>⟨[],l,rfl,.nil,by simpa using h,by simp[dQ]⟩
 | j+1,k,l,h,hj=>by
  obtain⟨l1,l2,rfl,h1,h2,h3⟩:=Fl.cut p r j k l h (by omega)
  obtain⟨m1,m2,rfl,h4,h5⟩:=Fl.split l2 1 (k-(j+1)) (by rw[show 1+(k-(j+1))=k-j by omega];exact h2)
  refine⟨l1++m1,m2,by simp,h1.app h4,h5,?_⟩
  have e:p++(l1++(m1++m2)++r)=(p++l1)++(m1++(m2++r)):=by simp
  show (d7 rs _ (dQ rs _ _ j)).toNat=_
  rw[h3,e,rN h4]
  simp only[zK];omega
theorem aKF{rs t:List Int}(h:aX rs t){a:Nat}(ha:a<t.length):∃p l r,t=p++(t.getD a default::l++r)/\p.length=a/\0≤arS rs (t.getD a default)/\Fl rs (arS rs (t.getD a default)).toNat l:=by
 obtain⟨p,u,r,e,rfl,hu⟩:=h.at ha
 cases hu with
 | @cons n k l h0 hr =>
  have hn:t.getD p.length default=n:=by rw[e];simp[List.getD]
  rw[hn]
  exact⟨p,l,r,by rw[e],rfl,h0,by rw[Nat.zero_add] at hr;exact hr⟩
theorem aDI{rs t:List Int}(h:aX rs t){a:Nat}(ha:a<t.length):∀x∈dD rs t a,a<x/\x<t.length:=by
 obtain⟨p,l,r,e,rfl,h0,hl⟩:=aKF h ha
 intro x hx
 unfold dD at hx
 have e2:t=(p++[t.getD p.length default])++(l++r):=by simpa using e
 have hlen:(p++[t.getD p.length default]).length=p.length+1:=by simp
 have:=aOm _ (p++[t.getD p.length default]) l r hl x (by rw[←e2,hlen];exact hx)
 have h3:=congrArg List.length e2
 simp only[zK,List.length_cons,List.length_nil] at this h3
 omega
theorem nJ{rs t:List Int}(h:aX rs t){a:Nat}(ha:a<t.length){j:Nat}(hj:j<(arS rs (t.getD a default)).toNat):a<dQ rs t (a+1) j/\dQ rs t (a+1) j<t.length:=by
 rw[←wA rs t _ (a+1) j hj]
 exact aDI h ha _ (bA _ _ (by unfold dD;rw[eM];exact hj))
theorem aBM{rs t:List Int}(h:aX rs t){a:Nat}(ha:a<t.length):∀ {j:Nat},j≤(arS rs (t.getD a default)).toNat->a<dQ rs t (a+1) j/\dQ rs t (a+1) j≤t.length
 | 0,_=>by simp only[dQ];omega
 | j+1,hj=>by
  obtain⟨h1,h2⟩:=nJ h ha (show j<_ by omega)
  have:=fN h h2
  simp only[dQ]
  omega
end
section
attribute [local irreducible] SW bC bE dE bU FC dO
def aOk:List (Nat×List Nat):=[(0,[0,1]),(1,[0,1,7,8]),(2,[0,1,7,8,9]),(3,[0,1,5,7,8]),(4,[0,1,5,7,8,16]),(5,[4]),(6,[0,1,7,8]),(7,[4])]
attribute [go_sem] aOk
theorem aAG(tk:Tk)(xs:List (RuleT))(p:RuleT->Prop)(f:Nat)(cap:List D)(ro:List (Nat×List D))(hro:∀p∈ro,Lg.look ro p.1=some p.2)(hf:∀x∈xs,FC S f ro [] [] ([fT x]++cap) (.bool (tst (p x))) [] []):FC S 161 ro [] [] [.sl tk (xs.map fT),.fn f cap] (.int .i64 (aI0 p xs)) [] []:=by
 refine aP Tryz.func161 rfl (by kernel_rfl) (by simp[Tryz.f161]) λB=>?_
 simp only[Tryz.ntmps161,aS,aZ,Nat.reduceAdd]
 refine bZ 0 rfl λhb0=>?_
 simp only[D.bnd,zC] at hb0
 repeat' first|apply aE|apply aG|refine aI 0 aOk λK hK=>?_|((first|apply aD|refine aA (aO ?_)|apply aA);simp(disch:=apply aB;omega)only[go_sem,Tryz.results161])|(apply hK.nil;clear hK K;simp only[go_sem])|fail
 refine bB (ι:=Nat) (λi=>[(8,.int .i64 i)]) (λ_=>[]) (λi=>i≤xs.length/\(∀j<i,¬p (xs.getD j default))) (λi=>xs.length-i) 0 (by(refine aC rfl rfl ?_ ?_ ?_ ?_<;>simp(disch:=apply aB;omega)only[go_sem]<;>(try omega));exact aDj hro) ⟨by omega,?_⟩ (λi ⟨hi,hj⟩=>?_)
 rotate_left
 simp only[go_sem]
 repeat' first|apply aE|apply aG|apply aJ|refine aI 0 aOk λK hK=>?_|((first|apply aD|refine aA (aO ?_)|apply aA);simp(disch:=apply aB;omega)only[go_sem,Tryz.results161])|(apply hK.nil;clear hK K;simp only[go_sem])|((first|refine aF rfl ?_ ?_)<;>intro h<;>try simp(disch:=apply aB;omega)only[go_sem] at h)|refine aT rfl ?_|(with_reducible refine And.intro (by first|omega|(simp only[lens];omega)) ?_)|fail
 ·refine hK.call rfl rfl rfl (hf (xs.getD i default) (bA _ _ (by omega))) ⟨hro,rfl,rfl,(by simp only[dC,Nat.reduceLT])⟩ ?_
  repeat' first|apply aE|apply aM|apply aJ|refine aI 0 aOk λK hK=>?_|((first|apply aD|refine aA (aO ?_)|apply aA);simp(disch:=apply aB;omega)only[go_sem,Tryz.results161])|(apply hK.nil;clear hK K;simp only[go_sem])|((first|refine aF rfl ?_ ?_)<;>intro h<;>try simp(disch:=apply aB;omega)only[go_sem] at h)|apply aL|fail
  ·exact(aOt hj (by omega) h).symm
  ·exact⟨i+1,(by(refine aC rfl rfl ?_ ?_ ?_ ?_<;>simp(disch:=apply aB;omega)only[go_sem]<;>(try omega));exact aDj hro),⟨by omega,bJ hj h⟩,by omega⟩
 ·exact(aFj λj hj'=>hj j (by omega)).symm
 ·intro j hj';omega
def aV6:List (Nat×List Nat):=[(0,[0,1]),(1,[4])]
attribute [go_sem] aV6
theorem tW(tk:Tk)(xs:List (RuleT))(p:RuleT->Prop)(f:Nat)(cap:List D)(ro:List (Nat×List D))(hro:∀p∈ro,Lg.look ro p.1=some p.2)(hf:∀x∈xs,FC S f ro [] [] ([fT x]++cap) (.bool (tst (p x))) [] []):FC S 149 ro [] [] [.sl tk (xs.map fT),.fn f cap] (.bool (tst (∃x∈xs,p x))) [] []:=by
 refine aP Tryz.func149 rfl (by kernel_rfl) (by simp[Tryz.f149]) λB=>?_
 simp only[Tryz.ntmps149,aS,aZ,Nat.reduceAdd]
 repeat' first|apply aE|refine aI 0 aV6 λK hK=>?_|((first|apply aD|refine aA (aO ?_)|apply aA);simp(disch:=apply aB;omega)only[go_sem,Tryz.results149])|(apply hK.nil;clear hK K;simp only[go_sem])|fail
 refine hK.call rfl rfl rfl (aAG _ _ p _ _ ro hro hf) ⟨hro,rfl,rfl,(by simp only[dC,Nat.reduceLT])⟩ ?_
 repeat' first|((first|apply aD|refine aA (aO ?_)|apply aA);simp(disch:=apply aB;omega)only[go_sem,Tryz.results149])|(apply hK.nil;clear hK K;simp only[go_sem])|fail
 exact aNO
def aNW:List (Nat×List Nat):=[(0,[0,1]),(1,[0,1,10]),(2,[4]),(3,[0,1,12,13]),(4,[0,1,12,13,14]),(5,[0,1,5,12,13]),(6,[0,1,12,13,24]),(7,[4]),(8,[0,1,12,13]),(9,[4])]
attribute [go_sem] aNW
theorem uB(tk tk':Tk)(xs ys:List (Int)):FC S 122 [] [] [] [.sl tk (xs.map (.int .i64)),.sl tk' (ys.map (.int .i64))] (.bool (tst (xs=ys))) [] []:=by
 refine aP Tryz.func122 rfl (by kernel_rfl) (by simp[Tryz.f122]) λB=>?_
 simp only[Tryz.ntmps122,aS,aZ,Nat.reduceAdd]
 refine bZ 0 rfl λhb0=>?_
 simp only[D.bnd,zC] at hb0
 refine bZ 1 rfl λhb1=>?_
 simp only[D.bnd,zC] at hb1
 repeat' first|apply aE|apply aG|apply aJ|refine aI 0 aNW λK hK=>?_|((first|apply aD|apply aK|refine aA (aO ?_)|apply aA);simp(disch:=apply aB;omega)only[go_sem,Tryz.results122])|(apply hK.nil;clear hK K;simp only[go_sem])|((first|refine aF rfl ?_ ?_)<;>intro h<;>try simp(disch:=apply aB;omega)only[go_sem] at h)|fail
 ·intro e;exact h (by rw[e])
 refine bB (ι:=Nat) (λi=>[(13,.int .i64 i)]) (λ_=>[]) (λi=>i≤xs.length/\(∀j<i,xs.getD j default=ys.getD j default)) (λi=>xs.length-i) 0 (by(refine aC rfl rfl ?_ ?_ ?_ ?_<;>simp(disch:=apply aB;omega)only[go_sem]<;>(try omega))) ⟨by omega,?_⟩ (λi ⟨hi,hj⟩=>?_)
 rotate_left
 simp only[go_sem]
 repeat' first|apply aE|apply aG|apply aM|apply aJ|refine aI 0 aNW λK hK=>?_|refine aY aNW (by kernel_rfl) λK hK=>?_|((first|apply aD|apply aK|refine aA (aO ?_)|apply aA);simp(disch:=apply aB;omega)only[go_sem,Tryz.results122])|(apply hK.nil;clear hK K;simp only[go_sem])|((first|refine aF rfl ?_ ?_)<;>intro h<;>try simp(disch:=apply aB;omega)only[go_sem] at h)|refine aT rfl ?_|apply aL|(with_reducible refine And.intro (by first|omega|(simp only[lens];omega)) ?_)|fail
 ·intro e;exact h (by rw[e])
 ·exact⟨i+1,by(refine aC rfl rfl ?_ ?_ ?_ ?_<;>simp(disch:=apply aB;omega)only[go_sem]<;>(try omega)),⟨by omega,bJ hj (by assumption)⟩,by omega⟩
 ·exact xP (by assumption) λj hj'=>hj j (by omega)
 ·intro j hj';omega
end
end Go.Proofs.YtpennhjjnlkbiaaGreat
