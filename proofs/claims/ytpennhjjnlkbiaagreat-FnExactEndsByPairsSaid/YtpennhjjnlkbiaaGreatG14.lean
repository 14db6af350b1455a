/-
  Q3, Q4, K12, Q4i, one behind the other.
-/
import Derived.Test.YtpennhjjnlkbiaaGreatG9
import Derived.Test.YtpennhjjnlkbiaaGreatG13
import Derived.Test.YtpennhjjnlkbiaaGreatG4
import Derived.Test.YtpennhjjnlkbiaaGreatLgK18
import Derived.Test.YtpennhjjnlkbiaaGreatG10
namespace Go.Proofs.YtpennhjjnlkbiaaGreat
open Go Go.Lg
set_option linter.unusedSimpArgs false
set_option linter.unusedVariables false
set_option maxHeartbeats 4000000
section
attribute [local irreducible] SW bC bE dE bU FC dO toF dP fV
def aUt:List (Nat×List Nat):=[(0,[0,1]),(1,[0,1,5]),(2,[0,1,5,6]),(3,[0,1,5,6,11]),(5,[0,1,5,6,20]),(6,[0,1,5,6]),(4,[0,1,5,6]),(7,[4])]
attribute [go_sem] aUt
theorem aKS(set gone:List Int)(hl:set.length≤1000):FC S 51 [] [] [] [.sl .any (set.map (.int .i64)),.sl .any (gone.map (.int .i64))] (.sl .any ((gQ set gone).map (.int .i64))) [] []:=by
 refine aP Tryz.func51 rfl (by kernel_rfl) (by simp[Tryz.f51]) λB=>?_
 simp only[Tryz.ntmps51,aS,aZ,Nat.reduceAdd]
 repeat' first|apply aE|apply aG|refine aI 0 aUt λK hK=>?_|((first|apply aD|refine aA (aO ?_)|apply aA);simp(disch:=apply aB;omega)only[go_sem,Tryz.results51])|(apply hK.nil;clear hK K;simp only[go_sem])|fail
 refine dW 5 28000 2 1 rfl (.inr rfl) rfl ?_
 simp only[go_sem]
 refine bG (ι:=Nat) (λi=>[(6,.int .i64 i),(5,.sl (.own 28000 2 1) ((gQ (set.take i) gone).map (.int .i64)))]) (λ_=>[]) (λ_=>[28000]) (λi=>i≤set.length) (λi=>set.length-i) 0 (by(refine aC rfl rfl ?_ ?_ ?_ ?_<;>simp(disch:=apply aB;omega)only[go_sem]<;>(try omega));all_goals exact⟨rfl,rfl⟩) (by omega) (λi hi=>?_)
 simp only[go_sem]
 have hwl:=oN (set.take i) gone
 rw[List.length_take] at hwl
 by_cases hil:i<set.length
 ·repeat' first|((exfalso;omega))|apply aE|apply aG|apply aM|apply aJ|refine aI 0 aUt λK hK=>?_|((first|apply aD|refine aA (aO ?_)|apply aA);simp(disch:=apply aB;omega)only[go_sem,Tryz.results51])|(apply hK.nil;clear hK K;simp only[go_sem])|((first|refine aF rfl ?_ ?_)<;>intro h<;>try simp(disch:=apply aB;omega)only[go_sem] at h)|apply aL|refine hK.c0 rfl rfl rfl (gD _ _ _) rfl rfl rfl ?_|(with_reducible refine And.intro (by first|omega|(simp only[lens];omega)) ?_)|fail
  all_goals first|exact⟨i+1,(by(refine aC rfl rfl ?_ ?_ ?_ ?_<;>simp(disch:=apply aB;omega)only[go_sem]<;>(try omega));rw[aIz hil (by assumption)];exact⟨rfl,by omega⟩),by omega,by omega⟩|exact⟨i+1,(by(refine aC rfl rfl ?_ ?_ ?_ ?_<;>simp(disch:=apply aB;omega)only[go_sem]<;>(try omega));rw[aOa hil (λh=>absurd (by assumption) h)];exact⟨rfl,by omega⟩),by omega,by omega⟩
 ·repeat' first|((exfalso;omega))|apply aE|refine aI 0 aUt λK hK=>?_|((first|apply aD|refine aA (aO ?_)|apply aA);simp(disch:=apply aB;omega)only[go_sem,Tryz.results51])|(apply hK.nil;clear hK K;simp only[go_sem])|((first|refine aF rfl ?_ ?_)<;>intro h<;>try simp(disch:=apply aB;omega)only[go_sem] at h)|refine aT rfl ?_|fail
  rw[List.take_of_length_le (by omega)]
def aTA:List (Nat×List Nat):=[(0,[0,1]),(1,[0,1,5]),(2,[1,5,8,9,10]),(3,[1,5,8,9,10,11]),(4,[1,5,7,8,9,10]),(5,[1,5,7,8,9,10,17]),(6,[1,5,8,9,10]),(7,[1,5,8,9,10]),(8,[4])]
attribute [go_sem] aTA
theorem aCE(set gone:List Int)(hl:set.length≤1000):FC S 58 [] [] [] [.sl .any (set.map (.int .i64)),.sl .any (gone.map (.int .i64))] (.sl .any ((gQ set gone).map (.int .i64))) [] []:=by
 refine aP Tryz.func58 rfl (by kernel_rfl) (by simp[Tryz.f58]) λB=>?_
 simp only[Tryz.ntmps58,aS,aZ,Nat.reduceAdd]
 repeat' first|apply aE|apply aG|refine aI 0 aTA λK hK=>?_|((first|apply aD|refine aA (aO ?_)|apply aA);simp(disch:=apply aB;omega)only[go_sem,Tryz.results58])|(apply hK.nil;clear hK K;simp only[go_sem])|fail
 refine dW 5 22000 2 1 rfl (.inl rfl) rfl ?_
 simp only[go_sem]
 repeat' first|apply aE|apply aG|apply aM|apply aJ|refine aI 0 aTA λK hK=>?_|refine λ(K:KT) (hK:KOk S 0 _ _ _ K)=>?_|((first|apply aD|refine aA (aO ?_)|apply aA);simp(disch:=apply aB;omega)only[go_sem,Tryz.results58])|(apply hK.nil;clear hK K;simp only[go_sem])|((first|refine aF rfl ?_ ?_)<;>intro h<;>try simp(disch:=apply aB;omega)only[go_sem] at h)|refine aT rfl ?_|apply aL|(with_reducible refine And.intro (by first|omega|(simp only[lens];omega)) ?_)|((with_reducible refine And.intro ?_ ?_);· first|(intro x hx;subst hx;rfl)|(intro x;refine And.intro ?_ ?_<;>(intros;subst_vars;rfl)))|fail
 refine bG (ι:=Nat) (λi=>[(10,.int .i64 i),(5,.sl (.own 22000 2 1) ((gQ (set.take i) gone).map (.int .i64)))]) (λ_=>[]) (λ_=>[22000]) (λi=>i≤set.length) (λi=>set.length-i) 0 (by(refine aC rfl rfl ?_ ?_ ?_ ?_<;>simp(disch:=apply aB;omega)only[go_sem]<;>(try omega));all_goals exact⟨rfl,rfl⟩) (by omega) (λi hi=>?_)
 simp only[go_sem]
 have hwl:=oN (set.take i) gone
 rw[List.length_take] at hwl
 by_cases hil:i<set.length
 ·repeat' first|((exfalso;omega))|apply aE|apply aG|apply aM|apply aJ|refine aI 0 aTA λK hK=>?_|((first|apply aD|refine aA (aO ?_)|apply aA);simp(disch:=apply aB;omega)only[go_sem,Tryz.results58])|(apply hK.nil;clear hK K;simp only[go_sem])|((first|refine aF rfl ?_ ?_)<;>intro h<;>try simp(disch:=apply aB;omega)only[go_sem] at h)|apply aL|refine hK.c0 rfl rfl rfl (rI _ _ _) rfl rfl rfl ?_|(with_reducible refine And.intro (by first|omega|(simp only[lens];omega)) ?_)|fail
  all_goals first|exact⟨i+1,(by(refine aC rfl rfl ?_ ?_ ?_ ?_<;>simp(disch:=apply aB;omega)only[go_sem]<;>(try omega));rw[aIz hil (by assumption)];exact⟨rfl,by omega⟩),by omega,by omega⟩|exact⟨i+1,(by(refine aC rfl rfl ?_ ?_ ?_ ?_<;>simp(disch:=apply aB;omega)only[go_sem]<;>(try omega));rw[aOa hil (λh=>absurd (by assumption) h)];exact⟨rfl,by omega⟩),by omega,by omega⟩
 ·repeat' first|((exfalso;omega))|apply aE|refine aI 0 aTA λK hK=>?_|((first|apply aD|refine aA (aO ?_)|apply aA);simp(disch:=apply aB;omega)only[go_sem,Tryz.results58])|(apply hK.nil;clear hK K;simp only[go_sem])|((first|refine aF rfl ?_ ?_)<;>intro h<;>try simp(disch:=apply aB;omega)only[go_sem] at h)|refine aT rfl ?_|fail
  rw[List.take_of_length_le (by omega)]
def aUs:List (Nat×List Nat):=[(0,[0]),(1,[0,3]),(2,[0,3,4]),(3,[0,3,4,8]),(5,[0,3,4]),(4,[0,3,4]),(6,[2])]
attribute [go_sem] aUs
theorem aJd(n:Nat)(hn:n≤1000):FC S 84 [] [] [] [.int .i64 n] (.sl .any ((upTo n).map (.int .i64))) [] []:=by
 refine aP Tryz.func84 rfl (by kernel_rfl) (by simp[Tryz.f84]) λB=>?_
 simp only[Tryz.ntmps84,aS,aZ,Nat.reduceAdd]
 repeat' first|apply aE|apply aG|refine aI 0 aUs λK hK=>?_|((first|apply aD|refine aA (aO ?_)|apply aA);simp(disch:=apply aB;omega)only[go_sem,Tryz.results84])|(apply hK.nil;clear hK K;simp only[go_sem])|fail
 refine dW 3 15000 2 1 rfl (.inr rfl) rfl ?_
 simp only[go_sem]
 refine bG (ι:=Nat) (λi=>[(4,.int .i64 i),(3,.sl (.own 15000 2 1) ((upTo i).map (.int .i64)))]) (λ_=>[]) (λ_=>[15000]) (λi=>i≤n) (λi=>n-i) 0 (by(refine aC rfl rfl ?_ ?_ ?_ ?_<;>simp(disch:=apply aB;omega)only[go_sem]<;>(try omega));all_goals exact⟨rfl,rfl⟩) (by omega) (λi hi=>?_)
 simp only[go_sem]
 have hwl:=l9 i
 by_cases hil:i<n
 ·repeat' first|((exfalso;omega))|apply aE|apply aG|apply aM|apply aJ|refine aI 0 aUs λK hK=>?_|((first|apply aD|refine aA (aO ?_)|apply aA);simp(disch:=apply aB;omega)only[go_sem,Tryz.results84])|(apply hK.nil;clear hK K;simp only[go_sem])|((first|refine aF rfl ?_ ?_)<;>intro h<;>try simp(disch:=apply aB;omega)only[go_sem] at h)|apply aL|(with_reducible refine And.intro (by first|omega|(simp only[lens];omega)) ?_)|fail
  all_goals exact⟨i+1,(by(refine aC rfl rfl ?_ ?_ ?_ ?_<;>simp(disch:=apply aB;omega)only[go_sem]<;>(try omega));rw[aFi];exact⟨rfl,by omega⟩),by omega,by omega⟩
 ·repeat' first|((exfalso;omega))|apply aE|refine aI 0 aUs λK hK=>?_|((first|apply aD|refine aA (aO ?_)|apply aA);simp(disch:=apply aB;omega)only[go_sem,Tryz.results84])|(apply hK.nil;clear hK K;simp only[go_sem])|((first|refine aF rfl ?_ ?_)<;>intro h<;>try simp(disch:=apply aB;omega)only[go_sem] at h)|refine aT rfl ?_|fail
  rw[show n=i by omega]
def aYK:List (Nat×List Nat):=[(0,[0]),(1,[2])]
attribute [go_sem] aYK
theorem aQm(P:List DepPairT)(hn:P.length≤1000):FC S 49 [] [] [] [.sl .any (P.map bK)] (.sl .any ((upTo P.length).map (.int .i64))) [] []:=by
 refine aP Tryz.func49 rfl (by kernel_rfl) (by simp[Tryz.f49]) λB=>?_
 simp only[Tryz.ntmps49,aS,aZ,Nat.reduceAdd]
 repeat' first|apply aE|refine aI 0 aYK λK hK=>?_|((first|apply aD|refine aA (aO ?_)|apply aA);simp(disch:=apply aB;omega)only[go_sem,Tryz.results49])|(apply hK.nil;clear hK K;simp only[go_sem])|refine hK.c0 rfl rfl rfl (aJd P.length hn) rfl rfl rfl ?_|fail
def aY0:List (Nat×List Nat):=[(0,[0]),(1,[2])]
attribute [go_sem] aY0
theorem aR5(P:List DepPairT)(hn:P.length≤1000):FC S 54 [] [] [] [.sl .any (P.map bK)] (.sl .any ((upTo P.length).map (.int .i64))) [] []:=by
 have hul:=l9 P.length
 refine aP Tryz.func54 rfl (by kernel_rfl) (by simp[Tryz.f54]) λB=>?_
 simp only[Tryz.ntmps54,aS,aZ,Nat.reduceAdd]
 repeat' first|(refine kQ 2 1 .any ((upTo P.length).map (.int .i64)) (id:=5) (n:=P.length) (cs:=(upTo P.length).map (.int .i64)) rfl (by simp[Lg.look]) (cB _).symm (by simp[l9]) (eZ λ_=>rfl) (dU _) (.inl rfl) ?_;simp only[go_sem])|apply aE|refine aI 0 aY0 λK hK=>?_|((first|apply aD|refine aA (aO ?_)|apply aA);simp(disch:=apply aB;omega)only[go_sem,Tryz.results54])|(apply hK.nil;clear hK K;simp only[go_sem])|(refine hK.callM rfl rfl rfl (aHt P.length hn) ⟨⟨by simp only[Nat.reduceLT],by simp,by simp[Lg.look]⟩,by first|exact dU _|simp⟩ ?_;simp(disch:=apply aB;omega)only[go_sem])|fail
end
section
attribute [local irreducible] SW bC bE dE bU FC dO aBv CM okC prS
theorem aFW(edges:List (List Int))(set:List Int)(hn:edges.length≤1000)(hin:∀q∈set,0≤q/\q<edges.length)(hEl:∀i<edges.length,(edges.getD i default).length≤1000)(hs:lQ set)(hsl:set.length≤64):FC S 48 [] [] [] [.sl .any (edges.map b6),.sl .any (set.map (.int .i64))] (.sl (.own 0 22 1) ((fE edges set).map b6)) [] [0]:=by
 have hp0:∀q∈set,0≤q:=λq hq=>(hin q hq).1
 have hC:fE edges set=cmp (CM edges set) set set.length:=by unfold CM;rfl
 rw[hC]
 obtain⟨A,hA⟩:∃A,A=set.map (aBv edges set):=⟨_,rfl⟩
 have hAl:A.length=set.length:=by rw[hA,zC]
 have hAg:∀i<set.length,A.getD i default=aBv edges set (set.getD i default):=λi hi=>by
  rw[hA,zD,zI,zB hi,zD,zB hi];rfl
 refine oY Tryz.func48 rfl (by kernel_rfl) (by simp[Tryz.f48]) λB=>?_
 simp only[Tryz.ntmps48,aS,aZ,Nat.reduceAdd]
 repeat' first|apply aE|apply aG|refine aI 0 wY λK hK=>?_|((first|apply aD|apply aK|refine aA (aO ?_)|apply aA);simp(disch:=apply aB;omega)only[go_sem,Tryz.results48])|(apply hK.nil;clear hK K;simp only[go_sem])|fail
 refine dW 5 29000 22 1 rfl (.inr rfl) rfl ?_
 simp only[go_sem]
 refine bG (ι:=Nat) (λi=>[(0,.sl .any (edges.map b6)),(1,.sl .any (set.map (.int .i64))),(6,.int .i64 i),(5,.sl (.own 29000 22 1) ((A.take i).map b6))]) (λ_=>[]) (λ_=>[29000]) (λi=>i≤set.length) (λi=>set.length-i) 0 (by(refine aC rfl rfl ?_ ?_ ?_ ?_<;>simp(disch:=apply aB;omega)only[go_sem]<;>(try omega));all_goals exact⟨rfl,rfl⟩) (by omega) (λi hi=>?_)
 simp only[go_sem]
 have htl:(A.take i).length≤64:=by rw[List.length_take];omega
 by_cases hil:i<set.length
 ·have cA:=aKe edges set (set.getD i default) hn hin (hin _ (bA set i hil)) hEl hs (by omega)
  rw[←hAg i hil] at cA
  repeat' first|((exfalso;omega))|apply aE|apply aG|apply aM|apply aJ|refine aI 0 wY λK hK=>?_|((first|apply aD|apply aK|refine aA (aO ?_)|apply aA);simp(disch:=apply aB;omega)only[go_sem,Tryz.results48])|(apply hK.nil;clear hK K;simp only[go_sem])|((first|refine aH rfl rfl rfl rfl rfl ?_ ?_|refine aN rfl rfl rfl rfl rfl ?_ ?_|refine aF rfl ?_ ?_)<;>intro h<;>try simp(disch:=apply aB;omega)only[go_sem] at h)|apply aL|refine hK.c0 rfl rfl rfl (cA) rfl rfl rfl ?_|(with_reducible refine And.intro (by first|omega|(simp only[lens];omega)) ?_)|fail
  all_goals exact⟨i+1,(by(refine aC rfl rfl ?_ ?_ ?_ ?_<;>simp(disch:=apply aB;omega)only[go_sem]<;>(try omega));all_goals first|(refine⟨by omega,?_⟩;rw[List.take_add_one,zB (by omega),List.map_append,zD,zB (by omega)];rfl)|(refine⟨?_,by omega⟩;rw[List.take_add_one,zB (by omega),List.map_append,zD,zB (by omega)];rfl)|trace_state),by omega,by omega⟩
 ·have e:A.take i=A:=List.take_of_length_le (by omega)
  rw[e]
  repeat' first|((exfalso;omega))|((refine dW 7 100000 22 1 rfl (.inr rfl) rfl ?_;simp only[go_sem]))|((refine dW 8 96000 2 1 rfl (.inr rfl) rfl ?_;simp only[go_sem]))|apply aE|apply aG|refine aI 0 wY λK hK=>?_|((first|apply aD|apply aK|refine aA (aO ?_)|apply aA);simp(disch:=apply aB;omega)only[go_sem,Tryz.results48])|(apply hK.nil;clear hK K;simp only[go_sem])|((first|refine aH rfl rfl rfl rfl rfl ?_ ?_|refine aN rfl rfl rfl rfl rfl ?_ ?_|refine aF rfl ?_ ?_)<;>intro h<;>try simp(disch:=apply aB;omega)only[go_sem] at h)|refine aT rfl ?_|fail
  refine bG (ι:=Nat×List Int) (λq=>[(1,.sl .any (set.map (.int .i64))),(5,.sl (.own 29000 22 1) (A.map b6)),(7,.sl (.own 100000 22 1) ((cmp (CM edges set) set q.1).map b6)),(8,.sl (.own 96000 2 1) (q.2.map (.int .i64))),(9,.int .i64 q.1)]) (λ_=>[]) (λ_=>[29000,100000,96000]) (λq=>q.1≤set.length/\qD edges set q.1 q.2/\q.2.length≤64*q.1) (λq=>set.length-q.1) (0,[]) (by(refine aC rfl rfl ?_ ?_ ?_ ?_<;>simp(disch:=apply aB;omega)only[go_sem]<;>(try omega));all_goals first|exact⟨rfl,rfl⟩|exact⟨rfl,rfl,rfl⟩|trace_state) ⟨by simp,qD.start,by simp⟩ (λq hq=>?_)
  obtain⟨k,done⟩:=q
  obtain⟨h1,h2,h3⟩:=hq
  dsimp only at h1 h2 h3
  simp only[go_sem]
  have hcl:=aBJ (CM edges set) set k
  by_cases hkl:k<set.length
  ·have hok:=h2.ok hkl
   rw[←hAg k hkl] at hok
   have c1:=gD .any (A.getD k default) (set.getD k default)
   have c2:=gD (.own 96000 2 1) done (set.getD k default)
   by_cases ho:okC (CM edges set) set k
   ·obtain⟨o1,o2⟩:=hok.1 ho
    repeat' first|((exfalso;omega))|((exact absurd o1 (by assumption)))|((exact absurd (by assumption) o2))|((refine dW 10 89000 2 1 rfl (.inr rfl) rfl ?_;simp only[go_sem]))|apply aE|apply aG|apply aJ|refine aI 0 wY λK hK=>?_|refine aY wY (by kernel_rfl) λK hK=>?_|((first|apply aD|apply aK|refine aA (aO ?_)|apply aA);simp(disch:=apply aB;omega)only[go_sem,Tryz.results48])|(apply hK.nil;clear hK K;simp only[go_sem])|((first|refine aH rfl rfl rfl rfl rfl ?_ ?_|refine aN rfl rfl rfl rfl rfl ?_ ?_|refine aF rfl ?_ ?_)<;>intro h<;>try simp(disch:=apply aB;omega)only[go_sem] at h)|refine hK.c0 rfl rfl rfl (c1) rfl rfl rfl ?_|refine hK.c0 rfl rfl rfl (c2) rfl rfl rfl ?_|(with_reducible refine And.intro (by first|omega|(simp only[lens];omega)) ?_)|fail
    refine bG (ι:=Nat) (λj=>[(1,.sl .any (set.map (.int .i64))),(5,.sl (.own 29000 22 1) (A.map b6)),(7,.sl (.own 100000 22 1) ((cmp (CM edges set) set k).map b6)),(8,.sl (.own 96000 2 1) ((done++prS edges set k j).map (.int .i64))),(9,.int .i64 k),(10,.sl (.own 89000 2 1) ((prS edges set k j).map (.int .i64))),(11,.int .i64 j)]) (λ_=>[]) (λ_=>[29000,100000,96000,89000]) (λj=>j≤set.length) (λj=>set.length-j) 0 (by(refine aC rfl rfl ?_ ?_ ?_ ?_<;>simp(disch:=apply aB;omega)only[go_sem]<;>(try omega));all_goals first|exact⟨by rw[aJO,List.append_nil],by rw[aJO];rfl,rfl⟩|trace_state) (by omega) (λj hj=>?_)
    simp only[go_sem]
    have hpl:=aVe (edges:=edges) (set:=set) k j
    have hdl:(done++prS edges set k j).length≤64*k+64:=by rw[zK];omega
    by_cases hjl:j<set.length
    ·have hb:eL (CM edges set) (set.getD k default).toNat (set.getD j default).toNat=true↔(set.getD j default∈A.getD k default/\set.getD k default∈A.getD j default):=by
      rw[wZ,hAg k hkl,hAg j hjl,aM7 (bA set k hkl) (bA set j hjl),aM7 (bA set j hjl) (bA set k hkl)]
     have d1:=gD .any (A.getD k default) (set.getD j default)
     have d2:=gD .any (A.getD j default) (set.getD k default)
     by_cases hbb:eL (CM edges set) (set.getD k default).toNat (set.getD j default).toNat=true
     ·obtain⟨b1,b2⟩:=hb.1 hbb
      have e:=aU3 hjl hbb
      repeat' first|((exfalso;omega))|((exact absurd b1 (by assumption)))|((exact absurd b2 (by assumption)))|((refine⟨List.mem_filter.2 ⟨by simp,by simp⟩,λx=>⟨λy _ ee=>?_,λy _ ee=>?_⟩,?_,?_,?_⟩;(· subst ee;rfl);(· subst ee;rfl);(· omega);(· omega)))|apply aE|apply aG|apply aM|apply aJ|refine aI 0 wY λK hK=>?_|refine aY wY (by kernel_rfl) λK hK=>?_|((first|apply aD|apply aK|refine aA (aO ?_)|apply aA);simp(disch:=apply aB;omega)only[go_sem,Tryz.results48])|(apply hK.nil;clear hK K;simp only[go_sem])|((first|refine aH rfl rfl rfl rfl rfl ?_ ?_|refine aN rfl rfl rfl rfl rfl ?_ ?_|refine aF rfl ?_ ?_)<;>intro h<;>try simp(disch:=apply aB;omega)only[go_sem] at h)|apply aL|refine hK.c0 rfl rfl rfl (d1) rfl rfl rfl ?_|refine hK.c0 rfl rfl rfl (d2) rfl rfl rfl ?_|(with_reducible refine And.intro (by first|omega|(simp only[lens];omega)) ?_)|fail
      all_goals exact⟨j+1,(by rw[e,←List.append_assoc];(refine aC rfl rfl ?_ ?_ ?_ ?_<;>simp(disch:=apply aB;omega)only[go_sem]<;>(try omega));all_goals first|exact⟨rfl,rfl,by omega⟩|(simp;done)|trace_state),by omega,by omega⟩
     ·have e:=aWZ hjl hbb
      repeat' first|((exfalso;omega))|((exact absurd (hb.2 ⟨by assumption,by assumption⟩) hbb))|apply aE|apply aG|apply aM|apply aJ|refine aI 0 wY λK hK=>?_|refine aY wY (by kernel_rfl) λK hK=>?_|((first|apply aD|apply aK|refine aA (aO ?_)|apply aA);simp(disch:=apply aB;omega)only[go_sem,Tryz.results48])|(apply hK.nil;clear hK K;simp only[go_sem])|((first|refine aH rfl rfl rfl rfl rfl ?_ ?_|refine aN rfl rfl rfl rfl rfl ?_ ?_|refine aF rfl ?_ ?_)<;>intro h<;>try simp(disch:=apply aB;omega)only[go_sem] at h)|refine hK.skp rfl rfl ?_|apply aL|refine hK.c0 rfl rfl rfl (d1) rfl rfl rfl ?_|refine hK.c0 rfl rfl rfl (d2) rfl rfl rfl ?_|(with_reducible refine And.intro (by first|omega|(simp only[lens];omega)) ?_)|fail
      all_goals exact⟨j+1,(by rw[e];(refine aC rfl rfl ?_ ?_ ?_ ?_<;>simp(disch:=apply aB;omega)only[go_sem]<;>(try omega));all_goals first|exact⟨rfl,rfl,by omega⟩|(simp;done)|trace_state),by omega,by omega⟩
    ·have hpe:=aW9 hkl ho (k:=j) (by omega)
     have hcy:=aBP ho
     have hdy:=h2.yes ho (k:=j) (by omega)
     repeat' first|((exfalso;omega))|apply aE|apply aM|refine aI 0 wY λK hK=>?_|((first|apply aD|apply aK|refine aA (aO ?_)|apply aA);simp(disch:=apply aB;omega)only[go_sem,Tryz.results48])|(apply hK.nil;clear hK K;simp only[go_sem])|((first|refine aH rfl rfl rfl rfl rfl ?_ ?_|refine aN rfl rfl rfl rfl rfl ?_ ?_|refine aF rfl ?_ ?_)<;>intro h<;>try simp(disch:=apply aB;omega)only[go_sem] at h)|refine aT rfl ?_|apply aL|(with_reducible refine And.intro (by first|omega|(simp only[lens];omega)) ?_)|fail
     all_goals exact⟨(k+1,done++prS edges set k j),(by rw[hcy,←hpe];(refine aC rfl rfl ?_ ?_ ?_ ?_<;>simp(disch:=apply aB;omega)only[go_sem]<;>(try omega));all_goals first|(refine⟨?_,?_⟩;(· rw[List.map_append];rfl);(· omega))|exact⟨rfl,rfl,by omega⟩|(simp;done)|trace_state),⟨by dsimp only;omega,hdy,by dsimp only;omega⟩,by dsimp only;omega⟩
   ·have hcn:=aC5 ho
    have hdn:=h2.no ho
    repeat' first|((exfalso;omega))|((exact absurd (hok.2 ⟨by assumption,by assumption⟩) ho))|apply aE|apply aG|apply aJ|refine aI 0 wY λK hK=>?_|refine aY wY (by kernel_rfl) λK hK=>?_|((first|apply aD|apply aK|refine aA (aO ?_)|apply aA);simp(disch:=apply aB;omega)only[go_sem,Tryz.results48])|(apply hK.nil;clear hK K;simp only[go_sem])|((first|refine aH rfl rfl rfl rfl rfl ?_ ?_|refine aN rfl rfl rfl rfl rfl ?_ ?_|refine aF rfl ?_ ?_)<;>intro h<;>try simp(disch:=apply aB;omega)only[go_sem] at h)|refine hK.skp rfl rfl ?_|refine aT rfl ?_|apply aL|refine hK.c0 rfl rfl rfl (c1) rfl rfl rfl ?_|refine hK.c0 rfl rfl rfl (c2) rfl rfl rfl ?_|(with_reducible refine And.intro (by first|omega|(simp only[lens];omega)) ?_)|fail
    all_goals exact⟨(k+1,done),(by rw[hcn];(refine aC rfl rfl ?_ ?_ ?_ ?_<;>simp(disch:=apply aB;omega)only[go_sem]<;>(try omega))),⟨by dsimp only;omega,hdn,by dsimp only;omega⟩,by dsimp only;omega⟩
  ·repeat' first|((exfalso;omega))|apply aE|refine aI 0 wY λK hK=>?_|((first|apply aD|apply aK|refine aA (aO ?_)|apply aA);simp(disch:=apply aB;omega)only[go_sem,Tryz.results48])|(apply hK.nil;clear hK K;simp only[go_sem])|((first|refine aH rfl rfl rfl rfl rfl ?_ ?_|refine aN rfl rfl rfl rfl rfl ?_ ?_|refine aF rfl ?_ ?_)<;>intro h<;>try simp(disch:=apply aB;omega)only[go_sem] at h)|refine aT rfl ?_|fail
   all_goals (rw[show set.length=k by omega];exact mU rfl (by simp))
end
section
attribute [local irreducible] SW bC bE dE bU FC dO toF dP fV
theorem aN6{x:SystemT}{q pr:List Int}(hx:gH x)(h:gG x.sig (bL x) q=some pr):p8 x.sig pr:=by
 obtain⟨_,hb,hm⟩:=aIe h
 exact tB hx.1.1.1 (j1 (aLZ hx.1.1.1 hb) pr hm)
theorem aEJ{x:SystemT}{q l:List Int}(hx:gH x)(h:gY x (bL x) q=some l):e7 x.sig (lT x.sig l)/\kU x ((lT x.sig l).take x.sig.length):=by
 obtain⟨⟨hA,_⟩,hm⟩:=aIL h
 have hd:=j1 (aAt (wN _ _)) l hm
 obtain⟨h1,h2⟩:=aOp hx.1.1.1 hd
 obtain⟨h3,h4⟩:=aAd h1 h2
 exact⟨h3,by unfold lT;rw[h4];exact hA⟩
def aUE:List (Nat×List Nat):=[(0,[1,2,4]),(1,[1,2,4,6,7]),(2,[1,2,4,6,20]),(3,[1,4,6,8]),(4,[4,5]),(5,[1,2,4,10,11]),(6,[1,2,4,10,38]),(7,[1,4,10,12]),(8,[4,5]),(9,[4,5])]
attribute [go_sem] aUE
theorem aLd(x:SystemT)(hx:gH x)(q:List Int)(hS:fI q (bL x).length):FC S 50 [] [] [] [bP x,.sl .any (q.map (.int .i64))] (.tup [iC (jD x q).1,.bool (jD x q).2]) [] []:=by
 have hM:m8 x q:=⟨hx,hS⟩
 have c1:=aAB x q
 have c3:=vA x q
 rw[aDu hM] at c1
 rw[aFd hM] at c3
 cases hj:gG x.sig (bL x) q with
 | some pr =>
  have hpj:=aN6 hx hj
  have c2:=mN x q pr
  rw[aAx ⟨hM,hpj⟩] at c2
  rw[uQ hj]
  rw[hj] at c1
  generalize jR x.sig (bL x) q pr=J at *
  obtain⟨g,ok⟩:=J
  dsimp only[vK] at c1 c2 ⊢
  refine aP Tryz.func50 rfl (by kernel_rfl) (by simp[Tryz.f50]) λB=>?_
  simp only[Tryz.ntmps50,aS,aZ,Nat.reduceAdd]
  repeat' first|apply aE|refine aI 0 aUE λK hK=>?_|((first|apply aD|refine aA (aO ?_)|apply aA);simp(disch:=apply aB;omega)only[go_sem,Tryz.results50])|(apply hK.nil;clear hK K;simp only[go_sem])|((first|refine aF rfl ?_ ?_)<;>intro h<;>try simp(disch:=apply aB;omega)only[go_sem] at h)|refine hK.c0 rfl rfl rfl (c1) rfl rfl rfl ?_|refine hK.c0 rfl rfl rfl (c2) rfl rfl rfl ?_|fail
 | none =>
  rw[hj] at c1
  cases hm:gY x (bL x) q with
  | some l =>
   obtain⟨h1,h2⟩:=aEJ hx hm
   have c4:=aAb x q (lT x.sig l)
   rw[aCx ⟨⟨hM,h1⟩,h2⟩] at c4
   rw[vF hj hm]
   rw[hm] at c3
   generalize wR x.sig (bL x) q (lT x.sig l)=J at *
   obtain⟨g,ok⟩:=J
   dsimp only[aBo,vK] at c1 c3 c4 ⊢
   generalize lT x.sig l=ps at *
   refine aP Tryz.func50 rfl (by kernel_rfl) (by simp[Tryz.f50]) λB=>?_
   simp only[Tryz.ntmps50,aS,aZ,Nat.reduceAdd]
   repeat' first|apply aE|apply aJ|refine aI 0 aUE λK hK=>?_|((first|apply aD|refine aA (aO ?_)|apply aA);simp(disch:=apply aB;omega)only[go_sem,Tryz.results50])|(apply hK.nil;clear hK K;simp only[go_sem])|((first|refine aF rfl ?_ ?_)<;>intro h<;>try simp(disch:=apply aB;omega)only[go_sem] at h)|refine hK.c0 rfl rfl rfl (c1) rfl rfl rfl ?_|refine hK.c0 rfl rfl rfl (c3) rfl rfl rfl ?_|refine hK.c0 rfl rfl rfl (c4) rfl rfl rfl ?_|fail
  | none =>
   rw[aCV hj hm]
   rw[hm] at c3
   dsimp only[aBo,vK] at c1 c3 ⊢
   refine aP Tryz.func50 rfl (by kernel_rfl) (by simp[Tryz.f50]) λB=>?_
   simp only[Tryz.ntmps50,aS,aZ,Nat.reduceAdd]
   repeat' first|apply aE|apply aJ|refine aI 0 aUE λK hK=>?_|((first|apply aD|refine aA (aO ?_)|apply aA);simp(disch:=apply aB;omega)only[go_sem,Tryz.results50])|(apply hK.nil;clear hK K;simp only[go_sem])|((first|refine aF rfl ?_ ?_)<;>intro h<;>try simp(disch:=apply aB;omega)only[go_sem] at h)|refine hK.c0 rfl rfl rfl (c1) rfl rfl rfl ?_|refine hK.c0 rfl rfl rfl (c3) rfl rfl rfl ?_|fail
def aHb:List (Nat×List Nat):=[(0,[1]),(1,[1,4,5]),(2,[1,4,17]),(3,[2,3]),(4,[1,4,6]),(5,[1,6,7]),(6,[1,6,7,8]),(7,[1,6,7,8,29]),(8,[1,6,7,8,9,10]),(9,[1,6,7,8,9,39]),(10,[2,3]),(11,[1,6,7,8,9]),(12,[1,6,7,8]),(13,[2,3])]
attribute [go_sem] aHb
theorem aDP(x:SystemT):FC S 20 [] [] [] [bP x] (.tup [.sl .any ((nW x).1.map iC),.bool (nW x).2]) [] []:=by
 have cP:=iI x
 rcases Classical.em (gH x) with hx|hx
 ·rw[fA hx] at cP
  have h64:(bL x).length≤64:=hx.2
  obtain⟨g1,g2,g3⟩:=aIf hx
  have cG:=aJr x hx.1 (bL x) (kZ hx) h64
  have cA:=aQm (bL x) (by omega)
  rw[aC0 hx]
  generalize eE x (bL x) (bL x).length=gr at *
  have cT:∀set,fI set (bL x).length->FC S 48 [] [] [] [.sl .any (gr.map b6),.sl .any (set.map (.int .i64))] (.sl (.own 0 22 1) ((fE gr set).map b6)) [] [0]:=λset hS=>aFW gr set (by omega) (by rw[g1];exact rX hS) (λi hi=>by have:=g2 i hi;omega) (pO hS) (by have:=lO hS;omega)
  have hul:=l9 (bL x).length
  have hT0:=aSE (gr:=gr) h64
  have cT0:=cT _ (vJ _)
  have hto:=@yI gr (upTo (bL x).length)
  generalize hans:trF x gr 65 (fE gr (upTo (bL x).length)) []=ans
  refine aP Tryz.func20 rfl (by kernel_rfl) (by simp[Tryz.f20]) λB=>?_
  simp only[Tryz.ntmps20,aS,aZ,Nat.reduceAdd]
  repeat' first|apply aE|apply aG|apply aJ|refine aI 0 aHb λK hK=>?_|((first|apply aD|apply aK|refine aA (aO ?_)|apply aA);simp(disch:=apply aB;omega)only[go_sem,Tryz.results20])|(apply hK.nil;clear hK K;simp only[go_sem])|((first|refine aF rfl ?_ ?_)<;>intro h<;>try simp(disch:=apply aB;omega)only[go_sem] at h)|refine hK.c0 rfl rfl rfl (cP) rfl rfl rfl ?_|refine hK.c0 rfl rfl rfl (cG) rfl rfl rfl ?_|refine hK.c0 rfl rfl rfl (cA) rfl rfl rfl ?_|(refine hK.callB rfl rfl rfl (cT0) ⟨⟨by simp only[Nat.reduceLT],(by first|(simp;all_goals fail)|(simp[LS.getBox,Lg.look];all_goals fail)),by(simp[Lg.look];all_goals fail),by(simp;all_goals fail),by(simp;all_goals fail)⟩,⟨by(simp[D.ids,D.idsL];all_goals fail),by(simp[D.ids,D.idsL];all_goals fail),by(simp[D.tks,D.tksL];all_goals fail),by(simp[D.tks,D.tksL];all_goals fail),by(simp;all_goals fail)⟩,rfl⟩ ?_;simp(disch:=apply aB;omega)only[go_sem])|fail
  refine dW 8 45000 81 4 rfl (.inr rfl) rfl ?_
  simp only[go_sem]
  refine bG (ι:=Nat×List (List Int)×List PairStepT) (λq=>[(7,.sl .any (q.2.1.map b6)),(8,.sl (.own 45000 81 4) (q.2.2.map iC))]) (λ_=>[]) (λ_=>[45000]) (λq=>(aDr (bL x).length q.2.2.length q.2.1/\q9 q.2.1+q.2.2.length≤64)/\q9 q.2.1<q.1/\trF x gr q.1 q.2.1 q.2.2=ans) (λq=>q.1) (65,fE gr (upTo (bL x).length),[]) (by(refine aC rfl rfl ?_ ?_ ?_ ?_<;>simp(disch:=apply aB;omega)only[go_sem]<;>(try omega));all_goals first|exact⟨rfl,rfl⟩|rfl) ⟨⟨hT0,by simp;omega⟩,by dsimp only;omega,hans⟩ (λq hq=>?_)
  obtain⟨f,T,out⟩:=q
  obtain⟨⟨hO,ht1⟩,ht2,hf⟩:=hq
  dsimp only at hO ht1 ht2 hf
  simp only[go_sem]
  have hTl:=hO.2
  obtain⟨f,rfl⟩:∃g,f=g+1:=⟨f-1,by omega⟩
  cases T with
  | nil =>
   rw[aND] at hf
   subst hf
   repeat' first|((exfalso;omega))|apply aE|refine aI 0 aHb λK hK=>?_|((first|apply aD|apply aK|refine aA (aO ?_)|apply aA);simp(disch:=apply aB;omega)only[go_sem,Tryz.results20])|(apply hK.nil;clear hK K;simp only[go_sem])|((first|refine aF rfl ?_ ?_)<;>intro h<;>try simp(disch:=apply aB;omega)only[go_sem] at h)|refine aT rfl ?_|fail
  | cons q r =>
   have hq:=hO.1 q zH
   have hql:=lO hq
   have hrl:r.length≤5000:=by rw[List.length_cons] at hTl;omega
   have hdr:List.drop (Int.toNat 1) (D.sl Tk.any (List.map (D.int IntKind.i64) q)::List.map b6 r)=List.map b6 r:=rfl
   have hr1:∀x∈List.map b6 r,x.cells.length=1:=λx hx=>by obtain⟨y,_,rfl⟩:=zJ.1 hx;rfl
   have cS:=aLd x hx q hq
   have hy:=@aNA x gr f q r out
   have hn:=@aS7 x gr f q r out
   have htl:=@aKa x gr q r
   generalize jD x q=J at *
   obtain⟨s,ok⟩:=J
   dsimp only at cS hy hn htl
   have hp1:=@oV gr (gQ q s.gone)
   have hp2:=oN q s.gone
   have cW:=aKS q s.gone (by omega)
   have cL:=cT _ (xG (gone:=s.gone) hq)
   cases ok with
   | false =>
    rw[hn rfl] at hf
    subst hf
    repeat' first|((exfalso;omega))|((refine aAM (id:=8) aHb [(false,[]),(true,[]),(false,[1]),(false,[2]),(false,[0,3]),(true,[4]),(false,[5]),(false,[5]),(false,[]),(false,[8,6,4,0,1,2,3,4,5,6,8]),(false,[7,9,0,1,2,3,4,5,6,7,8,9])] ⟨57,[(1,.box 1 0),(6,.sl .any (gr.map b6)),(7,.sl .any ((q::r).map b6)),(8,.sl (.own 45000 81 4) (out.map iC)),(9,.box 9 0),(10,.bool false)],[(1,[.sl .any (x.sig.map (.int .i64)),.sl .any (x.rules.map fT)]),(9,(iC s).cells)],[],[45000],[]⟩ (by kernel_rfl) ?_ ?_;simp only[List.length_cons,List.length_nil,Nat.reduceAdd]))|((refine oL ?_;simp only[tH,tF,aFw,aE1,aEA,aFJ,y2,aAy,aAf,yH,tA,sW,sI,y8,aAv,true_and,and_true,Bool.not_false,Bool.not_true,Bool.and_true,Bool.and_false,Bool.true_and,Bool.false_and,Bool.or_false,Bool.false_or,Bool.true_or,Bool.or_true,Nat.reduceBEq,Nat.reduceAdd]))|((refine sB (by simp only[Nat.reduceLT]) rfl (by simp only[go_sem];exact rfl) ?_))|((refine hK.nil (tO ?_);clear hK K))|((refine n9 ?_ ?_))|((refine iS 0 ?_;refine λ(K:List Oper->LS->Prop) (hK:KOk S 0 _ _ _ K)=>?_;simp(disch:=apply aB;omega)only[go_sem]))|((refine oC ?_;simp(disch:=apply aB;omega)only[go_sem];(refine aC rfl rfl ?_ ?_ ?_ ?_<;>simp(disch:=apply aB;omega)only[go_sem]<;>(try omega));done))|apply aE|apply aG|apply aJ|refine aI 0 aHb λK hK=>?_|((first|apply aD|apply aK|refine aA (aO ?_)|apply aA);simp(disch:=apply aB;omega)only[go_sem,Tryz.results20])|(apply hK.nil;clear hK K;simp only[go_sem])|((first|refine aF rfl ?_ ?_)<;>intro h<;>try simp(disch:=apply aB;omega)only[go_sem] at h)|refine hK.c0 rfl rfl rfl (cS) rfl rfl rfl ?_|(with_reducible refine And.intro (by first|omega|(simp only[lens];omega)) ?_)|fail
   | true =>
    rw[hy rfl] at hf
    have htl:=htl rfl
    repeat' first|((exfalso;omega))|((refine aAM (id:=8) aHb [(false,[]),(true,[]),(false,[1]),(false,[2]),(false,[0,3]),(true,[4]),(false,[5]),(false,[5]),(false,[]),(false,[8,6,4,0,1,2,3,4,5,6,8]),(false,[7,9,0,1,2,3,4,5,6,7,8,9])] ⟨57,[(1,.box 1 0),(6,.sl .any (gr.map b6)),(7,.sl .any ((q::r).map b6)),(8,.sl (.own 45000 81 4) (out.map iC)),(9,.box 9 0),(10,.bool true)],[(1,[.sl .any (x.sig.map (.int .i64)),.sl .any (x.rules.map fT)]),(9,(iC s).cells)],[],[45000],[]⟩ (by kernel_rfl) ?_ ?_;simp only[List.length_cons,List.length_nil,Nat.reduceAdd]))|((rw[hdr];refine⟨hr1,?_,?_,?_⟩;(· simp only[zC];omega);(· simp only[zC];omega)))|((refine oL ?_;simp only[tH,tF,aFw,aE1,aEA,aFJ,y2,aAy,aAf,yH,tA,sW,sI,y8,aAv,true_and,and_true,Bool.not_false,Bool.not_true,Bool.and_true,Bool.and_false,Bool.true_and,Bool.false_and,Bool.or_false,Bool.false_or,Bool.true_or,Bool.or_true,Nat.reduceBEq,Nat.reduceAdd]))|((refine sB (by simp only[Nat.reduceLT]) rfl (by simp only[go_sem];exact rfl) ?_))|((refine hK.nil (tO ?_);clear hK K))|((refine n9 ?_ ?_))|((refine iS 0 ?_;refine λ(K:List Oper->LS->Prop) (hK:KOk S 0 _ _ _ K)=>?_;simp(disch:=apply aB;omega)only[go_sem]))|((refine oC ?_;simp(disch:=apply aB;omega)only[go_sem];(refine aC rfl rfl ?_ ?_ ?_ ?_<;>simp(disch:=apply aB;omega)only[go_sem]<;>(try omega));done))|apply aE|apply aG|apply aM|apply aJ|refine aI 0 aHb λK hK=>?_|refine aCW 0 aHb 10 (id:=12) (by kernel_rfl) λK hK=>?_|refine λ(K:KT) (hK:KOk S 0 _ _ _ K)=>?_|((first|apply aD|apply aK|refine aA (aO ?_)|apply aA);simp(disch:=apply aB;omega)only[go_sem,Tryz.results20])|(apply hK.nil;clear hK K;simp only[go_sem])|((first|refine aF rfl ?_ ?_)<;>intro h<;>try simp(disch:=apply aB;omega)only[go_sem] at h)|apply aL|refine hK.c0 rfl rfl rfl (cS) rfl rfl rfl ?_|refine hK.c0 rfl rfl rfl (cW) rfl rfl rfl ?_|(refine hK.own 777 rfl rfl rfl (cL) ⟨⟨by simp only[Nat.reduceLT],by simp[LS.getBox,Lg.look]⟩,rfl⟩ ?_;simp(disch:=apply aB;omega)only[go_sem])|(with_reducible refine And.intro (by first|omega|(simp only[lens];omega)) ?_)|fail
    exact⟨(f,fE gr (gQ q s.gone)++r,out++[s]),(by(refine aC rfl rfl ?_ ?_ ?_ ?_<;>simp(disch:=apply aB;omega)only[go_sem]<;>(try omega));all_goals first|rfl|exact⟨rfl,rfl⟩|(simp;rfl)|simp),⟨⟨by rw[zK];exact aMw h64 hO,by simp only[zK,List.length_cons,List.length_nil];omega⟩,by dsimp only;omega,hf⟩,by dsimp only;omega⟩
 ·rw[iD hx] at cP
  rw[aFr hx]
  refine aP Tryz.func20 rfl (by kernel_rfl) (by simp[Tryz.f20]) λB=>?_
  simp only[Tryz.ntmps20,aS,aZ,Nat.reduceAdd]
  repeat' first|apply aE|refine aI 0 aHb λK hK=>?_|((first|apply aD|apply aK|refine aA (aO ?_)|apply aA);simp(disch:=apply aB;omega)only[go_sem,Tryz.results20])|(apply hK.nil;clear hK K;simp only[go_sem])|((first|refine aF rfl ?_ ?_)<;>intro h<;>try simp(disch:=apply aB;omega)only[go_sem] at h)|refine hK.c0 rfl rfl rfl (cP) rfl rfl rfl ?_|fail
  all_goals exact⟨rfl,rfl⟩
end
section
attribute [local irreducible] SW bC bE dE bU FC dO toF dP
attribute [local irreducible] jA eB mE eH
attribute [local go_sem] aJB aH1 aDl pC aDp pE aJT aEH aCI aKm aKt aFc tL aGO xX
attribute [local go_sem] aXU
theorem aHM{p:List Nat}{xs:List (List Int)}{j:Nat}{x y:D}(hx:(lE (λi y=>fO (p++[i]++[0]) y) xs)[j]?=some x)(hy:(xs.map b6)[j]?=some y):D.le x y:=by
 unfold lE at hx
 rw[zI,Option.map_eq_some_iff] at hx hy
 obtain⟨i,hi,rfl⟩:=hx
 obtain⟨z,hz,rfl⟩:=hy
 have hj:j<xs.length:=(zE.1 hz).1
 rw[List.getElem?_range hj] at hi
 obtain rfl:=zA hi
 rw[zB hj] at hz
 obtain rfl:=zA hz
 rw[zD,zB hj]
 exact .any
theorem aOV(edges:List (List Int))(set:List Int)(hn:edges.length≤1000)(hs:∀i<set.length,0≤set.getD i default/\set.getD i default<edges.length)(hE:∀i<edges.length,∀j<(edges.getD i default).length,0≤(edges.getD i default).getD j default/\(edges.getD i default).getD j default<edges.length)(hEl:∀i<edges.length,(edges.getD i default).length≤1000)(hnd:(c8 set).Nodup)(hsl:set.length≤1000):FC S 53 [] [] [] [.sl .any (edges.map b6),.sl .any (set.map (.int .i64))] (.sl (.own 0 22 1) ((fE edges set).map b6)) [] [0]:=by
 obtain⟨p,hp⟩:∃p:List Nat,p≠[]:=⟨[1],by simp⟩
 refine oY Tryz.func53 rfl (by kernel_rfl) (by simp[Tryz.f53]) λB=>?_
 simp only[Tryz.ntmps53,aS,aZ,Nat.reduceAdd]
 refine bZ 0 rfl λhb0=>?_
 simp only[D.bnd,zC] at hb0
 refine bZ 1 rfl λhb1=>?_
 simp only[D.bnd,zC] at hb1
 repeat' first|((refine aTQ ?_))|apply aE|apply aG|refine aI 0 nX λK hK=>?_|((first|apply aD|apply aK|refine aA (aO ?_)|apply aA);simp(disch:=apply aB;omega)only[go_sem,Tryz.results53])|(apply hK.nil;clear hK K;simp only[go_sem])|(with_reducible refine And.intro (by first|omega|(simp only[lens];omega)) ?_)|fail
 have e0:(List.replicate edges.length [D.sl .nil []]).flatten=eB edges.length []:=by
  rw[←aLX];simp
 rw[e0]
 refine kY (ι:=Nat) (λi=>⟨186,[(0,.sl .any (edges.map b6)),(1,.sl .any (set.map (.int .i64))),(5,.ms 26 edges.length),(27,.sl .any (set.map (.int .i64))),(28,.int .i64 set.length),(29,.int .i64 i)],(26,eB edges.length (c8 (set.take i)))::eH edges.length (c8 (set.take i)) (r0 edges set),[],[],[]⟩) (λi=>i≤set.length) (λi=>set.length-i) 0 (by refine aC rfl rfl ?_ ⟨rfl,aDe λq hq=>by rw[List.take_zero] at hq;exact absurd hq (aQW _ _ q)⟩ ?_ ?_<;>simp only[go_sem];all_goals rfl) (by omega) (λi hi=>?_)
 by_cases hil:i<set.length
 ·have hsi:=hs i hil
  have hpsn:c8 (set.take (i+1))=c8 (set.take i)++[(set.getD i default).toNat]:=by
   unfold c8
   rw[List.take_add_one,List.map_append,zB hil]
   simp[zD,hil]
  have hnd1:(c8 (set.take (i+1))).Nodup:=by
   have:(c8 (set.take (i+1))).Sublist (c8 set):=(List.take_sublist _ _).map _
   exact this.nodup hnd
  have hqn:(set.getD i default).toNat∉c8 (set.take i):=by
   rw[hpsn,List.nodup_append] at hnd1
   exact λh=>hnd1.2.2 _ h _ (zN.2 rfl) rfl
  have hmk:1≤mk1 (c8 (set.take (i+1))) (set.getD i default).toNat:=xD.2 (by rw[hpsn];simp)
  have hndk:=aHe.2 hnd1
  repeat' first|((exfalso;omega))|apply aE|apply aG|apply aJ|refine aI 0 nX λK hK=>?_|((first|apply aD|apply aK|refine aA (aO ?_)|apply aA);simp(disch:=apply aB;omega)only[go_sem,Tryz.results53])|(apply hK.nil;clear hK K;simp only[go_sem])|((first|refine aH rfl rfl rfl rfl rfl ?_ ?_|refine aN rfl rfl rfl rfl rfl ?_ ?_|refine aF rfl ?_ ?_)<;>intro h<;>try simp(disch:=apply aB;omega)only[go_sem] at h)|(with_reducible refine And.intro (by first|omega|(simp only[lens];omega)) ?_)|fail
  have hren:=aRF (n:=edges.length) (r:=r0 edges set) hqn
  rw[←hpsn] at hren
  refine aPF (L':=⟨186,[(0,.sl .any (edges.map b6)),(1,.sl .any (set.map (.int .i64))),(5,.ms 26 edges.length),(7,.int .i64 (set.getD i default)),(27,.sl .any (set.map (.int .i64))),(28,.int .i64 set.length),(29,.int .i64 i),(42,.sl .any ((edges.getD (set.getD i default).toNat default).map (.int .i64))),(43,.int .i64 (edges.getD (set.getD i default).toNat default).length),(44,.int .i64 0)],(26,eB edges.length (c8 (set.take (i+1))))::eH edges.length (c8 (set.take (i+1))) (λx=>if x=(set.getD i default).toNat then λ_=>false else r0 edges set x),[],[],[]⟩) 37 ((set.getD i default).toNat+5000) (by omega) (by simp) (by simp) rfl rfl rfl rfl (λq hq=>?_) hren ?_
  ·simp only[zO,List.not_mem_nil,or_false] at hq
   rcases hq with rfl|rfl|rfl|rfl|rfl|rfl|rfl|rfl|rfl|rfl
   all_goals first|exact⟨_,rfl,wV.keep rfl⟩|(refine⟨_,rfl,.inl ⟨?_,?_,rfl⟩⟩<;>simp only[D.ids,zN]<;>omega)
  have hEp:=hE (set.getD i default).toNat (by omega)
  have hElp:=hEl (set.getD i default).toNat (by omega)
  refine kY (ι:=Nat) (λj=>⟨186,[(0,.sl .any (edges.map b6)),(1,.sl .any (set.map (.int .i64))),(5,.ms 26 edges.length),(7,.int .i64 (set.getD i default)),(27,.sl .any (set.map (.int .i64))),(28,.int .i64 set.length),(29,.int .i64 i),(42,.sl .any ((edges.getD (set.getD i default).toNat default).map (.int .i64))),(43,.int .i64 (edges.getD (set.getD i default).toNat default).length),(44,.int .i64 j)],(26,eB edges.length (c8 (set.take (i+1))))::eH edges.length (c8 (set.take (i+1))) (λx=>if x=(set.getD i default).toNat then rJ edges set (set.getD i default).toNat j else r0 edges set x),[],[],[]⟩) (λj=>j≤(edges.getD (set.getD i default).toNat default).length) (λj=>(edges.getD (set.getD i default).toNat default).length-j) 0 (by rw[aVN];refine aC rfl rfl ?_ (eI hnd1 _) ?_ ?_<;>simp only[go_sem];all_goals first|rfl|trace_state) (by omega) (λj hj=>?_)
  by_cases hjl:j<(edges.getD (set.getD i default).toNat default).length
  ·have hej:=hEp j hjl
   repeat' first|((exfalso;omega))|((simp(disch:=apply aB;omega)only[pC,if_true];simp(disch:=apply aB;omega)only[go_sem]))|apply aE|apply aG|apply aM|apply aJ|refine aI 0 nX λK hK=>?_|refine gK 0 nX 9 (id:=9) (by kernel_rfl) λK hK=>?_|refine λ(K:KT) (hK:KOk S 0 _ _ _ K)=>?_|((first|apply aD|apply aK|refine aA (aO ?_)|apply aA);simp(disch:=apply aB;omega)only[go_sem,Tryz.results53])|(apply hK.nil;clear hK K;simp only[go_sem])|((first|refine aH rfl rfl rfl rfl rfl ?_ ?_|refine aN rfl rfl rfl rfl rfl ?_ ?_|refine aF rfl ?_ ?_)<;>intro h<;>try simp(disch:=apply aB;omega)only[go_sem] at h)|apply aL|refine hK.c0 rfl rfl rfl (rI _ _ _) rfl rfl rfl ?_|(with_reducible refine And.intro (by first|omega|(simp only[lens];omega)) ?_)|fail
   refine⟨j+1,?_,by omega,by omega⟩
   rw[←aUB hjl hej.1]
   refine aC rfl rfl ?_ (wG hnd1 _ (λx=>?_)) ?_ ?_
   ·simp(disch:=apply aB;omega)only[go_sem]
    all_goals first|omega|trace_state
   ·by_cases e:x=(set.getD i default).toNat
    ·simp only[if_pos e]
    ·simp only[if_neg e]
   ·simp only[go_sem]
   ·simp only[go_sem]
  ·repeat' first|((exfalso;omega))|apply aE|apply aM|refine aI 0 nX λK hK=>?_|((first|apply aD|apply aK|refine aA (aO ?_)|apply aA);simp(disch:=apply aB;omega)only[go_sem,Tryz.results53])|(apply hK.nil;clear hK K;simp only[go_sem])|((first|refine aH rfl rfl rfl rfl rfl ?_ ?_|refine aN rfl rfl rfl rfl rfl ?_ ?_|refine aF rfl ?_ ?_)<;>intro h<;>try simp(disch:=apply aB;omega)only[go_sem] at h)|refine aT rfl ?_|apply aL|fail
   obtain rfl:j=(edges.getD (set.getD i default).toNat default).length:=by omega
   refine⟨i+1,?_,by omega,by omega⟩
   refine aC rfl rfl ?_ (wG hnd1 _ (λx=>?_)) ?_ ?_
   ·simp(disch:=apply aB;omega)only[go_sem]
    all_goals first|omega|trace_state
   ·by_cases e:x=(set.getD i default).toNat
    ·rw[if_pos e,e];exact aXJ _ _ _
    ·rw[if_neg e]
   ·simp only[go_sem]
   ·simp only[go_sem]
 ·obtain rfl:i=set.length:=by omega
  have hmk:∀i<set.length,1≤mk1 (c8 set) (set.getD i default).toNat:=λi hi=>xD.2 (by
   unfold c8
   refine zJ.2 ⟨_,?_,rfl⟩
   rw[zD,zB hi];exact List.getElem_mem hi)
  have hndk:=aHe.2 hnd
  repeat' first|((exfalso;omega))|apply aE|apply aG|refine aI 0 nX λK hK=>?_|((first|apply aD|apply aK|refine aA (aO ?_)|apply aA);simp(disch:=apply aB;omega)only[go_sem,Tryz.results53])|(apply hK.nil;clear hK K;simp only[go_sem])|((first|refine aH rfl rfl rfl rfl rfl ?_ ?_|refine aN rfl rfl rfl rfl rfl ?_ ?_|refine aF rfl ?_ ?_)<;>intro h<;>try simp(disch:=apply aB;omega)only[go_sem] at h)|refine aT rfl ?_|fail
  rw[show r0 edges set=wM (c8 set) (r0 edges set) 0 from rfl]
  refine kY (ι:=Nat) (λi=>⟨186,[(1,.sl .any (set.map (.int .i64))),(5,.ms 26 edges.length),(59,.sl .any (set.map (.int .i64))),(60,.int .i64 set.length),(61,.int .i64 i)],(26,eB edges.length (c8 set))::eH edges.length (c8 set) (wM (c8 set) (r0 edges set) i),[],[],[]⟩) (λi=>i≤set.length) (λi=>set.length-i) 0 (by refine aC rfl rfl ?_ (eI hnd _) ?_ ?_<;>simp only[go_sem];all_goals first|rfl|trace_state) (by omega) (λi hi=>?_)
  by_cases hil:i<set.length
  ·have hsi:=hs i hil
   have hmi:=hmk i hil
   repeat' first|((exfalso;omega))|apply aE|apply aG|apply aJ|refine aI 0 nX λK hK=>?_|((first|apply aD|apply aK|refine aA (aO ?_)|apply aA);simp(disch:=apply aB;omega)only[go_sem,Tryz.results53])|(apply hK.nil;clear hK K;simp only[go_sem])|((first|refine aH rfl rfl rfl rfl rfl ?_ ?_|refine aN rfl rfl rfl rfl rfl ?_ ?_|refine aF rfl ?_ ?_)<;>intro h<;>try simp(disch:=apply aB;omega)only[go_sem] at h)|(with_reducible refine And.intro (by first|omega|(simp only[lens];omega)) ?_)|fail
   generalize hR0:wM (c8 set) (r0 edges set) i=R0
   rw[show R0=wP R0 (c8 set |>.getD i default) (c8 set) 0 from rfl]
   refine kY (ι:=Nat) (λj=>⟨186,[(1,.sl .any (set.map (.int .i64))),(5,.ms 26 edges.length),(11,.int .i64 (set.getD i default)),(59,.sl .any (set.map (.int .i64))),(60,.int .i64 set.length),(61,.int .i64 i),(65,.sl .any (set.map (.int .i64))),(66,.int .i64 set.length),(67,.int .i64 j)],(26,eB edges.length (c8 set))::eH edges.length (c8 set) (wP R0 ((c8 set).getD i default) (c8 set) j),[],[],[]⟩) (λj=>j≤set.length) (λj=>set.length-j) 0 (by refine aC rfl rfl ?_ (eI hnd _) ?_ ?_<;>simp only[go_sem];all_goals first|rfl|trace_state) (by omega) (λj hj=>?_)
   by_cases hjl:j<set.length
   ·have hsj:=hs j hjl
    have hmj:=hmk j hjl
    repeat' first|((exfalso;omega))|apply aE|apply aG|apply aJ|refine aI 0 nX λK hK=>?_|((first|apply aD|apply aK|refine aA (aO ?_)|apply aA);simp(disch:=apply aB;omega)only[go_sem,Tryz.results53])|(apply hK.nil;clear hK K;simp only[go_sem])|((first|refine aH rfl rfl rfl rfl rfl ?_ ?_|refine aN rfl rfl rfl rfl rfl ?_ ?_|refine aF rfl ?_ ?_)<;>intro h<;>try simp(disch:=apply aB;omega)only[go_sem] at h)|(with_reducible refine And.intro (by first|omega|(simp only[lens];omega)) ?_)|fail
    generalize hR1:wP R0 ((c8 set).getD i default) (c8 set) j=R1
    rw[show R1=wQ R1 ((c8 set).getD i default) ((c8 set).getD j default) (c8 set) 0 from rfl]
    refine kY (ι:=Nat) (λk=>⟨186,[(1,.sl .any (set.map (.int .i64))),(5,.ms 26 edges.length),(11,.int .i64 (set.getD i default)),(13,.int .i64 (set.getD j default)),(59,.sl .any (set.map (.int .i64))),(60,.int .i64 set.length),(61,.int .i64 i),(65,.sl .any (set.map (.int .i64))),(66,.int .i64 set.length),(67,.int .i64 j),(71,.sl .any (set.map (.int .i64))),(72,.int .i64 set.length),(73,.int .i64 k)],(26,eB edges.length (c8 set))::eH edges.length (c8 set) (wQ R1 ((c8 set).getD i default) ((c8 set).getD j default) (c8 set) k),[],[],[]⟩) (λk=>k≤set.length) (λk=>set.length-k) 0 (by refine aC rfl rfl ?_ (eI hnd _) ?_ ?_<;>simp only[go_sem];all_goals first|rfl|trace_state) (by omega) (λk hk=>?_)
    by_cases hkl:k<set.length
    ·have hsk:=hs k hkl
     have hmk:=hmk k hkl
     have hw:=aBL R1 ((c8 set).getD i default) ((c8 set).getD j default) (c8 set) k
     generalize hR2:wQ R1 ((c8 set).getD i default) ((c8 set).getD j default) (c8 set) k=R2 at hw ⊢
     rw[rD hkl,rD hil,rD hjl] at hw
     repeat' first|((exfalso;omega))|((simp(disch:=apply aB;omega)only[pC,if_true];simp(disch:=apply aB;omega)only[go_sem]))|apply aE|apply aG|apply aM|apply aJ|refine aI 0 nX λK hK=>?_|refine gK 0 nX 31 (id:=21) (by kernel_rfl) λK hK=>?_|refine λ(K:KT) (hK:KOk S 0 _ _ _ K)=>?_|((first|apply aD|apply aK|refine aA (aO ?_)|apply aA);simp(disch:=apply aB;omega)only[go_sem,Tryz.results53])|(apply hK.nil;clear hK K;simp only[go_sem])|((first|refine aH rfl rfl rfl rfl rfl ?_ ?_|refine aN rfl rfl rfl rfl rfl ?_ ?_|refine aF rfl ?_ ?_)<;>intro h<;>try simp(disch:=apply aB;omega)only[go_sem] at h)|apply aL|(with_reducible refine And.intro (by first|omega|(simp only[lens];omega)) ?_)|fail
     all_goals refine⟨k+1,?_,by omega,by omega⟩
     all_goals refine aC rfl rfl ?_ (wG hnd _ (λx=>?_)) ?_ ?_
     all_goals first|(simp only[go_sem];done)|(simp(disch:=apply aB;omega)only[go_sem];first|done|omega)|skip
     all_goals rw[rD hil,rD hjl] at *
     all_goals rw[hw x]
     all_goals by_cases e:x=(set.getD j default).toNat
     all_goals first|(simp only[if_neg e];done)|skip
     all_goals simp only[if_pos e]
     all_goals funext y
     all_goals by_cases e2:y=(set.getD k default).toNat
     all_goals first|(simp only[if_neg e2,e];done)|(simp_all;done)|trace_state
    ·obtain rfl:k=set.length:=by omega
     repeat' first|((exfalso;omega))|apply aE|apply aM|refine aI 0 nX λK hK=>?_|((first|apply aD|apply aK|refine aA (aO ?_)|apply aA);simp(disch:=apply aB;omega)only[go_sem,Tryz.results53])|(apply hK.nil;clear hK K;simp only[go_sem])|((first|refine aH rfl rfl rfl rfl rfl ?_ ?_|refine aN rfl rfl rfl rfl rfl ?_ ?_|refine aF rfl ?_ ?_)<;>intro h<;>try simp(disch:=apply aB;omega)only[go_sem] at h)|refine aT rfl ?_|apply aL|fail
     refine⟨j+1,?_,by omega,by omega⟩
     refine aC rfl rfl ?_ (wG hnd _ (λx=>?_)) ?_ ?_
     ·simp(disch:=apply aB;omega)only[go_sem]
      all_goals first|omega|trace_state
     ·show _=wQ (wP R0 ((c8 set).getD i default) (c8 set) j) ((c8 set).getD i default) ((c8 set).getD j default) (c8 set) (c8 set).length x
      rw[hR1,vQ]
     ·simp only[go_sem]
     ·simp only[go_sem]
   ·obtain rfl:j=set.length:=by omega
    repeat' first|((exfalso;omega))|apply aE|apply aM|refine aI 0 nX λK hK=>?_|((first|apply aD|apply aK|refine aA (aO ?_)|apply aA);simp(disch:=apply aB;omega)only[go_sem,Tryz.results53])|(apply hK.nil;clear hK K;simp only[go_sem])|((first|refine aH rfl rfl rfl rfl rfl ?_ ?_|refine aN rfl rfl rfl rfl rfl ?_ ?_|refine aF rfl ?_ ?_)<;>intro h<;>try simp(disch:=apply aB;omega)only[go_sem] at h)|refine aT rfl ?_|apply aL|fail
    refine⟨i+1,?_,by omega,by omega⟩
    refine aC rfl rfl ?_ (wG hnd _ (λx=>?_)) ?_ ?_
    ·simp(disch:=apply aB;omega)only[go_sem]
     all_goals first|omega|trace_state
    ·show _=wP (wM (c8 set) (r0 edges set) i) ((c8 set).getD i default) (c8 set) (c8 set).length x
     rw[hR0,vQ]
    ·simp only[go_sem]
    ·simp only[go_sem]
  ·obtain rfl:i=set.length:=by omega
   repeat' first|((refine aRU ?_))|((exfalso;omega))|apply aE|apply aG|refine aI 0 nX λK hK=>?_|((first|apply aD|apply aK|refine aA (aO ?_)|apply aA);simp(disch:=apply aB;omega)only[go_sem,Tryz.results53])|(apply hK.nil;clear hK K;simp only[go_sem])|((first|refine aH rfl rfl rfl rfl rfl ?_ ?_|refine aN rfl rfl rfl rfl rfl ?_ ?_|refine aF rfl ?_ ?_)<;>intro h<;>try simp(disch:=apply aB;omega)only[go_sem] at h)|refine aT rfl ?_|fail
   unfold fE
   generalize wM (c8 set) (r0 edges set) set.length=C
   refine dW 16 184000 22 1 rfl (.inl rfl) (by simp[LS.purge,LS.clean,qS,D.pu,D.pu1,D.tks,D.tksL,aFc,tL,aGO,xX]) ?_
   simp only[go_sem,aFc,tL]
   refine kY (ι:=Nat) (λi=>⟨186,[(1,.sl .any (set.map (.int .i64))),(5,.ms 26 edges.length),(16,.sl (.own 184000 22 1) (lE (λi y=>fO (p++[i]++[0]) y) (cmp C set i))),(111,.sl .any (set.map (.int .i64))),(112,.int .i64 set.length),(113,.int .i64 i)],(26,eB edges.length (c8 set))::eH edges.length (c8 set) C,[],[184000],[]⟩) (λi=>i≤set.length) (λi=>set.length-i) 0 (by refine aC rfl rfl ?_ (eI hnd _) ?_ ?_<;>simp only[go_sem];all_goals first|rfl|exact⟨rfl,rfl⟩|trace_state) (by omega) (λi hi=>?_)
   have hcl:=aBJ C set i
   by_cases hil:i<set.length
   ·have hsi:=hs i hil
    have hmi:=hmk i hil
    repeat' first|((exfalso;omega))|apply aE|apply aG|apply aJ|refine aI 0 nX λK hK=>?_|((first|apply aD|apply aK|refine aA (aO ?_)|apply aA);simp(disch:=apply aB;omega)only[go_sem,Tryz.results53])|(apply hK.nil;clear hK K;simp only[go_sem])|((first|refine aH rfl rfl rfl rfl rfl ?_ ?_|refine aN rfl rfl rfl rfl rfl ?_ ?_|refine aF rfl ?_ ?_)<;>intro h<;>try simp(disch:=apply aB;omega)only[go_sem] at h)|refine aT rfl ?_|apply aL|(with_reducible refine And.intro (by first|omega|(simp only[lens];omega)) ?_)|fail
    ·refine⟨i+1,?_,by omega,by omega⟩
     rw[aC5 (λh2=>by rw[h2.1] at h;cases h)]
     refine aC rfl rfl ?_ (eI hnd _) ?_ ?_<;>simp only[go_sem]
     all_goals omega
    ·have hcc:=h
     have hti:(set.take i).length=i:=by rw[List.length_take];omega
     have htg:∀l<i,(set.take i).getD l default=set.getD l default:=λl hl=>by
      simp[zD,hl]
     refine kY (ι:=Nat) (λk=>⟨186,[(1,.sl .any (set.map (.int .i64))),(5,.ms 26 edges.length),(16,.sl (.own 184000 22 1) (lE (λi y=>fO (p++[i]++[0]) y) (cmp C set i))),(17,.int .i64 i),(18,.int .i64 (set.getD i default)),(111,.sl .any (set.map (.int .i64))),(112,.int .i64 set.length),(113,.int .i64 i),(128,.sl .any ((set.take i).map (.int .i64))),(129,.int .i64 (set.take i).length),(130,.int .i64 k)],(26,eB edges.length (c8 set))::eH edges.length (c8 set) C,[],[184000],[]⟩) (λk=>k≤i/\∀l<k,eL C (set.getD i default).toNat (set.getD l default).toNat=false) (λk=>i-k) 0 (by refine aC rfl rfl ?_ (eI hnd _) ?_ ?_<;>simp only[go_sem];all_goals first|rfl|exact⟨rfl,rfl⟩|trace_state) ⟨by omega,λl hl=>by omega⟩ (λk hk=>?_)
     obtain⟨hk,hkl⟩:=hk
     by_cases hki:k<i
     ·have hsk:=hs k (by omega)
      have hmk2:=hmk k (by omega)
      have htk:=htg k hki
      rw[←htk] at hsk hmk2
      have hno:C (set.getD i default).toNat ((set.take i).getD k default).toNat=true->C ((set.take i).getD k default).toNat (set.getD i default).toNat=true->¬okC C set i:=λh1 h2 h3=>by
       have:=h3.2 k hki
       unfold eL at this
       rw[←htk,h1,h2] at this
       cases this
      have hup:C (set.getD i default).toNat ((set.take i).getD k default).toNat=false∨C ((set.take i).getD k default).toNat (set.getD i default).toNat=false->∀l<k+1,eL C (set.getD i default).toNat (set.getD l default).toNat=false:=λh1 l hl=>by
       by_cases e:l=k
       ·subst e
        unfold eL
        rw[←htk]
        rcases h1 with h1|h1
        ·rw[h1];rfl
        ·rw[h1,Bool.and_false]
       ·exact hkl l (by omega)
      repeat' first|((exfalso;omega))|apply aE|apply aG|apply aM|apply aJ|refine aI 0 nX λK hK=>?_|((first|apply aD|apply aK|refine aA (aO ?_)|apply aA);simp(disch:=apply aB;omega)only[go_sem,Tryz.results53])|(apply hK.nil;clear hK K;simp only[go_sem])|((first|refine aH rfl rfl rfl rfl rfl ?_ ?_|refine aN rfl rfl rfl rfl rfl ?_ ?_|refine aF rfl ?_ ?_)<;>intro h<;>try simp(disch:=apply aB;omega)only[go_sem] at h)|refine aT rfl ?_|apply aL|(with_reducible refine And.intro (by first|omega|(simp only[lens];omega)) ?_)|fail
      all_goals first|(refine⟨k+1,?_,⟨by omega,hup (by first|exact .inl (by assumption)|exact .inr (by assumption))⟩,by omega⟩;refine aC rfl rfl ?_ (eI hnd _) ?_ ?_<;>simp only[go_sem];all_goals first|omega|trace_state)|(refine⟨i+1,?_,by omega,by omega⟩;rw[aC5 (hno (by assumption) (by assumption))];refine aC rfl rfl ?_ (eI hnd _) ?_ ?_<;>simp only[go_sem];all_goals first|omega|trace_state)|trace_state
     ·obtain rfl:k=i:=by omega
      have hok:okC C set k:=⟨hcc,hkl⟩
      have hys:=aBP hok
      have hdl:(set.drop k).length=set.length-k:=List.length_drop
      have hdg:∀j,(set.drop k).getD j default=set.getD (k+j) default:=λj=>by
       simp[zD,List.getElem?_drop]
      repeat' first|((exfalso;omega))|apply aE|apply aG|refine aI 0 nX λK hK=>?_|((first|apply aD|apply aK|refine aA (aO ?_)|apply aA);simp(disch:=apply aB;omega)only[go_sem,Tryz.results53])|(apply hK.nil;clear hK K;simp only[go_sem])|((first|refine aH rfl rfl rfl rfl rfl ?_ ?_|refine aN rfl rfl rfl rfl rfl ?_ ?_|refine aF rfl ?_ ?_)<;>intro h<;>try simp(disch:=apply aB;omega)only[go_sem] at h)|refine aT rfl ?_|(with_reducible refine And.intro (by first|omega|(simp only[lens];omega)) ?_)|fail
      refine dW 21 179000 2 1 rfl (.inl rfl) (by simp[LS.purge,LS.clean,qS,D.pu,D.pu1,D.tks,D.tksL,aFc,tL,aGO,xX,aRt]) ?_
      simp only[go_sem,aFc,tL]
      refine kY (ι:=Nat) (λj=>⟨186,[(1,.sl .any (set.map (.int .i64))),(5,.ms 26 edges.length),(16,.sl (.own 184000 22 1) (lE (λi y=>fO (p++[i]++[0]) y) (cmp C set k))),(18,.int .i64 (set.getD k default)),(111,.sl .any (set.map (.int .i64))),(112,.int .i64 set.length),(113,.int .i64 k),(21,.sl (.own 179000 2 1) ((qI C (set.getD k default).toNat (set.drop k) j).map (.int .i64))),(153,.sl .any ((set.drop k).map (.int .i64))),(154,.int .i64 (set.drop k).length),(155,.int .i64 j)],(26,eB edges.length (c8 set))::eH edges.length (c8 set) C,[],[179000,184000],[]⟩) (λj=>j≤(set.drop k).length) (λj=>(set.drop k).length-j) 0 (by refine aC rfl rfl ?_ (eI hnd _) ?_ ?_<;>simp only[go_sem];all_goals first|rfl|exact⟨rfl,rfl⟩|trace_state) (by omega) (λj hj=>?_)
      have hpl:=aRP C (set.getD k default).toNat (set.drop k) j
      by_cases hjl:j<(set.drop k).length
      ·have hsj:=hs (k+j) (by omega)
       have hmj:=hmk (k+j) (by omega)
       rw[←hdg] at hsj hmj
       have hpy:=@aRL C (set.getD k default).toNat (set.drop k) j hjl
       have hpn:=@aUK C (set.getD k default).toNat (set.drop k) j hjl
       repeat' first|((exfalso;omega))|apply aE|apply aG|apply aM|apply aJ|refine aI 0 nX λK hK=>?_|((first|apply aD|apply aK|refine aA (aO ?_)|apply aA);simp(disch:=apply aB;omega)only[go_sem,Tryz.results53])|(apply hK.nil;clear hK K;simp only[go_sem])|((first|refine aH rfl rfl rfl rfl rfl ?_ ?_|refine aN rfl rfl rfl rfl rfl ?_ ?_|refine aF rfl ?_ ?_)<;>intro h<;>try simp(disch:=apply aB;omega)only[go_sem] at h)|apply aL|(with_reducible refine And.intro (by first|omega|(simp only[lens];omega)) ?_)|fail
       all_goals first|(refine⟨j+1,?_,by omega,by omega⟩;rw[hpy (by assumption) (by assumption),List.map_append];refine aC rfl rfl ?_ (eI hnd _) ?_ ?_<;>simp only[go_sem];all_goals first|omega|(simp;done)|exact⟨rfl,by omega⟩|trace_state)|(refine⟨j+1,?_,by omega,by omega⟩;rw[hpn (by first|exact .inl (by assumption)|exact .inr (by assumption))];refine aC rfl rfl ?_ (eI hnd _) ?_ ?_<;>simp only[go_sem];all_goals first|omega|trace_state)|trace_state
      ·obtain rfl:j=(set.drop k).length:=by omega
       rw[hdl]
       refine yR 21 (p++[(cmp C set k).length]++[0]) rfl (by simp) (by simp) ?_
       simp only[go_sem]
       repeat' first|((exfalso;omega))|apply aE|refine aI 0 nX λK hK=>?_|((first|apply aD|apply aK|refine aA (aO ?_)|apply aA);simp(disch:=apply aB;omega)only[go_sem,Tryz.results53])|(apply hK.nil;clear hK K;simp only[go_sem])|((first|refine aH rfl rfl rfl rfl rfl ?_ ?_|refine aN rfl rfl rfl rfl rfl ?_ ?_|refine aF rfl ?_ ?_)<;>intro h<;>try simp(disch:=apply aB;omega)only[go_sem] at h)|refine aT rfl ?_|fail
       refine⟨List.mem_filter.2 ⟨by simp,by simp⟩,aEv λ_ _=>rfl,by first|omega|(rw[jP];omega),by first|omega|(rw[jP];omega),?_⟩
       repeat' first|apply aM|refine aI 0 nX λK hK=>?_|((first|apply aD|apply aK|refine aA (aO ?_)|apply aA);simp(disch:=apply aB;omega)only[go_sem,Tryz.results53])|(apply hK.nil;clear hK K;simp only[go_sem])|apply aL|fail
       refine⟨k+1,?_,by omega,by omega⟩
       rw[hys,aMG]
       refine aC rfl rfl ?_ (eI hnd _) ?_ ?_<;>simp only[go_sem]
       all_goals first|omega|(simp;done)|exact⟨rfl,by omega⟩|trace_state
   ·obtain rfl:i=set.length:=by omega
    refine aLa 16 ((cmp C set set.length).map b6) rfl (by rw[zC,lE,zC,List.length_range]) (aEv λ_ _=>rfl) (λy hy=>by obtain⟨z,_,rfl⟩:=zJ.1 hy;rfl) (λy hy=>by obtain⟨z,_,rfl⟩:=zJ.1 hy;rfl) (λj x y hx hy=>aHM hx hy) ?_
    simp only[go_sem]
    repeat' first|((exfalso;omega))|apply aE|refine aI 0 nX λK hK=>?_|((first|apply aD|apply aK|refine aA (aO ?_)|apply aA);simp(disch:=apply aB;omega)only[go_sem,Tryz.results53])|(apply hK.nil;clear hK K;simp only[go_sem])|((first|refine aH rfl rfl rfl rfl rfl ?_ ?_|refine aN rfl rfl rfl rfl rfl ?_ ?_|refine aF rfl ?_ ?_)<;>intro h<;>try simp(disch:=apply aB;omega)only[go_sem] at h)|refine aT rfl ?_|fail
    all_goals exact mU rfl (by simp)
end
end Go.Proofs.YtpennhjjnlkbiaaGreat
