/-
  K13, K14, one behind the other.
-/
import Derived.Test.YtpennhjjnlkbiaaGreatG14
import Derived.Test.YtpennhjjnlkbiaaGreatG13
import Derived.Test.YtpennhjjnlkbiaaGreatG12
namespace Go.Proofs.YtpennhjjnlkbiaaGreat
open Go Go.Lg
set_option linter.unusedSimpArgs false
set_option linter.unusedVariables false
set_option maxHeartbeats 4000000
section
attribute [local irreducible] SW bC bE dE bU FC dO toF dP fV fD sumF bR
theorem aF0{f:FuncId}{args:List D}{p:List Nat}{g:List Int}{b:Bool}(h:FC S f [] [] [] args (.tup [fO p g,.bool b]) [] []):FC S f [] [] [] args (.tup [.sl .any (g.map (.int .i64)),.bool b]) [] []:=h.weak (by rw[aF9];exact⟨aC3 _ _,.refl _,trivial⟩) (by simp) (by simp)
theorem aVR{f:FuncId}{args:List D}{p:List Nat}{g:List PolyT}{b:Bool}(h:FC S f [] [] [] args (.tup [yQ p g,.bool b]) [] []):FC S f [] [] [] args (.tup [.sl .any (g.map bS),.bool b]) [] []:=h.weak (by rw[aF9];exact⟨aPl _ _,.refl _,trivial⟩) (by simp) (by simp)
def aHL:List (Nat×List Nat):=[(0,[1]),(1,[1,4,5]),(2,[1,4,20]),(3,[2,3]),(4,[1,4,6]),(5,[1,4,6,7]),(6,[1,4,6,7,8]),(7,[1,4,6,7,8,30]),(8,[1,4,6,7,8,9]),(9,[1,4,6,7,8,9,10,11]),(10,[1,4,6,7,8,9,10,44]),(11,[1,4,6,7,8,9,10]),(12,[1,4,6,7,8,9]),(13,[1,4,6,7,8,9,12,13]),(14,[1,4,6,7,8,9,12,66]),(15,[1,4,6,7,8,9,12]),(16,[1,4,6,7,8,9]),(17,[2,3]),(18,[1,4,6,7,8,9]),(19,[1,4,6,7,8]),(20,[2,3])]
attribute [go_sem] aHL
theorem aBU(x:SystemT):FC S 21 [] [] [] [bP x] (.tup [.sl .any ((nW x).1.map iC),.bool (nW x).2]) [] []:=by
 have cP:=aCM x
 rcases Classical.em (gH x) with hx|hx
 ·rw[fA hx] at cP
  have h64:(bL x).length≤64:=hx.2
  obtain⟨g1,g2,g3⟩:=aIf hx
  have cG:=aT6 x hx.1 (bL x) (kZ hx) h64
  have cA:=aR5 (bL x) (by omega)
  rw[aC0 hx]
  generalize eE x (bL x) (bL x).length=gr at *
  have cT:∀set,fI set (bL x).length->FC S 53 [] [] [] [.sl .any (gr.map b6),.sl .any (set.map (.int .i64))] (.sl (.own 0 22 1) ((fE gr set).map b6)) [] [0]:=λset hS=>aOV gr set (by omega) (by rw[g1];exact λi hi=>(hS i hi).1) (by rw[g1];exact λi hi=>g3 i (by omega)) (λi hi=>by have:=g2 i hi;omega) (aIR hS) (by have:=lO hS;omega)
  have hul:=l9 (bL x).length
  have hT0:=aSE (gr:=gr) h64
  have cT0:=cT _ (vJ _)
  have hto:=@yI gr (upTo (bL x).length)
  generalize hans:trF x gr 65 (fE gr (upTo (bL x).length)) []=ans
  refine aP Tryz.func21 rfl (by kernel_rfl) (by simp[Tryz.f21]) λB=>?_
  simp only[Tryz.ntmps21,aS,aZ,Nat.reduceAdd]
  repeat' first|apply aE|apply aG|apply aJ|refine aI 0 aHL λK hK=>?_|((first|apply aD|apply aK|refine aA (aO ?_)|apply aA);simp(disch:=apply aB;omega)only[go_sem,Tryz.results21])|(apply hK.nil;clear hK K;simp only[go_sem])|((first|refine aF rfl ?_ ?_)<;>intro h<;>try simp(disch:=apply aB;omega)only[go_sem] at h)|refine hK.c0 rfl rfl rfl (cP) rfl rfl rfl ?_|refine hK.c0 rfl rfl rfl (cG) rfl rfl rfl ?_|refine hK.c0 rfl rfl rfl (cA) rfl rfl rfl ?_|(refine hK.callB rfl rfl rfl (cT0) ⟨⟨by simp only[Nat.reduceLT],(by first|(simp;all_goals fail)|(simp[LS.getBox,Lg.look];all_goals fail)),by(simp[Lg.look];all_goals fail),by(simp;all_goals fail),by(simp;all_goals fail)⟩,⟨by(simp[D.ids,D.idsL];all_goals fail),by(simp[D.ids,D.idsL];all_goals fail),by(simp[D.tks,D.tksL];all_goals fail),by(simp[D.tks,D.tksL];all_goals fail),by(simp;all_goals fail)⟩,rfl⟩ ?_;simp(disch:=apply aB;omega)only[go_sem])|fail
  refine dW 8 93000 81 4 rfl (.inl rfl) rfl ?_
  simp only[go_sem]
  refine bG (ι:=Nat×List (List Int)×List PairStepT) (λq=>[(7,.sl .any (q.2.1.map b6)),(8,.sl (.own 93000 81 4) (q.2.2.map iC))]) (λ_=>[]) (λ_=>[93000]) (λq=>(aDr (bL x).length q.2.2.length q.2.1/\q9 q.2.1+q.2.2.length≤64)/\q9 q.2.1<q.1/\trF x gr q.1 q.2.1 q.2.2=ans) (λq=>q.1) (65,fE gr (upTo (bL x).length),[]) (by(refine aC rfl rfl ?_ ?_ ?_ ?_<;>simp(disch:=apply aB;omega)only[go_sem]<;>(try omega));all_goals first|exact⟨rfl,rfl⟩|rfl) ⟨⟨hT0,by simp;omega⟩,by dsimp only;omega,hans⟩ (λq hq=>?_)
  obtain⟨f,T,out⟩:=q
  obtain⟨⟨hO,ht1⟩,ht2,hf⟩:=hq
  dsimp only at hO ht1 ht2 hf
  simp only[go_sem]
  have hTl:=hO.2
  obtain⟨f,rfl⟩:∃g,f=g+1:=⟨f-1,by omega⟩
  cases T with
  | nil =>
   rw[aND] at hf
   subst hf
   repeat' first|((exfalso;omega))|apply aE|refine aI 0 aHL λK hK=>?_|((first|apply aD|apply aK|refine aA (aO ?_)|apply aA);simp(disch:=apply aB;omega)only[go_sem,Tryz.results21])|(apply hK.nil;clear hK K;simp only[go_sem])|((first|refine aF rfl ?_ ?_)<;>intro h<;>try simp(disch:=apply aB;omega)only[go_sem] at h)|refine aT rfl ?_|fail
  | cons q r =>
   have hq:=hO.1 q zH
   have hql:=lO hq
   have hrl:r.length≤5000:=by rw[List.length_cons] at hTl;omega
   have hdr:List.drop (Int.toNat 1) (D.sl Tk.any (List.map (D.int IntKind.i64) q)::List.map b6 r)=List.map b6 r:=rfl
   have hr1:∀x∈List.map b6 r,x.cells.length=1:=λx hx=>by obtain⟨y,_,rfl⟩:=zJ.1 hx;rfl
   have hy:=@aNA x gr f q r out
   have hn:=@aS7 x gr f q r out
   have htl:=@aKa x gr q r
   have c1:=aF0 (aGm [1] (by simp) x.sig (bL x) q hx.1.1.1 (kZ hx) hq h64)
   have c3:=aVR (aC9 [1] (by simp) x (bL x) q hx.1 (kZ hx) hq h64)
   cases hj:gG x.sig (bL x) q with
   | some pr =>
    have hpj:=aN6 hx hj
    have c2:=aF0 (aCG [1] (by simp) x.sig (bL x) q pr hpj (kZ hx) hq h64)
    rw[uQ hj] at hy htl
    rw[hj] at c1
    generalize jR x.sig (bL x) q pr=J at *
    obtain⟨g,ok⟩:=J
    dsimp only[vK] at c1 c2 hy htl
    rw[hy rfl] at hf
    have htl:=htl rfl
    have hp1:=@oV gr (gQ q g)
    have hp2:=oN q g
    have cW:=aCE q g (by omega)
    have cL:=cT _ (xG (gone:=g) hq)
    repeat' first|((exfalso;omega))|((rw[hdr];refine⟨hr1,?_,?_,?_⟩;(· simp only[zC];omega);(· simp only[zC];omega)))|((refine⟨by simp,by omega,by omega,?_⟩))|apply aE|apply aG|apply aM|apply aJ|refine aI 0 aHL λK hK=>?_|refine aCW 0 aHL 9 (id:=18) (by kernel_rfl) λK hK=>?_|refine λ(K:KT) (hK:KOk S 0 _ _ _ K)=>?_|((first|apply aD|apply aK|refine aA (aO ?_)|apply aA);simp(disch:=apply aB;omega)only[go_sem,Tryz.results21])|(apply hK.nil;clear hK K;simp only[go_sem])|((first|refine aF rfl ?_ ?_)<;>intro h<;>try simp(disch:=apply aB;omega)only[go_sem] at h)|apply aL|refine hK.c0 rfl rfl rfl (c1) rfl rfl rfl ?_|refine hK.c0 rfl rfl rfl (c2) rfl rfl rfl ?_|refine hK.c0 rfl rfl rfl (cW) rfl rfl rfl ?_|(refine hK.own 777 rfl rfl rfl (cL) ⟨⟨by simp only[Nat.reduceLT],by simp[LS.getBox,Lg.look]⟩,rfl⟩ ?_;simp(disch:=apply aB;omega)only[go_sem])|(with_reducible refine And.intro (by first|omega|(simp only[lens];omega)) ?_)|fail
    exact⟨(f,fE gr (gQ q g)++r,out++[⟨q,pr,[],g⟩]),(by(refine aC rfl rfl ?_ ?_ ?_ ?_<;>simp(disch:=apply aB;omega)only[go_sem]<;>(try omega));all_goals first|rfl|exact⟨rfl,rfl⟩|(simp;rfl)|simp),⟨⟨by rw[zK];exact aMw h64 hO,by simp only[zK,List.length_cons,List.length_nil];omega⟩,by dsimp only;omega,hf⟩,by dsimp only;omega⟩
   | none =>
    rw[hj] at c1
    cases hm:gY x (bL x) q with
    | some l =>
     obtain⟨h1,h2⟩:=aEJ hx hm
     have c4:=aF0 (uE [1] (by simp) x (bL x) q (lT x.sig l) h2 h1 (kZ hx) hq h64)
     rw[vF hj hm] at hy htl
     rw[hm] at c3
     generalize wR x.sig (bL x) q (lT x.sig l)=J at *
     obtain⟨g,ok⟩:=J
     dsimp only[aBo,vK] at c1 c3 c4 hy htl
     generalize lT x.sig l=ps at *
     rw[hy rfl] at hf
     have htl:=htl rfl
     have hp1:=@oV gr (gQ q g)
     have hp2:=oN q g
     have cW:=aCE q g (by omega)
     have cL:=cT _ (xG (gone:=g) hq)
     repeat' first|((exfalso;omega))|((rw[hdr];refine⟨hr1,?_,?_,?_⟩;(· simp only[zC];omega);(· simp only[zC];omega)))|((refine⟨by simp,by omega,by omega,?_⟩))|apply aE|apply aG|apply aM|apply aJ|refine aI 0 aHL λK hK=>?_|refine aCW 0 aHL 9 (id:=18) (by kernel_rfl) λK hK=>?_|refine λ(K:KT) (hK:KOk S 0 _ _ _ K)=>?_|((first|apply aD|apply aK|refine aA (aO ?_)|apply aA);simp(disch:=apply aB;omega)only[go_sem,Tryz.results21])|(apply hK.nil;clear hK K;simp only[go_sem])|((first|refine aF rfl ?_ ?_)<;>intro h<;>try simp(disch:=apply aB;omega)only[go_sem] at h)|apply aL|refine hK.c0 rfl rfl rfl (c1) rfl rfl rfl ?_|refine hK.c0 rfl rfl rfl (c3) rfl rfl rfl ?_|refine hK.c0 rfl rfl rfl (c4) rfl rfl rfl ?_|refine hK.c0 rfl rfl rfl (cW) rfl rfl rfl ?_|(refine hK.own 777 rfl rfl rfl (cL) ⟨⟨by simp only[Nat.reduceLT],by simp[LS.getBox,Lg.look]⟩,rfl⟩ ?_;simp(disch:=apply aB;omega)only[go_sem])|(with_reducible refine And.intro (by first|omega|(simp only[lens];omega)) ?_)|fail
     exact⟨(f,fE gr (gQ q g)++r,out++[⟨q,[],ps,g⟩]),(by(refine aC rfl rfl ?_ ?_ ?_ ?_<;>simp(disch:=apply aB;omega)only[go_sem]<;>(try omega));all_goals first|rfl|exact⟨rfl,rfl⟩|(simp;rfl)|simp),⟨⟨by rw[zK];exact aMw h64 hO,by simp only[zK,List.length_cons,List.length_nil];omega⟩,by dsimp only;omega,hf⟩,by dsimp only;omega⟩
    | none =>
     rw[aCV hj hm] at hn
     rw[hm] at c3
     dsimp only[aBo,vK] at c1 c3 hn
     rw[hn rfl] at hf
     subst hf
     repeat' first|((exfalso;omega))|apply aE|apply aG|apply aJ|refine aI 0 aHL λK hK=>?_|((first|apply aD|apply aK|refine aA (aO ?_)|apply aA);simp(disch:=apply aB;omega)only[go_sem,Tryz.results21])|(apply hK.nil;clear hK K;simp only[go_sem])|((first|refine aF rfl ?_ ?_)<;>intro h<;>try simp(disch:=apply aB;omega)only[go_sem] at h)|refine hK.c0 rfl rfl rfl (c1) rfl rfl rfl ?_|refine hK.c0 rfl rfl rfl (c3) rfl rfl rfl ?_|(with_reducible refine And.intro (by first|omega|(simp only[lens];omega)) ?_)|fail
 ·rw[iD hx] at cP
  rw[aFr hx]
  refine aP Tryz.func21 rfl (by kernel_rfl) (by simp[Tryz.f21]) λB=>?_
  simp only[Tryz.ntmps21,aS,aZ,Nat.reduceAdd]
  repeat' first|apply aE|refine aI 0 aHL λK hK=>?_|((first|apply aD|apply aK|refine aA (aO ?_)|apply aA);simp(disch:=apply aB;omega)only[go_sem,Tryz.results21])|(apply hK.nil;clear hK K;simp only[go_sem])|((first|refine aF rfl ?_ ?_)<;>intro h<;>try simp(disch:=apply aB;omega)only[go_sem] at h)|refine hK.c0 rfl rfl rfl (cP) rfl rfl rfl ?_|fail
end
section
attribute [local irreducible] SW bC bE dE bU FC dO toF dP fV
def aYn:List (Nat×List Nat):=[(0,[1]),(1,[4]),(2,[2])]
attribute [go_sem] aYn
theorem vE(x:SystemT):FC S 18 [] [] [] [bP x] (.bool (nW x).2) [] []:=by
 have cT:=aDP x
 generalize nW x=J at *
 obtain⟨l,b⟩:=J
 dsimp only at cT ⊢
 refine aP Tryz.func18 rfl (by kernel_rfl) (by simp[Tryz.f18]) λB=>?_
 simp only[Tryz.ntmps18,aS,aZ,Nat.reduceAdd]
 repeat' first|apply aE|refine aI 0 aYn λK hK=>?_|((first|apply aD|refine aA (aO ?_)|apply aA);simp(disch:=apply aB;omega)only[go_sem,Tryz.results18])|(apply hK.nil;clear hK K;simp only[go_sem])|refine hK.c0 rfl rfl rfl (cT) rfl rfl rfl ?_|fail
def aXQ:List (Nat×List Nat):=[(0,[1]),(1,[4]),(2,[2])]
attribute [go_sem] aXQ
theorem vM(x:SystemT):FC S 19 [] [] [] [bP x] (.bool (nW x).2) [] []:=by
 have cT:=aBU x
 generalize nW x=J at *
 obtain⟨l,b⟩:=J
 dsimp only at cT ⊢
 refine aP Tryz.func19 rfl (by kernel_rfl) (by simp[Tryz.f19]) λB=>?_
 simp only[Tryz.ntmps19,aS,aZ,Nat.reduceAdd]
 repeat' first|apply aE|refine aI 0 aXQ λK hK=>?_|((first|apply aD|refine aA (aO ?_)|apply aA);simp(disch:=apply aB;omega)only[go_sem,Tryz.results19])|(apply hK.nil;clear hK K;simp only[go_sem])|refine hK.c0 rfl rfl rfl (cT) rfl rfl rfl ?_|fail
end
end Go.Proofs.YtpennhjjnlkbiaaGreat
