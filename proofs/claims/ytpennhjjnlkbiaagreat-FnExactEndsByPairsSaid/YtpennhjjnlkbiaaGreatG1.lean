/-
  A01b, A02c, A03, A05p, A15p, ACl, A06, LTy, A06s, A06e, A01s, A06f, A17p, one behind the other.
-/
import Derived.Test.YtpennhjjnlkbiaaGreatSet
import Derived.Test.YtpennhjjnlkbiaaGreatG0
import Derived.Test.YtpennhjjnlkbiaaGreatLgK6
import Derived.Test.YtpennhjjnlkbiaaGreatLgK4
import Derived.Test.YtpennhjjnlkbiaaGreatLgK7
namespace Go.Proofs.YtpennhjjnlkbiaaGreat
open Go Go.Lg
set_option linter.unusedSimpArgs false
set_option linter.unusedVariables false
set_option maxHeartbeats 4000000
section
attribute [local irreducible] SW bC bE dE bU FC
def eF:List Int->Int->List Int
 | [],n=>[n]
 | x::r,n=>if x<n then x::eF r n else if x=n then x::r else n::x::r
theorem kB(m:Int):∀(xs:List Int) (n:Int),m∈eF xs n↔m∈xs∨m=n
 | [],n=>by simp[eF]
 | x::r,n=>by
  simp only[eF]
  split
  ·simp only[zO,kB m r n,or_assoc]
  ·split
   ·rename_i h;subst h
    simp only[zO]
    exact⟨.inl,λh=>h.elim id .inl⟩
   ·simp only[zO]
    exact⟨λh=>h.elim .inr .inl,λh=>h.elim .inr .inl⟩
theorem aHT(n:Int):∀(xs:List Int) (k:Nat),k≤xs.length->(∀j<k,xs.getD j default<n)->eF xs n=xs.take k++eF (xs.drop k) n
 | xs,0,_,_=>by simp
 | x::r,k+1,hk,h=>by
  have h0:=h 0 (by omega)
  simp only[List.getD_cons_zero] at h0
  rw[eF,if_pos h0,aHT n r k (by simpa using hk) (λj hj=>by simpa using h (j+1) (by omega))]
  simp
 | [],k+1,hk,_=>by simp at hk
theorem aOR{α:Type} [Inhabited α] {xs:List α}{k:Nat}(h:k<xs.length):xs.drop k=xs.getD k default::xs.drop (k+1):=by
 rw[List.drop_eq_getElem_cons h];simp[List.getD,zB h]
def aWy:List (Nat×List Nat):=[(0,[0,1]),(1,[0,1,5]),(2,[0,1,5,9]),(4,[0,1,5,17]),(5,[4]),(3,[0,1,5]),(6,[4])]
attribute [go_sem] aWy
theorem gD(tk:Tk)(xs:List Int)(n:Int):FC S 66 [] [] [] [.sl tk (xs.map (.int .i64)),.int .i64 n] (.bool (tst (n∈xs))) [] []:=by
 refine aP Tryz.func66 rfl (by kernel_rfl) (by simp[Tryz.f66]) λB=>?_
 simp only[Tryz.ntmps66,aS,aZ,Nat.reduceAdd]
 refine bZ 0 rfl λhb0=>?_
 simp only[D.bnd,zC] at hb0
 repeat' first|apply aE|apply aG|refine aI 0 aWy λK hK=>?_|((first|apply aD|refine aA (aO ?_)|apply aA);simp(disch:=apply aB;omega)only[go_sem,Tryz.results66])|(apply hK.nil;clear hK K;simp only[go_sem])|fail
 refine bB (ι:=Nat) (λi=>[(5,.int .i64 i)]) (λ_=>[]) (λi=>i≤xs.length/\(∀j<i,¬xs.getD j default=n)) (λi=>xs.length-i) 0 (by(refine aC rfl rfl ?_ ?_ ?_ ?_<;>simp(disch:=apply aB;omega)only[go_sem]<;>(try omega))) ⟨by omega,?_⟩ (λi ⟨hi,hj⟩=>?_)
 rotate_left
 simp only[go_sem]
 repeat' first|apply aE|apply aG|apply aM|apply aJ|refine aI 0 aWy λK hK=>?_|((first|apply aD|refine aA (aO ?_)|apply aA);simp(disch:=apply aB;omega)only[go_sem,Tryz.results66])|(apply hK.nil;clear hK K;simp only[go_sem])|((first|refine aF rfl ?_ ?_)<;>intro h<;>try simp(disch:=apply aB;omega)only[go_sem] at h)|refine aT rfl ?_|apply aL|(with_reducible refine And.intro (by first|omega|(simp only[lens];omega)) ?_)|fail
 ·rw[←h];exact bA _ _ (by omega)
 ·exact⟨i+1,by(refine aC rfl rfl ?_ ?_ ?_ ?_<;>simp(disch:=apply aB;omega)only[go_sem]<;>(try omega)),⟨by omega,bJ hj h⟩,by omega⟩
 ·intro hm
  exact(rR (P:=λx=>¬x=n)).1 (λj hj'=>hj j (by omega)) n hm rfl
 ·intro j hj';omega
def aRj:List (Nat×List Nat):=[(0,[0,1]),(1,[0,1,7,8]),(2,[0,1,7,8,9]),(3,[0,1,5,7,8]),(4,[0,1,5,7,8,16]),(5,[4]),(6,[0,1,7,8]),(7,[4])]
attribute [go_sem] aRj
theorem aRk(tk:Tk)(xs:List Int)(n:Int):FC S 119 [] [] [] [.sl tk (xs.map (.int .i64)),.int .i64 n] (.int .i64 (aI0 (λx=>x=n) xs)) [] []:=by
 refine aP Tryz.func119 rfl (by kernel_rfl) (by simp[Tryz.f119]) λB=>?_
 simp only[Tryz.ntmps119,aS,aZ,Nat.reduceAdd]
 refine bZ 0 rfl λhb0=>?_
 simp only[D.bnd,zC] at hb0
 repeat' first|apply aE|apply aG|refine aI 0 aRj λK hK=>?_|((first|apply aD|refine aA (aO ?_)|apply aA);simp(disch:=apply aB;omega)only[go_sem,Tryz.results119])|(apply hK.nil;clear hK K;simp only[go_sem])|fail
 refine bB (ι:=Nat) (λi=>[(8,.int .i64 i)]) (λ_=>[]) (λi=>i≤xs.length/\(∀j<i,¬xs.getD j default=n)) (λi=>xs.length-i) 0 (by(refine aC rfl rfl ?_ ?_ ?_ ?_<;>simp(disch:=apply aB;omega)only[go_sem]<;>(try omega))) ⟨by omega,?_⟩ (λi ⟨hi,hj⟩=>?_)
 rotate_left
 simp only[go_sem]
 repeat' first|apply aE|apply aG|apply aM|apply aJ|refine aI 0 aRj λK hK=>?_|((first|apply aD|refine aA (aO ?_)|apply aA);simp(disch:=apply aB;omega)only[go_sem,Tryz.results119])|(apply hK.nil;clear hK K;simp only[go_sem])|((first|refine aF rfl ?_ ?_)<;>intro h<;>try simp(disch:=apply aB;omega)only[go_sem] at h)|refine aT rfl ?_|apply aL|(with_reducible refine And.intro (by first|omega|(simp only[lens];omega)) ?_)|fail
 ·exact(aOt (p:=λx=>x=n) hj (by omega) h.symm).symm
 ·exact⟨i+1,by(refine aC rfl rfl ?_ ?_ ?_ ?_<;>simp(disch:=apply aB;omega)only[go_sem]<;>(try omega)),⟨by omega,bJ hj λe=>h e.symm⟩,by omega⟩
 ·exact(aFj (p:=λx=>x=n) λj hj'=>hj j (by omega)).symm
 ·intro j hj';omega
def aYl:List (Nat×List Nat):=[(0,[0,1]),(1,[4])]
attribute [go_sem] aYl
theorem rI(tk:Tk)(xs:List Int)(n:Int):FC S 89 [] [] [] [.sl tk (xs.map (.int .i64)),.int .i64 n] (.bool (tst (n∈xs))) [] []:=by
 refine aP Tryz.func89 rfl (by kernel_rfl) (by simp[Tryz.f89]) λB=>?_
 simp only[Tryz.ntmps89,aS,aZ,Nat.reduceAdd]
 repeat' first|apply aE|refine aI 0 aYl λK hK=>?_|((first|apply aD|refine aA (aO ?_)|apply aA);simp(disch:=apply aB;omega)only[go_sem,Tryz.results89])|(apply hK.nil;clear hK K;simp only[go_sem])|refine hK.c0 rfl rfl rfl (aRk _ _ _) rfl rfl rfl ?_|fail
 rw[aNO (p:=λx=>x=n)]
 exact⟨λ⟨x,hx,e⟩=>e ▸ hx,λh=>⟨n,h,rfl⟩⟩
def aWB:List (Nat×List Nat):=[(0,[0]),(1,[2])]
attribute [go_sem] aWB
theorem aEy(tk:Tk)(xs:List Int)(hl:xs.length≤17592186044416):FC S 68 [] [] [] [.sl tk (xs.map (.int .i64))] (.sl (.own 0 2 1) (xs.map (.int .i64))) [] [0]:=by
 refine FC.args (args':=[.sl .any (xs.map (.int .i64))]) ?_ (by simp only[go_sem])
 refine oY Tryz.func68 rfl (by kernel_rfl) (by simp[Tryz.f68]) λB=>?_
 simp only[Tryz.ntmps68,aS,aZ,Nat.reduceAdd]
 refine bZ 0 rfl λhb0=>?_
 simp only[D.bnd,zC] at hb0
 repeat' first|apply aE|refine aI 0 aWB λK hK=>?_|((first|apply aD|refine aA (aO ?_)|apply aA);simp(disch:=apply aB;omega)only[go_sem,Tryz.results68])|(apply hK.nil;clear hK K;simp only[go_sem])|(with_reducible refine And.intro (by first|omega|(simp only[lens];omega)) ?_)|fail
 exact mU rfl (by simp)
def aWs:List (Nat×List Nat):=[(0,[0,1]),(1,[0,1,5]),(2,[0,1,5,18]),(3,[0,1,5]),(4,[0,1,5,32]),(5,[4]),(6,[0,5,6]),(7,[4])]
attribute [go_sem] aWs
theorem oA(tk:Tk)(xs:List Int)(n:Int)(hl:xs.length≤1099511627776):FC S 67 [] [] [] [.sl tk (xs.map (.int .i64)),.int .i64 n] (.sl .any ((eF xs n).map (.int .i64))) [] []:=by
 refine FC.args (args':=[.sl .any (xs.map (.int .i64)),.int .i64 n]) ?_ (by simp only[go_sem])
 refine aP Tryz.func67 rfl (by kernel_rfl) (by simp[Tryz.f67]) λB=>?_
 simp only[Tryz.ntmps67,aS,aZ,Nat.reduceAdd]
 refine bZ 0 rfl λhb0=>?_
 simp only[D.bnd,zC] at hb0
 repeat' first|apply aE|apply aG|refine aI 0 aWs λK hK=>?_|((first|apply aD|refine aA (aO ?_)|apply aA);simp(disch:=apply aB;omega)only[go_sem,Tryz.results67])|(apply hK.nil;clear hK K;simp only[go_sem])|fail
 refine bB (ι:=Nat) (λi=>[(5,.int .i64 i)]) (λ_=>[]) (λi=>i≤xs.length/\(∀j<i,xs.getD j default<n)) (λi=>xs.length-i) 0 (by(refine aC rfl rfl ?_ ?_ ?_ ?_<;>simp(disch:=apply aB;omega)only[go_sem]<;>(try omega))) ⟨by omega,?_⟩ (λi ⟨hi,hj⟩=>?_)
 rotate_left
 simp only[go_sem]
 have key:=aHT n xs i hi hj
 have hd:i<xs.length->xs.drop i=_:=aOR
 have hlt:(xs.take i).length≤1099511627776:=by simp;omega
 repeat' first|apply aE|apply aG|apply aM|apply aJ|refine aI 0 aWs λK hK=>?_|((first|apply aD|refine aA (aO ?_)|apply aA);simp(disch:=apply aB;omega)only[go_sem,Tryz.results67])|(apply hK.nil;clear hK K;simp only[go_sem])|((first|refine aH rfl rfl rfl rfl rfl ?_ ?_|refine aF rfl ?_ ?_)<;>intro h<;>try simp(disch:=apply aB;omega)only[go_sem] at h)|refine aT rfl ?_|apply aL|(refine hK.callB rfl rfl rfl (aEy .any (xs.take i) (by omega)) ⟨⟨by simp only[Nat.reduceLT],(by first|(simp;all_goals fail)|(simp[LS.getBox,Lg.look];all_goals fail)),by(simp[Lg.look];all_goals fail),by(simp;all_goals fail),by(simp;all_goals fail)⟩,⟨by(simp[D.ids,D.idsL];all_goals fail),by(simp[D.ids,D.idsL];all_goals fail),by(simp[D.tks,D.tksL];all_goals fail),by(simp[D.tks,D.tksL];all_goals fail),by(simp;all_goals fail)⟩,rfl⟩ ?_;simp(disch:=apply aB;omega)only[go_sem])|(with_reducible refine And.intro (by first|omega|(simp only[lens];omega)) ?_)|((with_reducible refine And.intro ?_ ?_);· first|(intro x hx;subst hx;rfl)|(intro x;refine And.intro ?_ ?_<;>(intros;subst_vars;rfl)))|fail
 ·exact⟨i+1,by(refine aC rfl rfl ?_ ?_ ?_ ?_<;>simp(disch:=apply aB;omega)only[go_sem]<;>(try omega)),⟨by omega,bJ hj h⟩,by omega⟩
 all_goals first
  | (intro j hj';omega)
  | (rw[key,hd (by omega),eF,if_neg (by omega),if_pos (by assumption),←hd (by omega),List.take_append_drop])
  | (rw[key,hd (by omega),eF,if_neg (by omega),if_neg (by assumption),List.append_assoc];rfl)
  | (rw[key,show xs.drop i=[] from List.drop_of_length_le (by omega),eF,List.append_nil])
end
section
attribute [local irreducible] SW bC bE dE bU FC aU
end
section
attribute [local irreducible] SW bC bE dE bU FC dO
def aGU(n:Nat):D:=.int .i64 n
attribute [go_sem] aGU
theorem aU7{rs:List Int}{x:Int}(h:0≤arS rs x):-24≤x/\x<rs.length:=by
 unfold arS at h
 split at h
 ·have:0≤(rs.length:Int):=by omega
  omega
 ·split at h
  ·omega
  ·omega
theorem aX.ar{rs t:List Int}(h:aX rs t):∀x∈t,0≤arS rs x:=λx hx=>by
 have:=h.2.2
 unfold d7 at this
 rw[List.drop_zero] at this
 exact aCb (rs:=rs) t 1 0 (by omega) x hx
theorem aX.low{rs t:List Int}(h:aX rs t){a:Nat}(ha:a<t.length):(-24≤t.getD a default/\t.getD a default<rs.length)/\0≤arS rs (t.getD a default)/\arS rs (t.getD a default)≤3 :=
 ⟨aU7 (h.ar _ (bA t a ha)),h.ar _ (bA t a ha),(sA h.1 _).2⟩
def aRz:List (Nat×List Nat):=[(0,[1,2,3]),(1,[6])]
attribute [go_sem] aRz
theorem rW(tk tk':Tk)(rs t:List Int)(a:Nat)(hT:aX rs t)(ha:a<t.length):FC S 120 [] [] [] [.agg [.sl tk (rs.map (.int .i64))],.sl tk' (t.map (.int .i64)),.int .i64 a] (.sl .any ((dJ rs t a).map (.int .i64))) [] []:=by
 have he:=fN hT ha
 have hl:=hT.2.1.2
 refine aP Tryz.func120 rfl (by kernel_rfl) (by simp[Tryz.f120]) λB=>?_
 simp only[Tryz.ntmps120,aS,aZ,Nat.reduceAdd]
 refine bZ 1 rfl λhb1=>?_
 simp only[D.bnd,zC] at hb1
 repeat' first|apply aE|refine aI 0 aRz λK hK=>?_|((first|apply aD|refine aA (aO ?_)|apply aA);simp(disch:=apply aB;omega)only[go_sem,Tryz.results120])|(apply hK.nil;clear hK K;simp only[go_sem])|refine hK.c0 rfl rfl rfl (xU _ _ rs t a hT.1 hT.ge hl (by omega)) rfl rfl rfl ?_|(with_reducible refine And.intro (by first|omega|(simp only[lens];omega)) ?_)|fail
 rfl
def aDt:List (Nat×List Nat):=[(0,[1,2,3]),(1,[1,2,3,7]),(2,[1,2,3,7,8]),(3,[1,3,7,8,9]),(4,[1,3,7,8,9,19]),(6,[1,3,7,8,9]),(7,[1,3,7,8,9]),(5,[1,3,7,8,9]),(8,[6])]
attribute [go_sem] aDt
theorem aET(tk tk':Tk)(rs t:List Int)(a:Nat)(hT:aX rs t)(ha:a<t.length):FC S 121 [] [] [] [.agg [.sl tk (rs.map (.int .i64))],.sl tk' (t.map (.int .i64)),.int .i64 a] (.sl .any ((dD rs t a).map aGU)) [] []:=by
 have hl:=hT.2.1.2
 have hlo:=hT.low ha
 obtain⟨n,hn⟩:∃n:Nat,arS rs (t.getD a default)=n:=⟨(arS rs (t.getD a default)).toNat,by omega⟩
 have hlt:∀j<n,a<dQ rs t (a+1) j/\dQ rs t (a+1) j<t.length:=λj hj=>nJ hT ha (by omega)
 have hle:∀j≤n,a<dQ rs t (a+1) j/\dQ rs t (a+1) j≤t.length:=λj hj=>aBM hT ha (by omega)
 unfold dD
 rw[hn,Int.toNat_natCast]
 refine FC.args (args':=[.agg [.sl .any (rs.map (.int .i64))],.sl .any (t.map (.int .i64)),.int .i64 a]) ?_ (by simp only[go_sem])
 refine aP Tryz.func121 rfl (by kernel_rfl) (by simp[Tryz.f121]) λB=>?_
 simp only[Tryz.ntmps121,aS,aZ,Nat.reduceAdd]
 refine bZ 1 rfl λhb1=>?_
 simp only[D.bnd,zC] at hb1
 repeat' first|apply aE|apply aG|refine aI 0 aDt λK hK=>?_|refine aY aDt (by kernel_rfl) λK hK=>?_|((first|apply aD|apply aK|refine aA (aO ?_)|apply aA);simp(disch:=apply aB;omega)only[go_sem,Tryz.results121])|(apply hK.nil;clear hK K;simp only[go_sem])|refine hK.c0 rfl rfl rfl (aC8 _ rs _ hlo.1) rfl rfl rfl ?_|(with_reducible refine And.intro (by first|omega|(simp only[lens];omega)) ?_)|fail
 rw[hn]
 refine dW 7 26000 3 1 rfl (.inl rfl) rfl ?_
 simp only[go_sem]
 refine bG (ι:=Nat) (λj=>[(9,.int .i64 (n-j:Int)),(8,.int .i64 (dQ rs t (a+1) j)),(7,.sl (.own 26000 3 1) ((vG rs t j (a+1)).map aGU))]) (λ_=>[]) (λ_=>[26000]) (λj=>j≤n) (λj=>n-j) 0 (by(refine aC rfl rfl ?_ ?_ ?_ ?_<;>simp(disch:=apply aB;omega)only[go_sem]<;>(try omega));simp[dQ,vG]) (by omega) (λj hj=>?_)
 simp only[go_sem]
 have hb:=eM rs t j (a+1)
 have h3:=hle j hj
 have h4:=hlt j
 have h5:j<n->((d7 rs t (dQ rs t (a+1) j)).toNat:Int)=d7 rs t (dQ rs t (a+1) j):=λhj=>by have:=fN hT (h4 hj).2;omega
 repeat' first|apply aE|apply aG|apply aM|apply aJ|refine aI 0 aDt λK hK=>?_|((first|apply aD|apply aK|refine aA (aO ?_)|apply aA);simp(disch:=apply aB;omega)only[go_sem,Tryz.results121])|(apply hK.nil;clear hK K;simp only[go_sem])|((first|refine aF rfl ?_ ?_)<;>intro h<;>try simp(disch:=apply aB;omega)only[go_sem] at h)|refine aT rfl ?_|apply aL|refine hK.c0 rfl rfl rfl (xU _ _ rs t (dQ rs t (a+1) j) hT.1 hT.ge hl (by omega)) rfl rfl rfl ?_|(with_reducible refine And.intro (by first|omega|(simp only[lens];omega)) ?_)|fail
 ·refine⟨j+1,(by(refine aC rfl rfl ?_ ?_ ?_ ?_<;>simp(disch:=apply aB;omega)only[go_sem]<;>(try omega));have:=h5 (by omega);simp only[dQ,yA,List.map_append,List.map_cons,List.map_nil,aGU];exact⟨trivial,this.symm,by omega⟩),by omega,by omega⟩
 ·rw[show j=n by omega]
end
section
def aXh(a b:List Int):Prop:=a.getD 0 default=b.getD 0 default/\0≤a.getD 0 default
instance (a b:List Int):Decidable (aXh a b):=inferInstanceAs (Decidable (_/\_))
theorem aTh{rs t:List Int}(h:aX rs t){a:Nat}(ha:a<t.length):(dJ rs t a).length+a=(d7 rs t a).toNat:=by
 have:=fN h ha
 unfold dJ
 rw[List.length_drop,List.length_take]
 omega
theorem aHC{rs t:List Int}(h:aX rs t){i:Nat}(hi:i<t.length):(dJ rs t i).getD 0 default=t.getD i default/\∀j<(arS rs (t.getD i default)).toNat,dJ rs (dJ rs t i) (dQ rs (dJ rs t i) 1 j)=dJ rs t (dQ rs t (i+1) j):=by
 obtain⟨p,l,r,e,rfl,h0,hl⟩:=aKF h hi
 have hu:Fl rs 1 (t.getD p.length default::l):=by
  have:Fl rs (0+1) (t.getD p.length default::l):=.cons h0 (by rw[Nat.zero_add];exact hl)
  rwa [Nat.zero_add] at this
 have es:dJ rs t p.length=t.getD p.length default::l:=by
  conv=>lhs;rw[e]
  exact xT hu
 rw[es]
 refine⟨rfl,λj hj=>?_⟩
 generalize hx:t.getD p.length default=x at *
 obtain⟨l1,l2,rfl,c1,c2,c3⟩:=Fl.cut [x] [] j _ l hl (by omega)
 obtain⟨d1,d2,d3,d4,d5,d6⟩:=Fl.cut (p++[x]) r j _ (l1++l2) hl (by omega)
 obtain⟨rfl,rfl⟩:=c1.uniq d4 d3
 obtain⟨u,r2,rfl,u1,_⟩:=Fl.split l2 1 (_-(j+1)) (by rw[show 1+((arS rs x).toNat-(j+1))=(arS rs x).toNat-j by omega];exact c2)
 simp only[List.append_nil,zK,List.length_cons,List.length_nil] at c3 d6
 have e1:x::(l1++(u++r2))=([x]++l1)++(u++r2):=by simp
 have e2:t=(p++[x]++l1)++(u++(r2++r)):=by rw[e];simp
 have c3':dQ rs (x::(l1++(u++r2))) 1 j=([x]++l1).length:=by
  have:[x]++(l1++(u++r2))=x::(l1++(u++r2)):=rfl
  rw[this] at c3
  simp at c3 ⊢;omega
 have d6':dQ rs t (p.length+1) j=(p++[x]++l1).length:=by
  have:p++[x]++(l1++(u++r2)++r)=t:=by rw[e];simp
  rw[this] at d6
  simp at d6 ⊢;omega
 rw[c3',d6']
 conv=>lhs;rw[e1]
 conv=>rhs;rw[e2]
 rw[xT u1,xT u1]
def jV(rs t:List Int)(j:Nat):List Int:=dJ rs t (dQ rs t 1 j)
theorem aTo{rs t:List Int}(h:aX rs t){a:Nat}(ha:a<t.length){j:Nat}(hj:j<(arS rs (t.getD a default)).toNat):jV rs (dJ rs t a) j=dJ rs t (dQ rs t (a+1) j):=(aHC h ha).2 j hj
theorem kN{rs t:List Int}(h:aX rs t):dJ rs t 0=t:=by
 have h0:=h.2.2
 unfold dJ
 rw[List.drop_zero,h0]
 simp
theorem i7{rs t:List Int}(h:aX rs t){j:Nat}(hj:j<(arS rs (t.getD 0 default)).toNat):aX rs (jV rs t j)/\(jV rs t j).length<t.length:=by
 have h1:=nJ h (show 0<t.length from h.2.1.1) hj
 have h2:=nH h h1.2
 refine⟨h2,?_⟩
 have h3:=aTh h h1.2
 have h4:=fN h h1.2
 unfold jV
 simp only[Nat.zero_add] at *
 omega
def mY(rs t:List Int)(j:Nat):List (List Int):=(List.range j).map (jV rs t)
theorem iG(rs t:List Int)(j:Nat):(mY rs t j).length=j:=by simp[mY]
theorem aJ2(rs t:List Int)(j:Nat):mY rs t (j+1)=mY rs t j++[jV rs t j]:=by simp[mY,List.range_succ]
theorem uN(rs t:List Int){j k:Nat}(h:j<k):(mY rs t k).getD j default=jV rs t j:=by simp[mY,List.getD,h]
def MF:Int:=1000000000000
def aPi(cs:List Int)(n:Nat):List Int:=cs++List.replicate (n-cs.length) 0
def fD(cs ds:List Int)(c:Int):Nat->List Int
 | 0=>aPi cs ds.length
 | j+1=>(fD cs ds c j).set j ((fD cs ds c j).getD j default+c*ds.getD j default)
def t9:PolyT:=⟨0,[]⟩
def nC(o a:PolyT)(c:Int):PolyT:=⟨o.const+c*a.const,fD o.coef a.coef c a.coef.length⟩
def xE(n:Int):PolyT:=⟨0,(List.replicate (-n).toNat 0).set (-1-n).toNat 1⟩
def okF(o:PolyT):Prop:=(∀x∈o.coef,x≤MF)/\o.const≤MF
def sumF(F:Nat->PolyT×Bool)(p:PolyT):Nat->PolyT
 | 0=>⟨p.const,[]⟩
 | k+1=>nC (sumF F p k) (F k).1 (p.coef.getD k default)
open Classical in
noncomputable def jG(F:Nat->PolyT×Bool)(p:PolyT)(n:Nat):PolyT×Bool:=if (∀j<n,(F j).2=true)/\okF (sumF F p n) then (sumF F p n,true) else (t9,false)
noncomputable def bR(rs:List Int)(ps:List PolyT):Nat->List Int->PolyT×Bool
 | 0,_=>(t9,false)
 | f+1,t=>if t.getD 0 default<0 then (xE (t.getD 0 default),true) else jG (λj=>bR rs ps f (jV rs t j)) (ps.getD (t.getD 0 default).toNat default) (arS rs (t.getD 0 default)).toNat
theorem sE{F:Nat->PolyT×Bool}{p:PolyT}{n:Nat}(h:(∀j<n,(F j).2=true)/\okF (sumF F p n)):jG F p n=(sumF F p n,true):=if_pos h
theorem oO{F:Nat->PolyT×Bool}{p:PolyT}{n:Nat}(h:¬((∀j<n,(F j).2=true)/\okF (sumF F p n))):jG F p n=(t9,false):=if_neg h
theorem kR{rs:List Int}{ps:List PolyT}{f:Nat}{t:List Int}(h:t.getD 0 default<0):bR rs ps (f+1) t=(xE (t.getD 0 default),true):=if_pos h
theorem lZ{rs:List Int}{ps:List PolyT}{f:Nat}{t:List Int}(h:¬t.getD 0 default<0):bR rs ps (f+1) t=jG (λj=>bR rs ps f (jV rs t j)) (ps.getD (t.getD 0 default).toNat default) (arS rs (t.getD 0 default)).toNat:=if_neg h
theorem aRx(cs:List Int)(n:Nat):(aPi cs n).length=max cs.length n:=by
 unfold aPi;rw[zK,List.length_replicate];omega
theorem iL(cs ds:List Int)(c:Int):∀j,(fD cs ds c j).length=max cs.length ds.length
 | 0=>aRx _ _
 | j+1=>by simp only[fD,List.length_set,iL cs ds c j]
theorem aRa(cs:List Int)(n i:Nat):(aPi cs n).getD i default=cs.getD i default:=by
 unfold aPi
 simp only[zD]
 rcases Nat.lt_or_ge i cs.length with h|h
 ·rw[zL h]
 ·rw[zM h,List.getElem?_eq_none h,List.getElem?_replicate]
  split<;>rfl
theorem aJD(l:List Int)(j i:Nat)(x:Int):(l.set j x).getD i default=if j=i/\j<l.length then x else l.getD i default:=by
 simp only[zD,List.getElem?_set]
 by_cases h:j=i
 ·subst h
  by_cases h2:j<l.length
  ·simp[h2]
  ·simp[h2,List.getElem?_eq_none (Nat.not_lt.1 h2)]
 ·simp[h]
theorem oE(cs ds:List Int)(c:Int):∀j,j≤ds.length->∀i,(fD cs ds c j).getD i default=cs.getD i default+if i<j then c*ds.getD i default else 0
 | 0,_,i=>by rw[fD,aRa,if_neg (Nat.not_lt_zero _),Int.add_zero]
 | j+1,hj,i=>by
  have ih:=oE cs ds c j (by omega)
  simp only[fD,aJD,iL,ih]
  by_cases h:j=i
  ·subst h
   rw[if_pos ⟨rfl,by omega⟩,if_neg (by omega),if_pos (by omega)]
   omega
  ·rw[if_neg (λe=>h e.1)]
   by_cases h2:i<j
   ·rw[if_pos h2,if_pos (by omega)]
   ·rw[if_neg h2,if_neg (by omega)]
theorem aEI(cs ds:List Int)(c:Int){j:Nat}(hj:ds.length≤j):ds.getD j default=0:=by
 rw[zD,List.getElem?_eq_none hj];rfl
def mG(cs ds:List Int)(c:Int)(i:Nat):List Int:=(fD cs ds c i).take (max cs.length i)
def j7(cs ds:List Int)(c:Int)(i:Nat):List Int:=(fD cs ds c i).take (max cs.length (i+1))
theorem aPg(cs ds:List Int)(c:Int){i:Nat}(h:i≤ds.length):(mG cs ds c i).length=max cs.length i:=by unfold mG;rw[List.length_take,iL];omega
theorem aFu(cs ds:List Int)(c:Int){i:Nat}(h:i<ds.length):(j7 cs ds c i).length=max cs.length (i+1):=by unfold j7;rw[List.length_take,iL];omega
theorem aLY(cs ds:List Int)(c:Int):mG cs ds c 0=cs:=by
 unfold mG fD aPi
 rw[show max cs.length 0=cs.length by omega,List.take_left]
theorem aPe(cs ds:List Int)(c:Int){i:Nat}(h:i<ds.length)(hc:cs.length≤i):mG cs ds c i++[0]=j7 cs ds c i:=by
 unfold mG j7
 rw[show max cs.length i=i by omega,show max cs.length (i+1)=i+1 by omega,List.take_succ_eq_append_getElem (by rw[iL];omega)]
 congr 2
 have h1:=oE cs ds c i (by omega) i
 rw[if_neg (by omega),zD,zB (by rw[iL];omega),Option.getD_some,zD,List.getElem?_eq_none hc] at h1
 rw[h1];rfl
theorem aMV(cs ds:List Int)(c:Int){i:Nat}(hc:i<cs.length):mG cs ds c i=j7 cs ds c i:=by
 unfold mG j7
 rw[show max cs.length i=max cs.length (i+1) by omega]
theorem aFt(cs ds:List Int)(c:Int)(i:Nat):(j7 cs ds c i).getD i default=(fD cs ds c i).getD i default:=by
 unfold j7
 rw[zD,zD,List.getElem?_take,if_pos (by omega)]
theorem aES(cs ds:List Int)(c:Int)(i:Nat):(j7 cs ds c i).set i ((j7 cs ds c i).getD i default+c*ds.getD i default)=mG cs ds c (i+1):=by
 rw[aFt]
 unfold j7 mG
 rw[fD,List.take_set]
theorem aPI(cs ds:List Int)(c:Int):mG cs ds c ds.length=fD cs ds c ds.length:=by
 unfold mG
 rw[List.take_of_length_le (by rw[iL];omega)]
open Classical in
noncomputable def aGb(a b:PolyT)(c:Int):PolyT×Bool:=if ∀x∈(nC a b c).coef,x≤MF then (nC a b c,tst ((nC a b c).const≤MF)) else (t9,false)
theorem aDy{a b:PolyT}{c:Int}(h:∀x∈(nC a b c).coef,x≤MF):aGb a b c=(nC a b c,tst ((nC a b c).const≤MF)):=if_pos h
theorem aNz{a b:PolyT}{c:Int}(h:¬ ∀x∈(nC a b c).coef,x≤MF):aGb a b c=(t9,false):=if_neg h
theorem aNH{a b:PolyT}{c:Int}:(aGb a b c).2=true↔okF (nC a b c):=by
 by_cases h:∀x∈(nC a b c).coef,x≤MF
 ·rw[aDy h]
  exact⟨λe=>⟨h,iY.1 e⟩,λe=>bQ e.2⟩
 ·rw[aNz h]
  exact⟨λe=>absurd e (by simp),λe=>absurd e.1 h⟩
def gE(B:Int)(o:PolyT):Prop:=(0≤o.const/\o.const≤B)/\(∀x∈o.coef,0≤x/\x≤B)/\o.coef.length≤24
def fU(n:Int)(p:PolyT):Prop:=((p.coef.length:Int)=n/\0≤p.const/\p.const≤9)/\∀x∈p.coef,0≤x/\x≤9
def dI(rs:List Int)(ps:List PolyT):Prop:=(eA rs/\ps.length=rs.length)/\∀f<ps.length,fU (rs.getD f default) (ps.getD f default)
theorem jI{xs:List Int}{P:Int->Prop}(h0:P 0)(h:∀x∈xs,P x)(i:Nat):P (xs.getD i default):=by
 rcases Nat.lt_or_ge i xs.length with h1|h1
 ·exact h _ (bA xs i h1)
 ·rw[zD,List.getElem?_eq_none h1];exact h0
theorem oU{xs:List Int}{P:Int->Prop}(h:∀i<xs.length,P (xs.getD i default)):∀x∈xs,P x:=λx hx=>by
 obtain⟨j,hj,rfl⟩:=List.getElem_of_mem hx
 have:=h j hj
 rwa [zD,zB hj] at this
theorem aQ6{B B':Int}{o a:PolyT}{c:Int}(ho:gE B o)(ha:gE B' a)(hc:0≤c/\c≤9)(hB:0≤B)(hB':0≤B'):gE (B+9*B') (nC o a c):=by
 have hmul:∀x,0≤x/\x≤B'->0≤c*x/\c*x≤9*B':=λx hx=>⟨Int.mul_nonneg hc.1 hx.1,Int.mul_le_mul hc.2 hx.2 hx.1 (by omega)⟩
 refine⟨?_,oU λi _=>?_,?_⟩
 ·have:=hmul _ ha.1;have:=ho.1
  show 0≤o.const+c*a.const/\o.const+c*a.const≤B+9*B'
  omega
 ·show 0≤(fD o.coef a.coef c a.coef.length).getD i default/\(fD o.coef a.coef c a.coef.length).getD i default≤B+9*B'
  rw[oE _ _ _ _ (zQ _)]
  have h1:=jI (P:=λx=>0≤x/\x≤B) ⟨Int.le_refl _,hB⟩ ho.2.1 i
  have h2:=hmul _ (jI (P:=λx=>0≤x/\x≤B') ⟨Int.le_refl _,hB'⟩ ha.2.1 i)
  split<;>omega
 ·show (fD o.coef a.coef c a.coef.length).length≤24
  rw[iL]
  have:=ho.2.2;have:=ha.2.2;omega
theorem aHB{B B':Int}{o:PolyT}(h:gE B o)(hB:B≤B'):gE B' o:=⟨⟨h.1.1,by have:=h.1.2;omega⟩,λx hx=>⟨(h.2.1 x hx).1,by have:=(h.2.1 x hx).2;omega⟩,h.2.2⟩
theorem vW{n:Int}{p:PolyT}(h:fU n p)(k:Nat):0≤p.coef.getD k default/\p.coef.getD k default≤9:=jI (P:=λx=>0≤x/\x≤9) ⟨Int.le_refl _,by decide⟩ h.2 k
theorem rV{F:Nat->PolyT×Bool}{p:PolyT}{m:Int}(hp:fU m p):∀n,(∀j<n,gE MF (F j).1)->gE (9+9*MF*n) (sumF F p n)
 | 0,_=>⟨⟨hp.1.2.1,by show p.const≤9+9*MF*((0:Nat):Int);have:=hp.1.2.2;simp only[MF];omega⟩,(λx hx=>by cases hx),by simp[sumF]⟩
 | n+1,h=>by
  have ih:=rV hp n λj hj=>h j (by omega)
  have h1:=aQ6 ih (h n (by omega)) (vW hp n) (by simp only[MF];omega) (by decide)
  refine aHB h1 ?_
  simp only[MF];omega
theorem aVm{B B':Int}{o a:PolyT}{c:Int}(ho:gE B o)(ha:gE B' a)(hB':0≤B')(hc:0≤c)(h:okF (nC o a c)):okF o:=by
 have hmul:∀x,0≤x/\x≤B'->0≤c*x:=λx hx=>Int.mul_nonneg hc hx.1
 refine⟨oU λi hi=>?_,?_⟩
 ·have h1:(fD o.coef a.coef c a.coef.length).getD i default≤MF:=h.1 _ (bA _ i (by show i<(fD o.coef a.coef c a.coef.length).length;rw[iL];omega))
  rw[oE _ _ _ _ (zQ _)] at h1
  have h2:=hmul _ (jI (P:=λx=>0≤x/\x≤B') ⟨Int.le_refl _,hB'⟩ ha.2.1 i)
  split at h1<;>omega
 ·have h1:o.const+c*a.const≤MF:=h.2
  have:=hmul _ ha.1
  omega
theorem aXl{F:Nat->PolyT×Bool}{p:PolyT}{m:Int}(hp:fU m p){n:Nat}(h:∀j<n,gE MF (F j).1)(hok:okF (sumF F p n)):∀k≤n,okF (sumF F p k):=by
 induction n with
 | zero=>intro k hk;rwa [show k=0 by omega]
 | succ n ih =>
  intro k hk
  rcases Nat.lt_or_ge k (n+1) with h1|h1
  ·exact ih (λj hj=>h j (by omega)) (aVm (rV hp n λj hj=>h j (by omega)) (h n (by omega)) (by decide) (vW hp n).1 hok) k (by omega)
  ·rwa [show k=n+1 by omega]
theorem aTS{p:PolyT}{m:Int}(hp:fU m p):okF ⟨p.const,[]⟩:=⟨(λx hx=>by cases hx),by show p.const≤MF;have:=hp.1.2.2;simp only[MF];omega⟩
theorem aDg{n:Int}(h0:n<0)(h1:-24≤n):gE MF (xE n):=by
 refine⟨⟨Int.le_refl _,by show (0:Int)≤MF;decide⟩,λx hx=>?_,?_⟩
 ·rcases List.mem_or_eq_of_mem_set hx with h|rfl
  ·rw[(List.mem_replicate.1 h).2];decide
  ·decide
 ·show ((List.replicate (-n).toNat (0:Int)).set (-1-n).toNat 1).length≤24
  rw[List.length_set,List.length_replicate];omega
theorem sR:gE MF t9:=⟨⟨Int.le_refl _,by show (0:Int)≤MF;decide⟩,(λx hx=>by cases hx),by simp[t9]⟩
theorem aB3{F:Nat->PolyT×Bool}{p:PolyT}{m:Int}(hp:fU m p){n:Nat}(h:∀j<n,gE MF (F j).1):gE MF (jG F p n).1:=by
 rcases Classical.em ((∀j<n,(F j).2=true)/\okF (sumF F p n)) with h1|h1
 ·rw[sE h1]
  have h2:=rV hp n h
  exact⟨⟨h2.1.1,h1.2.2⟩,λx hx=>⟨(h2.2.1 x hx).1,h1.2.1 x hx⟩,h2.2.2⟩
 ·rw[oO h1];exact sR
theorem aHc{rs:List Int}{ps:List PolyT}(h:dI rs ps){n:Int}(h0:0≤n)(h1:n<rs.length):fU (arS rs n) (ps.getD n.toNat default):=by
 rw[jZ (by omega)]
 exact h.2 n.toNat (by rw[h.1.2];omega)
theorem tC{rs:List Int}{ps:List PolyT}(hP:dI rs ps):∀f t,aX rs t->gE MF (bR rs ps f t).1
 | 0,_,_=>sR
 | f+1,t,ht=>by
  have hl:=ht.low (show 0<t.length from ht.2.1.1)
  by_cases h:t.getD 0 default<0
  ·rw[kR h];exact aDg h hl.1.1
  ·rw[lZ h]
   exact aB3 (aHc hP (by omega) hl.1.2) λj hj=>tC hP f _ (i7 ht hj).1
def uF(a b:PolyT):Prop:=∀i<a.coef.length,a.coef.getD i default≤b.coef.getD i default
def aLk:List (Nat×List Nat):=[(0,[0]),(1,[0,4]),(2,[2]),(3,[2])]
attribute [go_sem] aLk
end
section
attribute [local irreducible] SW bC bE dE bU FC
def wD(rs l r:List Int):Prop:=(aX rs l/\aX rs r/\0≤l.getD 0 default)/\∀j<r.length,r.getD j default<0->r.getD j default∈l
def aRZ:List (Nat×List Nat):=[(0,[2,3]),(1,[3,24]),(2,[4]),(3,[3,5]),(4,[3,5,29]),(6,[3,5,48]),(7,[4]),(5,[3,5]),(8,[4])]
attribute [go_sem] aRZ
theorem aD9(tk tk1 tk2:Tk)(rs l r:List Int):FC S 96 [] [] [] [.agg [.sl tk (rs.map (.int .i64))],.agg [.sl tk1 (l.map (.int .i64)),.sl tk2 (r.map (.int .i64))]] (.bool (tst (wD rs l r))) [] []:=by
 have hl1:aX rs l->1≤l.length:=λh=>h.2.1.1
 unfold wD
 refine aP Tryz.func96 rfl (by kernel_rfl) (by simp[Tryz.f96]) λB=>?_
 simp only[Tryz.ntmps96,aS,aZ,Nat.reduceAdd]
 refine bX 0 0 rfl rfl λhb0_0=>?_
 simp only[D.bnd,zC] at hb0_0
 refine bX 1 0 rfl rfl λhb1_0=>?_
 simp only[D.bnd,zC] at hb1_0
 refine bX 1 1 rfl rfl λhb1_1=>?_
 simp only[D.bnd,zC] at hb1_1
 repeat' first|apply aE|refine aI 0 aRZ λK hK=>?_|((first|apply aD|apply aK|refine aA (aO ?_)|apply aA);simp(disch:=apply aB;omega)only[go_sem,Tryz.results96])|(apply hK.nil;clear hK K;simp only[go_sem])|((first|refine aH rfl rfl rfl rfl rfl ?_ ?_|refine aN rfl rfl rfl rfl rfl ?_ ?_|refine aF rfl ?_ ?_)<;>intro h<;>try simp(disch:=apply aB;omega)only[go_sem] at h)|refine hK.skp rfl rfl ?_|refine hK.c0 rfl rfl rfl (fY _ _ _ _) rfl rfl rfl ?_|fail
 ·rintro⟨⟨h1,_⟩,_⟩;contradiction
 ·rintro⟨⟨_,h1,_⟩,_⟩;contradiction
 have hl2:=hl1 (by assumption)
 simp(disch:=apply aB;omega)only[go_sem]
 repeat' first|apply aE|apply aG|apply aJ|refine aI 0 aRZ λK hK=>?_|((first|apply aD|apply aK|refine aA (aO ?_)|apply aA);simp(disch:=apply aB;omega)only[go_sem,Tryz.results96])|(apply hK.nil;clear hK K;simp only[go_sem])|((first|refine aH rfl rfl rfl rfl rfl ?_ ?_|refine aN rfl rfl rfl rfl rfl ?_ ?_|refine aF rfl ?_ ?_)<;>intro h<;>try simp(disch:=apply aB;omega)only[go_sem] at h)|(with_reducible refine And.intro (by first|omega|(simp only[lens];omega)) ?_)|fail
 ·rintro⟨⟨_,_,h1⟩,_⟩;omega
 refine bB (ι:=Nat) (λi=>[(5,.int .i64 i)]) (λ_=>[]) (λi=>i≤r.length/\(∀j<i,r.getD j default<0->r.getD j default∈l)) (λi=>r.length-i) 0 (by(refine aC rfl rfl ?_ ?_ ?_ ?_<;>simp(disch:=apply aB;omega)only[go_sem]<;>(try omega))) ⟨by omega,?_⟩ (λi ⟨hi,hj⟩=>?_)
 rotate_left
 simp only[go_sem]
 repeat' first|apply aE|apply aG|apply aM|apply aJ|refine aI 0 aRZ λK hK=>?_|refine aY aRZ (by kernel_rfl) λK hK=>?_|((first|apply aD|apply aK|refine aA (aO ?_)|apply aA);simp(disch:=apply aB;omega)only[go_sem,Tryz.results96])|(apply hK.nil;clear hK K;simp only[go_sem])|((first|refine aH rfl rfl rfl rfl rfl ?_ ?_|refine aN rfl rfl rfl rfl rfl ?_ ?_|refine aF rfl ?_ ?_)<;>intro h<;>try simp(disch:=apply aB;omega)only[go_sem] at h)|refine hK.skp rfl rfl ?_|refine aT rfl ?_|apply aL|refine hK.c0 rfl rfl rfl (gD _ _ _) rfl rfl rfl ?_|(with_reducible refine And.intro (by first|omega|(simp only[lens];omega)) ?_)|fail
 ·rintro⟨_,h2⟩;exact absurd (h2 i (by omega) (by assumption)) h
 ·exact⟨i+1,by(refine aC rfl rfl ?_ ?_ ?_ ?_<;>simp(disch:=apply aB;omega)only[go_sem]<;>(try omega)),⟨by omega,bJ hj λ_=>h⟩,by omega⟩
 ·exact⟨i+1,by(refine aC rfl rfl ?_ ?_ ?_ ?_<;>simp(disch:=apply aB;omega)only[go_sem]<;>(try omega)),⟨by omega,bJ hj λh0=>by omega⟩,by omega⟩
 ·exact⟨⟨by assumption,by assumption,by omega⟩,λj hj'=>hj j (by omega)⟩
 ·intro j hj';omega
def aNF:List (Nat×List Nat):=[(0,[2,3]),(1,[3,25]),(2,[4]),(3,[3,27,28,29]),(4,[3,27,28,29,30]),(5,[3,6,27,28,29]),(6,[3,27,28,29,41]),(7,[4]),(8,[3,27,28,29]),(9,[4])]
attribute [go_sem] aNF
theorem aD8(tk tk1 tk2:Tk)(rs l r:List Int):FC S 106 [] [] [] [.agg [.sl tk (rs.map (.int .i64))],.agg [.sl tk1 (l.map (.int .i64)),.sl tk2 (r.map (.int .i64))]] (.bool (tst (wD rs l r))) [] []:=by
 have hl1:aX rs l->1≤l.length:=λh=>h.2.1.1
 unfold wD
 refine aP Tryz.func106 rfl (by kernel_rfl) (by simp[Tryz.f106]) λB=>?_
 simp only[Tryz.ntmps106,aS,aZ,Nat.reduceAdd]
 refine bX 0 0 rfl rfl λhb0_0=>?_
 simp only[D.bnd,zC] at hb0_0
 refine bX 1 0 rfl rfl λhb1_0=>?_
 simp only[D.bnd,zC] at hb1_0
 refine bX 1 1 rfl rfl λhb1_1=>?_
 simp only[D.bnd,zC] at hb1_1
 repeat' first|apply aE|refine aI 0 aNF λK hK=>?_|((first|apply aD|refine aA (aO ?_)|apply aA);simp(disch:=apply aB;omega)only[go_sem,Tryz.results106])|(apply hK.nil;clear hK K;simp only[go_sem])|((first|refine aH rfl rfl rfl rfl rfl ?_ ?_|refine aF rfl ?_ ?_)<;>intro h<;>try simp(disch:=apply aB;omega)only[go_sem] at h)|refine hK.skp rfl rfl ?_|refine hK.c0 rfl rfl rfl (t8 _ _ _ _) rfl rfl rfl ?_|fail
 ·rintro⟨⟨h1,_⟩,_⟩;contradiction
 ·rintro⟨⟨_,h1,_⟩,_⟩;contradiction
 have hl2:=hl1 (by assumption)
 simp(disch:=apply aB;omega)only[go_sem]
 repeat' first|apply aE|apply aG|apply aJ|refine aI 0 aNF λK hK=>?_|((first|apply aD|refine aA (aO ?_)|apply aA);simp(disch:=apply aB;omega)only[go_sem,Tryz.results106])|(apply hK.nil;clear hK K;simp only[go_sem])|((first|refine aH rfl rfl rfl rfl rfl ?_ ?_|refine aF rfl ?_ ?_)<;>intro h<;>try simp(disch:=apply aB;omega)only[go_sem] at h)|(with_reducible refine And.intro (by first|omega|(simp only[lens];omega)) ?_)|fail
 ·rintro⟨⟨_,_,h1⟩,_⟩;omega
 refine bB (ι:=Nat) (λi=>[(29,.int .i64 i)]) (λ_=>[]) (λi=>i≤r.length/\(∀j<i,r.getD j default<0->r.getD j default∈l)) (λi=>r.length-i) 0 (by(refine aC rfl rfl ?_ ?_ ?_ ?_<;>simp(disch:=apply aB;omega)only[go_sem]<;>(try omega))) ⟨by omega,?_⟩ (λi ⟨hi,hj⟩=>?_)
 rotate_left
 simp only[go_sem]
 repeat' first|apply aE|apply aG|apply aM|apply aJ|refine aI 0 aNF λK hK=>?_|((first|apply aD|refine aA (aO ?_)|apply aA);simp(disch:=apply aB;omega)only[go_sem,Tryz.results106])|(apply hK.nil;clear hK K;simp only[go_sem])|((first|refine aH rfl rfl rfl rfl rfl ?_ ?_|refine aF rfl ?_ ?_)<;>intro h<;>try simp(disch:=apply aB;omega)only[go_sem] at h)|refine hK.skp rfl rfl ?_|refine aT rfl ?_|apply aL|refine hK.c0 rfl rfl rfl (rI _ _ _) rfl rfl rfl ?_|(with_reducible refine And.intro (by first|omega|(simp only[lens];omega)) ?_)|fail
 ·rintro⟨_,h2⟩;exact absurd (h2 i (by omega) (by assumption)) h
 ·exact⟨i+1,by(refine aC rfl rfl ?_ ?_ ?_ ?_<;>simp(disch:=apply aB;omega)only[go_sem]<;>(try omega)),⟨by omega,bJ hj λ_=>h⟩,by omega⟩
 ·exact⟨i+1,by(refine aC rfl rfl ?_ ?_ ?_ ?_<;>simp(disch:=apply aB;omega)only[go_sem]<;>(try omega)),⟨by omega,bJ hj λh0=>by omega⟩,by omega⟩
 ·exact⟨⟨by assumption,by assumption,by omega⟩,λj hj'=>hj j (by omega)⟩
 ·intro j hj';omega
end
section
attribute [local irreducible] SW bC bE dE bU FC Ret dO
def fO(p:List Nat)(xs:List Int):D:=.sl (.lab p) (xs.map (.int .i64))
attribute [go_sem] fO
theorem aC3(p:List Nat)(xs:List Int):D.le (fO p xs) (.sl .any (xs.map (.int .i64))):=.any
def m4(p:List Nat)(x:PolyT):D:=.agg [.int .i64 x.const,fO (p++[1]) x.coef]
attribute [go_sem] m4
theorem aAL(p:List Nat)(x:PolyT):leL (m4 p x).cells (bS x).cells:=⟨.refl _,aC3 _ _,trivial⟩
def yQ(p:List Nat)(xs:List PolyT):D:=.sl (.lab p) (lE (λi y=>m4 (p++[i]) y) xs)
attribute [go_sem] yQ
theorem aPl(p:List Nat)(xs:List PolyT):D.le (yQ p xs) (.sl .any (xs.map bS)):=aG6 xs λj x=>aAL _ _
end
section
attribute [local irreducible] SW bC bE dE bU FC
attribute [go_sem] kH jP aLq
def aOl(rs:List Int)(r:RuleT):Prop:=wD rs r.l r.r
def b7(x:SystemT):Prop:=(eA x.sig/\x.rules.length≤12)/\∀j<x.rules.length,aOl x.sig (x.rules.getD j default)
theorem b7.len{x:SystemT}(h:b7 x)(j:Nat)(hj:j<x.rules.length):(1≤(x.rules.getD j default).l.length/\(x.rules.getD j default).l.length≤60)/\(1≤(x.rules.getD j default).r.length/\(x.rules.getD j default).r.length≤60) :=
 ⟨(h.2 j hj).1.1.2.1,(h.2 j hj).1.2.1.2.1⟩
def aVM:List (Nat×List Nat):=[(0,[1]),(1,[1,13]),(2,[2]),(3,[1,3]),(4,[1,3,18]),(6,[1,3,29]),(7,[2]),(5,[1,3]),(8,[2])]
attribute [go_sem] aVM
theorem g7(x:SystemT):FC S 62 [] [] [] [bP x] (.bool (tst (b7 x))) [] []:=by
 refine aP Tryz.func62 rfl (by kernel_rfl) (by simp[Tryz.f62]) λB=>?_
 simp only[Tryz.ntmps62,aS,aZ,Nat.reduceAdd]
 refine bX 0 1 rfl rfl λhb0_1=>?_
 simp only[D.bnd,zC] at hb0_1
 repeat' first|apply aE|apply aG|apply aJ|refine aI 0 aVM λK hK=>?_|((first|apply aD|apply aK|refine aA (aO ?_)|apply aA);simp(disch:=apply aB;omega)only[go_sem,Tryz.results62])|(apply hK.nil;clear hK K;simp only[go_sem])|((first|refine aH rfl rfl rfl rfl rfl ?_ ?_|refine aN rfl rfl rfl rfl rfl ?_ ?_|refine aF rfl ?_ ?_)<;>intro h<;>try simp(disch:=apply aB;omega)only[go_sem] at h)|refine hK.c0 rfl rfl rfl (lS _ _) rfl rfl rfl ?_|fail
 ·rintro⟨⟨h1,_⟩,_⟩;contradiction
 ·rintro⟨⟨_,h1⟩,_⟩;omega
 refine bB (ι:=Nat) (λi=>[(3,.int .i64 i)]) (λ_=>[]) (λi=>i≤x.rules.length/\(∀j<i,aOl x.sig (x.rules.getD j default))) (λi=>x.rules.length-i) 0 (by(refine aC rfl rfl ?_ ?_ ?_ ?_<;>simp(disch:=apply aB;omega)only[go_sem]<;>(try omega))) ⟨by omega,?_⟩ (λi ⟨hi,hj⟩=>?_)
 rotate_left
 simp only[go_sem]
 repeat' first|apply aE|apply aG|apply aM|apply aJ|refine aI 0 aVM λK hK=>?_|refine aY aVM (by kernel_rfl) λK hK=>?_|((first|apply aD|apply aK|refine aA (aO ?_)|apply aA);simp(disch:=apply aB;omega)only[go_sem,Tryz.results62])|(apply hK.nil;clear hK K;simp only[go_sem])|((first|refine aH rfl rfl rfl rfl rfl ?_ ?_|refine aN rfl rfl rfl rfl rfl ?_ ?_|refine aF rfl ?_ ?_)<;>intro h<;>try simp(disch:=apply aB;omega)only[go_sem] at h)|refine aT rfl ?_|apply aL|refine hK.c0 rfl rfl rfl (aD9 _ _ _ x.sig (x.rules.getD i default).l (x.rules.getD i default).r) rfl rfl rfl ?_|(with_reducible refine And.intro (by first|omega|(simp only[lens];omega)) ?_)|fail
 ·rintro⟨_,h2⟩;exact h (h2 i (by omega))
 ·exact⟨i+1,by(refine aC rfl rfl ?_ ?_ ?_ ?_<;>simp(disch:=apply aB;omega)only[go_sem]<;>(try omega)),⟨by omega,bJ hj h⟩,by omega⟩
 ·exact⟨⟨by assumption,by omega⟩,λj hj'=>hj j (by omega)⟩
 ·intro j hj';omega
def aWL:List (Nat×List Nat):=[(0,[1]),(1,[1,14]),(2,[2]),(3,[1,16,17,18]),(4,[1,16,17,18,19]),(5,[1,4,16,17,18]),(6,[1,16,17,18,26]),(7,[2]),(8,[1,16,17,18]),(9,[2])]
attribute [go_sem] aWL
theorem qB(x:SystemT):FC S 73 [] [] [] [bP x] (.bool (tst (b7 x))) [] []:=by
 refine aP Tryz.func73 rfl (by kernel_rfl) (by simp[Tryz.f73]) λB=>?_
 simp only[Tryz.ntmps73,aS,aZ,Nat.reduceAdd]
 refine bX 0 1 rfl rfl λhb0_1=>?_
 simp only[D.bnd,zC] at hb0_1
 repeat' first|apply aE|apply aG|apply aJ|refine aI 0 aWL λK hK=>?_|((first|apply aD|refine aA (aO ?_)|apply aA);simp(disch:=apply aB;omega)only[go_sem,Tryz.results73])|(apply hK.nil;clear hK K;simp only[go_sem])|((first|refine aH rfl rfl rfl rfl rfl ?_ ?_|refine aF rfl ?_ ?_)<;>intro h<;>try simp(disch:=apply aB;omega)only[go_sem] at h)|refine hK.c0 rfl rfl rfl (pM _ _) rfl rfl rfl ?_|fail
 ·rintro⟨⟨h1,_⟩,_⟩;contradiction
 ·rintro⟨⟨_,h1⟩,_⟩;omega
 refine bB (ι:=Nat) (λi=>[(18,.int .i64 i)]) (λ_=>[]) (λi=>i≤x.rules.length/\(∀j<i,aOl x.sig (x.rules.getD j default))) (λi=>x.rules.length-i) 0 (by(refine aC rfl rfl ?_ ?_ ?_ ?_<;>simp(disch:=apply aB;omega)only[go_sem]<;>(try omega))) ⟨by omega,?_⟩ (λi ⟨hi,hj⟩=>?_)
 rotate_left
 simp only[go_sem]
 repeat' first|apply aE|apply aG|apply aM|apply aJ|refine aI 0 aWL λK hK=>?_|((first|apply aD|refine aA (aO ?_)|apply aA);simp(disch:=apply aB;omega)only[go_sem,Tryz.results73])|(apply hK.nil;clear hK K;simp only[go_sem])|((first|refine aH rfl rfl rfl rfl rfl ?_ ?_|refine aF rfl ?_ ?_)<;>intro h<;>try simp(disch:=apply aB;omega)only[go_sem] at h)|refine aT rfl ?_|apply aL|refine hK.c0 rfl rfl rfl (aD8 _ _ _ x.sig (x.rules.getD i default).l (x.rules.getD i default).r) rfl rfl rfl ?_|(with_reducible refine And.intro (by first|omega|(simp only[lens];omega)) ?_)|fail
 ·rintro⟨_,h2⟩;exact h (h2 i (by omega))
 ·exact⟨i+1,by(refine aC rfl rfl ?_ ?_ ?_ ?_<;>simp(disch:=apply aB;omega)only[go_sem]<;>(try omega)),⟨by omega,bJ hj h⟩,by omega⟩
 ·exact⟨⟨by assumption,by omega⟩,λj hj'=>hj j (by omega)⟩
 ·intro j hj';omega
theorem aPL{α:Type} [Inhabited α] (xs:List α)(i:Nat)(h:i<xs.length):xs.take (i+1)=xs.take i++[xs.getD i default]:=by
 rw[List.take_succ_eq_append_getElem h]
 simp[List.getD,zB h]
theorem sK(p:List Nat)(hp:p≠[])(tk:Tk)(xs:List Int)(h1:xs≠[])(hl:xs.length≤17592186044416):FC S 78 [] [] [] [.sl tk (xs.map (.int .i64))] (fO p xs) [] []:=by
 have h1':xs.map (D.int .i64)≠[]:=by simpa using h1
 refine FC.args (args':=[.sl .any (xs.map (.int .i64))]) ?_ (by simp only[go_sem])
 refine aP Tryz.func78 rfl (by kernel_rfl) (by simp[Tryz.f78]) λB=>?_
 simp only[Tryz.ntmps78,aS,aZ,Nat.reduceAdd]
 refine bZ 0 rfl λhb0=>?_
 simp only[D.bnd,zC] at hb0
 repeat' first|(refine yR 2 p (k:=8000) rfl (by simp) hp ?_;simp only[go_sem])|apply aE|apply aJ|refine aI 0 aLk λK hK=>?_|((first|apply aD|refine aA (aO ?_)|apply aA);simp(disch:=apply aB;omega)only[go_sem,Tryz.results78])|(apply hK.nil;clear hK K;simp only[go_sem])|((first|refine aF rfl ?_ ?_)<;>intro h<;>try simp(disch:=apply aB;omega)only[go_sem] at h)|(with_reducible refine And.intro (by first|omega|(simp only[lens];omega)) ?_)|fail
end
section
def lQ(l:List Int):Prop:=l.Pairwise (· < ·)
theorem uZ(n:Int):∀xs:List Int,lQ xs->lQ (eF xs n)
 | [],_=>by simp[lQ,eF]
 | x::r,h=>by
  obtain⟨h1,h2⟩:=List.pairwise_cons.1 h
  unfold eF
  split
  ·rename_i hlt
   refine List.pairwise_cons.2 ⟨λy hy=>?_,uZ n r h2⟩
   rcases (kB y r n).1 hy with hy|rfl
   ·exact h1 y hy
   ·exact hlt
  ·split
   ·exact h
   ·rename_i h3 h4
    refine List.pairwise_cons.2 ⟨λy hy=>?_,h⟩
    rcases zO.1 hy with rfl|hy
    ·omega
    ·have:=h1 y hy;omega
theorem vR:∀ {a b:List Int},lQ a->lQ b->(∀x,x∈a↔x∈b)->a=b
 | [],[],_,_,_=>rfl
 | [],y::b,_,_,h=>by have:=(h y).2 zH;cases this
 | x::a,[],_,_,h=>by have:=(h x).1 zH;cases this
 | x::a,y::b,ha,hb,h=>by
  obtain⟨a1,a2⟩:=List.pairwise_cons.1 ha
  obtain⟨b1,b2⟩:=List.pairwise_cons.1 hb
  have hxy:x=y:=by
   rcases zO.1 ((h x).1 zH) with e|e
   ·exact e
   ·rcases zO.1 ((h y).2 zH) with e'|e'
    ·exact e'.symm
    ·have:=a1 y e';have:=b1 x e;omega
  subst hxy
  congr 1
  refine vR a2 b2 λz=>?_
  constructor
  ·intro hz
   rcases zO.1 ((h z).1 (zG _ hz)) with e|e
   ·have:=a1 z hz;omega
   ·exact e
  ·intro hz
   rcases zO.1 ((h z).2 (zG _ hz)) with e|e
   ·have:=b1 z hz;omega
   ·exact e
def upTo(n:Nat):List Int:=(List.range n).map λ(i:Nat)=>(i:Int)
theorem aAK(n:Nat):lQ (upTo n):=by
 unfold lQ upTo
 rw[List.pairwise_map]
 exact List.pairwise_lt_range.imp λh=>by omega
theorem aDH(n:Nat)(x:Int):x∈upTo n↔0≤x/\x<n:=by
 unfold upTo
 rw[zJ]
 constructor
 ·rintro⟨i,hi,rfl⟩
  have:=List.mem_range.1 hi
  omega
 ·intro h
  exact⟨x.toNat,List.mem_range.2 (by omega),by omega⟩
theorem aFi(n:Nat):upTo (n+1)=upTo n++[(n:Int)]:=by simp[upTo,List.range_succ]
end
section
attribute [local irreducible] SW bC bE dE bU FC dO
def uU(rules:List RuleT)(i:Nat):List Int:=(rules.take i).foldl (λacc r=>eF acc (r.l.getD 0 default)) []
theorem y1(rules:List RuleT)(i:Nat)(h:i<rules.length):uU rules (i+1)=eF (uU rules i) ((rules.getD i default).l.getD 0 default):=by
 unfold uU
 rw[aPL rules i h,List.foldl_append]
 rfl
theorem aB8(n:Int):∀xs:List Int,(eF xs n).length≤xs.length+1
 | []=>by simp[eF]
 | x::r=>by
  have ih:=aB8 n r
  unfold eF
  split
  ·simp only[List.length_cons];omega
  ·split<;>simp
theorem aJs(rules:List RuleT):∀i,i≤rules.length->(uU rules i).length≤i
 | 0,_=>by simp[uU]
 | i+1,h=>by
  have ih:=aJs rules i (by omega)
  rw[y1 rules i (by omega)]
  have:=aB8 ((rules.getD i default).l.getD 0 default) (uU rules i)
  omega
theorem aIh(rules:List RuleT)(m:Int):∀i,i≤rules.length->(m∈uU rules i↔∃j<i,(rules.getD j default).l.getD 0 default=m)
 | 0,_=>by simp[uU]
 | i+1,h=>by
  rw[y1 rules i (by omega),kB,aIh rules m i (by omega)]
  constructor
  ·rintro (⟨j,hj,e⟩|e)
   ·exact⟨j,by omega,e⟩
   ·exact⟨i,by omega,e.symm⟩
  ·rintro⟨j,hj,e⟩
   rcases Nat.lt_or_ge j i with h1|h1
   ·exact .inl ⟨j,h1,e⟩
   ·rw[show j=i by omega] at e;exact .inr e.symm
theorem aTY(rules:List RuleT)(m:Int):m∈uU rules rules.length↔∃r∈rules,r.l.getD 0 default=m:=by
 rw[aIh rules m _ (zQ _)]
 constructor
 ·rintro⟨j,hj,e⟩;exact⟨_,bA rules j hj,e⟩
 ·rintro⟨r,hr,e⟩
  obtain⟨j,hj,rfl⟩:=List.getElem_of_mem hr
  exact⟨j,hj,by rw[←e];simp[List.getD,zB hj]⟩
def aWW:List (Nat×List Nat):=[(0,[1]),(1,[1,3]),(2,[1,3,4]),(3,[1,3,4,10]),(5,[1,3,4]),(4,[1,3,4]),(6,[2])]
attribute [go_sem] aWW
theorem pD(x:SystemT)(hn:x.rules.length≤1000)(h:∀j<x.rules.length,1≤(x.rules.getD j default).l.length):FC S 97 [] [] [] [bP x] (.sl .any ((uU x.rules x.rules.length).map (.int .i64))) [] []:=by
 refine aP Tryz.func97 rfl (by kernel_rfl) (by simp[Tryz.f97]) λB=>?_
 simp only[Tryz.ntmps97,aS,aZ,Nat.reduceAdd]
 repeat' first|apply aE|apply aG|refine aI 0 aWW λK hK=>?_|((first|apply aD|refine aA (aO ?_)|apply aA);simp(disch:=apply aB;omega)only[go_sem,Tryz.results97])|(apply hK.nil;clear hK K;simp only[go_sem])|fail
 refine bB (ι:=Nat) (λp=>[(4,.int .i64 p),(3,.sl .any ((uU x.rules p).map (.int .i64)))]) (λp=>[]) (λp=>p≤x.rules.length) (λp=>x.rules.length-p) 0 (by(refine aC rfl rfl ?_ ?_ ?_ ?_<;>simp(disch:=apply aB;omega)only[go_sem]<;>(try omega));exact⟨rfl,rfl⟩) ?_ (λp hp=>?_)
 rotate_left
 simp only[go_sem]
 have hl:=aJs x.rules p hp
 have hs:=y1 x.rules p
 have h1:=h p
 repeat' first|apply aE|apply aG|apply aM|apply aJ|refine aI 0 aWW λK hK=>?_|((first|apply aD|refine aA (aO ?_)|apply aA);simp(disch:=apply aB;omega)only[go_sem,Tryz.results97])|(apply hK.nil;clear hK K;simp only[go_sem])|((first|refine aF rfl ?_ ?_)<;>intro h<;>try simp(disch:=apply aB;omega)only[go_sem] at h)|refine aT rfl ?_|apply aL|refine hK.c0 rfl rfl rfl (oA _ (uU x.rules p) _ (by omega)) rfl rfl rfl ?_|(with_reducible refine And.intro (by first|omega|(simp only[lens];omega)) ?_)|fail
 ·exact⟨p+1,(by(refine aC rfl rfl ?_ ?_ ?_ ?_<;>simp(disch:=apply aB;omega)only[go_sem]<;>(try omega));rw[hs (by omega)];exact⟨rfl,by omega⟩),by omega,by omega⟩
 ·rw[show p=x.rules.length by omega]
 ·omega
end
section
def mH(rs t:List Int)(k:Nat)(u:List Int):Prop:=∃a,(k≤a/\a<t.length)/\dJ rs t a=u
def aEe(x:SystemT)(n:Int):Prop:=∃r∈x.rules,r.l.getD 0 default=n
def oQ(x:SystemT)(r a:Nat):Prop:=(0≤(x.rules.getD r default).r.getD a default/\aEe x ((x.rules.getD r default).r.getD a default))/\¬mH x.sig (x.rules.getD r default).l 1 (dJ x.sig (x.rules.getD r default).r a)
def mkP(x:SystemT)(r a:Nat):DepPairT:=⟨(x.rules.getD r default).l,dJ x.sig (x.rules.getD r default).r a,r,a⟩
open Classical in
noncomputable def prR(x:SystemT)(r:Nat):Nat->List DepPairT
 | 0=>[]
 | a+1=>if oQ x r a then prR x r a++[mkP x r a] else prR x r a
noncomputable def prA(x:SystemT):Nat->List DepPairT
 | 0=>[]
 | r+1=>prA x r++prR x r (x.rules.getD r default).r.length
theorem aHE{x:SystemT}{r a:Nat}(h:oQ x r a):prR x r (a+1)=prR x r a++[mkP x r a]:=if_pos h
theorem aKL{x:SystemT}{r a:Nat}(h:¬oQ x r a):prR x r (a+1)=prR x r a:=if_neg h
theorem aBI(x:SystemT)(r:Nat):∀a,(prR x r a).length≤a
 | 0=>zQ _
 | a+1=>by
  have ih:=aBI x r a
  rcases Classical.em (oQ x r a) with h|h
  ·rw[aHE h,zK];simp;omega
  ·rw[aKL h];omega
theorem aGa{x:SystemT}(hx:b7 x):∀r≤x.rules.length,(prA x r).length≤60*r
 | 0,_=>zQ _
 | r+1,h=>by
  have ih:=aGa hx r (by omega)
  have h1:=aBI x r (x.rules.getD r default).r.length
  have h2:=(hx.2 r (by omega)).1.2.1.2.1
  simp only[prA,zK]
  omega
def jN(rs:List Int)(p:DepPairT):Prop:=(aX rs p.l/\aX rs p.r)/\0≤p.l.getD 0 default/\0≤p.r.getD 0 default
theorem aT4{x:SystemT}(hx:b7 x){r:Nat}(hr:r<x.rules.length):∀a≤(x.rules.getD r default).r.length,∀p∈prR x r a,jN x.sig p
 | 0,_,p,hp=>by cases hp
 | a+1,ha,p,hp=>by
  have ih:=aT4 hx hr a (by omega)
  have hR:=hx.2 r hr
  rcases Classical.em (oQ x r a) with h|h
  ·rw[aHE h] at hp
   rcases zP.1 hp with hp|hp
   ·exact ih p hp
   ·rw[zN.1 hp]
    refine⟨⟨hR.1.1,nH hR.1.2.1 (by omega)⟩,hR.1.2.2,?_⟩
    show 0≤(dJ x.sig (x.rules.getD r default).r a).getD 0 default
    rw[(aHC hR.1.2.1 (show a<(x.rules.getD r default).r.length by omega)).1]
    exact h.1.1
  ·rw[aKL h] at hp;exact ih p hp
theorem aSJ{x:SystemT}(hx:b7 x):∀r≤x.rules.length,∀p∈prA x r,jN x.sig p
 | 0,_,p,hp=>by cases hp
 | r+1,h,p,hp=>by
  rcases zP.1 hp with hp|hp
  ·exact aSJ hx r (by omega) p hp
  ·exact aT4 hx (by omega) _ (zQ _) p hp
def gH(x:SystemT):Prop:=b7 x/\(prA x x.rules.length).length≤64
noncomputable def bL(x:SystemT):List DepPairT:=prA x x.rules.length
open Classical in
noncomputable def lJ(x:SystemT):List DepPairT×Bool:=if gH x then (bL x,true) else ([],false)
theorem fA{x:SystemT}(h:gH x):lJ x=(bL x,true):=if_pos h
theorem iD{x:SystemT}(h:¬gH x):lJ x=([],false):=if_neg h
theorem kZ{x:SystemT}(h:gH x):∀p∈bL x,jN x.sig p:=aSJ h.1 _ (zQ _)
def fI(set:List Int)(n:Int):Prop:=∀i<set.length,(0≤set.getD i default/\set.getD i default<n)/\(0<i->set.getD (i-1) default<set.getD i default)
theorem aNY{set:List Int}{n:Int}(h:fI set n):∀i<set.length,(i:Int)≤set.getD i default
 | 0,hi=>by have:=(h 0 hi).1.1;omega
 | i+1,hi=>by
  have ih:=aNY h i (by omega)
  have:=(h (i+1) hi).2 (by omega)
  simp only[Nat.add_sub_cancel] at this
  omega
theorem lO{set:List Int}{n:Int}(h:fI set n):(set.length:Int)≤n∨set.length=0:=by
 rcases Nat.eq_zero_or_pos set.length with h0|h0
 ·exact .inr h0
 ·have h1:=aNY h (set.length-1) (by omega)
  have h2:=(h (set.length-1) (by omega)).1.2
  left;omega
def e7(rs:List Int)(ps:List PolyT):Prop:=ps.length=2*rs.length/\dI rs (ps.take rs.length)/\dI rs (ps.drop rs.length)
end
end Go.Proofs.YtpennhjjnlkbiaaGreat
