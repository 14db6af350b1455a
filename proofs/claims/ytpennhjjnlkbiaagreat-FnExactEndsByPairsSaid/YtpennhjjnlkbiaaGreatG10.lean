/-
  K2, K3, Q2, Q2s, one behind the other.
-/
import Derived.Test.YtpennhjjnlkbiaaGreatG3
import Derived.Test.YtpennhjjnlkbiaaGreatLgK10
import Derived.Test.YtpennhjjnlkbiaaGreatG9
import Derived.Test.YtpennhjjnlkbiaaGreatG4
namespace Go.Proofs.YtpennhjjnlkbiaaGreat
open Go Go.Lg
set_option linter.unusedSimpArgs false
set_option linter.unusedVariables false
set_option maxHeartbeats 4000000
section
attribute [local irreducible] SW bC bE dE bU FC dO toF dP fV
theorem aW7{rs:List Int}{P:List DepPairT}{set:List Int}(hP:∀p∈P,jN rs p)(hS:fI set P.length):∀i<set.length,(0≤set.getD i default/\set.getD i default<P.length)/\jN rs (P.getD (set.getD i default).toNat default):=λi hi=>by
 have h:=(hS i hi).1
 exact⟨h,hP _ (bA P _ (by omega))⟩
def aQ5:List (Nat×List Nat):=[(0,[0,1]),(1,[0,1,5]),(2,[0,1,5,6]),(3,[0,1,5,6,11]),(5,[0,1,5,6]),(4,[0,1,5,6]),(6,[4])]
attribute [go_sem] aQ5
theorem aBk(rs:List Int)(P:List DepPairT)(set:List Int)(hP:∀p∈P,jN rs p)(hS:fI set P.length)(hl:P.length≤64):FC S 30 [] [] [] [.sl .any (P.map bK),.sl .any (set.map (.int .i64))] (.sl .any ((hdL P set set.length).map (.int .i64))) [] []:=by
 have hsl:=lO hS
 have hat:=aW7 hP hS
 refine aP Tryz.func30 rfl (by kernel_rfl) (by simp[Tryz.f30]) λB=>?_
 simp only[Tryz.ntmps30,aS,aZ,Nat.reduceAdd]
 repeat' first|apply aE|apply aG|refine aI 0 aQ5 λK hK=>?_|((first|apply aD|apply aK|refine aA (aO ?_)|apply aA);simp(disch:=apply aB;omega)only[go_sem,Tryz.results30])|(apply hK.nil;clear hK K;simp only[go_sem])|fail
 refine bB (ι:=Nat) (λp=>[(5,.sl .any ((hdL P set p).map (.int .i64))),(6,.int .i64 p)]) (λp=>[]) (λp=>p≤set.length) (λp=>set.length-p) 0 (by(refine aC rfl rfl ?_ ?_ ?_ ?_<;>simp(disch:=apply aB;omega)only[go_sem]<;>(try omega));exact⟨rfl,rfl⟩) ?_ (λp hp=>?_)
 rotate_left
 simp only[go_sem]
 have hhl:=aOq P set p
 by_cases hil:p<set.length
 ·obtain⟨h1,⟨⟨h2,h3⟩,_⟩⟩:=hat p hil
  have h4:=h2.2.1
  have h5:=h3.2.1
  have h6:=wC ((P.getD (set.getD p default).toNat default).l.getD 0 default) (hdL P set p)
  repeat' first|((exfalso;omega))|apply aE|apply aG|apply aM|apply aJ|refine aI 0 aQ5 λK hK=>?_|refine aY aQ5 (by kernel_rfl) λK hK=>?_|((first|apply aD|apply aK|refine aA (aO ?_)|apply aA);simp(disch:=apply aB;omega)only[go_sem,Tryz.results30])|(apply hK.nil;clear hK K;simp only[go_sem])|((first|refine aF rfl ?_ ?_)<;>intro h<;>try simp(disch:=apply aB;omega)only[go_sem] at h)|apply aL|refine hK.c0 rfl rfl rfl (oA _ (hdL P set p) _ (by omega)) rfl rfl rfl ?_|refine hK.c0 rfl rfl rfl (oA _ (eF (hdL P set p) ((P.getD (set.getD p default).toNat default).l.getD 0 default)) _ (by omega)) rfl rfl rfl ?_|(with_reducible refine And.intro (by first|omega|(simp only[lens];omega)) ?_)|fail
  exact⟨p+1,(by(refine aC rfl rfl ?_ ?_ ?_ ?_<;>simp(disch:=apply aB;omega)only[go_sem]<;>(try omega));exact⟨rfl,by omega⟩),by omega,by omega⟩
 ·obtain rfl:p=set.length:=by omega
  repeat' first|((exfalso;omega))|apply aE|refine aI 0 aQ5 λK hK=>?_|((first|apply aD|apply aK|refine aA (aO ?_)|apply aA);simp(disch:=apply aB;omega)only[go_sem,Tryz.results30])|(apply hK.nil;clear hK K;simp only[go_sem])|((first|refine aF rfl ?_ ?_)<;>intro h<;>try simp(disch:=apply aB;omega)only[go_sem] at h)|refine aT rfl ?_|fail
 ·exact Nat.zero_le _
def aXv:List (Nat×List Nat):=[(0,[0]),(1,[3]),(2,[2]),(3,[2])]
attribute [go_sem] aXv
theorem aPC(b:Bool):FC S 65 [] [] [] [.bool b] (.int .i64 (if b=true then 1 else 0)) [] []:=by
 cases b
 ·skip
  refine aP Tryz.func65 rfl (by kernel_rfl) (by simp[Tryz.f65]) λB=>?_
  simp only[Tryz.ntmps65,aS,aZ,Nat.reduceAdd]
  repeat' first|apply aE|apply aJ|refine aI 0 aXv λK hK=>?_|((first|apply aD|refine aA (aO ?_)|apply aA);simp(disch:=apply aB;omega)only[go_sem,Tryz.results65])|(apply hK.nil;clear hK K;simp only[go_sem])|((first|refine aF rfl ?_ ?_)<;>intro h<;>try simp(disch:=apply aB;omega)only[go_sem] at h)|fail
 ·skip
  refine aP Tryz.func65 rfl (by kernel_rfl) (by simp[Tryz.f65]) λB=>?_
  simp only[Tryz.ntmps65,aS,aZ,Nat.reduceAdd]
  repeat' first|apply aE|refine aI 0 aXv λK hK=>?_|((first|apply aD|refine aA (aO ?_)|apply aA);simp(disch:=apply aB;omega)only[go_sem,Tryz.results65])|(apply hK.nil;clear hK K;simp only[go_sem])|((first|refine aF rfl ?_ ?_)<;>intro h<;>try simp(disch:=apply aB;omega)only[go_sem] at h)|fail
def aYc:List (Nat×List Nat):=[(0,[0,1]),(1,[0,1,12]),(2,[4]),(3,[4])]
attribute [go_sem] aYc
theorem aHQ(n m:Int)(hn:-1≤n/\n≤20000)(hm:1≤m/\m≤2):FC S 31 [] [] [] [.int .i64 n,.int .i64 m] (.int .i64 (if n<0∨20000<n*m then -1 else n*m)) [] []:=by
 have hnm:-2≤n*m/\n*m≤40000:=by
  rcases (show m=1∨m=2 by omega) with rfl|rfl<;>omega
 generalize hq:n*m=q at *
 refine aP Tryz.func31 rfl (by kernel_rfl) (by simp[Tryz.f31]) λB=>?_
 simp only[Tryz.ntmps31,aS,aZ,Nat.reduceAdd]
 repeat' first|((rw[hq]))|apply aE|apply aJ|refine aI 0 aYc λK hK=>?_|((first|apply aD|refine aA (aO ?_)|apply aA);simp(disch:=apply aB;omega)only[go_sem,Tryz.results31])|(apply hK.nil;clear hK K;simp only[go_sem])|((first|refine aH rfl rfl rfl rfl rfl ?_ ?_|refine aF rfl ?_ ?_)<;>intro h<;>try simp(disch:=apply aB;omega)only[go_sem] at h)|fail
 all_goals first|(rw[if_pos (by omega)];done)|(rw[if_neg (by omega)];done)
def aD6:List (Nat×List Nat):=[(0,[1,2]),(1,[1,2,5]),(2,[1,2,5,6]),(3,[1,2,5,6,15]),(5,[1,2,5,6,7]),(6,[1,2,5,6,7,24]),(8,[1,2,5,6,7]),(7,[1,2,5,6,7]),(4,[1,2,5,6]),(9,[1,2,5,8]),(10,[1,2,5,8,34]),(12,[1,2,5,8]),(13,[1,2,5,8,9]),(14,[1,2,5,8,9,46]),(16,[1,2,5,8,9]),(15,[1,2,5,8,9]),(11,[1,2,5,8]),(17,[4])]
attribute [go_sem] aD6
theorem aM9(rs:List Int)(H:Int->Prop)(hs:List Int)(hh:∀f,f∈hs↔H f)(hS:eA rs):FC S 29 [] [] [] [.agg [.sl .any (rs.map (.int .i64))],.sl .any (hs.map (.int .i64))] (.sl .any ((gP rs H).map (.int .i64))) [] []:=by
 have hs8:=hS.1.2
 have cF:∀f:Nat,FC S 65 [] [] [] [.bool (tst ((f:Int)∈hs))] (.int .i64 (aBB H f)) [] []:=λf=>by
  have c:=aPC (tst ((f:Int)∈hs))
  by_cases h1:H f
  ·rw[bQ ((hh f).2 h1)] at c ⊢
   rw[aCF h1];exact c
  ·rw[bH λe=>h1 ((hh f).1 e)] at c ⊢
   rw[aGD h1];exact c
 refine aP Tryz.func29 rfl (by kernel_rfl) (by simp[Tryz.f29]) λB=>?_
 simp only[Tryz.ntmps29,aS,aZ,Nat.reduceAdd]
 repeat' first|apply aE|apply aG|refine aI 0 aD6 λK hK=>?_|((first|apply aD|refine aA (aO ?_)|apply aA);simp(disch:=apply aB;omega)only[go_sem,Tryz.results29])|(apply hK.nil;clear hK K;simp only[go_sem])|fail
 refine dW 5 30000 2 1 rfl (.inr rfl) rfl ?_
 simp only[go_sem]
 refine bG (ι:=Nat) (λf=>[(6,.int .i64 f),(5,.sl (.own 30000 2 1) ((fF rs f).map (.int .i64)))]) (λ_=>[]) (λ_=>[30000]) (λf=>f≤rs.length) (λf=>rs.length-f) 0 (by(refine aC rfl rfl ?_ ?_ ?_ ?_<;>simp(disch:=apply aB;omega)only[go_sem]<;>(try omega));all_goals exact⟨rfl,rfl⟩) (by omega) (λf hf=>?_)
 simp only[go_sem]
 have hla:=i9 rs f
 have hal:=qM hS f hf
 by_cases hfl:f<rs.length
 ·have har:=hS.2 f hfl
  obtain⟨n,hn⟩:∃n:Nat,rs.getD f default=n:=⟨_,(Int.toNat_of_nonneg har.1).symm⟩
  have hhA:fF rs (f+1)=fF rs f++List.replicate (n+1) 1:=by rw[fF,hn];rfl
  repeat' first|((exfalso;omega))|apply aE|apply aG|apply aJ|refine aI 0 aD6 λK hK=>?_|((first|apply aD|refine aA (aO ?_)|apply aA);simp(disch:=apply aB;omega)only[go_sem,Tryz.results29])|(apply hK.nil;clear hK K;simp only[go_sem])|((first|refine aF rfl ?_ ?_)<;>intro h<;>try simp(disch:=apply aB;omega)only[go_sem] at h)|fail
  refine bG (ι:=Nat) (λk=>[(7,.int .i64 k),(5,.sl (.own 30000 2 1) ((fF rs f++List.replicate k 1).map (.int .i64)))]) (λ_=>[]) (λ_=>[30000]) (λk=>k≤n+1) (λk=>n+1-k) 0 (by(refine aC rfl rfl ?_ ?_ ?_ ?_<;>simp(disch:=apply aB;omega)only[go_sem]<;>(try omega));all_goals first|rfl|(simp;done)|exact⟨by simp,rfl⟩) (by omega) (λk hk=>?_)
  simp only[go_sem]
  have hll:(fF rs f++List.replicate k 1).length≤4*f+k:=by simp;omega
  by_cases hkl:k<n+1
  ·repeat' first|((exfalso;omega))|apply aE|apply aG|apply aM|apply aJ|refine aI 0 aD6 λK hK=>?_|((first|apply aD|refine aA (aO ?_)|apply aA);simp(disch:=apply aB;omega)only[go_sem,Tryz.results29])|(apply hK.nil;clear hK K;simp only[go_sem])|((first|refine aF rfl ?_ ?_)<;>intro h<;>try simp(disch:=apply aB;omega)only[go_sem] at h)|apply aL|(with_reducible refine And.intro (by first|omega|(simp only[lens];omega)) ?_)|((with_reducible refine And.intro ?_ ?_);· first|(intro x hx;subst hx;rfl)|(intro x;refine And.intro ?_ ?_<;>(intros;subst_vars;rfl)))|fail
   exact⟨k+1,(by(refine aC rfl rfl ?_ ?_ ?_ ?_<;>simp(disch:=apply aB;omega)only[go_sem]<;>(try omega));rw[List.replicate_succ',←List.append_assoc];exact⟨rfl,by omega⟩),by omega,by omega⟩
  ·obtain rfl:k=n+1:=by omega
   repeat' first|((exfalso;omega))|apply aE|apply aM|refine aI 0 aD6 λK hK=>?_|((first|apply aD|refine aA (aO ?_)|apply aA);simp(disch:=apply aB;omega)only[go_sem,Tryz.results29])|(apply hK.nil;clear hK K;simp only[go_sem])|((first|refine aF rfl ?_ ?_)<;>intro h<;>try simp(disch:=apply aB;omega)only[go_sem] at h)|refine aT rfl ?_|apply aL|(with_reducible refine And.intro (by first|omega|(simp only[lens];omega)) ?_)|fail
   exact⟨f+1,(by(refine aC rfl rfl ?_ ?_ ?_ ?_<;>simp(disch:=apply aB;omega)only[go_sem]<;>(try omega));rw[hhA];exact⟨rfl,by omega⟩),by omega,by omega⟩
 ·obtain rfl:f=rs.length:=by omega
  repeat' first|((exfalso;omega))|apply aE|apply aG|refine aI 0 aD6 λK hK=>?_|((first|apply aD|refine aA (aO ?_)|apply aA);simp(disch:=apply aB;omega)only[go_sem,Tryz.results29])|(apply hK.nil;clear hK K;simp only[go_sem])|((first|refine aF rfl ?_ ?_)<;>intro h<;>try simp(disch:=apply aB;omega)only[go_sem] at h)|refine aT rfl ?_|fail
  refine bG (ι:=Nat) (λf=>[(8,.int .i64 f),(5,.sl (.own 30000 2 1) ((fF rs rs.length++fB rs H f).map (.int .i64)))]) (λ_=>[]) (λ_=>[30000]) (λf=>f≤rs.length) (λf=>rs.length-f) 0 (by(refine aC rfl rfl ?_ ?_ ?_ ?_<;>simp(disch:=apply aB;omega)only[go_sem]<;>(try omega));all_goals first|rfl|(simp[fB];done)|exact⟨by simp[fB],rfl⟩) (by omega) (λf hf=>?_)
  simp only[go_sem]
  have hlb:=lU rs H f
  have hbl:=qM hS f hf
  by_cases hfl:f<rs.length
  ·have har:=hS.2 f hfl
   obtain⟨n,hn⟩:∃n:Nat,rs.getD f default=n:=⟨_,(Int.toNat_of_nonneg har.1).symm⟩
   have hhB:fB rs H (f+1)=fB rs H f++0::List.replicate n (aBB H f):=by rw[fB,hn];rfl
   have hl0:(fF rs rs.length++fB rs H f).length≤4*rs.length+4*f:=by simp;omega
   repeat' first|((refine jJ 40000 30000 rfl rfl ?_;simp only[go_sem]))|((exfalso;omega))|apply aE|apply aG|apply aJ|refine aI 0 aD6 λK hK=>?_|((first|apply aD|refine aA (aO ?_)|apply aA);simp(disch:=apply aB;omega)only[go_sem,Tryz.results29])|(apply hK.nil;clear hK K;simp only[go_sem])|((first|refine aF rfl ?_ ?_)<;>intro h<;>try simp(disch:=apply aB;omega)only[go_sem] at h)|(with_reducible refine And.intro (by first|omega|(simp only[lens];omega)) ?_)|((with_reducible refine And.intro ?_ ?_);· first|(intro x hx;subst hx;rfl)|(intro x;refine And.intro ?_ ?_<;>(intros;subst_vars;rfl)))|fail
   refine bG (ι:=Nat) (λk=>[(9,.int .i64 k),(5,.sl (.own 30000 2 1) ((fF rs rs.length++fB rs H f++0::List.replicate k (aBB H f)).map (.int .i64)))]) (λ_=>[]) (λ_=>[30000]) (λk=>k≤n) (λk=>n-k) 0 (by(refine aC rfl rfl ?_ ?_ ?_ ?_<;>simp(disch:=apply aB;omega)only[go_sem]<;>(try omega));all_goals first|rfl|(simp;done)|exact⟨by simp,rfl⟩) (by omega) (λk hk=>?_)
   simp only[go_sem]
   have hll:(fF rs rs.length++fB rs H f++0::List.replicate k (aBB H f)).length≤4*rs.length+4*f+k+1:=by simp;omega
   have c1:=cF f
   have hz1:fF rs rs.length++fB rs H f++0::List.replicate (k+1) (aBB H f)=(fF rs rs.length++fB rs H f++0::List.replicate k (aBB H f))++[aBB H f]:=by rw[List.replicate_succ',←List.cons_append,←List.append_assoc]
   by_cases hkl:k<n
   ·generalize fF rs rs.length++fB rs H f++0::List.replicate k (aBB H f)=zs at hll hz1 ⊢
    repeat' first|((refine jJ 56000 30000 rfl rfl ?_;simp only[go_sem]))|((exfalso;omega))|apply aE|apply aG|apply aM|apply aJ|refine aI 0 aD6 λK hK=>?_|((first|apply aD|refine aA (aO ?_)|apply aA);simp(disch:=apply aB;omega)only[go_sem,Tryz.results29])|(apply hK.nil;clear hK K;simp only[go_sem])|((first|refine aF rfl ?_ ?_)<;>intro h<;>try simp(disch:=apply aB;omega)only[go_sem] at h)|apply aL|refine hK.c0 rfl rfl rfl (gD _ _ _) rfl rfl rfl ?_|refine hK.c0 rfl rfl rfl (c1) rfl rfl rfl ?_|(with_reducible refine And.intro (by first|omega|(simp only[lens];omega)) ?_)|fail
    exact⟨k+1,(by(refine aC rfl rfl ?_ ?_ ?_ ?_<;>simp(disch:=apply aB;omega)only[go_sem]<;>(try omega));rw[hz1];exact⟨rfl,by omega⟩),by omega,by omega⟩
   ·obtain rfl:k=n:=by omega
    repeat' first|((exfalso;omega))|apply aE|apply aM|refine aI 0 aD6 λK hK=>?_|((first|apply aD|refine aA (aO ?_)|apply aA);simp(disch:=apply aB;omega)only[go_sem,Tryz.results29])|(apply hK.nil;clear hK K;simp only[go_sem])|((first|refine aF rfl ?_ ?_)<;>intro h<;>try simp(disch:=apply aB;omega)only[go_sem] at h)|refine aT rfl ?_|apply aL|(with_reducible refine And.intro (by first|omega|(simp only[lens];omega)) ?_)|fail
    exact⟨f+1,(by(refine aC rfl rfl ?_ ?_ ?_ ?_<;>simp(disch:=apply aB;omega)only[go_sem]<;>(try omega));rw[hhB,←List.append_assoc];exact⟨rfl,by omega⟩),by omega,by omega⟩
  ·obtain rfl:f=rs.length:=by omega
   repeat' first|((exfalso;omega))|apply aE|refine aI 0 aD6 λK hK=>?_|((first|apply aD|refine aA (aO ?_)|apply aA);simp(disch:=apply aB;omega)only[go_sem,Tryz.results29])|(apply hK.nil;clear hK K;simp only[go_sem])|((first|refine aF rfl ?_ ?_)<;>intro h<;>try simp(disch:=apply aB;omega)only[go_sem] at h)|refine aT rfl ?_|fail
   rfl
def aQi:List (Nat×List Nat):=[(0,[0,1]),(1,[1,6]),(2,[1,6,7]),(3,[1,6,7,14]),(5,[1,6,7,25]),(6,[6]),(7,[4,5]),(8,[1,6,7]),(4,[1,6,7]),(9,[4,5])]
attribute [go_sem] aQi
theorem aCo(hs xs:List Int)(he:xs.length=hs.length)(hne:xs≠[])(hl:xs.length≤100)(hx:∀x∈xs,0≤x/\x≤1000):FC S 35 [] [] [] [.sl .any (xs.map (.int .i64)),.sl .any (hs.map (.int .i64))] (.tup [.sl .any ((j5 (upD hs) xs).1.map (.int .i64)),.bool (j5 (upD hs) xs).2]) [] []:=by
 have hlu:xs.length=(upD hs).length:=by rw[jM,he]
 refine FC.args (args':=[.sl .any (xs.map (.int .i64)),.sl .any (hs.map (.int .i64))]) ?_ (by simp only[go_sem])
 refine aP Tryz.func35 rfl (by kernel_rfl) (by simp[Tryz.f35]) λB=>?_
 simp only[Tryz.ntmps35,aS,aZ,Nat.reduceAdd]
 refine bZ 0 rfl λhb0=>?_
 simp only[D.bnd,zC] at hb0
 repeat' first|apply aE|apply aG|refine aI 0 aQi λK hK=>?_|((first|apply aD|apply aK|refine aA (aO ?_)|apply aA);simp(disch:=apply aB;omega)only[go_sem,Tryz.results35])|(apply hK.nil;clear hK K;simp only[go_sem])|(refine hK.callT rfl rfl rfl (aEy .any xs (by omega)) ⟨⟨by simp only[Nat.reduceLT],by simp,by simp[Lg.look]⟩,by assumption⟩ ?_;simp(disch:=apply aB;omega)only[go_sem])|fail
 refine bB (ι:=Nat) (λp=>[(7,.int .i64 (p-1:Int))]) (λp=>[(9,(stD (upD hs) xs p).map (.int .i64))]) (λp=>p≤xs.length/\rA (upD hs) xs p) (λp=>p) xs.length (by(refine aC rfl rfl ?_ ?_ ?_ ?_<;>simp(disch:=apply aB;omega)only[go_sem]<;>(try omega));rw[aHg hlu]) ?_ (λp hp=>?_)
 rotate_left
 simp only[go_sem]
 obtain⟨hp1,hp2⟩:=hp
 have hlen:=aF1 hlu hp1
 cases p with
 | zero =>
  have hz:=aLF hlu hp2
  rw[hz]
  repeat' first|(refine jU 9 6 1 .any ((stD (upD hs) xs 0).map (.int .i64)) rfl rfl (cB _).symm (by simp[hlen]) (eZ λ_=>rfl) (dU _) (.inl rfl) ?_;simp only[go_sem])|apply aE|apply aG|apply aM|apply aJ|refine aI 0 aQi λK hK=>?_|refine aY aQi (by kernel_rfl) λK hK=>?_|((first|apply aD|apply aK|refine aA (aO ?_)|apply aA);simp(disch:=apply aB;omega)only[go_sem,Tryz.results35])|(apply hK.nil;clear hK K;simp only[go_sem])|((first|refine aF rfl ?_ ?_)<;>intro h<;>try simp(disch:=apply aB;omega)only[go_sem] at h)|refine aT rfl ?_|apply aL|(with_reducible refine And.intro (by first|omega|(simp only[lens];omega)) ?_)|fail
  ·exfalso;omega
  ·exfalso;omega
 | succ k =>
  have hk:k<xs.length:=by omega
  have hg:=aG4 hlu hk
  have hxk:=hx _ (bA xs k hk)
  have hlt:k<(stD (upD hs) xs (k+1)).length:=by omega
  have hkh:k<hs.length:=by omega
  have hi:((k+1:Nat):Int)-1=(k:Int):=by omega
  have hl2:((stD (upD hs) xs (k+1)).set k ((stD (upD hs) xs (k+1)).getD k default+1)).length=xs.length:=by rw[List.length_set];exact hlen
  have hbk:=aWU hs hkh
  rw[hi]
  repeat' first|(refine jU 7 6 1 .any (((stD (upD hs) xs (k+1)).set k ((stD (upD hs) xs (k+1)).getD k default+1)).map (.int .i64)) rfl rfl (cB _).symm (by simp[hlen]) (eZ λ_=>rfl) (dU _) (.inl rfl) ?_;simp only[go_sem])|apply aE|apply aG|apply aM|apply aJ|refine aI 0 aQi λK hK=>?_|refine aY aQi (by kernel_rfl) λK hK=>?_|((first|apply aD|apply aK|refine aA (aO ?_)|apply aA);simp(disch:=apply aB;omega)only[go_sem,Tryz.results35])|(apply hK.nil;clear hK K;simp only[go_sem])|((first|refine aF rfl ?_ ?_)<;>intro h<;>try simp(disch:=apply aB;omega)only[go_sem] at h)|apply aL|(with_reducible refine And.intro (by first|omega|(simp only[lens];omega)) ?_)|fail
  ·rw[hg] at h ⊢
   rw[aNm hlu hk hp2 (by rw[hbk];exact h)]
   exact⟨rfl,rfl⟩
  ·rw[hg] at h
   obtain⟨n1,n2⟩:=aNw hlu hk hp2 (by rw[hbk];simpa using h)
   rw[hbk] at n2
   refine⟨k,(by(refine aC rfl rfl ?_ ?_ ?_ ?_<;>simp(disch:=apply aB;omega)only[go_sem]<;>(try omega))),⟨by omega,n1⟩,by omega⟩
 ·exact⟨zQ _,aCC hlu⟩
def aSG:List (Nat×List Nat):=[(0,[1,2]),(1,[1,2,5]),(2,[1,2,5,6]),(3,[1,2,5,6,7]),(4,[1,2,5,6,7,13]),(6,[1,2,5,6,7]),(7,[1,2,5,6,7]),(5,[1,2,5,6,7]),(8,[4])]
attribute [go_sem] aSG
theorem nF(rs xs:List Int)(hS:eA rs)(hl:atN rs rs.length≤xs.length)(hx:xs.length≤1000):FC S 32 [] [] [] [.agg [.sl .any (rs.map (.int .i64))],.sl .any (xs.map (.int .i64))] (.sl .any ((gB rs xs).map bS)) [] []:=by
 have hs8:=hS.1.2
 refine aP Tryz.func32 rfl (by kernel_rfl) (by simp[Tryz.f32]) λB=>?_
 simp only[Tryz.ntmps32,aS,aZ,Nat.reduceAdd]
 repeat' first|apply aE|apply aG|refine aI 0 aSG λK hK=>?_|((first|apply aD|apply aK|refine aA (aO ?_)|apply aA);simp(disch:=apply aB;omega)only[go_sem,Tryz.results32])|(apply hK.nil;clear hK K;simp only[go_sem])|fail
 refine dW 5 37000 71 2 rfl (.inr rfl) rfl ?_
 simp only[go_sem]
 refine bG (ι:=Nat) (λf=>[(6,.int .i64 (atN rs f)),(7,.int .i64 f),(5,.sl (.own 37000 71 2) ((aAa rs xs f).map bS))]) (λ_=>[]) (λ_=>[37000]) (λf=>f≤rs.length) (λf=>rs.length-f) 0 (by(refine aC rfl rfl ?_ ?_ ?_ ?_<;>simp(disch:=apply aB;omega)only[go_sem]<;>(try omega));all_goals exact⟨rfl,rfl,rfl⟩) (by omega) (λf hf=>?_)
 simp only[go_sem]
 have hpl:=mO rs xs f
 by_cases hfl:f<rs.length
 ·have har:=hS.2 f hfl
  have hm:atN rs (f+1)≤atN rs rs.length:=oW rs hfl
  have hm1:atN rs (f+1)=atN rs f+(rs.getD f default).toNat+1:=rfl
  obtain⟨n,hn⟩:∃n:Nat,rs.getD f default=n:=⟨_,(Int.toNat_of_nonneg har.1).symm⟩
  have hsl:List.drop (atN rs f+1) (List.take ((atN rs f:Int)+1+rs.getD f default).toNat xs)=(xs.drop (atN rs f+1)).take (rs.getD f default).toNat:=by
   rw[List.drop_take,show ((atN rs f:Int)+1+rs.getD f default).toNat-(atN rs f+1)=(rs.getD f default).toNat by omega]
  have hp1:aAa rs xs (f+1)=aAa rs xs f++[⟨xs.getD (atN rs f) default,List.drop (atN rs f+1) (List.take ((atN rs f:Int)+1+rs.getD f default).toNat xs)⟩]:=by rw[hsl];rfl
  repeat' first|((exfalso;omega))|apply aE|apply aG|apply aM|apply aJ|refine aI 0 aSG λK hK=>?_|refine gK 0 aSG 20 (id:=6) (by kernel_rfl) λK hK=>?_|refine λ(K:KT) (hK:KOk S 0 _ _ _ K)=>?_|((first|apply aD|apply aK|refine aA (aO ?_)|apply aA);simp(disch:=apply aB;omega)only[go_sem,Tryz.results32])|(apply hK.nil;clear hK K;simp only[go_sem])|((first|refine aF rfl ?_ ?_)<;>intro h<;>try simp(disch:=apply aB;omega)only[go_sem] at h)|apply aL|refine hK.c0 rfl rfl rfl (mS _ (List.drop (atN rs f+1) (List.take ((atN rs f:Int)+1+rs.getD f default).toNat xs)) (by simp;omega)) rfl rfl rfl ?_|(with_reducible refine And.intro (by first|omega|(simp only[lens];omega)) ?_)|fail
  exact⟨f+1,(by(refine aC rfl rfl ?_ ?_ ?_ ?_<;>simp(disch:=apply aB;omega)only[go_sem]<;>(try omega));rw[hp1,List.map_append];refine⟨rfl,?_,?_⟩<;>omega),by omega,by omega⟩
 ·obtain rfl:f=rs.length:=by omega
  repeat' first|((exfalso;omega))|apply aE|refine aI 0 aSG λK hK=>?_|((first|apply aD|apply aK|refine aA (aO ?_)|apply aA);simp(disch:=apply aB;omega)only[go_sem,Tryz.results32])|(apply hK.nil;clear hK K;simp only[go_sem])|((first|refine aF rfl ?_ ?_)<;>intro h<;>try simp(disch:=apply aB;omega)only[go_sem] at h)|refine aT rfl ?_|fail
  rfl
def aYy(rs:List Int)(pl:List PolyT):Option (List Int)->List PolyT×Bool
 | some c=>(pl++gB rs c,true)
 | none=>([],false)
theorem aNu{hs xs:List Int}(hh:∀h∈hs,0≤h/\h≤1)(h:nS (upD hs) xs):∀x∈xs,0≤x/\x≤1000:=λx hx=>by have:=vX hh h x hx;omega
def aTq:List (Nat×List Nat):=[(0,[1,2,3,4,5]),(1,[1,2,3,4,5,12]),(2,[1,2,3,4,5,12,13]),(3,[1,2,3,4,5,12,22]),(4,[1,2,3,4,5,12,14]),(5,[1,2,3,4,5,12,14,15,16]),(6,[1,2,3,4,5,12,14,44]),(7,[10,11]),(8,[1,2,3,4,5,17,18]),(9,[1,2,3,4,5,12,18]),(10,[1,2,3,4,5,12,13]),(11,[10,11])]
attribute [go_sem] aTq
theorem aGF(x:SystemT)(P:List DepPairT)(set:List Int)(pl:List PolyT)(hs:List Int)(hsg:eA x.sig)(hpl:dI x.sig pl)(hh:∀h∈hs,0≤h/\h≤1)(hl:hs.length=atN x.sig x.sig.length)(hP:∀p∈P,jN x.sig p)(hS:fI set P.length)(h64:P.length≤64)(o:Option (List Int))(ho:fK (GM x.sig P set pl) (gL (upD hs))=o):FC S 34 [] [] [] [bP x,.sl .any (P.map bK),.sl .any (set.map (.int .i64)),.sl .any (pl.map bS),.sl .any (hs.map (.int .i64))] (.tup [.sl .any ((aYy x.sig pl o).1.map bS),.bool (aYy x.sig pl o).2]) [] []:=by
 have hs8:=hsg.1.2
 have hpl8:=hpl.1.2
 have hat:=qM hsg x.sig.length (zQ _)
 have hok:=aAt hh
 have hseq:=oS hok
 have hdig:=j1 hok
 have hn0:hs≠[]:=by
  intro e
  have h1:=oW x.sig (show 1≤x.sig.length from hsg.1.1)
  have h2:atN x.sig 1=0+(x.sig.getD 0 default).toNat+1:=rfl
  rw[e] at hl;simp at hl;omega
 refine aP Tryz.func34 rfl (by kernel_rfl) (by simp[Tryz.f34]) λB=>?_
 simp only[Tryz.ntmps34,aS,aZ,Nat.reduceAdd]
 repeat' first|apply aE|apply aG|refine aI 0 aTq λK hK=>?_|((first|apply aD|apply aK|refine aA (aO ?_)|apply aA);simp(disch:=apply aB;omega)only[go_sem,Tryz.results34])|(apply hK.nil;clear hK K;simp only[go_sem])|(with_reducible refine And.intro (by first|omega|(simp only[lens];omega)) ?_)|fail
 refine kQ 12 1 .any ((List.replicate hs.length (0:Int)).map (.int .i64)) rfl rfl (by rw[gR,cB,List.map_replicate]) (by simp) (eZ λ_=>rfl) (by rw[gR,←List.map_replicate (f:=D.int .i64)];exact dU _) (.inl rfl) ?_
 simp only[go_sem]
 refine bB (ι:=List (List Int)) (λp=>[(12,.sl .any ((p.headD (jX (upD hs))).map (.int .i64))),(13,.bool (!p.isEmpty))]) (λp=>[]) (λp=>(wU (upD hs) p/\∀c∈p,nS (upD hs) c)/\fK (GM x.sig P set pl) p=o) (λp=>p.length) (gL (upD hs)) (by(refine aC rfl rfl ?_ ?_ ?_ ?_<;>simp(disch:=apply aB;omega)only[go_sem]<;>(try omega));(obtain⟨r,hr⟩:=hseq.2;rw[hr];exact⟨by rw[List.headD_cons,aBD],rfl⟩)) ?_ (λp hp=>?_)
 rotate_left
 simp only[go_sem]
 obtain⟨⟨hq1,hq2⟩,hq3⟩:=hp
 cases p with
 | nil =>
  obtain rfl:none=o:=hq3
  simp only[List.isEmpty_nil,Bool.not_true]
  repeat' first|apply aE|refine aI 0 aTq λK hK=>?_|((first|apply aD|apply aK|refine aA (aO ?_)|apply aA);simp(disch:=apply aB;omega)only[go_sem,Tryz.results34])|(apply hK.nil;clear hK K;simp only[go_sem])|((first|refine aH rfl rfl rfl rfl rfl ?_ ?_|refine aN rfl rfl rfl rfl rfl ?_ ?_|refine aF rfl ?_ ?_)<;>intro h<;>try simp(disch:=apply aB;omega)only[go_sem] at h)|refine aT rfl ?_|fail
  exact⟨rfl,rfl⟩
 | cons c r =>
  have hc:=hq2 c zH
  have hcl:c.length=hs.length:=by rw[jB hc,jM]
  have hcb:=aNu hh hc
  have hcp:=aHf hsg hh hl hc
  obtain⟨hM,_⟩:=aAd hpl hcp
  obtain⟨hn1,hn2⟩:=qH hq1
  have hne:c≠[]:=by intro e;rw[e] at hcl;exact hn0 (List.length_eq_zero_iff.1 hcl.symm)
  simp only[List.headD_cons,List.isEmpty_cons,Bool.not_false]
  have cN:=aCo hs c hcl hne (by omega) hcb
  rw[hn1] at cN
  have cW:=uG x P set (pl++gB x.sig c) hM hP hS h64
  have hpd:(gB x.sig c).length=x.sig.length:=hcp.1.2
  repeat' first|((refine aAM (id:=4) aTq [(false,[]),(true,[]),(false,[0,1]),(true,[]),(false,[3]),(true,[]),(false,[4,5,2]),(false,[2,6,6]),(false,[7,7,0,1,2,3,4,5,6,7])] ⟨55,[(1,.sl .any (P.map bK)),(2,.sl .any (set.map (.int .i64))),(3,.sl .any (pl.map bS)),(4,.sl .any (hs.map (.int .i64))),(5,.box 5 0),(12,.sl .any (c.map (.int .i64))),(14,.sl .any ((pl++gB x.sig c).map bS))],[(5,[.sl .any (x.sig.map (.int .i64)),.sl .any (x.rules.map fT)])],[],[],[]⟩ (by kernel_rfl) ?_ ?_;simp only[List.length_cons,List.length_nil,Nat.reduceAdd]))|((refine oL ?_;simp only[tH,tF,aFw,aE1,aEA,aFJ,y2,aAy,aAf,yH,tA,sW,sI,y8,aAv,true_and,and_true,Bool.not_false,Bool.not_true,Bool.and_true,Bool.and_false,Bool.true_and,Bool.false_and,Bool.or_false,Bool.false_or,Bool.true_or,Bool.or_true,Nat.reduceBEq,Nat.reduceAdd]))|((refine sB (by simp only[Nat.reduceLT]) rfl (by simp only[go_sem];exact rfl) ?_))|((refine aOw (by simp only[Nat.reduceLT]) rfl rfl rfl rfl (by decide) (by simp only[go_sem];exact rfl) ?_))|((refine hK.nil (tO ?_);clear hK K))|((refine n9 ?_ ?_))|((refine iS 0 ?_;refine λ(K:List Oper->LS->Prop) (hK:KOk S 0 _ _ _ K)=>?_;simp(disch:=apply aB;omega)only[go_sem]))|((refine oC ?_;simp(disch:=apply aB;omega)only[go_sem];(refine aC rfl rfl ?_ ?_ ?_ ?_<;>simp(disch:=apply aB;omega)only[go_sem]<;>(try omega));done))|apply aE|apply aG|apply aM|apply aJ|refine aI 0 aTq λK hK=>?_|((first|apply aD|apply aK|refine aA (aO ?_)|apply aA);simp(disch:=apply aB;omega)only[go_sem,Tryz.results34])|(apply hK.nil;clear hK K;simp only[go_sem])|((first|refine aH rfl rfl rfl rfl rfl ?_ ?_|refine aN rfl rfl rfl rfl rfl ?_ ?_|refine aF rfl ?_ ?_)<;>intro h<;>try simp(disch:=apply aB;omega)only[go_sem] at h)|apply aL|refine hK.c0 rfl rfl rfl (nF x.sig c hsg (by omega) (by omega)) rfl rfl rfl ?_|refine hK.c0 rfl rfl rfl (cW) rfl rfl rfl ?_|refine hK.c0 rfl rfl rfl (cN) rfl rfl rfl ?_|(with_reducible refine And.intro (by first|omega|(simp only[lens];omega)) ?_)|fail
  ·have hG:GM x.sig P set pl c:=aAI.2 ⟨by assumption,by assumption⟩
   rw[iU hG] at hq3
   subst hq3
   exact⟨rfl,rfl⟩
  ·have hG:¬GM x.sig P set pl c:=λe=>by have:=(aAI.1 e).2;omega
   rw[iN hG] at hq3
   exact⟨r,(by(refine aC rfl rfl ?_ ?_ ?_ ?_<;>simp(disch:=apply aB;omega)only[go_sem]<;>(try omega))),⟨⟨hn2,λd hd=>hq2 d (zG _ hd)⟩,hq3⟩,by simp⟩
  ·have hG:¬GM x.sig P set pl c:=λe=>by
    have h1:=(aAI.1 e).1
    simp_all
   rw[iN hG] at hq3
   exact⟨r,(by(refine aC rfl rfl ?_ ?_ ?_ ?_<;>simp(disch:=apply aB;omega)only[go_sem]<;>(try omega))),⟨⟨hn2,λd hd=>hq2 d (zG _ hd)⟩,hq3⟩,by simp⟩
 ·exact⟨⟨hseq.1,hdig⟩,ho⟩
def tS(hs:List Int)(i:Nat):Int:=if fQ hs i≤20000 then fQ hs i else -1
theorem aWv{hs:List Int}(hh:∀h∈hs,0≤h/\h≤1){i:Nat}(hi:i≤hs.length):(-1≤tS hs i/\tS hs i≤20000)/\(0<tS hs i↔fQ hs i≤20000):=by
 have:=lV hh i hi
 unfold tS
 split<;>omega
theorem aU8{hs:List Int}(hh:∀h∈hs,0≤h/\h≤1){i:Nat}(hi:i<hs.length):(if tS hs i<0∨20000<tS hs i*(hs.getD i default+1) then -1 else tS hs i*(hs.getD i default+1))=tS hs (i+1):=by
 have h0:=lV hh i (by omega)
 have h1:=aKI hh hi
 have e:fQ hs (i+1)=fQ hs i*(hs.getD i default+1):=rfl
 unfold tS
 by_cases h2:fQ hs i≤20000
 ·rw[if_pos h2,←e]
  by_cases h3:fQ hs (i+1)≤20000
  ·rw[if_neg (by omega),if_pos h3]
  ·rw[if_pos (by omega),if_neg h3]
 ·rw[if_neg h2,if_pos (by omega),if_neg (by omega)]
def kp7:List (Nat×List Nat):=[(0,[1,2]),(1,[1,2,6,7]),(2,[1,2,6,32]),(3,[4,5]),(4,[1,2,6,8]),(5,[1,2,6,8,9]),(6,[1,2,6,8,9,10]),(7,[1,2,6,8,9,10,43]),(9,[1,2,6,8,9,10]),(8,[1,2,6,8,9,10]),(10,[1,2,6,8,9,11]),(11,[1,2,6,8,9,11,12]),(12,[1,2,6,8,11,12,13]),(13,[1,2,6,8,11,12,60]),(14,[1,2,6,8,11,12,14]),(15,[1,2,6,8,11,12,14,67]),(16,[1,2,6,8,11,12,15,16]),(17,[1,2,6,8,11,12,15,79]),(18,[4,5]),(19,[1,2,6,8,11,17,18]),(20,[1,2,6,8,11,12,18]),(21,[1,2,6,8,11,12,13]),(22,[4,5])]
attribute [go_sem] kp7
theorem vA(x:SystemT)(set:List Int):FC S 7 [] [] [] [bP x,.sl .any (set.map (.int .i64))] (.tup [.sl .any ((aNN x set).1.map bS),.bool (aNN x set).2]) [] []:=by
 have cP:=iI x
 rcases Classical.em (m8 x set) with hW|hW
 ·rw[aFd hW]
  obtain⟨hx,hS⟩:=hW
  rw[fA hx] at cP
  have h12:=hx.1.1.2
  have hsg:=hx.1.1.1
  have hs8:=hsg.1.2
  have h64:(bL x).length≤64:=hx.2
  have hP:=kZ hx
  generalize hA:bL x=P at *
  generalize hH:fC P set set.length=H at *
  have hdl:=wN x.sig H
  have htl:=aCN x.sig H
  have hat:=qM hsg x.sig.length (zQ _)
  have cM:=aM9 x.sig H (hdL P set set.length) (λf=>by rw[←hH];exact aHa P set f _) hsg
  have hfm:gY x P set=if fQ (gP x.sig H) (gP x.sig H).length≤20000 then qZ (FM x P set) (gL (upD (fF x.sig x.sig.length))) else none:=by
   subst hH
   split
   ·rename_i h1;rw[uL h1,aVa]
   ·rename_i h1;rw[aAk h1]
  refine aP Tryz.func7 rfl (by kernel_rfl) (by simp[Tryz.f7]) λB=>?_
  simp only[Tryz.ntmps7,aS,aZ,Nat.reduceAdd]
  repeat' first|((exact absurd hS (by assumption)))|apply aE|apply aG|apply aJ|refine aI 0 kp7 λK hK=>?_|refine aY kp7 (by kernel_rfl) λK hK=>?_|((first|apply aD|apply aK|refine aA (aO ?_)|apply aA);simp(disch:=apply aB;omega)only[go_sem,Tryz.results7])|(apply hK.nil;clear hK K;simp only[go_sem])|((first|refine aH rfl rfl rfl rfl rfl ?_ ?_|refine aN rfl rfl rfl rfl rfl ?_ ?_|refine aF rfl ?_ ?_)<;>intro h<;>try simp(disch:=apply aB;omega)only[go_sem] at h)|refine hK.c0 rfl rfl rfl (cP) rfl rfl rfl ?_|refine hK.c0 rfl rfl rfl (iE set _ (by omega)) rfl rfl rfl ?_|refine hK.c0 rfl rfl rfl (aBk x.sig P set hP hS h64) rfl rfl rfl ?_|refine hK.c0 rfl rfl rfl (cM) rfl rfl rfl ?_|fail
  refine bB (ι:=Nat) (λp=>[(9,.int .i64 (tS (gP x.sig H) p)),(10,.int .i64 p)]) (λp=>[]) (λp=>p≤(gP x.sig H).length) (λp=>(gP x.sig H).length-p) 0 (by(refine aC rfl rfl ?_ ?_ ?_ ?_<;>simp(disch:=apply aB;omega)only[go_sem]<;>(try omega));exact⟨rfl,rfl⟩) ?_ (λp hp=>?_)
  rotate_left
  simp only[go_sem]
  have htb:=aWv hdl hp
  by_cases hpl:p<(gP x.sig H).length
  ·have hd1:=hdl _ (bA (gP x.sig H) p hpl)
   repeat' first|((exfalso;omega))|apply aE|apply aG|apply aM|apply aJ|refine aI 0 kp7 λK hK=>?_|((first|apply aD|apply aK|refine aA (aO ?_)|apply aA);simp(disch:=apply aB;omega)only[go_sem,Tryz.results7])|(apply hK.nil;clear hK K;simp only[go_sem])|((first|refine aH rfl rfl rfl rfl rfl ?_ ?_|refine aN rfl rfl rfl rfl rfl ?_ ?_|refine aF rfl ?_ ?_)<;>intro h<;>try simp(disch:=apply aB;omega)only[go_sem] at h)|apply aL|refine hK.c0 rfl rfl rfl (aHQ (tS (gP x.sig H) p) ((gP x.sig H).getD p default+1) htb.1 (by omega)) rfl rfl rfl ?_|(with_reducible refine And.intro (by first|omega|(simp only[lens];omega)) ?_)|fail
   exact⟨p+1,(by(refine aC rfl rfl ?_ ?_ ?_ ?_<;>simp(disch:=apply aB;omega)only[go_sem]<;>(try omega));rw[aU8 hdl hpl];exact⟨rfl,by omega⟩),by omega,by omega⟩
  ·obtain rfl:p=(gP x.sig H).length:=by omega
   have hq:IntKind.wrap .i64 (((gP x.sig H).length:Int).tdiv 2)=(atN x.sig x.sig.length:Int):=by
    rw[show ((gP x.sig H).length:Int).tdiv 2=(atN x.sig x.sig.length:Int) by rw[Int.tdiv_eq_ediv_of_nonneg (by omega)];omega]
    exact aOu (Om.mk (by omega))
   have hdrop:(gP x.sig H).drop (atN x.sig x.sig.length)=fB x.sig H x.sig.length:=by rw[gP,←i9,List.drop_left]
   have htake:(gP x.sig H).take (atN x.sig x.sig.length)=fF x.sig x.sig.length:=by rw[gP,←i9,List.take_left]
   have hdA:=sQ x.sig x.sig.length
   have hlA:=i9 x.sig x.sig.length
   have hdB:=sM x.sig H x.sig.length
   have hlB:=lU x.sig H x.sig.length
   repeat' first|((simp only[hq];simp only[go_sem]))|((exfalso;omega))|apply aE|apply aG|refine aI 0 kp7 λK hK=>?_|((first|apply aD|apply aK|refine aA (aO ?_)|apply aA);simp(disch:=apply aB;omega)only[go_sem,Tryz.results7])|(apply hK.nil;clear hK K;simp only[go_sem])|((first|refine aH rfl rfl rfl rfl rfl ?_ ?_|refine aN rfl rfl rfl rfl rfl ?_ ?_|refine aF rfl ?_ ?_)<;>intro h<;>try simp(disch:=apply aB;omega)only[go_sem] at h)|refine aT rfl ?_|(with_reducible refine And.intro (by first|omega|(simp only[lens];omega)) ?_)|fail
   refine kQ 12 1 .any ((List.replicate (atN x.sig x.sig.length) (0:Int)).map (.int .i64)) rfl rfl (by rw[gR,cB,List.map_replicate]) (by simp) (eZ λ_=>rfl) (by rw[gR,←List.map_replicate (f:=D.int .i64)];exact dU _) (.inl rfl) ?_
   simp only[go_sem]
   have hFa:∀a,kU x (gB x.sig a)->FM x P set a=(fK (GM x.sig P set (gB x.sig a)) (gL (upD (fB x.sig H x.sig.length)))).map (a++·):=λa h=>by rw[aSg h,hH]
   have hseq:=oS (aAt hdA)
   have hdig:=j1 (aAt hdA)
   have hat1:1≤atN x.sig x.sig.length:=by
    have h1:=oW x.sig (show 1≤x.sig.length from hsg.1.1)
    have h2:atN x.sig 1=0+(x.sig.getD 0 default).toNat+1:=rfl
    omega
   generalize gY x P set=o at *
   generalize fF x.sig x.sig.length=A at *
   generalize fB x.sig H x.sig.length=Bm at *
   generalize gP x.sig H=T at *
   have hst:List.replicate (atN x.sig x.sig.length) 0=(if fQ T T.length≤20000 then gL (upD A) else []).headD (List.replicate (atN x.sig x.sig.length) 0)/\decide (0<tS T T.length)=!(if fQ T T.length≤20000 then gL (upD A) else []).isEmpty:=by
    obtain⟨r0,hr0⟩:=hseq.2
    by_cases hpr:fQ T T.length≤20000
    ·rw[if_pos hpr,hr0,List.headD_cons,aBD,hlA]
     exact⟨rfl,by simp[htb.2.2 hpr]⟩
    ·rw[if_neg hpr]
     exact⟨rfl,by simp;have:=htb.2;omega⟩
   refine bB (ι:=List (List Int)) (λp=>[(12,.sl .any ((p.headD (jX (upD A))).map (.int .i64))),(13,.bool (!p.isEmpty))]) (λp=>[]) (λp=>(wU (upD A) p/\∀c∈p,nS (upD A) c)/\qZ (FM x P set) p=o) (λp=>p.length) (if fQ T T.length≤20000 then gL (upD A) else []) (by(refine aC rfl rfl ?_ ?_ ?_ ?_<;>simp(disch:=apply aB;omega)only[go_sem]<;>(try omega));(rw[aBD,hlA];exact hst)) ?_ (λp hp=>?_)
   rotate_left
   simp only[go_sem]
   ·obtain⟨⟨hq1,hq2⟩,hq3⟩:=hp
    cases p with
    | nil =>
     obtain rfl:none=o:=hq3
     simp only[List.isEmpty_nil,Bool.not_true]
     repeat' first|apply aE|refine aI 0 kp7 λK hK=>?_|((first|apply aD|apply aK|refine aA (aO ?_)|apply aA);simp(disch:=apply aB;omega)only[go_sem,Tryz.results7])|(apply hK.nil;clear hK K;simp only[go_sem])|((first|refine aH rfl rfl rfl rfl rfl ?_ ?_|refine aN rfl rfl rfl rfl rfl ?_ ?_|refine aF rfl ?_ ?_)<;>intro h<;>try simp(disch:=apply aB;omega)only[go_sem] at h)|refine aT rfl ?_|fail
     all_goals exact⟨rfl,rfl⟩
    | cons a r =>
     have ha:=hq2 a zH
     have hal:a.length=atN x.sig x.sig.length:=by rw[jB ha,jM,hlA]
     have hab:=aNu hdA ha
     have hap:=aHf hsg hdA hlA ha
     obtain⟨hn1,hn2⟩:=qH hq1
     have hne:a≠[]:=by intro e;rw[e] at hal;simp at hal;omega
     simp only[List.headD_cons,List.isEmpty_cons,Bool.not_false]
     have cN:=aCo A a (by omega) hne (by omega) hab
     rw[hn1,←htake] at cN
     have cK:=aGF x P set (gB x.sig a) Bm hsg hap hdB hlB hP hS h64 _ rfl
     rw[←hdrop] at cK
     have nxt:∀q:FM x P set a=none,qZ (FM x P set) r=o:=λq=>by rw[←hq3,aT9 q]
     by_cases hAl:kU x (gB x.sig a)
     ·have hf:=hFa a hAl
      rw[hdrop] at cK
      cases hfd:fK (GM x.sig P set (gB x.sig a)) (gL (upD Bm)) with
      | none =>
       rw[hfd] at cK hf
       rw[←hdrop] at cK
       have hnx:=nxt hf
       repeat' first|((exact absurd hAl (by assumption)))|apply aE|apply aG|apply aM|apply aJ|refine aI 0 kp7 λK hK=>?_|refine aY kp7 (by kernel_rfl) λK hK=>?_|((first|apply aD|apply aK|refine aA (aO ?_)|apply aA);simp(disch:=apply aB;omega)only[go_sem,Tryz.results7])|(apply hK.nil;clear hK K;simp only[go_sem])|((first|refine aH rfl rfl rfl rfl rfl ?_ ?_|refine aN rfl rfl rfl rfl rfl ?_ ?_|refine aF rfl ?_ ?_)<;>intro h<;>try simp(disch:=apply aB;omega)only[go_sem] at h)|apply aL|refine hK.c0 rfl rfl rfl (nF x.sig a hsg (by omega) (by omega)) rfl rfl rfl ?_|refine hK.c0 rfl rfl rfl (fR x (gB x.sig a)) rfl rfl rfl ?_|refine hK.c0 rfl rfl rfl (cK) rfl rfl rfl ?_|refine hK.c0 rfl rfl rfl (cN) rfl rfl rfl ?_|(with_reducible refine And.intro (by first|omega|(simp only[lens];omega)) ?_)|fail
       ·exact Bool.noConfusion h
       ·exact⟨r,(by(refine aC rfl rfl ?_ ?_ ?_ ?_<;>simp(disch:=apply aB;omega)only[go_sem]<;>(try omega));rw[htake]),⟨⟨hn2,λd hd=>hq2 d (zG _ hd)⟩,hnx⟩,by simp⟩
      | some c =>
       rw[hfd] at cK hf
       rw[←hdrop] at cK
       rw[aQE hf] at hq3
       subst hq3
       repeat' first|((exact absurd hAl (by assumption)))|apply aE|apply aG|apply aM|apply aJ|refine aI 0 kp7 λK hK=>?_|refine aY kp7 (by kernel_rfl) λK hK=>?_|((first|apply aD|apply aK|refine aA (aO ?_)|apply aA);simp(disch:=apply aB;omega)only[go_sem,Tryz.results7])|(apply hK.nil;clear hK K;simp only[go_sem])|((first|refine aH rfl rfl rfl rfl rfl ?_ ?_|refine aN rfl rfl rfl rfl rfl ?_ ?_|refine aF rfl ?_ ?_)<;>intro h<;>try simp(disch:=apply aB;omega)only[go_sem] at h)|apply aL|refine hK.c0 rfl rfl rfl (nF x.sig a hsg (by omega) (by omega)) rfl rfl rfl ?_|refine hK.c0 rfl rfl rfl (fR x (gB x.sig a)) rfl rfl rfl ?_|refine hK.c0 rfl rfl rfl (cK) rfl rfl rfl ?_|refine hK.c0 rfl rfl rfl (cN) rfl rfl rfl ?_|(with_reducible refine And.intro (by first|omega|(simp only[lens];omega)) ?_)|fail
       ·exact⟨by show _=List.map bS (lT x.sig (a++c));rw[aJu hal];rfl,rfl⟩
       ·exact Bool.noConfusion h
     ·have hnx:=nxt (aWa hAl)
      repeat' first|((exact absurd (by assumption) hAl))|apply aE|apply aG|apply aM|apply aJ|refine aI 0 kp7 λK hK=>?_|((first|apply aD|apply aK|refine aA (aO ?_)|apply aA);simp(disch:=apply aB;omega)only[go_sem,Tryz.results7])|(apply hK.nil;clear hK K;simp only[go_sem])|((first|refine aH rfl rfl rfl rfl rfl ?_ ?_|refine aN rfl rfl rfl rfl rfl ?_ ?_|refine aF rfl ?_ ?_)<;>intro h<;>try simp(disch:=apply aB;omega)only[go_sem] at h)|apply aL|refine hK.c0 rfl rfl rfl (nF x.sig a hsg (by omega) (by omega)) rfl rfl rfl ?_|refine hK.c0 rfl rfl rfl (fR x (gB x.sig a)) rfl rfl rfl ?_|refine hK.c0 rfl rfl rfl (cN) rfl rfl rfl ?_|(with_reducible refine And.intro (by first|omega|(simp only[lens];omega)) ?_)|fail
      exact⟨r,(by(refine aC rfl rfl ?_ ?_ ?_ ?_<;>simp(disch:=apply aB;omega)only[go_sem]<;>(try omega));rw[htake]),⟨⟨hn2,λd hd=>hq2 d (zG _ hd)⟩,hnx⟩,by simp⟩
   ·refine⟨?_,?_⟩
    ·split
     ·exact⟨hseq.1,hdig⟩
     ·exact⟨trivial,λc hc=>by cases hc⟩
    ·rw[hfm];split<;>rfl
  ·exact Nat.zero_le _
 ·rw[aQ9 hW]
  rcases Classical.em (gH x) with hx|hx
  ·rw[fA hx] at cP
   have h64:(bL x).length≤64:=hx.2
   refine aP Tryz.func7 rfl (by kernel_rfl) (by simp[Tryz.f7]) λB=>?_
   simp only[Tryz.ntmps7,aS,aZ,Nat.reduceAdd]
   repeat' first|((exact absurd (show m8 x set from⟨hx,by assumption⟩) hW))|apply aE|refine aI 0 kp7 λK hK=>?_|((first|apply aD|apply aK|refine aA (aO ?_)|apply aA);simp(disch:=apply aB;omega)only[go_sem,Tryz.results7])|(apply hK.nil;clear hK K;simp only[go_sem])|((first|refine aH rfl rfl rfl rfl rfl ?_ ?_|refine aN rfl rfl rfl rfl rfl ?_ ?_|refine aF rfl ?_ ?_)<;>intro h<;>try simp(disch:=apply aB;omega)only[go_sem] at h)|refine hK.c0 rfl rfl rfl (cP) rfl rfl rfl ?_|refine hK.c0 rfl rfl rfl (iE set _ (by omega)) rfl rfl rfl ?_|fail
   all_goals exact⟨rfl,rfl⟩
  ·rw[iD hx] at cP
   refine aP Tryz.func7 rfl (by kernel_rfl) (by simp[Tryz.f7]) λB=>?_
   simp only[Tryz.ntmps7,aS,aZ,Nat.reduceAdd]
   repeat' first|apply aE|refine aI 0 kp7 λK hK=>?_|((first|apply aD|apply aK|refine aA (aO ?_)|apply aA);simp(disch:=apply aB;omega)only[go_sem,Tryz.results7])|(apply hK.nil;clear hK K;simp only[go_sem])|((first|refine aH rfl rfl rfl rfl rfl ?_ ?_|refine aN rfl rfl rfl rfl rfl ?_ ?_|refine aF rfl ?_ ?_)<;>intro h<;>try simp(disch:=apply aB;omega)only[go_sem] at h)|refine hK.skp rfl rfl ?_|refine hK.c0 rfl rfl rfl (cP) rfl rfl rfl ?_|fail
   all_goals exact⟨rfl,rfl⟩
end
section
attribute [local irreducible] SW bC bE dE bU FC dO toF dP fV fD sumF bR
def aJl:List (Nat×List Nat):=[(0,[1,2]),(1,[1,2,16]),(2,[4]),(3,[1,2,5]),(4,[1,2,5,20]),(6,[1,2,5,34]),(7,[4]),(5,[1,2,5]),(8,[4])]
attribute [go_sem] aJl
theorem uA(rs proj:List Int):FC S 112 [] [] [] [.agg [.sl .any (rs.map (.int .i64))],.sl .any (proj.map (.int .i64))] (.bool (tst (p8 rs proj))) [] []:=by
 refine aP Tryz.func112 rfl (by kernel_rfl) (by simp[Tryz.f112]) λB=>?_
 simp only[Tryz.ntmps112,aS,aZ,Nat.reduceAdd]
 refine bX 0 0 rfl rfl λhb0_0=>?_
 simp only[D.bnd,zC] at hb0_0
 refine bZ 1 rfl λhb1=>?_
 simp only[D.bnd,zC] at hb1
 repeat' first|apply aE|apply aG|apply aJ|refine aI 0 aJl λK hK=>?_|((first|apply aD|apply aK|refine aA (aO ?_)|apply aA);simp(disch:=apply aB;omega)only[go_sem,Tryz.results112])|(apply hK.nil;clear hK K;simp only[go_sem])|((first|refine aH rfl rfl rfl rfl rfl ?_ ?_|refine aN rfl rfl rfl rfl rfl ?_ ?_|refine aF rfl ?_ ?_)<;>intro h<;>try simp(disch:=apply aB;omega)only[go_sem] at h)|refine hK.c0 rfl rfl rfl (lS _ _) rfl rfl rfl ?_|fail
 all_goals try exact λh=>absurd h.1.1 (by assumption)
 all_goals try exact λh=>absurd h.1.2 (by omega)
 refine bB (ι:=Nat) (λi=>[(5,.int .i64 i)]) (λ_=>[]) (λi=>i≤proj.length/\(∀j<i,-1≤proj.getD j default/\proj.getD j default≤rs.getD j default-1)) (λi=>proj.length-i) 0 (by(refine aC rfl rfl ?_ ?_ ?_ ?_<;>simp(disch:=apply aB;omega)only[go_sem]<;>(try omega))) ⟨by omega,?_⟩ (λi ⟨hi,hj⟩=>?_)
 rotate_left
 simp only[go_sem]
 ·have hsg:=(by assumption:eA rs).2
  by_cases hil:i<proj.length
  ·have h3:=hsg i (by omega)
   repeat' first|((exfalso;omega))|apply aE|apply aG|apply aM|apply aJ|refine aI 0 aJl λK hK=>?_|refine aY aJl (by kernel_rfl) λK hK=>?_|((first|apply aD|apply aK|refine aA (aO ?_)|apply aA);simp(disch:=apply aB;omega)only[go_sem,Tryz.results112])|(apply hK.nil;clear hK K;simp only[go_sem])|((first|refine aH rfl rfl rfl rfl rfl ?_ ?_|refine aN rfl rfl rfl rfl rfl ?_ ?_|refine aF rfl ?_ ?_)<;>intro h<;>try simp(disch:=apply aB;omega)only[go_sem] at h)|apply aL|refine hK.c0 rfl rfl rfl (nN _ _ _) rfl rfl rfl ?_|(with_reducible refine And.intro (by first|omega|(simp only[lens];omega)) ?_)|fail
   ·exact λhO=>h (hO.2 i (by omega))
   ·exact⟨i+1,(by(refine aC rfl rfl ?_ ?_ ?_ ?_<;>simp(disch:=apply aB;omega)only[go_sem]<;>(try omega))),⟨by omega,bJ hj h⟩,by omega⟩
  ·repeat' first|((exfalso;omega))|apply aE|refine aI 0 aJl λK hK=>?_|((first|apply aD|apply aK|refine aA (aO ?_)|apply aA);simp(disch:=apply aB;omega)only[go_sem,Tryz.results112])|(apply hK.nil;clear hK K;simp only[go_sem])|((first|refine aH rfl rfl rfl rfl rfl ?_ ?_|refine aN rfl rfl rfl rfl rfl ?_ ?_|refine aF rfl ?_ ?_)<;>intro h<;>try simp(disch:=apply aB;omega)only[go_sem] at h)|refine aT rfl ?_|fail
   exact⟨⟨by assumption,by omega⟩,λj hj'=>hj j (by omega)⟩
 ·intro j hj';omega
def aOs:List (Nat×List Nat):=[(0,[1,2,3]),(1,[1,2,3,13]),(2,[6]),(3,[6])]
attribute [go_sem] aOs
theorem aFT(rs proj t:List Int)(hj:p8 rs proj)(hT:aX rs t)(h0:0≤t.getD 0 default):FC S 113 [] [] [] [.agg [.sl .any (rs.map (.int .i64))],.sl .any (proj.map (.int .i64)),.sl .any (t.map (.int .i64))] (.sl .any ((iT rs proj t).map (.int .i64))) [] []:=by
 obtain⟨h1,h2,h3⟩:=aGz hj hT h0
 have hl:=hT.2.1
 have hpl:=iG rs t (arS rs (t.getD 0 default)).toNat
 by_cases hn:proj.getD (t.getD 0 default).toNat default<0
 ·rw[aGh hn]
  refine aP Tryz.func113 rfl (by kernel_rfl) (by simp[Tryz.f113]) λB=>?_
  simp only[Tryz.ntmps113,aS,aZ,Nat.reduceAdd]
  repeat' first|((exfalso;omega))|apply aE|refine aI 0 aOs λK hK=>?_|((first|apply aD|apply aK|refine aA (aO ?_)|apply aA);simp(disch:=apply aB;omega)only[go_sem,Tryz.results113])|(apply hK.nil;clear hK K;simp only[go_sem])|((first|refine aF rfl ?_ ?_)<;>intro h<;>try simp(disch:=apply aB;omega)only[go_sem] at h)|(with_reducible refine And.intro (by first|omega|(simp only[lens];omega)) ?_)|fail
 ·have h4:=h3 (by omega)
  rw[aCZ hn,←uN rs t h4]
  refine aP Tryz.func113 rfl (by kernel_rfl) (by simp[Tryz.f113]) λB=>?_
  simp only[Tryz.ntmps113,aS,aZ,Nat.reduceAdd]
  repeat' first|((exfalso;omega))|apply aE|apply aJ|refine aI 0 aOs λK hK=>?_|refine aY aOs (by kernel_rfl) λK hK=>?_|((first|apply aD|apply aK|refine aA (aO ?_)|apply aA);simp(disch:=apply aB;omega)only[go_sem,Tryz.results113])|(apply hK.nil;clear hK K;simp only[go_sem])|((first|refine aF rfl ?_ ?_)<;>intro h<;>try simp(disch:=apply aB;omega)only[go_sem] at h)|refine hK.c0 rfl rfl rfl (rP rs t hT) rfl rfl rfl ?_|(with_reducible refine And.intro (by first|omega|(simp only[lens];omega)) ?_)|fail
def aVq:List (Nat×List Nat):=[(0,[1,2,3]),(1,[2,3,7]),(2,[2,3,7,15]),(3,[6]),(4,[6])]
attribute [go_sem] aVq
theorem wS(rs proj t:List Int)(hj:p8 rs proj)(hT:aX rs t)(h0:0≤t.getD 0 default):FC S 91 [] [] [] [.agg [.sl .any (rs.map (.int .i64))],.sl .any (proj.map (.int .i64)),.sl .any (t.map (.int .i64))] (lM (iT rs proj t)) [] []:=by
 obtain⟨h1,h2,h3⟩:=aGz hj hT h0
 have hl:=hT.2.1
 have hal:=y0 rs t 0
 by_cases hn:proj.getD (t.getD 0 default).toNat default<0
 ·rw[aGh hn,show lM []=D.sl .nil [] from by simp[lM,tkN]]
  refine aP Tryz.func91 rfl (by kernel_rfl) (by simp[Tryz.f91]) λB=>?_
  simp only[Tryz.ntmps91,aS,aZ,Nat.reduceAdd]
  repeat' first|((exfalso;omega))|apply aE|refine aI 0 aVq λK hK=>?_|((first|apply aD|apply aK|refine aA (aO ?_)|apply aA);simp(disch:=apply aB;omega)only[go_sem,Tryz.results91])|(apply hK.nil;clear hK K;simp only[go_sem])|((first|refine aF rfl ?_ ?_)<;>intro h<;>try simp(disch:=apply aB;omega)only[go_sem] at h)|(with_reducible refine And.intro (by first|omega|(simp only[lens];omega)) ?_)|fail
 ·have h4:=h3 (by omega)
  have hU:=i7 hT h4
  have hne:jV rs t (proj.getD (t.getD 0 default).toNat default).toNat≠[]:=λe=>by
   have:=hU.1.2.1.1
   rw[e] at this;cases this
  rw[aCZ hn,show lM (jV rs t (proj.getD (t.getD 0 default).toNat default).toNat)=D.sl .any ((jV rs t (proj.getD (t.getD 0 default).toNat default).toNat).map (.int .i64)) from by simp only[lM,tkN,if_neg hne]]
  have hg:=aAN rs t 0 _ h4
  have hlt:=(nJ hT (show 0<t.length from hT.2.1.1) h4).2
  have cS:=rW .any .any rs t _ hT hlt
  unfold jV
  simp only[Nat.zero_add] at hg hlt cS
  rw[←hg] at hlt cS ⊢
  refine aP Tryz.func91 rfl (by kernel_rfl) (by simp[Tryz.f91]) λB=>?_
  simp only[Tryz.ntmps91,aS,aZ,Nat.reduceAdd]
  repeat' first|((exfalso;omega))|apply aE|apply aJ|refine aI 0 aVq λK hK=>?_|refine aY aVq (by kernel_rfl) λK hK=>?_|((first|apply aD|apply aK|refine aA (aO ?_)|apply aA);simp(disch:=apply aB;omega)only[go_sem,Tryz.results91])|(apply hK.nil;clear hK K;simp only[go_sem])|((first|refine aF rfl ?_ ?_)<;>intro h<;>try simp(disch:=apply aB;omega)only[go_sem] at h)|refine hK.c0 rfl rfl rfl (aET .any .any rs t 0 hT (by omega)) rfl rfl rfl ?_|refine hK.c0 rfl rfl rfl (cS) rfl rfl rfl ?_|(with_reducible refine And.intro (by first|omega|(simp only[lens];omega)) ?_)|fail
theorem tJ{rs proj:List Int}{p:DepPairT}(hp:jN rs p)(hj:p8 rs proj):(iT rs proj p.l≠[]->aX rs (iT rs proj p.l))/\(iT rs proj p.r≠[]->aX rs (iT rs proj p.r)):=⟨aN7 hj hp.1.1 hp.2.1,aN7 hj hp.1.2 hp.2.2⟩
theorem aRb{rs proj:List Int}{p:DepPairT}(hp:jN rs p)(hj:p8 rs proj):oH rs proj p↔(iT rs proj p.l≠[]/\iT rs proj p.r≠[])/\mH rs (iT rs proj p.l) 0 (iT rs proj p.r):=by
 unfold oH
 constructor
 ·rintro⟨h1,h2⟩;exact⟨h1,(aBc ((tJ hp hj).1 h1.1)).2 h2⟩
 ·rintro⟨h1,h2⟩;exact⟨h1,(aBc ((tJ hp hj).1 h1.1)).1 h2⟩
theorem aMd(rs t u:List Int)(hT:aX rs t):FC S 92 [] [] [] [.agg [.sl .any (rs.map (.int .i64))],.sl .any (t.map (.int .i64)),.int .i64 0,.sl .any (u.map (.int .i64))] (.bool (tst (mH rs t 0 u))) [] []:=by
 have hl:=hT.2.1
 refine aP Tryz.func92 rfl (by kernel_rfl) (by simp[Tryz.f92]) λB=>?_
 simp only[Tryz.ntmps92,aS,aZ,Nat.reduceAdd]
 repeat' first|apply aE|apply aG|refine aI 0 aLh λK hK=>?_|((first|apply aD|refine aA (aO ?_)|apply aA);simp(disch:=apply aB;omega)only[go_sem,Tryz.results92])|(apply hK.nil;clear hK K;simp only[go_sem])|fail
 refine bB (ι:=Nat) (λp=>[(9,.int .i64 p)]) (λp=>[]) (λp=>p≤t.length/\∀j<p,dJ rs t j≠u) (λp=>t.length-p) 0 (by(refine aC rfl rfl ?_ ?_ ?_ ?_<;>simp(disch:=apply aB;omega)only[go_sem]<;>(try omega))) ?_ (λp hp=>?_)
 rotate_left
 simp only[go_sem]
 obtain⟨hp,hj⟩:=hp
 by_cases hil:p<t.length
 ·repeat' first|((exfalso;omega))|apply aE|apply aG|apply aM|apply aJ|refine aI 0 aLh λK hK=>?_|((first|apply aD|refine aA (aO ?_)|apply aA);simp(disch:=apply aB;omega)only[go_sem,Tryz.results92])|(apply hK.nil;clear hK K;simp only[go_sem])|((first|refine aF rfl ?_ ?_)<;>intro h<;>try simp(disch:=apply aB;omega)only[go_sem] at h)|apply aL|refine hK.c0 rfl rfl rfl (rW .any .any rs t p hT hil) rfl rfl rfl ?_|refine hK.c0 rfl rfl rfl (uB _ _ (dJ rs t p) u) rfl rfl rfl ?_|fail
  ·exact⟨p,⟨Nat.zero_le _,hil⟩,h⟩
  ·exact⟨p+1,(by(refine aC rfl rfl ?_ ?_ ?_ ?_<;>simp(disch:=apply aB;omega)only[go_sem]<;>(try omega))),⟨by omega,bJ hj h⟩,by omega⟩
 ·repeat' first|((exfalso;omega))|apply aE|refine aI 0 aLh λK hK=>?_|((first|apply aD|refine aA (aO ?_)|apply aA);simp(disch:=apply aB;omega)only[go_sem,Tryz.results92])|(apply hK.nil;clear hK K;simp only[go_sem])|((first|refine aF rfl ?_ ?_)<;>intro h<;>try simp(disch:=apply aB;omega)only[go_sem] at h)|refine aT rfl ?_|fail
  exact λ⟨a,h1,e⟩=>hj a (by omega) e
 ·exact⟨by omega,λj h1=>absurd h1 (by omega)⟩
def aD5:List (Nat×List Nat):=[(0,[1,2,3]),(1,[1,2,3,8,9]),(2,[1,2,3,8,35]),(3,[6,7]),(4,[1,2,3,8,10]),(5,[1,2,3,8,10,11]),(6,[1,2,3,8,10,11,41]),(8,[1,2,3,8,10,11,12]),(9,[1,2,3,8,10,11,12,13]),(10,[1,2,3,8,10,11,12,13,14]),(11,[1,2,3,8,10,11,14,95]),(12,[6,7]),(13,[1,2,3,8,10,11,97]),(14,[1,2,3,8,10,11]),(7,[1,2,3,8,10,11]),(15,[6,7])]
attribute [go_sem] aD5
theorem mN(x:SystemT)(set proj:List Int):FC S 86 [] [] [] [bP x,.sl .any (set.map (.int .i64)),.sl .any (proj.map (.int .i64))] (.tup [.sl .any ((aJZ x set proj).1.map (.int .i64)),.bool (aJZ x set proj).2]) [] []:=by
 have cP:=iI x
 rcases Classical.em (xB x set proj) with hW|hW
 ·rw[aAx hW]
  obtain⟨⟨hx,hS⟩,hj⟩:=hW
  rw[fA hx] at cP
  have h12:=hx.1.1.2
  have hsg:=hx.1.1.1.1
  have h64:(bL x).length≤64:=hx.2
  have hsl:=lO hS
  have hat:∀i<set.length,(0≤set.getD i default/\set.getD i default<(bL x).length)/\jN x.sig ((bL x).getD (set.getD i default).toNat default):=λi hi=>by
   have h:=(hS i hi).1
   exact⟨h,kZ hx _ (bA (bL x) _ (by omega))⟩
  refine aP Tryz.func86 rfl (by kernel_rfl) (by simp[Tryz.f86]) λB=>?_
  simp only[Tryz.ntmps86,aS,aZ,Nat.reduceAdd]
  repeat' first|((exact absurd hS (by assumption)))|((exact absurd hj (by assumption)))|apply aE|apply aG|apply aJ|refine aI 0 aD5 λK hK=>?_|((first|apply aD|apply aK|refine aA (aO ?_)|apply aA);simp(disch:=apply aB;omega)only[go_sem,Tryz.results86])|(apply hK.nil;clear hK K;simp only[go_sem])|((first|refine aH rfl rfl rfl rfl rfl ?_ ?_|refine aN rfl rfl rfl rfl rfl ?_ ?_|refine aF rfl ?_ ?_)<;>intro h<;>try simp(disch:=apply aB;omega)only[go_sem] at h)|refine hK.c0 rfl rfl rfl (cP) rfl rfl rfl ?_|refine hK.c0 rfl rfl rfl (iE set _ (by omega)) rfl rfl rfl ?_|refine hK.c0 rfl rfl rfl (uA x.sig proj) rfl rfl rfl ?_|fail
  refine dW 10 105000 2 1 rfl (.inr rfl) rfl ?_
  simp only[go_sem]
  refine bG (ι:=Nat) (λi=>[(11,.int .i64 i),(10,.sl (.own 105000 2 1) ((jL x.sig (bL x) set proj i).map (.int .i64)))]) (λ_=>[]) (λ_=>[105000]) (λi=>i≤set.length/\∀j<i,oH x.sig proj ((bL x).getD (set.getD j default).toNat default)) (λi=>set.length-i) 0 (by(refine aC rfl rfl ?_ ?_ ?_ ?_<;>simp(disch:=apply aB;omega)only[go_sem]<;>(try omega));all_goals exact⟨rfl,rfl⟩) ⟨by omega,λj hj=>absurd hj (by omega)⟩ (λi hi=>?_)
  obtain⟨hi,hk⟩:=hi
  simp only[go_sem]
  have hwl:=aMc x.sig (bL x) set proj i
  by_cases hil:i<set.length
  ·have hq:=hat i hil
   have h1:=hq.1
   have ha:=tJ hq.2 hj
   obtain⟨q,hq'⟩:∃q,(bL x).getD (set.getD i default).toNat default=q:=⟨_,rfl⟩
   rw[hq'] at hq ha
   have c1:=aFT x.sig proj q.l hj hq.2.1.1 hq.2.2.1
   have c2:=aFT x.sig proj q.r hj hq.2.1.2 hq.2.2.2
   have hY:rL x.sig proj q->jL x.sig (bL x) set proj (i+1)=jL x.sig (bL x) set proj i++[set.getD i default]:=λh=>aGv (by rw[hq'];exact h)
   have hN:¬rL x.sig proj q->jL x.sig (bL x) set proj (i+1)=jL x.sig (bL x) set proj i:=λh=>aOb (by rw[hq'];exact h)
   have hM:¬oH x.sig proj q->jR x.sig (bL x) set proj=([],false):=λh=>aTt λe=>h (by have:=e i hil;rwa [hq'] at this)
   have hK:oH x.sig proj q->∀j<i+1,oH x.sig proj ((bL x).getD (set.getD j default).toNat default):=λh=>bJ hk (by rw[hq'];exact h)
   unfold rL at hY hN
   unfold oH at hM
   have hK':((iT x.sig proj q.l≠[]/\iT x.sig proj q.r≠[])/\(iT x.sig proj q.l=iT x.sig proj q.r∨mH x.sig (iT x.sig proj q.l) 1 (iT x.sig proj q.r)))->∀j<i+1,oH x.sig proj ((bL x).getD (set.getD j default).toNat default):=hK
   clear hK
   generalize iT x.sig proj q.l=a at *
   generalize iT x.sig proj q.r=b at *
   rw[←hq'] at c1 c2
   rcases Classical.em (a=[]) with ea|ea
   ·rw[hM λh=>h.1.1 ea]
    subst ea
    repeat' first|((exfalso;omega))|apply aE|apply aG|apply aJ|refine aI 0 aD5 λK hK=>?_|refine aY aD5 (by kernel_rfl) λK hK=>?_|((first|apply aD|apply aK|refine aA (aO ?_)|apply aA);simp(disch:=apply aB;omega)only[go_sem,Tryz.results86])|(apply hK.nil;clear hK K;simp only[go_sem])|((first|refine aH rfl rfl rfl rfl rfl ?_ ?_|refine aN rfl rfl rfl rfl rfl ?_ ?_|refine aF rfl ?_ ?_)<;>intro h<;>try simp(disch:=apply aB;omega)only[go_sem] at h)|refine hK.skp rfl rfl ?_|refine hK.c0 rfl rfl rfl (c1) rfl rfl rfl ?_|refine hK.c0 rfl rfl rfl (c2) rfl rfl rfl ?_|(with_reducible refine And.intro (by first|omega|(simp only[lens];omega)) ?_)|fail
    all_goals first|exact⟨rfl,rfl⟩|(refine⟨?_,rfl⟩;simp[le0])
   have hal:0<a.length:=List.length_pos_iff.2 ea
   have cL:=uX x.sig a b (ha.1 ea)
   repeat' first|((exfalso;omega))|apply aE|apply aG|apply aM|apply aJ|refine aI 0 aD5 λK hK=>?_|refine aY aD5 (by kernel_rfl) λK hK=>?_|((first|apply aD|apply aK|refine aA (aO ?_)|apply aA);simp(disch:=apply aB;omega)only[go_sem,Tryz.results86])|(apply hK.nil;clear hK K;simp only[go_sem])|((first|refine aH rfl rfl rfl rfl rfl ?_ ?_|refine aN rfl rfl rfl rfl rfl ?_ ?_|refine aF rfl ?_ ?_)<;>intro h<;>try simp(disch:=apply aB;omega)only[go_sem] at h)|refine hK.skp rfl rfl ?_|apply aL|refine hK.c0 rfl rfl rfl (c1) rfl rfl rfl ?_|refine hK.c0 rfl rfl rfl (c2) rfl rfl rfl ?_|refine hK.c0 rfl rfl rfl (cL) rfl rfl rfl ?_|refine hK.c0 rfl rfl rfl (p9 _ _ a b) rfl rfl rfl ?_|(with_reducible refine And.intro (by first|omega|(simp only[lens];omega)) ?_)|fail
   all_goals first
    | (exfalso;contradiction)
    | (exfalso;have hab:a=b:=(by assumption);rw[hab] at hal;omega)
    | (rw[hM λh=>absurd (List.length_pos_iff.2 h.1.2) (by omega)];exact⟨rfl,rfl⟩)
    | (rw[hM λh=>by rcases h.2 with h|h<;>contradiction];exact⟨rfl,rfl⟩)
    | exact⟨i+1,(by(refine aC rfl rfl ?_ ?_ ?_ ?_<;>simp(disch:=apply aB;omega)only[go_sem]<;>(try omega));rw[hY ⟨⟨ea,List.length_pos_iff.1 (by omega)⟩,by assumption⟩];exact⟨rfl,by omega⟩),⟨by omega,hK' ⟨⟨ea,List.length_pos_iff.1 (by omega)⟩,.inr (by assumption)⟩⟩,by omega⟩
    | exact⟨i+1,(by(refine aC rfl rfl ?_ ?_ ?_ ?_<;>simp(disch:=apply aB;omega)only[go_sem]<;>(try omega));rw[hN λh=>absurd h.2 (by assumption)];exact⟨rfl,by omega⟩),⟨by omega,hK' ⟨⟨ea,List.length_pos_iff.1 (by omega)⟩,.inl (by assumption)⟩⟩,by omega⟩
    | trace_state
  ·repeat' first|((exfalso;omega))|apply aE|refine aI 0 aD5 λK hK=>?_|((first|apply aD|apply aK|refine aA (aO ?_)|apply aA);simp(disch:=apply aB;omega)only[go_sem,Tryz.results86])|(apply hK.nil;clear hK K;simp only[go_sem])|((first|refine aH rfl rfl rfl rfl rfl ?_ ?_|refine aN rfl rfl rfl rfl rfl ?_ ?_|refine aF rfl ?_ ?_)<;>intro h<;>try simp(disch:=apply aB;omega)only[go_sem] at h)|refine aT rfl ?_|fail
   rw[aMi λj hj'=>hk j (by omega),show i=set.length by omega]
   exact⟨rfl,rfl⟩
 ·rw[aTr hW]
  rcases Classical.em (gH x) with hx|hx
  ·rw[fA hx] at cP
   have h64:(bL x).length≤64:=hx.2
   have h12:=hx.1.1.2
   have hsg:=hx.1.1.1.1
   rcases Classical.em (fI set (bL x).length) with hS|hS
   ·skip
    refine aP Tryz.func86 rfl (by kernel_rfl) (by simp[Tryz.f86]) λB=>?_
    simp only[Tryz.ntmps86,aS,aZ,Nat.reduceAdd]
    repeat' first|((exact absurd ⟨⟨hx,hS⟩,by assumption⟩ hW))|((exact absurd hS (by assumption)))|apply aE|refine aI 0 aD5 λK hK=>?_|((first|apply aD|apply aK|refine aA (aO ?_)|apply aA);simp(disch:=apply aB;omega)only[go_sem,Tryz.results86])|(apply hK.nil;clear hK K;simp only[go_sem])|((first|refine aH rfl rfl rfl rfl rfl ?_ ?_|refine aN rfl rfl rfl rfl rfl ?_ ?_|refine aF rfl ?_ ?_)<;>intro h<;>try simp(disch:=apply aB;omega)only[go_sem] at h)|refine hK.c0 rfl rfl rfl (cP) rfl rfl rfl ?_|refine hK.c0 rfl rfl rfl (iE set _ (by omega)) rfl rfl rfl ?_|refine hK.c0 rfl rfl rfl (uA x.sig proj) rfl rfl rfl ?_|fail
   ·skip
    refine aP Tryz.func86 rfl (by kernel_rfl) (by simp[Tryz.f86]) λB=>?_
    simp only[Tryz.ntmps86,aS,aZ,Nat.reduceAdd]
    repeat' first|((exact absurd (by assumption) hS))|apply aE|refine aI 0 aD5 λK hK=>?_|((first|apply aD|apply aK|refine aA (aO ?_)|apply aA);simp(disch:=apply aB;omega)only[go_sem,Tryz.results86])|(apply hK.nil;clear hK K;simp only[go_sem])|((first|refine aH rfl rfl rfl rfl rfl ?_ ?_|refine aN rfl rfl rfl rfl rfl ?_ ?_|refine aF rfl ?_ ?_)<;>intro h<;>try simp(disch:=apply aB;omega)only[go_sem] at h)|refine hK.skp rfl rfl ?_|refine hK.c0 rfl rfl rfl (cP) rfl rfl rfl ?_|refine hK.c0 rfl rfl rfl (iE set _ (by omega)) rfl rfl rfl ?_|fail
  ·rw[iD hx] at cP
   refine aP Tryz.func86 rfl (by kernel_rfl) (by simp[Tryz.f86]) λB=>?_
   simp only[Tryz.ntmps86,aS,aZ,Nat.reduceAdd]
   repeat' first|apply aE|refine aI 0 aD5 λK hK=>?_|((first|apply aD|apply aK|refine aA (aO ?_)|apply aA);simp(disch:=apply aB;omega)only[go_sem,Tryz.results86])|(apply hK.nil;clear hK K;simp only[go_sem])|((first|refine aH rfl rfl rfl rfl rfl ?_ ?_|refine aN rfl rfl rfl rfl rfl ?_ ?_|refine aF rfl ?_ ?_)<;>intro h<;>try simp(disch:=apply aB;omega)only[go_sem] at h)|refine hK.skp rfl rfl ?_|refine hK.c0 rfl rfl rfl (cP) rfl rfl rfl ?_|fail
end
end Go.Proofs.YtpennhjjnlkbiaaGreat
