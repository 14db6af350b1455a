/-
  A17q, K2p, A23, A23b, one behind the other.
-/
import Derived.Test.YtpennhjjnlkbiaaGreatG2
import Derived.Test.YtpennhjjnlkbiaaGreatG1
import Derived.Test.YtpennhjjnlkbiaaGreatSet
namespace Go.Proofs.YtpennhjjnlkbiaaGreat
open Go Go.Lg
set_option linter.unusedSimpArgs false
set_option linter.unusedVariables false
set_option maxHeartbeats 4000000
section
attribute [local irreducible] SW bC bE dE bU FC dO toF dP fV
theorem aDc{x:SystemT}{n:Int}:n∈uU x.rules x.rules.length↔aEe x n:=aTY x.rules n
theorem aED{rs t:List Int}{u:List Int}(h:∀j<t.length,1≤j->dJ rs t j≠u):¬mH rs t 1 u:=λ⟨a,h1,e⟩=>h a h1.2 h1.1 e
open Classical in
noncomputable def atR(x:SystemT)(r a:Nat):DepPairT×Bool:=if oQ x r a then (mkP x r a,true) else (⟨[],[],0,0⟩,false)
theorem aGY{x:SystemT}{r a:Nat}(h:oQ x r a):atR x r a=(mkP x r a,true):=if_pos h
theorem aLH{x:SystemT}{r a:Nat}(h:¬oQ x r a):atR x r a=(⟨[],[],0,0⟩,false):=if_neg h
theorem aRO{x:SystemT}{r a:Nat}:((atR x r a).2=true->prR x r (a+1)=prR x r a++[(atR x r a).1])/\((atR x r a).2=false->prR x r (a+1)=prR x r a):=by
 by_cases h:oQ x r a
 ·rw[aGY h,aHE h];exact⟨λ_=>rfl,λe=>Bool.noConfusion e⟩
 ·rw[aLH h,aKL h];exact⟨λe=>Bool.noConfusion e,λ_=>rfl⟩
def aUL:List (Nat×List Nat):=[(0,[1,2,3]),(1,[1,2,3,7]),(2,[1,2,3,7,11]),(4,[1,2,3,7,22]),(5,[6]),(3,[1,2,3,7]),(6,[6])]
attribute [go_sem] aUL
theorem uX(rs t u:List Int)(hT:aX rs t):FC S 99 [] [] [] [.agg [.sl .any (rs.map (.int .i64))],.sl .any (t.map (.int .i64)),.sl .any (u.map (.int .i64))] (.bool (tst (mH rs t 1 u))) [] []:=by
 have hl:=hT.2.1
 refine aP Tryz.func99 rfl (by kernel_rfl) (by simp[Tryz.f99]) λB=>?_
 simp only[Tryz.ntmps99,aS,aZ,Nat.reduceAdd]
 repeat' first|apply aE|apply aG|refine aI 0 aUL λK hK=>?_|((first|apply aD|refine aA (aO ?_)|apply aA);simp(disch:=apply aB;omega)only[go_sem,Tryz.results99])|(apply hK.nil;clear hK K;simp only[go_sem])|fail
 refine bB (ι:=Nat) (λp=>[(7,.int .i64 p)]) (λp=>[]) (λp=>(1≤p/\p≤t.length)/\∀j<p,1≤j->dJ rs t j≠u) (λp=>t.length-p) 1 (by(refine aC rfl rfl ?_ ?_ ?_ ?_<;>simp(disch:=apply aB;omega)only[go_sem]<;>(try omega))) ?_ (λp hp=>?_)
 rotate_left
 simp only[go_sem]
 obtain⟨hp,hj⟩:=hp
 by_cases hil:p<t.length
 ·have h5:=fN hT hil
  have h6:((d7 rs t p).toNat:Int)=d7 rs t p:=by omega
  repeat' first|((exfalso;omega))|apply aE|apply aG|apply aM|apply aJ|refine aI 0 aUL λK hK=>?_|((first|apply aD|refine aA (aO ?_)|apply aA);simp(disch:=apply aB;omega)only[go_sem,Tryz.results99])|(apply hK.nil;clear hK K;simp only[go_sem])|((first|refine aF rfl ?_ ?_)<;>intro h<;>try simp(disch:=apply aB;omega)only[go_sem] at h)|apply aL|refine hK.c0 rfl rfl rfl (oR rs t p hT hil) rfl rfl rfl ?_|refine hK.c0 rfl rfl rfl (p9 _ _ (dJ rs t p) u) rfl rfl rfl ?_|(with_reducible refine And.intro (by first|omega|(simp only[lens];omega)) ?_)|fail
  ·exact⟨p,⟨hp.1,hil⟩,h⟩
  ·exact⟨p+1,(by(refine aC rfl rfl ?_ ?_ ?_ ?_<;>simp(disch:=apply aB;omega)only[go_sem]<;>(try omega))),⟨by omega,bJ hj λ_=>h⟩,by omega⟩
 ·repeat' first|((exfalso;omega))|apply aE|refine aI 0 aUL λK hK=>?_|((first|apply aD|refine aA (aO ?_)|apply aA);simp(disch:=apply aB;omega)only[go_sem,Tryz.results99])|(apply hK.nil;clear hK K;simp only[go_sem])|((first|refine aF rfl ?_ ?_)<;>intro h<;>try simp(disch:=apply aB;omega)only[go_sem] at h)|refine aT rfl ?_|fail
  exact aED λj hj'=>hj j (by omega)
 ·exact⟨⟨by omega,by omega⟩,λj h1 h2=>absurd h1 (by omega)⟩
theorem mS(tk:Tk)(xs:List Int)(hl:xs.length≤17592186044416):FC S 68 [] [] [] [.sl tk (xs.map (.int .i64))] (.sl .any (xs.map (.int .i64))) [] []:=by
 refine FC.args (args':=[.sl .any (xs.map (.int .i64))]) ?_ (by simp only[go_sem])
 refine aP Tryz.func68 rfl (by kernel_rfl) (by simp[Tryz.f68]) λB=>?_
 simp only[Tryz.ntmps68,aS,aZ,Nat.reduceAdd]
 refine bZ 0 rfl λhb0=>?_
 simp only[D.bnd,zC] at hb0
 repeat' first|apply aE|refine aI 0 aWB λK hK=>?_|((first|apply aD|refine aA (aO ?_)|apply aA);simp(disch:=apply aB;omega)only[go_sem,Tryz.results68])|(apply hK.nil;clear hK K;simp only[go_sem])|(with_reducible refine And.intro (by first|omega|(simp only[lens];omega)) ?_)|fail
def aTP:List (Nat×List Nat):=[(0,[1,2,3,6]),(1,[1,2,3,6,8]),(2,[1,2,3,6,8,31]),(3,[6,7]),(4,[1,2,3,6,8,9]),(5,[1,2,6,8,9,49]),(6,[6,7]),(7,[6,7])]
attribute [go_sem] aTP
theorem aSU(x:SystemT)(hx:b7 x)(r a:Nat)(hr:r<x.rules.length)(ha:a<(x.rules.getD r default).r.length):FC S 63 [] [] [] [bP x,.int .i64 r,.int .i64 a] (.tup [bK (atR x r a).1,.bool (atR x r a).2]) [] []:=by
 have hR:=hx.2 r hr
 have h12:=hx.1.2
 have hT:=hR.1.2.1
 have h5:=fN hT ha
 have h6:((d7 x.sig (x.rules.getD r default).r a).toNat:Int)=d7 x.sig (x.rules.getD r default).r a:=by omega
 have hl:=hT.2.1
 have hl1:=hR.1.1.2.1
 have hsl:(dJ x.sig (x.rules.getD r default).r a).length≤60:=(nH hT ha).2.1.2
 have h0:∀j<x.rules.length,1≤(x.rules.getD j default).l.length:=λj hj=>(hx.2 j hj).1.1.2.1.1
 rcases Classical.em (oQ x r a) with hPA|hPA
 ·rw[aGY hPA]
  have hh:=hPA.1
  refine aP Tryz.func63 rfl (by kernel_rfl) (by simp[Tryz.f63]) λB=>?_
  simp only[Tryz.ntmps63,aS,aZ,Nat.reduceAdd]
  repeat' first|((exfalso;omega))|apply aE|apply aJ|refine aI 0 aTP λK hK=>?_|refine aY aTP (by kernel_rfl) λK hK=>?_|((first|apply aD|apply aK|refine aA (aO ?_)|apply aA);simp(disch:=apply aB;omega)only[go_sem,Tryz.results63])|(apply hK.nil;clear hK K;simp only[go_sem])|((first|refine aH rfl rfl rfl rfl rfl ?_ ?_|refine aN rfl rfl rfl rfl rfl ?_ ?_|refine aF rfl ?_ ?_)<;>intro h<;>try simp(disch:=apply aB;omega)only[go_sem] at h)|refine hK.c0 rfl rfl rfl (pD x (by omega) h0) rfl rfl rfl ?_|refine hK.c0 rfl rfl rfl (gD _ _ _) rfl rfl rfl ?_|refine hK.c0 rfl rfl rfl (oR x.sig (x.rules.getD r default).r a hT ha) rfl rfl rfl ?_|refine hK.c0 rfl rfl rfl (mS _ (dJ x.sig (x.rules.getD r default).r a) (by omega)) rfl rfl rfl ?_|refine hK.c0 rfl rfl rfl (uX x.sig (x.rules.getD r default).l (dJ x.sig (x.rules.getD r default).r a) hR.1.1) rfl rfl rfl ?_|refine hK.c0 rfl rfl rfl (mS _ (x.rules.getD r default).l (by omega)) rfl rfl rfl ?_|(with_reducible refine And.intro (by first|omega|(simp only[lens];omega)) ?_)|fail
  all_goals first|exact absurd (aDc.2 hh.2) (by assumption)|exact absurd (by assumption) hPA.2|exact⟨rfl,rfl,rfl,rfl⟩|skip
 ·rw[aLH hPA]
  refine aP Tryz.func63 rfl (by kernel_rfl) (by simp[Tryz.f63]) λB=>?_
  simp only[Tryz.ntmps63,aS,aZ,Nat.reduceAdd]
  repeat' first|apply aE|apply aJ|refine aI 0 aTP λK hK=>?_|refine aY aTP (by kernel_rfl) λK hK=>?_|((first|apply aD|apply aK|refine aA (aO ?_)|apply aA);simp(disch:=apply aB;omega)only[go_sem,Tryz.results63])|(apply hK.nil;clear hK K;simp only[go_sem])|((first|refine aH rfl rfl rfl rfl rfl ?_ ?_|refine aN rfl rfl rfl rfl rfl ?_ ?_|refine aF rfl ?_ ?_)<;>intro h<;>try simp(disch:=apply aB;omega)only[go_sem] at h)|refine hK.skp rfl rfl ?_|refine hK.c0 rfl rfl rfl (pD x (by omega) h0) rfl rfl rfl ?_|refine hK.c0 rfl rfl rfl (gD _ _ _) rfl rfl rfl ?_|refine hK.c0 rfl rfl rfl (oR x.sig (x.rules.getD r default).r a hT ha) rfl rfl rfl ?_|refine hK.c0 rfl rfl rfl (mS _ (dJ x.sig (x.rules.getD r default).r a) (by omega)) rfl rfl rfl ?_|refine hK.c0 rfl rfl rfl (uX x.sig (x.rules.getD r default).l (dJ x.sig (x.rules.getD r default).r a) hR.1.1) rfl rfl rfl ?_|refine hK.c0 rfl rfl rfl (mS _ (x.rules.getD r default).l (by omega)) rfl rfl rfl ?_|(with_reducible refine And.intro (by first|omega|(simp only[lens];omega)) ?_)|fail
  all_goals first|exact absurd (show oQ x r a from⟨⟨(by assumption),aDc.1 (by assumption)⟩,(by assumption)⟩) hPA|skip
def aLD:List (Nat×List Nat):=[(0,[1]),(1,[1,4]),(2,[1,4,12]),(3,[2,3]),(4,[1,4,5]),(5,[1,4,5,18]),(7,[1,4,5,6]),(8,[1,4,5,6,29]),(10,[1,4,5,6,7,8]),(11,[1,4,5,6,7,39]),(12,[1,4,5,6]),(9,[1,4,5,6]),(6,[1,4,5]),(13,[4,46]),(14,[2,3]),(15,[2,3])]
attribute [go_sem] aLD
theorem iI(x:SystemT):FC S 27 [] [] [] [bP x] (.tup [.sl .any ((lJ x).1.map bK),.bool (lJ x).2]) [] []:=by
 rcases Classical.em (b7 x) with hx|hx
 ·have h12:=hx.1.2
  have hA:(prA x x.rules.length).length≤64->lJ x=(bL x,true):=λh=>fA ⟨hx,h⟩
  have hB:¬(prA x x.rules.length).length≤64->lJ x=([],false):=λh=>iD λe=>h e.2
  refine aP Tryz.func27 rfl (by kernel_rfl) (by simp[Tryz.f27]) λB=>?_
  simp only[Tryz.ntmps27,aS,aZ,Nat.reduceAdd]
  repeat' first|((exact absurd hx (by assumption)))|apply aE|apply aG|apply aJ|refine aI 0 aLD λK hK=>?_|((first|apply aD|refine aA (aO ?_)|apply aA);simp(disch:=apply aB;omega)only[go_sem,Tryz.results27])|(apply hK.nil;clear hK K;simp only[go_sem])|((first|refine aF rfl ?_ ?_)<;>intro h<;>try simp(disch:=apply aB;omega)only[go_sem] at h)|refine hK.c0 rfl rfl rfl (g7 _) rfl rfl rfl ?_|fail
  refine dW 4 44000 94 4 rfl (.inr rfl) rfl ?_
  simp only[go_sem]
  refine bG (ι:=Nat) (λr=>[(5,.int .i64 r),(4,.sl (.own 44000 94 4) ((prA x r).map bK))]) (λ_=>[]) (λ_=>[44000]) (λr=>r≤x.rules.length) (λr=>x.rules.length-r) 0 (by(refine aC rfl rfl ?_ ?_ ?_ ?_<;>simp(disch:=apply aB;omega)only[go_sem]<;>(try omega));all_goals exact⟨rfl,rfl⟩) (by omega) (λr hr=>?_)
  simp only[go_sem]
  have hl1:=aGa hx r hr
  by_cases hrl:r<x.rules.length
  ·have hT:=(hx.2 r hrl).1.2.1
   have hTl:=hT.2.1
   repeat' first|((exfalso;omega))|apply aE|apply aG|apply aJ|refine aI 0 aLD λK hK=>?_|((first|apply aD|refine aA (aO ?_)|apply aA);simp(disch:=apply aB;omega)only[go_sem,Tryz.results27])|(apply hK.nil;clear hK K;simp only[go_sem])|((first|refine aF rfl ?_ ?_)<;>intro h<;>try simp(disch:=apply aB;omega)only[go_sem] at h)|fail
   refine bG (ι:=Nat) (λa=>[(6,.int .i64 a),(4,.sl (.own 44000 94 4) ((prA x r++prR x r a).map bK))]) (λ_=>[]) (λ_=>[44000]) (λa=>a≤(x.rules.getD r default).r.length) (λa=>(x.rules.getD r default).r.length-a) 0 (by(refine aC rfl rfl ?_ ?_ ?_ ?_<;>simp(disch:=apply aB;omega)only[go_sem]<;>(try omega));all_goals first|rfl|(rw[show prR x r 0=[] from rfl,List.append_nil];exact⟨rfl,rfl⟩)|(rw[show prR x r 0=[] from rfl,List.append_nil])) (by omega) (λa ha=>?_)
   simp only[go_sem]
   have hl2:=aBI x r a
   have hl3:(prA x r++prR x r a).length≤60*r+a:=by rw[zK];omega
   by_cases hal:a<(x.rules.getD r default).r.length
   ·have hst:=@aRO x r a
    repeat' first|((exfalso;omega))|apply aE|apply aG|apply aM|apply aJ|refine aI 0 aLD λK hK=>?_|((first|apply aD|refine aA (aO ?_)|apply aA);simp(disch:=apply aB;omega)only[go_sem,Tryz.results27])|(apply hK.nil;clear hK K;simp only[go_sem])|((first|refine aF rfl ?_ ?_)<;>intro h<;>try simp(disch:=apply aB;omega)only[go_sem] at h)|apply aL|refine hK.c0 rfl rfl rfl (aSU x hx r a hrl hal) rfl rfl rfl ?_|(with_reducible refine And.intro (by first|omega|(simp only[lens];omega)) ?_)|((with_reducible refine And.intro ?_ ?_);· first|(intro x hx;subst hx;rfl)|(intro x;refine And.intro ?_ ?_<;>(intros;subst_vars;rfl)))|fail
    ·exact⟨a+1,(by(refine aC rfl rfl ?_ ?_ ?_ ?_<;>simp(disch:=apply aB;omega)only[go_sem]<;>(try omega));rw[hst.1 h,←List.append_assoc,List.map_append (l₁:=prA x r++prR x r a),List.map_append (l₁:=prA x r)];exact⟨rfl,by omega⟩),by omega,by omega⟩
    ·exact⟨a+1,(by(refine aC rfl rfl ?_ ?_ ?_ ?_<;>simp(disch:=apply aB;omega)only[go_sem]<;>(try omega));rw[hst.2 h];exact⟨rfl,by omega⟩),by omega,by omega⟩
   ·repeat' first|((exfalso;omega))|apply aE|apply aM|refine aI 0 aLD λK hK=>?_|((first|apply aD|refine aA (aO ?_)|apply aA);simp(disch:=apply aB;omega)only[go_sem,Tryz.results27])|(apply hK.nil;clear hK K;simp only[go_sem])|((first|refine aF rfl ?_ ?_)<;>intro h<;>try simp(disch:=apply aB;omega)only[go_sem] at h)|refine aT rfl ?_|apply aL|(with_reducible refine And.intro (by first|omega|(simp only[lens];omega)) ?_)|fail
    exact⟨r+1,(by(refine aC rfl rfl ?_ ?_ ?_ ?_<;>simp(disch:=apply aB;omega)only[go_sem]<;>(try omega));rw[show prA x (r+1)=prA x r++prR x r (x.rules.getD r default).r.length from rfl,show a=(x.rules.getD r default).r.length by omega];exact⟨rfl,by omega⟩),by omega,by omega⟩
  ·obtain rfl:r=x.rules.length:=by omega
   repeat' first|((exfalso;omega))|apply aE|apply aJ|refine aI 0 aLD λK hK=>?_|((first|apply aD|refine aA (aO ?_)|apply aA);simp(disch:=apply aB;omega)only[go_sem,Tryz.results27])|(apply hK.nil;clear hK K;simp only[go_sem])|((first|refine aF rfl ?_ ?_)<;>intro h<;>try simp(disch:=apply aB;omega)only[go_sem] at h)|refine aT rfl ?_|fail
   ·rw[hB (by omega)];exact⟨rfl,rfl⟩
   ·rw[hA (by omega)];exact⟨rfl,rfl⟩
 ·rw[iD λh=>hx h.1]
  refine aP Tryz.func27 rfl (by kernel_rfl) (by simp[Tryz.f27]) λB=>?_
  simp only[Tryz.ntmps27,aS,aZ,Nat.reduceAdd]
  repeat' first|((exact absurd (by assumption) hx))|apply aE|refine aI 0 aLD λK hK=>?_|((first|apply aD|refine aA (aO ?_)|apply aA);simp(disch:=apply aB;omega)only[go_sem,Tryz.results27])|(apply hK.nil;clear hK K;simp only[go_sem])|((first|refine aF rfl ?_ ?_)<;>intro h<;>try simp(disch:=apply aB;omega)only[go_sem] at h)|refine hK.c0 rfl rfl rfl (g7 _) rfl rfl rfl ?_|fail
def xQ(set:List Int)(p:Nat):Int:=if p=0 then -1 else set.getD (p-1) default
theorem aLC(set:List Int)(p:Nat):xQ set (p+1)=set.getD p default:=rfl
def aXc:List (Nat×List Nat):=[(0,[0,1]),(1,[0,1,5]),(2,[0,1,5,6]),(3,[0,1,5,6,10]),(5,[0,1,6,22]),(6,[4]),(7,[0,1,5,6]),(4,[0,1,5,6]),(8,[4])]
attribute [go_sem] aXc
theorem iE(set:List Int)(n:Nat)(hn:n≤1000):FC S 28 [] [] [] [.sl .any (set.map (.int .i64)),.int .i64 n] (.bool (tst (fI set n))) [] []:=by
 refine aP Tryz.func28 rfl (by kernel_rfl) (by simp[Tryz.f28]) λB=>?_
 simp only[Tryz.ntmps28,aS,aZ,Nat.reduceAdd]
 refine bZ 0 rfl λhb0=>?_
 simp only[D.bnd,zC] at hb0
 repeat' first|apply aE|apply aG|refine aI 0 aXc λK hK=>?_|((first|apply aD|refine aA (aO ?_)|apply aA);simp(disch:=apply aB;omega)only[go_sem,Tryz.results28])|(apply hK.nil;clear hK K;simp only[go_sem])|fail
 refine bB (ι:=Nat) (λp=>[(6,.int .i64 p),(5,.int .i64 (xQ set p))]) (λp=>[]) (λp=>p≤set.length/\∀j<p,(0≤set.getD j default/\set.getD j default<n)/\(0<j->set.getD (j-1) default<set.getD j default)) (λp=>set.length-p) 0 (by(refine aC rfl rfl ?_ ?_ ?_ ?_<;>simp(disch:=apply aB;omega)only[go_sem]<;>(try omega));exact⟨rfl,rfl⟩) ?_ (λp hp=>?_)
 rotate_left
 simp only[go_sem]
 obtain⟨hp,hj⟩:=hp
 have hL:-1≤xQ set p/\xQ set p<1000/\(p=0->xQ set p=-1)/\(0<p->xQ set p=set.getD (p-1) default/\0≤xQ set p):=by
  unfold xQ
  split
  ·omega
  ·have:=(hj (p-1) (by omega)).1;omega
 have hC:(xQ set p+1≤set.getD p default/\set.getD p default≤(n:Int)-1)↔((0≤set.getD p default/\set.getD p default<n)/\(0<p->set.getD (p-1) default<set.getD p default)):=by
  rcases Nat.eq_zero_or_pos p with h0|h0
  ·have:=hL.2.2.1 h0;omega
  ·have:=hL.2.2.2 h0;omega
 repeat' first|apply aE|apply aG|apply aM|apply aJ|refine aI 0 aXc λK hK=>?_|((first|apply aD|refine aA (aO ?_)|apply aA);simp(disch:=apply aB;omega)only[go_sem,Tryz.results28])|(apply hK.nil;clear hK K;simp only[go_sem])|((first|refine aF rfl ?_ ?_)<;>intro h<;>try simp(disch:=apply aB;omega)only[go_sem] at h)|refine aT rfl ?_|apply aL|refine hK.c0 rfl rfl rfl (nN _ _ _) rfl rfl rfl ?_|(with_reducible refine And.intro (by first|omega|(simp only[lens];omega)) ?_)|fail
 ·intro hS
  exact h (hC.2 (hS p (by omega)))
 ·exact⟨p+1,(by(refine aC rfl rfl ?_ ?_ ?_ ?_<;>simp(disch:=apply aB;omega)only[go_sem]<;>(try omega));exact⟨(aLC set p).symm,by omega⟩),⟨by omega,bJ hj (hC.1 h)⟩,by omega⟩
 ·exact λj hj'=>hj j (by omega)
 ·exact λj hj'=>absurd hj' (by omega)
theorem yK{rs:List Int}{ps:List PolyT}(h:e7 rs ps){n:Int}(h0:0≤n)(h1:n<rs.length):fU (arS rs n) (ps.getD (rs.length+n).toNat default):=by
 have:=aHc h.2.2 h0 h1
 rwa [zD,List.getElem?_drop,←zD,show rs.length+n.toNat=(rs.length+n).toNat by omega] at this
def aTE:List (Nat×List Nat):=[(0,[1,2]),(1,[1,2,5]),(2,[4])]
attribute [go_sem] aTE
theorem g9(rs:List Int)(ps:List PolyT)(hn:rs.length≤1000):FC S 115 [] [] [] [.agg [.sl .any (rs.map (.int .i64))],.sl .any (ps.map bS)] (.bool (tst (e7 rs ps))) [] []:=by
 refine aP Tryz.func115 rfl (by kernel_rfl) (by simp[Tryz.f115]) λB=>?_
 simp only[Tryz.ntmps115,aS,aZ,Nat.reduceAdd]
 refine bX 0 0 rfl rfl λhb0_0=>?_
 simp only[D.bnd,zC] at hb0_0
 refine bZ 1 rfl λhb1=>?_
 simp only[D.bnd,zC] at hb1
 repeat' first|apply aE|refine aI 0 aTE λK hK=>?_|refine aY aTE (by kernel_rfl) λK hK=>?_|((first|apply aD|apply aK|refine aA (aO ?_)|apply aA);simp(disch:=apply aB;omega)only[go_sem,Tryz.results115])|(apply hK.nil;clear hK K;simp only[go_sem])|((first|refine aH rfl rfl rfl rfl rfl ?_ ?_|refine aN rfl rfl rfl rfl rfl ?_ ?_)<;>intro h<;>try simp(disch:=apply aB;omega)only[go_sem] at h)|refine hK.skp rfl rfl ?_|refine hK.c0 rfl rfl rfl (iP _ rs (ps.take rs.length)) rfl rfl rfl ?_|refine hK.c0 rfl rfl rfl (iP _ rs (ps.drop rs.length)) rfl rfl rfl ?_|(with_reducible refine And.intro (by first|omega|(simp only[lens];omega)) ?_)|fail
 all_goals first|exact λhm=>absurd hm.1 (by omega)|exact λhm=>absurd hm.2.1 (by assumption)|exact λhm=>absurd hm.2.2 (by assumption)|exact⟨by omega,by assumption,by assumption⟩|exact⟨λh=>⟨by omega,by assumption,h⟩,λh=>h.2.2⟩|skip
noncomputable def aNM(rs:List Int)(ps:List PolyT)(t:List Int)(j:Nat):PolyT×Bool:=bR rs (ps.take rs.length) 60 (jV rs t j)
noncomputable def eT(rs:List Int)(ps:List PolyT)(t:List Int):PolyT×Bool:=if t.getD 0 default<0 then (xE (t.getD 0 default),true) else jG (aNM rs ps t) (ps.getD (rs.length+t.getD 0 default).toNat default) (arS rs (t.getD 0 default)).toNat
theorem aAn{rs:List Int}{ps:List PolyT}{t:List Int}(h:t.getD 0 default<0):eT rs ps t=(xE (t.getD 0 default),true):=if_pos h
theorem y9{rs:List Int}{ps:List PolyT}{t:List Int}(h:¬t.getD 0 default<0):eT rs ps t=jG (aNM rs ps t) (ps.getD (rs.length+t.getD 0 default).toNat default) (arS rs (t.getD 0 default)).toNat:=if_neg h
theorem aCh{rs:List Int}{ps:List PolyT}(hM:e7 rs ps){t:List Int}(hT:aX rs t):∀j<(arS rs (t.getD 0 default)).toNat,gE MF (aNM rs ps t j).1:=λj hj=>tC hM.2.1 60 _ (i7 hT hj).1
theorem pA{rs:List Int}{ps:List PolyT}(hM:e7 rs ps){t:List Int}(hT:aX rs t):gE MF (eT rs ps t).1:=by
 have hl:=hT.low (show 0<t.length from hT.2.1.1)
 by_cases h:t.getD 0 default<0
 ·rw[aAn h];exact aDg h hl.1.1
 ·rw[y9 h]
  exact aB3 (yK hM (by omega) hl.1.2) (aCh hM hT)
def aH0:List (Nat×List Nat):=[(0,[1,2,3,6]),(1,[1,2,3,6,18]),(2,[6,7]),(3,[1,2,3,6,8]),(4,[1,2,3,6,8,26]),(5,[6,7]),(6,[6,7])]
attribute [go_sem] aH0
theorem jK(rs:List Int)(ps:List PolyT)(t:List Int)(hM:e7 rs ps)(hT:aX rs t):FC S 128 [] [] [] [.agg [.sl .any (rs.map (.int .i64))],.sl .any (ps.map bS),.sl .any (t.map (.int .i64))] (.tup [bS (eT rs ps t).1,.bool (eT rs ps t).2]) [] []:=by
 have hl:=hT.low (show 0<t.length from hT.2.1.1)
 have hl2:=hT.2.1
 have hs:=hT.1.1
 have hm:=hM.1
 by_cases h0:t.getD 0 default<0
 ·have cF:=uP rs (ps.take rs.length) hM.2.1 60 t hT hT.2.1.2
  rw[kR h0] at cF
  rw[aAn h0]
  refine aP Tryz.func128 rfl (by kernel_rfl) (by simp[Tryz.f128]) λB=>?_
  simp only[Tryz.ntmps128,aS,aZ,Nat.reduceAdd]
  repeat' first|((exfalso;omega))|((exact absurd hM (by assumption)))|((exact absurd hT (by assumption)))|apply aE|apply aJ|refine aI 0 aH0 λK hK=>?_|refine gK 0 aH0 8 (id:=5) (by kernel_rfl) λK hK=>?_|refine λ(K:KT) (hK:KOk S 0 _ _ _ K)=>?_|((first|apply aD|apply aK|refine aA (aO ?_)|apply aA);simp(disch:=apply aB;omega)only[go_sem,Tryz.results128])|(apply hK.nil;clear hK K;simp only[go_sem])|((first|refine aH rfl rfl rfl rfl rfl ?_ ?_|refine aN rfl rfl rfl rfl rfl ?_ ?_|refine aF rfl ?_ ?_)<;>intro h<;>try simp(disch:=apply aB;omega)only[go_sem] at h)|refine hK.c0 rfl rfl rfl (g9 _ _ (by omega)) rfl rfl rfl ?_|refine hK.c0 rfl rfl rfl (fY _ _ _ _) rfl rfl rfl ?_|refine hK.c0 rfl rfl rfl (cF) rfl rfl rfl ?_|(with_reducible refine And.intro (by first|omega|(simp only[lens];omega)) ?_)|fail
 ·rw[y9 h0]
  have hk:(arS rs (t.getD 0 default)).toNat≤3:=by omega
  have cS:=aFo rs (ps.take rs.length) (ps.getD (rs.length+t.getD 0 default).toNat default) (mY rs t (arS rs (t.getD 0 default)).toNat) (aNM rs ps t) (by rw[iG,show (((arS rs (t.getD 0 default)).toNat:Nat):Int)=arS rs (t.getD 0 default) by omega];exact yK hM (by omega) hl.1.2) (by rw[iG];exact hk) (λj hj=>by rw[iG] at hj;exact aCh hM hT j hj) (λj hj=>by
   rw[iG] at hj
   rw[uN rs t hj]
   have h:=(i7 hT hj).1
   exact uP rs (ps.take rs.length) hM.2.1 60 _ h h.2.1.2)
  rw[iG] at cS
  refine aP Tryz.func128 rfl (by kernel_rfl) (by simp[Tryz.f128]) λB=>?_
  simp only[Tryz.ntmps128,aS,aZ,Nat.reduceAdd]
  repeat' first|((exfalso;omega))|((exact absurd hM (by assumption)))|((exact absurd hT (by assumption)))|apply aE|apply aJ|refine aI 0 aH0 λK hK=>?_|refine gK 0 aH0 18 (id:=6) (by kernel_rfl) λK hK=>?_|refine λ(K:KT) (hK:KOk S 0 _ _ _ K)=>?_|((first|apply aD|apply aK|refine aA (aO ?_)|apply aA);simp(disch:=apply aB;omega)only[go_sem,Tryz.results128])|(apply hK.nil;clear hK K;simp only[go_sem])|((first|refine aH rfl rfl rfl rfl rfl ?_ ?_|refine aN rfl rfl rfl rfl rfl ?_ ?_|refine aF rfl ?_ ?_)<;>intro h<;>try simp(disch:=apply aB;omega)only[go_sem] at h)|refine hK.c0 rfl rfl rfl (g9 _ _ (by omega)) rfl rfl rfl ?_|refine hK.c0 rfl rfl rfl (fY _ _ _ _) rfl rfl rfl ?_|refine hK.c0 rfl rfl rfl (rP rs t hT) rfl rfl rfl ?_|refine hK.c0 rfl rfl rfl (cS) rfl rfl rfl ?_|(with_reducible refine And.intro (by first|omega|(simp only[lens];omega)) ?_)|fail
def tY(rs:List Int)(ps:List PolyT)(p:DepPairT):Prop:=((eT rs ps p.r).2=true/\(eT rs ps p.l).2=true)/\uF (eT rs ps p.r).1 (eT rs ps p.l).1/\(eT rs ps p.r).1.const<(eT rs ps p.l).1.const
def aBl(rs:List Int)(ps:List PolyT)(p:DepPairT):Prop:=((eT rs ps p.r).2=true/\(eT rs ps p.l).2=true)/\uF (eT rs ps p.r).1 (eT rs ps p.l).1/\(eT rs ps p.r).1.const≤(eT rs ps p.l).1.const
def aVX:List (Nat×List Nat):=[(0,[1,3,5]),(1,[1,3,5,7,8]),(2,[7,8,9,10]),(3,[6])]
attribute [go_sem] aVX
theorem aIw(rs:List Int)(ps:List PolyT)(p:DepPairT)(hM:e7 rs ps)(hp:jN rs p):FC S 104 [] [] [] [.agg [.sl .any (rs.map (.int .i64))],.sl .any (ps.map bS),bK p] (.bool (tst (tY rs ps p))) [] []:=by
 have c1:=jK rs ps p.r hM hp.1.2
 have c2:=jK rs ps p.l hM hp.1.1
 have g1:=pA hM hp.1.2
 have g2:=pA hM hp.1.1
 unfold tY
 generalize eT rs ps p.r=a at *
 generalize eT rs ps p.l=b at *
 obtain⟨a,oa⟩:=a
 obtain⟨b,ob⟩:=b
 dsimp only at c1 c2 g1 g2 ⊢
 have cM:=vB a b (λx hx=>(g1.2.1 x hx).1) (λx hx=>(g2.2.1 x hx).1)
 refine aP Tryz.func104 rfl (by kernel_rfl) (by simp[Tryz.f104]) λB=>?_
 simp only[Tryz.ntmps104,aS,aZ,Nat.reduceAdd]
 repeat' first|apply aE|refine aI 0 aVX λK hK=>?_|((first|apply aD|refine aA (aO ?_)|apply aA);simp(disch:=apply aB;omega)only[go_sem,Tryz.results104])|(apply hK.nil;clear hK K;simp only[go_sem])|((first|refine aH rfl rfl rfl rfl rfl ?_ ?_)<;>intro h<;>try simp(disch:=apply aB;omega)only[go_sem] at h)|refine hK.skp rfl rfl ?_|refine hK.c0 rfl rfl rfl (c1) rfl rfl rfl ?_|refine hK.c0 rfl rfl rfl (c2) rfl rfl rfl ?_|refine hK.c0 rfl rfl rfl (cM) rfl rfl rfl ?_|fail
 all_goals (first|omega|grind)
def aV1:List (Nat×List Nat):=[(0,[1,3,5]),(1,[1,3,5,7,8]),(2,[7,8,9,10]),(3,[6])]
attribute [go_sem] aV1
theorem aD7(rs:List Int)(ps:List PolyT)(p:DepPairT)(hM:e7 rs ps)(hp:jN rs p):FC S 103 [] [] [] [.agg [.sl .any (rs.map (.int .i64))],.sl .any (ps.map bS),bK p] (.bool (tst (aBl rs ps p))) [] []:=by
 have c1:=jK rs ps p.r hM hp.1.2
 have c2:=jK rs ps p.l hM hp.1.1
 have g1:=pA hM hp.1.2
 have g2:=pA hM hp.1.1
 unfold aBl
 generalize eT rs ps p.r=a at *
 generalize eT rs ps p.l=b at *
 obtain⟨a,oa⟩:=a
 obtain⟨b,ob⟩:=b
 dsimp only at c1 c2 g1 g2 ⊢
 have cM:=vB a b (λx hx=>(g1.2.1 x hx).1) (λx hx=>(g2.2.1 x hx).1)
 refine aP Tryz.func103 rfl (by kernel_rfl) (by simp[Tryz.f103]) λB=>?_
 simp only[Tryz.ntmps103,aS,aZ,Nat.reduceAdd]
 repeat' first|apply aE|refine aI 0 aV1 λK hK=>?_|((first|apply aD|refine aA (aO ?_)|apply aA);simp(disch:=apply aB;omega)only[go_sem,Tryz.results103])|(apply hK.nil;clear hK K;simp only[go_sem])|((first|refine aH rfl rfl rfl rfl rfl ?_ ?_)<;>intro h<;>try simp(disch:=apply aB;omega)only[go_sem] at h)|refine hK.skp rfl rfl ?_|refine hK.c0 rfl rfl rfl (c1) rfl rfl rfl ?_|refine hK.c0 rfl rfl rfl (c2) rfl rfl rfl ?_|refine hK.c0 rfl rfl rfl (cM) rfl rfl rfl ?_|fail
 all_goals (first|omega|grind)
def nM(rs:List Int)(ps:List PolyT)(s t:List Int):Prop:=((bR rs ps 60 s).2=true/\(bR rs ps 60 t).2=true)/\uF (bR rs ps 60 s).1 (bR rs ps 60 t).1/\(bR rs ps 60 s).1.const≤(bR rs ps 60 t).1.const
def aYH:List (Nat×List Nat):=[(0,[1,2,3,4]),(1,[1,3,4,9,10]),(2,[9,10,11,12]),(3,[8])]
attribute [go_sem] aYH
theorem xJ(rs:List Int)(ps:List PolyT)(s t:List Int)(hP:dI rs ps)(hs:aX rs s)(ht:aX rs t):FC S 70 [] [] [] [.agg [.sl .any (rs.map (.int .i64))],.sl .any (ps.map bS),.sl .any (s.map (.int .i64)),.sl .any (t.map (.int .i64))] (.bool (tst (nM rs ps s t))) [] []:=by
 have c1:=t0 rs ps s
 have c2:=t0 rs ps t
 have g1:=aCt rs ps s
 have g2:=aCt rs ps t
 unfold nM
 rw[←tN ⟨hP,hs⟩,←tN ⟨hP,ht⟩]
 generalize aBW rs ps s=a at *
 generalize aBW rs ps t=b at *
 obtain⟨a,oa⟩:=a
 obtain⟨b,ob⟩:=b
 dsimp only at c1 c2 g1 g2 ⊢
 have cM:=vB a b (λx hx=>(g1.2.1 x hx).1) (λx hx=>(g2.2.1 x hx).1)
 refine aP Tryz.func70 rfl (by kernel_rfl) (by simp[Tryz.f70]) λB=>?_
 simp only[Tryz.ntmps70,aS,aZ,Nat.reduceAdd]
 repeat' first|apply aE|refine aI 0 aYH λK hK=>?_|((first|apply aD|refine aA (aO ?_)|apply aA);simp(disch:=apply aB;omega)only[go_sem,Tryz.results70])|(apply hK.nil;clear hK K;simp only[go_sem])|((first|refine aH rfl rfl rfl rfl rfl ?_ ?_)<;>intro h<;>try simp(disch:=apply aB;omega)only[go_sem] at h)|refine hK.skp rfl rfl ?_|refine hK.c0 rfl rfl rfl (c1) rfl rfl rfl ?_|refine hK.c0 rfl rfl rfl (c2) rfl rfl rfl ?_|refine hK.c0 rfl rfl rfl (cM) rfl rfl rfl ?_|fail
 all_goals (first|omega|grind)
def kU(x:SystemT)(ps:List PolyT):Prop:=(b7 x/\dI x.sig ps)/\∀j<x.rules.length,nM x.sig ps (x.rules.getD j default).r (x.rules.getD j default).l
def aSD:List (Nat×List Nat):=[(0,[1,2]),(1,[1,2,15]),(2,[4]),(3,[1,2,5]),(4,[1,2,5,20]),(6,[1,2,5,39]),(7,[4]),(5,[1,2,5]),(8,[4])]
attribute [go_sem] aSD
theorem fR(x:SystemT)(ps:List PolyT):FC S 33 [] [] [] [bP x,.sl .any (ps.map bS)] (.bool (tst (kU x ps))) [] []:=by
 refine aP Tryz.func33 rfl (by kernel_rfl) (by simp[Tryz.f33]) λB=>?_
 simp only[Tryz.ntmps33,aS,aZ,Nat.reduceAdd]
 repeat' first|apply aE|apply aG|apply aJ|refine aI 0 aSD λK hK=>?_|((first|apply aD|apply aK|refine aA (aO ?_)|apply aA);simp(disch:=apply aB;omega)only[go_sem,Tryz.results33])|(apply hK.nil;clear hK K;simp only[go_sem])|((first|refine aH rfl rfl rfl rfl rfl ?_ ?_|refine aN rfl rfl rfl rfl rfl ?_ ?_|refine aF rfl ?_ ?_)<;>intro h<;>try simp(disch:=apply aB;omega)only[go_sem] at h)|refine hK.skp rfl rfl ?_|refine hK.c0 rfl rfl rfl (g7 _) rfl rfl rfl ?_|refine hK.c0 rfl rfl rfl (iP _ _ _) rfl rfl rfl ?_|fail
 ·exact λh=>absurd h.1.1 (by assumption)
 ·exact λh=>absurd h.1.2 (by assumption)
 refine bB (ι:=Nat) (λi=>[(5,.int .i64 i)]) (λ_=>[]) (λi=>i≤x.rules.length/\(∀j<i,nM x.sig ps (x.rules.getD j default).r (x.rules.getD j default).l)) (λi=>x.rules.length-i) 0 (by(refine aC rfl rfl ?_ ?_ ?_ ?_<;>simp(disch:=apply aB;omega)only[go_sem]<;>(try omega))) ⟨by omega,?_⟩ (λi ⟨hi,hj⟩=>?_)
 rotate_left
 simp only[go_sem]
 have hR:i<x.rules.length->aOl x.sig (x.rules.getD i default):=λh=>(by assumption:b7 x).2 i h
 have h12:=(by assumption:b7 x).1.2
 by_cases hil:i<x.rules.length
 ·have hr:=hR hil
  repeat' first|((exfalso;omega))|apply aE|apply aG|apply aM|apply aJ|refine aI 0 aSD λK hK=>?_|refine aY aSD (by kernel_rfl) λK hK=>?_|((first|apply aD|apply aK|refine aA (aO ?_)|apply aA);simp(disch:=apply aB;omega)only[go_sem,Tryz.results33])|(apply hK.nil;clear hK K;simp only[go_sem])|((first|refine aH rfl rfl rfl rfl rfl ?_ ?_|refine aN rfl rfl rfl rfl rfl ?_ ?_|refine aF rfl ?_ ?_)<;>intro h<;>try simp(disch:=apply aB;omega)only[go_sem] at h)|apply aL|refine hK.c0 rfl rfl rfl (xJ x.sig ps (x.rules.getD i default).r (x.rules.getD i default).l (by assumption:dI x.sig ps) hr.1.2.1 hr.1.1) rfl rfl rfl ?_|(with_reducible refine And.intro (by first|omega|(simp only[lens];omega)) ?_)|fail
  ·exact λhO=>h (hO.2 i hil)
  ·exact⟨i+1,(by(refine aC rfl rfl ?_ ?_ ?_ ?_<;>simp(disch:=apply aB;omega)only[go_sem]<;>(try omega))),⟨by omega,bJ hj h⟩,by omega⟩
 ·repeat' first|((exfalso;omega))|apply aE|refine aI 0 aSD λK hK=>?_|((first|apply aD|apply aK|refine aA (aO ?_)|apply aA);simp(disch:=apply aB;omega)only[go_sem,Tryz.results33])|(apply hK.nil;clear hK K;simp only[go_sem])|((first|refine aH rfl rfl rfl rfl rfl ?_ ?_|refine aN rfl rfl rfl rfl rfl ?_ ?_|refine aF rfl ?_ ?_)<;>intro h<;>try simp(disch:=apply aB;omega)only[go_sem] at h)|refine aT rfl ?_|fail
  exact⟨⟨by assumption,by assumption⟩,λj hj'=>hj j (by omega)⟩
 ·intro j hj';omega
open Classical in
noncomputable def wL(rs:List Int)(P:List DepPairT)(set:List Int)(ps:List PolyT):Nat->List Int
 | 0=>[]
 | i+1=>if tY rs ps (P.getD (set.getD i default).toNat default) then wL rs P set ps i++[set.getD i default] else wL rs P set ps i
theorem aHj{rs:List Int}{P:List DepPairT}{set:List Int}{ps:List PolyT}{i:Nat}(h:tY rs ps (P.getD (set.getD i default).toNat default)):wL rs P set ps (i+1)=wL rs P set ps i++[set.getD i default]:=if_pos h
theorem aNv{rs:List Int}{P:List DepPairT}{set:List Int}{ps:List PolyT}{i:Nat}(h:¬tY rs ps (P.getD (set.getD i default).toNat default)):wL rs P set ps (i+1)=wL rs P set ps i:=if_neg h
theorem aLT(rs:List Int)(P:List DepPairT)(set:List Int)(ps:List PolyT):∀i,(wL rs P set ps i).length≤i
 | 0=>zQ _
 | i+1=>by
  have ih:=aLT rs P set ps i
  by_cases h:tY rs ps (P.getD (set.getD i default).toNat default)
  ·rw[aHj h,zK];simp;omega
  ·rw[aNv h];omega
def aTs(rs:List Int)(P:List DepPairT)(set:List Int)(ps:List PolyT):Prop:=∀i<set.length,aBl rs ps (P.getD (set.getD i default).toNat default)
open Classical in
noncomputable def wR(rs:List Int)(P:List DepPairT)(set:List Int)(ps:List PolyT):List Int×Bool:=if aTs rs P set ps then (wL rs P set ps set.length,true) else ([],false)
theorem aGk{rs:List Int}{P:List DepPairT}{set:List Int}{ps:List PolyT}(h:aTs rs P set ps):wR rs P set ps=(wL rs P set ps set.length,true):=if_pos h
theorem aTI{rs:List Int}{P:List DepPairT}{set:List Int}{ps:List PolyT}(h:¬aTs rs P set ps):wR rs P set ps=([],false):=if_neg h
def aRI:List (Nat×List Nat):=[(0,[1,2,3,4]),(1,[1,2,3,4,10]),(2,[1,2,3,4,10,11]),(3,[1,2,3,4,10,11,16]),(5,[1,2,3,4,10,11,30]),(6,[8,9]),(7,[1,2,3,4,10,11,42]),(8,[1,2,3,4,10,11]),(4,[1,2,3,4,10,11]),(9,[8,9])]
attribute [go_sem] aRI
theorem uG(x:SystemT)(P:List DepPairT)(set:List Int)(ps:List PolyT)(hM:e7 x.sig ps)(hP:∀p∈P,jN x.sig p)(hS:fI set P.length)(hl:P.length≤64):FC S 71 [] [] [] [bP x,.sl .any (P.map bK),.sl .any (set.map (.int .i64)),.sl .any (ps.map bS)] (.tup [.sl .any ((wR x.sig P set ps).1.map (.int .i64)),.bool (wR x.sig P set ps).2]) [] []:=by
 have hsl:=lO hS
 have hat:∀i<set.length,(0≤set.getD i default/\set.getD i default<P.length)/\jN x.sig (P.getD (set.getD i default).toNat default):=λi hi=>by
  have h:=(hS i hi).1
  exact⟨h,hP _ (bA P _ (by omega))⟩
 refine aP Tryz.func71 rfl (by kernel_rfl) (by simp[Tryz.f71]) λB=>?_
 simp only[Tryz.ntmps71,aS,aZ,Nat.reduceAdd]
 repeat' first|apply aE|apply aG|refine aI 0 aRI λK hK=>?_|((first|apply aD|apply aK|refine aA (aO ?_)|apply aA);simp(disch:=apply aB;omega)only[go_sem,Tryz.results71])|(apply hK.nil;clear hK K;simp only[go_sem])|fail
 refine dW 10 50000 2 1 rfl (.inr rfl) rfl ?_
 simp only[go_sem]
 refine bG (ι:=Nat) (λi=>[(11,.int .i64 i),(10,.sl (.own 50000 2 1) ((wL x.sig P set ps i).map (.int .i64)))]) (λ_=>[]) (λ_=>[50000]) (λi=>i≤set.length/\∀j<i,aBl x.sig ps (P.getD (set.getD j default).toNat default)) (λi=>set.length-i) 0 (by(refine aC rfl rfl ?_ ?_ ?_ ?_<;>simp(disch:=apply aB;omega)only[go_sem]<;>(try omega));all_goals exact⟨rfl,rfl⟩) ⟨by omega,λj hj=>absurd hj (by omega)⟩ (λi hi=>?_)
 obtain⟨hi,hj⟩:=hi
 simp only[go_sem]
 have hwl:=aLT x.sig P set ps i
 by_cases hil:i<set.length
 ·have hp:=hat i hil
  have h1:=hp.1
  repeat' first|((exfalso;omega))|apply aE|apply aG|apply aM|apply aJ|refine aI 0 aRI λK hK=>?_|refine aY aRI (by kernel_rfl) λK hK=>?_|((first|apply aD|apply aK|refine aA (aO ?_)|apply aA);simp(disch:=apply aB;omega)only[go_sem,Tryz.results71])|(apply hK.nil;clear hK K;simp only[go_sem])|((first|refine aF rfl ?_ ?_)<;>intro h<;>try simp(disch:=apply aB;omega)only[go_sem] at h)|apply aL|refine hK.c0 rfl rfl rfl (aD7 x.sig ps (P.getD (set.getD i default).toNat default) hM hp.2) rfl rfl rfl ?_|refine hK.c0 rfl rfl rfl (aIw x.sig ps (P.getD (set.getD i default).toNat default) hM hp.2) rfl rfl rfl ?_|(with_reducible refine And.intro (by first|omega|(simp only[lens];omega)) ?_)|fail
  ·rw[aTI λe=>h (e i hil)]
   exact⟨rfl,rfl⟩
  ·exact⟨i+1,(by(refine aC rfl rfl ?_ ?_ ?_ ?_<;>simp(disch:=apply aB;omega)only[go_sem]<;>(try omega));rw[aHj (by assumption)];exact⟨rfl,by omega⟩),⟨by omega,bJ hj (by assumption)⟩,by omega⟩
  ·exact⟨i+1,(by(refine aC rfl rfl ?_ ?_ ?_ ?_<;>simp(disch:=apply aB;omega)only[go_sem]<;>(try omega));rw[aNv (by assumption)];exact⟨rfl,by omega⟩),⟨by omega,bJ hj (by assumption)⟩,by omega⟩
 ·repeat' first|((exfalso;omega))|apply aE|refine aI 0 aRI λK hK=>?_|((first|apply aD|apply aK|refine aA (aO ?_)|apply aA);simp(disch:=apply aB;omega)only[go_sem,Tryz.results71])|(apply hK.nil;clear hK K;simp only[go_sem])|((first|refine aF rfl ?_ ?_)<;>intro h<;>try simp(disch:=apply aB;omega)only[go_sem] at h)|refine aT rfl ?_|fail
  rw[aGk λj hj'=>hj j (by omega),show i=set.length by omega]
  exact⟨rfl,rfl⟩
def aDJ(x:SystemT)(set:List Int)(ps:List PolyT):Prop:=((gH x/\fI set (bL x).length)/\e7 x.sig ps)/\kU x (ps.take x.sig.length)
open Classical in
noncomputable def aGR(x:SystemT)(set:List Int)(ps:List PolyT):List Int×Bool:=if aDJ x set ps then wR x.sig (bL x) set ps else ([],false)
theorem aCx{x:SystemT}{set:List Int}{ps:List PolyT}(h:aDJ x set ps):aGR x set ps=wR x.sig (bL x) set ps:=if_pos h
theorem aP8{x:SystemT}{set:List Int}{ps:List PolyT}(h:¬aDJ x set ps):aGR x set ps=([],false):=if_neg h
def aF4:List (Nat×List Nat):=[(0,[1,2,3]),(1,[1,2,3,8,9]),(2,[1,2,3,8,41]),(3,[6,7]),(4,[6,7])]
attribute [go_sem] aF4
theorem aAb(x:SystemT)(set:List Int)(ps:List PolyT):FC S 87 [] [] [] [bP x,.sl .any (set.map (.int .i64)),.sl .any (ps.map bS)] (.tup [.sl .any ((aGR x set ps).1.map (.int .i64)),.bool (aGR x set ps).2]) [] []:=by
 have cP:=iI x
 rcases Classical.em (aDJ x set ps) with hW|hW
 ·rw[aCx hW]
  obtain⟨⟨⟨hx,hS⟩,hM⟩,hA⟩:=hW
  rw[fA hx] at cP
  have h12:=hx.1.1.2
  have hsg:=hx.1.1.1.1
  have hm:=hM.1
  have h64:(bL x).length≤64:=hx.2
  refine aP Tryz.func87 rfl (by kernel_rfl) (by simp[Tryz.f87]) λB=>?_
  simp only[Tryz.ntmps87,aS,aZ,Nat.reduceAdd]
  repeat' first|((exact absurd hS (by assumption)))|((exact absurd hM (by assumption)))|((exact absurd hA (by assumption)))|apply aE|apply aJ|refine aI 0 aF4 λK hK=>?_|refine aY aF4 (by kernel_rfl) λK hK=>?_|((first|apply aD|apply aK|refine aA (aO ?_)|apply aA);simp(disch:=apply aB;omega)only[go_sem,Tryz.results87])|(apply hK.nil;clear hK K;simp only[go_sem])|((first|refine aH rfl rfl rfl rfl rfl ?_ ?_|refine aN rfl rfl rfl rfl rfl ?_ ?_|refine aF rfl ?_ ?_)<;>intro h<;>try simp(disch:=apply aB;omega)only[go_sem] at h)|refine hK.c0 rfl rfl rfl (cP) rfl rfl rfl ?_|refine hK.c0 rfl rfl rfl (iE set _ (by omega)) rfl rfl rfl ?_|refine hK.c0 rfl rfl rfl (g9 _ _ (by omega)) rfl rfl rfl ?_|refine hK.c0 rfl rfl rfl (fR x (ps.take x.sig.length)) rfl rfl rfl ?_|refine hK.c0 rfl rfl rfl (uG x (bL x) set ps hM (kZ hx) hS h64) rfl rfl rfl ?_|(with_reducible refine And.intro (by first|omega|(simp only[lens];omega)) ?_)|fail
 ·rw[aP8 hW]
  rcases Classical.em (gH x) with hx|hx
  ·rw[fA hx] at cP
   have h64:(bL x).length≤64:=hx.2
   have h12:=hx.1.1.2
   have hsg:=hx.1.1.1.1
   rcases Classical.em (e7 x.sig ps) with hM|hM
   ·have hm:=hM.1
    refine aP Tryz.func87 rfl (by kernel_rfl) (by simp[Tryz.f87]) λB=>?_
    simp only[Tryz.ntmps87,aS,aZ,Nat.reduceAdd]
    repeat' first|((exact absurd (show aDJ x set ps from⟨⟨⟨hx,by assumption⟩,hM⟩,by assumption⟩) hW))|((exact absurd hM (by assumption)))|apply aE|refine aI 0 aF4 λK hK=>?_|refine aY aF4 (by kernel_rfl) λK hK=>?_|((first|apply aD|apply aK|refine aA (aO ?_)|apply aA);simp(disch:=apply aB;omega)only[go_sem,Tryz.results87])|(apply hK.nil;clear hK K;simp only[go_sem])|((first|refine aH rfl rfl rfl rfl rfl ?_ ?_|refine aN rfl rfl rfl rfl rfl ?_ ?_|refine aF rfl ?_ ?_)<;>intro h<;>try simp(disch:=apply aB;omega)only[go_sem] at h)|refine hK.skp rfl rfl ?_|refine hK.c0 rfl rfl rfl (cP) rfl rfl rfl ?_|refine hK.c0 rfl rfl rfl (iE set _ (by omega)) rfl rfl rfl ?_|refine hK.c0 rfl rfl rfl (g9 _ _ (by omega)) rfl rfl rfl ?_|refine hK.c0 rfl rfl rfl (fR x (ps.take x.sig.length)) rfl rfl rfl ?_|(with_reducible refine And.intro (by first|omega|(simp only[lens];omega)) ?_)|fail
    all_goals exact⟨rfl,rfl⟩
   ·skip
    refine aP Tryz.func87 rfl (by kernel_rfl) (by simp[Tryz.f87]) λB=>?_
    simp only[Tryz.ntmps87,aS,aZ,Nat.reduceAdd]
    repeat' first|((exact absurd (by assumption) hM))|apply aE|refine aI 0 aF4 λK hK=>?_|refine aY aF4 (by kernel_rfl) λK hK=>?_|((first|apply aD|apply aK|refine aA (aO ?_)|apply aA);simp(disch:=apply aB;omega)only[go_sem,Tryz.results87])|(apply hK.nil;clear hK K;simp only[go_sem])|((first|refine aH rfl rfl rfl rfl rfl ?_ ?_|refine aN rfl rfl rfl rfl rfl ?_ ?_|refine aF rfl ?_ ?_)<;>intro h<;>try simp(disch:=apply aB;omega)only[go_sem] at h)|refine hK.skp rfl rfl ?_|refine hK.c0 rfl rfl rfl (cP) rfl rfl rfl ?_|refine hK.c0 rfl rfl rfl (iE set _ (by omega)) rfl rfl rfl ?_|refine hK.c0 rfl rfl rfl (g9 _ _ (by omega)) rfl rfl rfl ?_|fail
    all_goals exact⟨rfl,rfl⟩
  ·rw[iD hx] at cP
   refine aP Tryz.func87 rfl (by kernel_rfl) (by simp[Tryz.f87]) λB=>?_
   simp only[Tryz.ntmps87,aS,aZ,Nat.reduceAdd]
   repeat' first|apply aE|refine aI 0 aF4 λK hK=>?_|refine aY aF4 (by kernel_rfl) λK hK=>?_|((first|apply aD|apply aK|refine aA (aO ?_)|apply aA);simp(disch:=apply aB;omega)only[go_sem,Tryz.results87])|(apply hK.nil;clear hK K;simp only[go_sem])|((first|refine aH rfl rfl rfl rfl rfl ?_ ?_|refine aN rfl rfl rfl rfl rfl ?_ ?_|refine aF rfl ?_ ?_)<;>intro h<;>try simp(disch:=apply aB;omega)only[go_sem] at h)|refine hK.skp rfl rfl ?_|refine hK.c0 rfl rfl rfl (cP) rfl rfl rfl ?_|fail
   all_goals exact⟨rfl,rfl⟩
end
section
def fC(P:List DepPairT)(set:List Int)(n:Nat)(f:Int):Prop:=∃i<n,(P.getD (set.getD i default).toNat default).l.getD 0 default=f∨(P.getD (set.getD i default).toNat default).r.getD 0 default=f
def hdL(P:List DepPairT)(set:List Int):Nat->List Int
 | 0=>[]
 | i+1=>eF (eF (hdL P set i) ((P.getD (set.getD i default).toNat default).l.getD 0 default)) ((P.getD (set.getD i default).toNat default).r.getD 0 default)
theorem aHa(P:List DepPairT)(set:List Int)(f:Int):∀n,f∈hdL P set n↔fC P set n f
 | 0=>by
  constructor
  ·intro h;cases h
  ·rintro⟨i,hi,_⟩;exact absurd hi (Nat.not_lt_zero _)
 | n+1=>by
  rw[hdL,kB,kB,aHa P set f n]
  constructor
  ·rintro ((⟨i,hi,h⟩|h)|h)
   ·exact⟨i,by omega,h⟩
   ·exact⟨n,by omega,.inl h.symm⟩
   ·exact⟨n,by omega,.inr h.symm⟩
  ·rintro⟨i,hi,h⟩
   rcases Nat.lt_or_ge i n with h1|h1
   ·exact .inl (.inl ⟨i,h1,h⟩)
   ·obtain rfl:i=n:=by omega
    rcases h with h|h
    ·exact .inl (.inr h.symm)
    ·exact .inr h.symm
theorem wC(n:Int):∀xs:List Int,(eF xs n).length≤xs.length+1
 | []=>by simp[eF]
 | x::r=>by
  simp only[eF]
  split
  ·have:=wC n r;simp;omega
  ·split<;>simp
theorem aOq(P:List DepPairT)(set:List Int):∀n,(hdL P set n).length≤2*n
 | 0=>zQ _
 | n+1=>by
  have:=aOq P set n
  have h1:=wC ((P.getD (set.getD n default).toNat default).l.getD 0 default) (hdL P set n)
  have h2:=wC ((P.getD (set.getD n default).toNat default).r.getD 0 default) (eF (hdL P set n) ((P.getD (set.getD n default).toNat default).l.getD 0 default))
  rw[hdL];omega
def fF(rs:List Int):Nat->List Int
 | 0=>[]
 | f+1=>fF rs f++List.replicate ((rs.getD f default).toNat+1) 1
open Classical in
noncomputable def aBB(H:Int->Prop)(f:Nat):Int:=if H f then 1 else 0
theorem aCF{H:Int->Prop}{f:Nat}(h:H f):aBB H f=1:=if_pos h
theorem aGD{H:Int->Prop}{f:Nat}(h:¬H f):aBB H f=0:=if_neg h
noncomputable def fB(rs:List Int)(H:Int->Prop):Nat->List Int
 | 0=>[]
 | f+1=>fB rs H f++0::List.replicate (rs.getD f default).toNat (aBB H f)
theorem i9(rs:List Int):∀n,(fF rs n).length=atN rs n
 | 0=>rfl
 | n+1=>by simp[fF,i9 rs n,atN];omega
theorem lU(rs:List Int)(H:Int->Prop):∀n,(fB rs H n).length=atN rs n
 | 0=>rfl
 | n+1=>by simp[fB,lU rs H n,atN];omega
theorem sQ(rs:List Int):∀n,∀h∈fF rs n,0≤h/\h≤1
 | 0,h,hh=>by cases hh
 | n+1,h,hh=>by
  rcases zP.1 hh with hh|hh
  ·exact sQ rs n h hh
  ·rw[(List.mem_replicate.1 hh).2];decide
theorem sM(rs:List Int)(H:Int->Prop):∀n,∀h∈fB rs H n,0≤h/\h≤1
 | 0,h,hh=>by cases hh
 | n+1,h,hh=>by
  rcases zP.1 hh with hh|hh
  ·exact sM rs H n h hh
  ·rcases zO.1 hh with rfl|hh
   ·decide
   ·rw[(List.mem_replicate.1 hh).2]
    by_cases h1:H n
    ·rw[aCF h1];decide
    ·rw[aGD h1];decide
def upD(hs:List Int):List (Int×Int):=hs.map λh=>(0,h)
theorem jM(hs:List Int):(upD hs).length=hs.length:=by simp[upD]
theorem aWU(hs:List Int){i:Nat}(h:i<hs.length):(upD hs).getD i default=(0,hs.getD i default):=by simp[upD,List.getD,zB h]
theorem aAt{hs:List Int}(h:∀x∈hs,0≤x/\x≤1):∀b∈upD hs,b.1≤b.2:=λb hb=>by
 obtain⟨x,hx,rfl⟩:=zJ.1 hb
 exact(h x hx).1
theorem aBD(hs:List Int):jX (upD hs)=List.replicate hs.length 0:=by
 induction hs with
 | nil=>rfl
 | cons x r ih=>simp[jX,upD,List.replicate_succ] at ih ⊢;exact ih
theorem vX:∀ {hs xs:List Int},(∀x∈hs,0≤x/\x≤1)->nS (upD hs) xs->∀x∈xs,0≤x/\x≤1
 | [],[],_,_,x,hx=>by cases hx
 | h::hs,y::ys,hh,hd,x,hx=>by
  have h1:=hh h zH
  have hd1:0≤y/\y≤h:=hd.1
  rcases zO.1 hx with rfl|hx
  ·omega
  ·exact vX (hs:=hs) (λz hz=>hh z (zG _ hz)) hd.2 x hx
 | [],_::_,_,hd,_,_=>hd.elim
 | _::_,[],_,hd,_,_=>hd.elim
theorem aNU(a b:List Int):upD (a++b)=upD a++upD b:=by simp[upD]
theorem qH{bs:List (Int×Int)}{x:List Int}{r:List (List Int)}(h:wU bs (x::r)):j5 bs x=(r.headD (jX bs),!r.isEmpty)/\wU bs r:=by
 cases r with
 | nil=>exact⟨h,trivial⟩
 | cons y r=>exact⟨h.1,h.2⟩
def fQ(hs:List Int):Nat->Int
 | 0=>1
 | i+1=>fQ hs i*(hs.getD i default+1)
theorem lV{hs:List Int}(h:∀x∈hs,0≤x/\x≤1):∀n≤hs.length,1≤fQ hs n
 | 0,_=>Int.le_refl _
 | n+1,hn=>by
  have ih:=lV h n (by omega)
  have h1:=h _ (bA hs n (by omega))
  rw[fQ]
  rcases (show hs.getD n default=0∨hs.getD n default=1 by omega) with e|e<;>rw[e]<;>omega
theorem aKI{hs:List Int}(h:∀x∈hs,0≤x/\x≤1){i:Nat}(hi:i<hs.length):fQ hs i≤fQ hs (i+1)/\fQ hs (i+1)≤2*fQ hs i:=by
 have ih:=lV h i (by omega)
 have h1:=h _ (bA hs i hi)
 rw[fQ]
 rcases (show hs.getD i default=0∨hs.getD i default=1 by omega) with e|e<;>rw[e]<;>omega
def WQ(rs:List Int)(P:List DepPairT)(set:List Int)(ps:List PolyT):Prop:=aTs rs P set ps/\wL rs P set ps set.length≠[]
theorem aAI{rs:List Int}{P:List DepPairT}{set:List Int}{ps:List PolyT}:WQ rs P set ps↔(wR rs P set ps).2=true/\(0:Int)<(wR rs P set ps).1.length:=by
 by_cases h:aTs rs P set ps
 ·rw[aGk h]
  have:wL rs P set ps set.length≠[]↔(0:Int)<(wL rs P set ps set.length).length:=by
   rw[←List.length_pos_iff];omega
  exact⟨λh1=>⟨rfl,this.1 h1.2⟩,λh1=>⟨h,this.2 h1.2⟩⟩
 ·rw[aTI h]
  exact⟨λh1=>absurd h1.1 h,λh1=>Bool.noConfusion h1.1⟩
noncomputable def gP(rs:List Int)(H:Int->Prop):List Int:=fF rs rs.length++fB rs H rs.length
theorem aCN(rs:List Int)(H:Int->Prop):(gP rs H).length=2*atN rs rs.length:=by simp[gP,i9,lU];omega
theorem wN(rs:List Int)(H:Int->Prop):∀h∈gP rs H,0≤h/\h≤1:=λh hh=>by
 rcases zP.1 hh with hh|hh
 ·exact sQ rs _ h hh
 ·exact sM rs H _ h hh
def lT(rs l:List Int):List PolyT:=gB rs l++gB rs (l.drop (atN rs rs.length))
def QM(x:SystemT)(P:List DepPairT)(set l:List Int):Prop:=kU x (gB x.sig l)/\WQ x.sig P set (lT x.sig l)
def aBo(rs:List Int):Option (List Int)->List PolyT×Bool
 | some l=>(lT rs l,true)
 | none=>([],false)
open Classical in
noncomputable def gY(x:SystemT)(P:List DepPairT)(set:List Int):Option (List Int) :=
 if fQ (gP x.sig (fC P set set.length)) (gP x.sig (fC P set set.length)).length≤20000 then fK (QM x P set) (gL (upD (gP x.sig (fC P set set.length)))) else none
theorem uL{x:SystemT}{P:List DepPairT}{set:List Int}(h:fQ (gP x.sig (fC P set set.length)) (gP x.sig (fC P set set.length)).length≤20000):gY x P set=fK (QM x P set) (gL (upD (gP x.sig (fC P set set.length)))):=if_pos h
theorem aAk{x:SystemT}{P:List DepPairT}{set:List Int}(h:¬fQ (gP x.sig (fC P set set.length)) (gP x.sig (fC P set set.length)).length≤20000):gY x P set=none:=if_neg h
def m8(x:SystemT)(set:List Int):Prop:=gH x/\fI set (bL x).length
open Classical in
noncomputable def aNN(x:SystemT)(set:List Int):List PolyT×Bool:=if m8 x set then aBo x.sig (gY x (bL x) set) else ([],false)
theorem aFd{x:SystemT}{set:List Int}(h:m8 x set):aNN x set=aBo x.sig (gY x (bL x) set):=if_pos h
theorem aQ9{x:SystemT}{set:List Int}(h:¬m8 x set):aNN x set=([],false):=if_neg h
def GM(rs:List Int)(P:List DepPairT)(set:List Int)(pl:List PolyT)(c:List Int):Prop:=WQ rs P set (pl++gB rs c)
open Classical in
noncomputable def FM(x:SystemT)(P:List DepPairT)(set:List Int)(a:List Int):Option (List Int) :=
 if kU x (gB x.sig a) then (fK (GM x.sig P set (gB x.sig a)) (gL (upD (fB x.sig (fC P set set.length) x.sig.length)))).map (a++·) else none
theorem aSg{x:SystemT}{P:List DepPairT}{set a:List Int}(h:kU x (gB x.sig a)):FM x P set a=(fK (GM x.sig P set (gB x.sig a)) (gL (upD (fB x.sig (fC P set set.length) x.sig.length)))).map (a++·):=if_pos h
theorem aWa{x:SystemT}{P:List DepPairT}{set a:List Int}(h:¬kU x (gB x.sig a)):FM x P set a=none:=if_neg h
theorem aJu{rs a c:List Int}(h:a.length=atN rs rs.length):lT rs (a++c)=gB rs a++gB rs c:=by
 unfold lT
 rw[aG7 h,←h,List.drop_left]
theorem aVa(x:SystemT)(P:List DepPairT)(set:List Int):fK (QM x P set) (gL (upD (gP x.sig (fC P set set.length))))=qZ (FM x P set) (gL (upD (fF x.sig x.sig.length))):=by
 unfold gP
 rw[aNU,aJN]
 refine aC1 _ _ _ _ λa ha=>?_
 have hd:=j1 (aAt (sQ x.sig x.sig.length)) a ha
 have hl:a.length=atN x.sig x.sig.length:=by rw[jB hd,jM,i9]
 by_cases hA:kU x (gB x.sig a)
 ·rw[aSg hA]
  refine aFb a _ λc hc=>?_
  unfold QM GM
  rw[aG7 hl,aJu hl]
  exact⟨λh=>h.2,λh=>⟨hA,h⟩⟩
 ·rw[aWa hA]
  refine aCj λl hl' h=>?_
  obtain⟨c,_,rfl⟩:=zJ.1 hl'
  exact hA (by have:=h.1;rwa [aG7 hl] at this)
theorem aQE{F:List Int->Option (List Int)}{a l:List Int}{r:List (List Int)}(h:F a=some l):qZ F (a::r)=some l:=by rw[qZ,h];rfl
theorem aT9{F:List Int->Option (List Int)}{a:List Int}{r:List (List Int)}(h:F a=none):qZ F (a::r)=qZ F r:=by rw[qZ,h];rfl
theorem aHf{rs hs xs:List Int}(hs0:eA rs)(h1:∀x∈hs,0≤x/\x≤1)(hl:hs.length=atN rs rs.length)(hd:nS (upD hs) xs):dI rs (gB rs xs) :=
 aTn hs0 (by rw[jB hd,jM,hl];exact zQ _) λx hx=>by have:=vX h1 hd x hx;omega
theorem aER:∀ {bs cs:List (Int×Int)} {xs:List Int},nS (bs++cs) xs->nS bs (xs.take bs.length)/\nS cs (xs.drop bs.length)
 | [],cs,xs,h=>⟨by simp[nS],by simpa using h⟩
 | b::bs,cs,x::xs,h=>by
  obtain⟨h1,h2⟩:=aER (bs:=bs) (cs:=cs) (xs:=xs) h.2
  exact⟨⟨h.1,h1⟩,by simpa using h2⟩
 | b::bs,cs,[],h=>h.elim
theorem aOp{rs l:List Int}{H:Int->Prop}(hs:eA rs)(hd:nS (upD (gP rs H)) l):dI rs (gB rs l)/\dI rs (gB rs (l.drop (atN rs rs.length))):=by
 have h0:=hd
 unfold gP at hd
 rw[aNU] at hd
 have h2:=(aER hd).2
 rw[jM,i9] at h2
 refine⟨aTn hs (by rw[jB h0,jM,aCN];omega) λx hx=>?_,aHf hs (sM rs H _) (lU rs H _) h2⟩
 have:=vX (wN rs H) h0 x hx;omega
end
section
attribute [local irreducible] SW bC bE dE bU FC dO
end
end Go.Proofs.YtpennhjjnlkbiaaGreat
