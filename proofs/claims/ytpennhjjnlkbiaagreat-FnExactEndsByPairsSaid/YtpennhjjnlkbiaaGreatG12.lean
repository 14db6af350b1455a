/-
  A15k, A25, A17k, A17l, A17m, K6, K9, one behind the other.
-/
import Derived.Test.YtpennhjjnlkbiaaGreatG11
import Derived.Test.YtpennhjjnlkbiaaGreatG6
import Derived.Test.YtpennhjjnlkbiaaGreatG3
import Derived.Test.YtpennhjjnlkbiaaGreatG9
import Derived.Test.YtpennhjjnlkbiaaGreatG1
import Derived.Test.YtpennhjjnlkbiaaGreatG7
import Derived.Test.YtpennhjjnlkbiaaGreatG10
namespace Go.Proofs.YtpennhjjnlkbiaaGreat
open Go Go.Lg
set_option linter.unusedSimpArgs false
set_option linter.unusedVariables false
set_option maxHeartbeats 4000000
section
attribute [local irreducible] SW bC bE dF bU FC dO toF dP fU fD sumF bR
def aEp(rs:List Int)(ps:List PolyT):Prop:=(eA rs/\rs.length<=ps.length)/\∀f<rs.length,fT (rs.getD f default) (ps.getD f default)
theorem dI.ps{rs:List Int}{ps:List PolyT}(h:dI rs ps):aEp rs ps:=⟨⟨h.1.1,Nat.le_of_eq h.1.2.symm⟩,λf hf=>h.2 f (by rw[h.1.2];exact hf)⟩
theorem aEp.at{rs:List Int}{ps:List PolyT}(h:aEp rs ps){n:Int}(h0:0<=n)(h1:n<rs.length):fT (arS rs n) (ps.getD n.toNat default):=by
 rw[j2 (by omega)]
 exact h.2 n.toNat (by omega)
theorem aCU{rs:List Int}{ps:List PolyT}(hP:aEp rs ps):∀f t,aX rs t->gD MF (bR rs ps f t).1
 | 0,_,_=>by unfold bR;exact sB
 | f+1,t,ht=>by
  have hl:=ht.low (show 0<t.length from ht.2.1.1)
  by_cases h:t.getD 0 default<0
  ·rw[kO h];exact aCu h hl.1.1
  ·rw[l3 h]
   exact aDq (hP.at (by omega) hl.1.2) λj hj=>aCU hP f _ (iX ht hj).1
noncomputable def aEv(rs:List Int)(ps:List PolyT)(bh:Int)(f:Nat)(u:List Int):PolyT×Bool:=if u.getD 0 default<0 then (xA (u.getD 0 default),true) else jI (λj=>bR rs ps f (jW rs u j)) (ps.getD (u.getD 0 default+bh).toNat default) (arS rs (u.getD 0 default)).toNat
theorem aAt{rs:List Int}{ps:List PolyT}{bh:Int}{f:Nat}{u:List Int}(h:u.getD 0 default<0):aEv rs ps bh f u=(xA (u.getD 0 default),true):=if_pos h
theorem aAM{rs:List Int}{ps:List PolyT}{bh:Int}{f:Nat}{u:List Int}(h:¬u.getD 0 default<0):aEv rs ps bh f u=jI (λj=>bR rs ps f (jW rs u j)) (ps.getD (u.getD 0 default+bh).toNat default) (arS rs (u.getD 0 default)).toNat:=if_neg h
theorem aLy(rs:List Int)(ps:List PolyT)(f:Nat)(u:List Int):aEv rs ps 0 f u=bR rs ps (f+1) u:=by
 by_cases h:u.getD 0 default<0
 ·rw[aAt h,kO h]
 ·rw[aAM h,l3 h,Int.add_zero]
theorem aC9{F G:Nat->PolyT×Bool}{p:PolyT}:∀n,(∀j<n,(F j).1=(G j).1)->sumF F p n=sumF G p n
 | 0,_=>by unfold sumF;rfl
 | n+1,h=>by
  have e:∀H:Nat->PolyT×Bool,sumF H p (n+1)=nB (sumF H p n) (H n).1 (p.coef.getD n default):=λH=>by conv=>lhs;unfold sumF
  rw[e,e,aC9 n λj hj=>h j (by omega),h n (by omega)]
theorem q9{F G:Nat->PolyT×Bool}{p:PolyT}{n:Nat}(h1:∀j<n,(F j).1=(G j).1)(h2:∀j<n,(F j).2=(G j).2):jI F p n=jI G p n:=by
 have e:=aC9 (p:=p) n h1
 rcases Classical.em ((∀j<n,(F j).2=true)/\okF (sumF F p n)) with h|h
 ·rw[sL h,sL ⟨λj hj=>by rw[←h2 j hj];exact h.1 j hj,by rw[←e];exact h.2⟩,e]
 ·rw[oA h,oA λh'=>h ⟨λj hj=>by rw[h2 j hj];exact h'.1 j hj,by rw[e];exact h'.2⟩]
def aKd:List (Nat×List Nat):=[(0,[1,2,3,4,5,10]),(1,[1,2,3,4,5,10,21]),(2,[10,11]),(3,[1,2,3,4,5,10,12]),(4,[1,2,3,4,5,10,12,30,31,32]),(5,[1,2,3,4,5,10,12,30,31,32,33]),(6,[1,2,3,4,5,10,12,14,30,31,32]),(7,[1,2,3,4,5,10,12,15,16,30,31,32]),(8,[1,2,3,4,5,10,12,15,30,31,32,45]),(9,[10,11]),(10,[1,2,3,4,5,10,12,30,31,32]),(11,[1,2,3,4,5,10,12,30,31,32]),(12,[10,11])]
attribute [go_sem] aKd
theorem uH(rs:List Int)(ps:List PolyT)(t:List Int)(hT:aX rs t)(hQ:aEp rs ps)(bh:Int)(hb:0<=bh/\bh<=1000)(f a:Nat)(ha:a<t.length)(hx:0<=t.getD a default->t.getD a default+bh<ps.length/\fT (arS rs (t.getD a default)) (ps.getD (t.getD a default+bh).toNat default))
  (hform:∀q:Nat,a<q->q<t.length->(dK rs t q).length<=f->FC S 142 [] [] [] [.agg [.sl .any (rs.map (.int .i64))],.sl .any (ps.map bS),.sl .any (t.map (.int .i64)),.int .i64 q] (.tup [bS (bR rs ps f (dK rs t q)).1,.bool (bR rs ps f (dK rs t q)).2]) [] []) (hlen:(dK rs t a).length<=f+1) :
  FC S 156 [] [] [] [.agg [.sl .any (rs.map (.int .i64))],.sl .any (ps.map bS),.int .i64 bh,.sl .any (t.map (.int .i64)),.int .i64 a] (.tup [bS (aEv rs ps bh f (dK rs t a)).1,.bool (aEv rs ps bh f (dK rs t a)).2]) [] []:=by
 have hl:=hT.2.1.2
 have hlo:=hT.low ha
 have hsa:=(aG4 hT ha).1
 have hU:=nP hT ha
 have hlt:=aDw hT ha
 have hal:=aAf rs t a
 have hget:=aAI rs t a
 have hco:∀x∈dD rs t a,((x:Nat):Int)=x:=λ_ _=>rfl
 by_cases h0:t.getD a default<0
 ·rw[aAt (by rw[hsa];exact h0),hsa]
  refine aP Tryz.func156 rfl (by kernel_rfl) (by simp[Tryz.f156]) λB=>?_
  simp only[Tryz.ntmps156,aS,aZ,Nat.reduceAdd]
  refine bZ 3 rfl λhb3=>?_
  simp only[D.bnd,zC] at hb3
  repeat' first|((exfalso;omega))|apply aE|refine aI 0 aKd λK hK=>?_|((first|apply aD|refine aA (aO ?_)|apply aA);simp(disch:=apply aB;omega)only[go_sem,Tryz.results156])|(apply hK.nil;clear hK K;simp only[go_sem])|((first|refine aF rfl ?_ ?_)<;>intro h<;>try simp(disch:=apply aB;omega)only[go_sem] at h)|refine hK.c0 rfl rfl rfl (aNo _ h0 hlo.1.1) rfl rfl rfl ?_|(with_reducible refine And.intro (by first|omega|(simp only[lens];omega)) ?_)|fail
 ·rw[aAM (by rw[hsa];exact h0),hsa]
  have hx:=hx (by omega)
  have harg:∀j<(arS rs (t.getD a default)).toNat,jW rs (dK rs t a) j=dK rs t ((dD rs t a).getD j default):=λj hj=>by rw[aS1 hT ha hj,hget j hj]
  generalize hz:dD rs t a=zs at *
  have hsub:∀q∈zs,(dK rs t q).length<=f:=λq hq=>by
   obtain⟨j,hj,e⟩:=List.getElem_of_mem hq
   have h1:=harg j (by omega)
   have h2:=(iX hU (j:=j) (by rw[hsa];omega)).2
   rw[h1,zD,zB hj,Option.getD_some,e] at h2
   omega
  have hgood:∀q∈zs,gD MF (bR rs ps f (dK rs t q)).1:=λq hq=>aCU hQ f _ (nP hT (hlt q hq).2)
  have hFG:(∀j<zs.length,(bR rs ps f (dK rs t (zs.getD j default))).2=true)->jI (λj=>((zs.map λq=>(bR rs ps f (dK rs t q)).1).getD j default,true)) (ps.getD (t.getD a default+bh).toNat default) (zs.map λq=>(bR rs ps f (dK rs t q)).1).length=jI (λj=>bR rs ps f (jW rs (dK rs t a) j)) (ps.getD (t.getD a default+bh).toNat default) (arS rs (t.getD a default)).toNat:=λhok=>by
   rw[zC,←hal]
   refine q9 (λj hj=>?_) λj hj=>?_
   ·dsimp only
    rw[harg j (by omega)]
    simp[List.getD,hj]
   ·dsimp only
    rw[harg j (by omega)]
    exact(hok j hj).symm
  have hno:∀i<zs.length,(bR rs ps f (dK rs t (zs.getD i default))).2=false->jI (λj=>bR rs ps f (jW rs (dK rs t a) j)) (ps.getD (t.getD a default+bh).toNat default) (arS rs (t.getD a default)).toNat=(t8,false):=λi hi e=>oA λh=>by
   have:=h.1 i (by omega)
   rw[harg i (by omega),e] at this
   cases this
  have hz3:zs.length<=3:=by omega
  have cA:=aLK (ps.getD (t.getD a default+bh).toNat default) (zs.map λq=>(bR rs ps f (dK rs t q)).1) (by rw[zC,hal,show (((arS rs (t.getD a default)).toNat:Nat):Int)=arS rs (t.getD a default) by omega];exact hx.2) (by rw[zC];exact hz3) (λj hj=>by
   rw[zC] at hj
   have:=hgood _ (bA zs j hj)
   simpa[List.getD,hj] using this)
  have cG:=aFo .any .any rs t a hT ha
  rw[hz] at cG
  refine aP Tryz.func156 rfl (by kernel_rfl) (by simp[Tryz.f156]) λB=>?_
  simp only[Tryz.ntmps156,aS,aZ,Nat.reduceAdd]
  refine bZ 3 rfl λhb3=>?_
  simp only[D.bnd,zC] at hb3
  repeat' first|((exfalso;omega))|((refine dW 12 51000 71 2 rfl (.inl rfl) rfl ?_;simp only[go_sem]))|apply aE|apply aG|apply aJ|refine aI 0 aKd λK hK=>?_|((first|apply aD|refine aA (aO ?_)|apply aA);simp(disch:=apply aB;omega)only[go_sem,Tryz.results156])|(apply hK.nil;clear hK K;simp only[go_sem])|((first|refine aF rfl ?_ ?_)<;>intro h<;>try simp(disch:=apply aB;omega)only[go_sem] at h)|refine hK.c0 rfl rfl rfl (cG) rfl rfl rfl ?_|(with_reducible refine And.intro (by first|omega|(simp only[lens];omega)) ?_)|fail
  refine bG (ι:=Nat) (λi=>[(32,.int .i64 i),(12,.sl (.own 51000 71 2) (((zs.take i).map λq=>(bR rs ps f (dK rs t q)).1).map bS))]) (λ_=>[]) (λ_=>[51000]) (λi=>i<=zs.length/\∀j<i,(bR rs ps f (dK rs t (zs.getD j default))).2=true) (λi=>zs.length-i) 0 (by(refine aC rfl rfl ?_ ?_ ?_ ?_<;>simp(disch:=apply aB;omega)only[go_sem]<;>(try omega));all_goals first|rfl|(simp;done)) ⟨by omega,λj hj=>absurd hj (by omega)⟩ (λi hi=>?_)
  obtain⟨hi,hj⟩:=hi
  simp only[go_sem]
  have htl:((zs.take i).map λq=>(bR rs ps f (dK rs t q)).1).length<=3:=by rw[zC,List.length_take];omega
  by_cases hil:i<zs.length
  ·have hm:=hlt _ (bA zs i hil)
   have cF:=hform (zs.getD i default) hm.1 hm.2 (hsub _ (bA zs i hil))
   have htk:(zs.take (i+1)).map (λq=>(bR rs ps f (dK rs t q)).1)=(zs.take i).map (λq=>(bR rs ps f (dK rs t q)).1)++[(bR rs ps f (dK rs t (zs.getD i default))).1]:=by
    rw[List.take_succ_eq_append_getElem hil,List.map_append];congr 1;simp[List.getD,hil]
   repeat' first|((exfalso;omega))|apply aE|apply aG|apply aM|apply aJ|refine aI 0 aKd λK hK=>?_|((first|apply aD|refine aA (aO ?_)|apply aA);simp(disch:=apply aB;omega)only[go_sem,Tryz.results156])|(apply hK.nil;clear hK K;simp only[go_sem])|((first|refine aF rfl ?_ ?_)<;>intro h<;>try simp(disch:=apply aB;omega)only[go_sem] at h)|apply aL|refine hK.c0 rfl rfl rfl (cF) rfl rfl rfl ?_|(with_reducible refine And.intro (by first|omega|(simp only[lens];omega)) ?_)|fail
   ·rw[hno i hil h]
    exact⟨⟨rfl,rfl⟩,rfl⟩
   ·exact⟨i+1,(by(refine aC rfl rfl ?_ ?_ ?_ ?_<;>simp(disch:=apply aB;omega)only[go_sem]<;>(try omega));rw[htk,List.map_append];exact⟨rfl,by omega⟩),⟨by omega,bJ hj h⟩,by omega⟩
  ·rw[List.take_of_length_le (by omega)]
   rw[←hFG λj hj'=>hj j (by omega)]
   have hpl:(t.getD a default+bh).toNat<ps.length:=by omega
   have hsl:=hQ.1.1.1
   repeat' first|((exfalso;omega))|apply aE|refine aI 0 aKd λK hK=>?_|((first|apply aD|refine aA (aO ?_)|apply aA);simp(disch:=apply aB;omega)only[go_sem,Tryz.results156])|(apply hK.nil;clear hK K;simp only[go_sem])|((first|refine aF rfl ?_ ?_)<;>intro h<;>try simp(disch:=apply aB;omega)only[go_sem] at h)|refine aT rfl ?_|(refine hK.c0 rfl rfl rfl (FC.args (cA) ?le) rfl rfl rfl ?_;case le=>(simp only[go_sem];repeat' first|exact trivial|exact D.le.refl _|exact D.le.any|refine And.intro ?_ ?_))|(with_reducible refine And.intro (by first|omega|(simp only[lens];omega)) ?_)|fail
def aWl:List (Nat×List Nat):=[(0,[1,2,3,4,8]),(1,[8,9])]
attribute [go_sem] aWl
theorem aEZ(rs:List Int)(ps:List PolyT)(t:List Int)(hT:aX rs t)(hQ:aEp rs ps):∀f a:Nat,a<t.length->(dK rs t a).length<=f->FC S 142 [] [] [] [.agg [.sl .any (rs.map (.int .i64))],.sl .any (ps.map bS),.sl .any (t.map (.int .i64)),.int .i64 a] (.tup [bS (bR rs ps f (dK rs t a)).1,.bool (bR rs ps f (dK rs t a)).2]) [] []:=by
 intro f
 induction f with
 | zero=>intro a ha hl;have:=(nP hT ha).2.1.1;omega
 | succ f ih =>
  intro a ha hl
  have c:=uH rs ps t hT hQ 0 (by omega) f a ha (λh=>⟨by have:=(hT.low ha).1.2;have:=hQ.1.2;omega,by rw[Int.add_zero];exact hQ.at h (hT.low ha).1.2⟩) (λq h1 h2 h3=>ih q h2 h3) hl
  rw[aLy] at c
  refine aP Tryz.func142 rfl (by kernel_rfl) (by simp[Tryz.f142]) λB=>?_
  simp only[Tryz.ntmps142,aS,aZ,Nat.reduceAdd]
  repeat' first|apply aE|refine aI 0 aWl λK hK=>?_|((first|apply aD|refine aA (aO ?_)|apply aA);simp(disch:=apply aB;omega)only[go_sem,Tryz.results142])|(apply hK.nil;clear hK K;simp only[go_sem])|refine hK.c0 rfl rfl rfl (c) rfl rfl rfl ?_|fail
theorem aDx(rs:List Int)(ps:List PolyT)(t:List Int)(hT:aX rs t)(hQ:aEp rs ps):FC S 142 [] [] [] [.agg [.sl .any (rs.map (.int .i64))],.sl .any (ps.map bS),.sl .any (t.map (.int .i64)),.int .i64 0] (.tup [bS (bR rs ps 60 t).1,.bool (bR rs ps 60 t).2]) [] []:=by
 have h:=aEZ rs ps t hT hQ 60 0 hT.2.1.1 (by rw[kI hT];exact hT.2.1.2)
 rw[kI hT] at h
 exact h
open Classical in
noncomputable def aS5(rs:List Int)(ps:List PolyT)(s t:List Int):Bool×Bool:=if (bR rs ps 60 s).2=true/\(bR rs ps 60 t).2=true then aFt (bR rs ps 60 s).1 (bR rs ps 60 t).1 else (false,false)
def aSP:List (Nat×List Nat):=[(0,[1,2,3,4]),(1,[1,3,4,10,11]),(2,[10,11,12,13]),(3,[10,12,33]),(4,[8,9]),(5,[8,9])]
attribute [go_sem] aSP
theorem aBn(rs:List Int)(ps:List PolyT)(s t:List Int)(hQ:aEp rs ps)(hs:aX rs s)(ht:aX rs t):FC S 123 [] [] [] [.agg [.sl .any (rs.map (.int .i64))],.sl .any (ps.map bS),.sl .any (s.map (.int .i64)),.sl .any (t.map (.int .i64))] (.tup [.bool (aS5 rs ps s t).1,.bool (aS5 rs ps s t).2]) [] []:=by
 have c1:=aDx rs ps s hs hQ
 have c2:=aDx rs ps t ht hQ
 unfold aS5
 generalize bR rs ps 60 s=a at *
 generalize bR rs ps 60 t=b at *
 obtain⟨a,oa⟩:=a
 obtain⟨b,ob⟩:=b
 dsimp only at c1 c2 ⊢
 by_cases hnb:oa=true/\ob=true
 ·rw[if_pos hnb]
  obtain⟨rfl,rfl⟩:=hnb
  refine aP Tryz.func123 rfl (by kernel_rfl) (by simp[Tryz.f123]) λB=>?_
  simp only[Tryz.ntmps123,aS,aZ,Nat.reduceAdd]
  repeat' first|apply aE|apply aJ|refine aI 0 aSP λK hK=>?_|((first|apply aD|refine aA (aO ?_)|apply aA);simp(disch:=apply aB;omega)only[go_sem,Tryz.results123])|(apply hK.nil;clear hK K;simp only[go_sem])|((first|refine aH rfl rfl rfl rfl rfl ?_ ?_|refine aF rfl ?_ ?_)<;>intro h<;>try simp(disch:=apply aB;omega)only[go_sem] at h)|refine hK.c0 rfl rfl rfl (c1) rfl rfl rfl ?_|refine hK.c0 rfl rfl rfl (c2) rfl rfl rfl ?_|refine hK.c0 rfl rfl rfl (aFr a b) rfl rfl rfl ?_|fail
 ·rw[if_neg hnb]
  refine aP Tryz.func123 rfl (by kernel_rfl) (by simp[Tryz.f123]) λB=>?_
  simp only[Tryz.ntmps123,aS,aZ,Nat.reduceAdd]
  repeat' first|((exact absurd ⟨(by assumption),(by assumption)⟩ hnb))|apply aE|refine aI 0 aSP λK hK=>?_|((first|apply aD|refine aA (aO ?_)|apply aA);simp(disch:=apply aB;omega)only[go_sem,Tryz.results123])|(apply hK.nil;clear hK K;simp only[go_sem])|((first|refine aH rfl rfl rfl rfl rfl ?_ ?_|refine aF rfl ?_ ?_)<;>intro h<;>try simp(disch:=apply aB;omega)only[go_sem] at h)|refine hK.c0 rfl rfl rfl (c1) rfl rfl rfl ?_|refine hK.c0 rfl rfl rfl (c2) rfl rfl rfl ?_|fail
  all_goals exact absurd ⟨(by assumption),(by assumption)⟩ hnb
def aVQ:List (Nat×List Nat):=[(0,[1,2,3]),(1,[1,2,3,12,13,14]),(2,[1,2,3,12,13,14,15]),(3,[1,2,3,8,12,13,14]),(4,[1,2,3,9,10,12,13,14]),(5,[1,2,3,12,13,14,37]),(6,[6]),(7,[1,2,3,12,13,14]),(8,[6])]
attribute [go_sem] aVQ
def aRR:List (Nat×List Nat):=[(0,[1,2]),(1,[1,2,5]),(2,[4])]
attribute [go_sem] aRR
theorem aBC(rs:List Int)(ps:List PolyT)(hn:rs.length<=1000):FC S 143 [] [] [] [.agg [.sl .any (rs.map (.int .i64))],.sl .any (ps.map bS)] (.bool (tst (eW rs ps))) [] []:=by
 refine aP Tryz.func143 rfl (by kernel_rfl) (by simp[Tryz.f143]) λB=>?_
 simp only[Tryz.ntmps143,aS,aZ,Nat.reduceAdd]
 refine bY 0 0 rfl rfl λhb0_0=>?_
 simp only[D.bnd,zC] at hb0_0
 refine bZ 1 rfl λhb1=>?_
 simp only[D.bnd,zC] at hb1
 repeat' first|apply aE|refine aI 0 aRR λK hK=>?_|refine aY aRR (by kernel_rfl) λK hK=>?_|((first|apply aD|apply aK|refine aA (aO ?_)|apply aA);simp(disch:=apply aB;omega)only[go_sem,Tryz.results143])|(apply hK.nil;clear hK K;simp only[go_sem])|((first|refine aH rfl rfl rfl rfl rfl ?_ ?_|refine aN rfl rfl rfl rfl rfl ?_ ?_)<;>intro h<;>try simp(disch:=apply aB;omega)only[go_sem] at h)|refine hK.skp rfl rfl ?_|refine hK.c0 rfl rfl rfl (rO rs (ps.take rs.length)) rfl rfl rfl ?_|refine hK.c0 rfl rfl rfl (rO rs (ps.drop rs.length)) rfl rfl rfl ?_|(with_reducible refine And.intro (by first|omega|(simp only[lens];omega)) ?_)|fail
 all_goals first|exact λhm=>absurd hm.1 (by omega)|exact λhm=>absurd hm.2.1 (by assumption)|exact λhm=>absurd hm.2.2 (by assumption)|exact⟨by omega,by assumption,by assumption⟩|exact⟨λh=>⟨by omega,by assumption,h⟩,λh=>h.2.2⟩|skip
theorem eW.ps{rs:List Int}{ps:List PolyT}(h:eW rs ps):aEp rs ps:=by
 refine⟨⟨h.2.1.1.1,by have:=h.1;omega⟩,λf hf=>?_⟩
 have h1:=h.2.1.2 f (by rw[h.2.1.1.2];exact hf)
 rwa [zD (l:=ps.take _),List.getElem?_take,if_pos hf,←zD] at h1
theorem sX{rs:List Int}{ps:List PolyT}:∀f t,aX rs t->bR rs (ps.take rs.length) f t=bR rs ps f t
 | 0,_,_=>by unfold bR;rfl
 | f+1,t,ht=>by
  have hl:=ht.low (show 0<t.length from ht.2.1.1)
  by_cases h:t.getD 0 default<0
  ·rw[kO h,kO h]
  ·rw[l3 h,l3 h]
   have e:(ps.take rs.length).getD (t.getD 0 default).toNat default=ps.getD (t.getD 0 default).toNat default:=by
    rw[zD,List.getElem?_take,if_pos (by have:=hl.1.2;omega),←zD]
   rw[e]
   exact q9 (λj hj=>by show (bR rs (ps.take rs.length) f (jW rs t j)).1=(bR rs ps f (jW rs t j)).1;rw[sX f _ (iX ht hj).1]) λj hj=>by show (bR rs (ps.take rs.length) f (jW rs t j)).2=(bR rs ps f (jW rs t j)).2;rw[sX f _ (iX ht hj).1]
theorem aRI{rs:List Int}{ps:List PolyT}{t:List Int}(ht:aX rs t):aEv rs ps rs.length 60 t=eT rs ps t:=by
 by_cases h:t.getD 0 default<0
 ·rw[aAt h,yK h]
 ·rw[aAM h,aAn h,Int.add_comm]
  exact q9 (λj hj=>by show (bR rs ps 60 (jW rs t j)).1=(bR rs (ps.take rs.length) 60 (jW rs t j)).1;rw[sX 60 _ (iX ht hj).1]) λj hj=>by show (bR rs ps 60 (jW rs t j)).2=(bR rs (ps.take rs.length) 60 (jW rs t j)).2;rw[sX 60 _ (iX ht hj).1]
def aV4:List (Nat×List Nat):=[(0,[1,2,3,6]),(1,[6,7])]
attribute [go_sem] aV4
theorem aIb(rs:List Int)(ps:List PolyT)(t:List Int)(hM:eW rs ps)(hT:aX rs t):FC S 144 [] [] [] [.agg [.sl .any (rs.map (.int .i64))],.sl .any (ps.map bS),.sl .any (t.map (.int .i64))] (.tup [bS (eT rs ps t).1,.bool (eT rs ps t).2]) [] []:=by
 have hl:=hT.low (show 0<t.length from hT.2.1.1)
 have hs:=hM.ps.1.1.1
 have hm:=hM.1
 have c:=uH rs ps t hT hM.ps rs.length (by omega) 60 0 hT.2.1.1 (λh=>⟨by omega,by rw[Int.add_comm];exact yR hM h hl.1.2⟩) (λq h1 h2 h3=>aEZ rs ps t hT hM.ps 60 q h2 h3) (by rw[kI hT];have:=hT.2.1.2;omega)
 rw[kI hT,aRI hT] at c
 refine aP Tryz.func144 rfl (by kernel_rfl) (by simp[Tryz.f144]) λB=>?_
 simp only[Tryz.ntmps144,aS,aZ,Nat.reduceAdd]
 repeat' first|apply aE|refine aI 0 aV4 λK hK=>?_|((first|apply aD|refine aA (aO ?_)|apply aA);simp(disch:=apply aB;omega)only[go_sem,Tryz.results144])|(apply hK.nil;clear hK K;simp only[go_sem])|refine hK.c0 rfl rfl rfl (c) rfl rfl rfl ?_|fail
def aV3:List (Nat×List Nat):=[(0,[1,2,3,6]),(1,[1,2,3,6,17]),(2,[6,7]),(3,[6,7])]
attribute [go_sem] aV3
theorem qA(rs:List Int)(ps:List PolyT)(t:List Int)(hM:eW rs ps)(hT:aX rs t):FC S 124 [] [] [] [.agg [.sl .any (rs.map (.int .i64))],.sl .any (ps.map bS),.sl .any (t.map (.int .i64))] (.tup [bS (eT rs ps t).1,.bool (eT rs ps t).2]) [] []:=by
 have hs:=hT.1.1
 refine aP Tryz.func124 rfl (by kernel_rfl) (by simp[Tryz.f124]) λB=>?_
 simp only[Tryz.ntmps124,aS,aZ,Nat.reduceAdd]
 repeat' first|((exact absurd hM (by assumption)))|((exact absurd hT (by assumption)))|apply aE|apply aJ|refine aI 0 aV3 λK hK=>?_|((first|apply aD|refine aA (aO ?_)|apply aA);simp(disch:=apply aB;omega)only[go_sem,Tryz.results124])|(apply hK.nil;clear hK K;simp only[go_sem])|((first|refine aH rfl rfl rfl rfl rfl ?_ ?_|refine aF rfl ?_ ?_)<;>intro h<;>try simp(disch:=apply aB;omega)only[go_sem] at h)|refine hK.c0 rfl rfl rfl (aBC _ _ (by omega)) rfl rfl rfl ?_|refine hK.c0 rfl rfl rfl (uD _ _ _ _) rfl rfl rfl ?_|refine hK.c0 rfl rfl rfl (aIb rs ps t hM hT) rfl rfl rfl ?_|fail
open Classical in
noncomputable def aST(rs:List Int)(ps:List PolyT)(p:DepPairT):Bool×Bool:=if (eT rs ps p.r).2=true/\(eT rs ps p.l).2=true then aFt (eT rs ps p.r).1 (eT rs ps p.l).1 else (false,false)
theorem aPB{rs:List Int}{ps:List PolyT}{p:DepPairT}:(aST rs ps p).2=tst (uA rs ps p):=by
 unfold aST uA
 split
 ·rename_i h
  by_cases hm:uG (eT rs ps p.r).1 (eT rs ps p.l).1
  ·rw[tM hm]
   exact kS ⟨λe=>⟨h,hm,e⟩,λe=>e.2.2⟩
  ·rw[wN hm,bH λe=>hm e.2.1]
 ·rename_i h
  rw[bH λe=>h e.1]
theorem aOE{rs:List Int}{ps:List PolyT}{p:DepPairT}:(aST rs ps p).1=tst (aA2 rs ps p):=by
 unfold aST aA2
 split
 ·rename_i h
  by_cases hm:uG (eT rs ps p.r).1 (eT rs ps p.l).1
  ·rw[tM hm]
   exact kS ⟨λe=>⟨h,hm,e⟩,λe=>e.2.2⟩
  ·rw[wN hm,bH λe=>hm e.2.1]
 ·rename_i h
  rw[bH λe=>h e.1]
def aXL:List (Nat×List Nat):=[(0,[1,3,5]),(1,[1,3,5,8,9]),(2,[8,9,10,11]),(3,[8,10,33]),(4,[6,7]),(5,[6,7])]
attribute [go_sem] aXL
theorem aDi(rs:List Int)(ps:List PolyT)(p:DepPairT)(hM:eW rs ps)(hp:jN rs p):FC S 94 [] [] [] [.agg [.sl .any (rs.map (.int .i64))],.sl .any (ps.map bS),bK p] (.tup [.bool (tst (aA2 rs ps p)),.bool (tst (uA rs ps p))]) [] []:=by
 have c1:=qA rs ps p.r hM hp.1.2
 have c2:=qA rs ps p.l hM hp.1.1
 rw[←aPB,←aOE]
 unfold aST
 generalize eT rs ps p.r=a at *
 generalize eT rs ps p.l=b at *
 obtain⟨a,oa⟩:=a
 obtain⟨b,ob⟩:=b
 dsimp only at c1 c2 ⊢
 by_cases hnb:oa=true/\ob=true
 ·rw[if_pos hnb]
  obtain⟨rfl,rfl⟩:=hnb
  refine aP Tryz.func94 rfl (by kernel_rfl) (by simp[Tryz.f94]) λB=>?_
  simp only[Tryz.ntmps94,aS,aZ,Nat.reduceAdd]
  repeat' first|apply aE|apply aJ|refine aI 0 aXL λK hK=>?_|((first|apply aD|refine aA (aO ?_)|apply aA);simp(disch:=apply aB;omega)only[go_sem,Tryz.results94])|(apply hK.nil;clear hK K;simp only[go_sem])|((first|refine aH rfl rfl rfl rfl rfl ?_ ?_|refine aF rfl ?_ ?_)<;>intro h<;>try simp(disch:=apply aB;omega)only[go_sem] at h)|refine hK.c0 rfl rfl rfl (c1) rfl rfl rfl ?_|refine hK.c0 rfl rfl rfl (c2) rfl rfl rfl ?_|refine hK.c0 rfl rfl rfl (aFr a b) rfl rfl rfl ?_|fail
 ·rw[if_neg hnb]
  refine aP Tryz.func94 rfl (by kernel_rfl) (by simp[Tryz.f94]) λB=>?_
  simp only[Tryz.ntmps94,aS,aZ,Nat.reduceAdd]
  repeat' first|((exact absurd ⟨(by assumption),(by assumption)⟩ hnb))|apply aE|refine aI 0 aXL λK hK=>?_|((first|apply aD|refine aA (aO ?_)|apply aA);simp(disch:=apply aB;omega)only[go_sem,Tryz.results94])|(apply hK.nil;clear hK K;simp only[go_sem])|((first|refine aH rfl rfl rfl rfl rfl ?_ ?_|refine aF rfl ?_ ?_)<;>intro h<;>try simp(disch:=apply aB;omega)only[go_sem] at h)|refine hK.c0 rfl rfl rfl (c1) rfl rfl rfl ?_|refine hK.c0 rfl rfl rfl (c2) rfl rfl rfl ?_|fail
  all_goals exact absurd ⟨(by assumption),(by assumption)⟩ hnb
theorem aQk{rs:List Int}{ps:List PolyT}{s t:List Int}:(aS5 rs ps s t).1=tst (nH rs ps s t):=by
 unfold aS5 nH
 split
 ·rename_i h
  by_cases hm:uG (bR rs ps 60 s).1 (bR rs ps 60 t).1
  ·rw[tM hm]
   exact kS ⟨λe=>⟨h,hm,e⟩,λe=>e.2.2⟩
  ·rw[wN hm,bH λe=>hm e.2.1]
 ·rename_i h
  rw[bH λe=>h e.1]
theorem t7(x:SystemT)(ps:List PolyT)(hx:b7 x)(hQ:aEp x.sig ps):FC S 93 [] [] [] [bQ x,.sl .any (ps.map bS),.bool false] (.bool (tst (∀j<x.rules.length,nH x.sig ps (x.rules.getD j default).r (x.rules.getD j default).l))) [] []:=by
 have h12:=hx.1.2
 refine aP Tryz.func93 rfl (by kernel_rfl) (by simp[Tryz.f93]) λB=>?_
 simp only[Tryz.ntmps93,aS,aZ,Nat.reduceAdd]
 repeat' first|apply aE|apply aG|refine aI 0 aVQ λK hK=>?_|((first|apply aD|refine aA (aO ?_)|apply aA);simp(disch:=apply aB;omega)only[go_sem,Tryz.results93])|(apply hK.nil;clear hK K;simp only[go_sem])|fail
 refine bB (ι:=Nat) (λi=>[(14,.int .i64 i)]) (λ_=>[]) (λi=>i<=x.rules.length/\(∀j<i,nH x.sig ps (x.rules.getD j default).r (x.rules.getD j default).l)) (λi=>x.rules.length-i) 0 (by(refine aC rfl rfl ?_ ?_ ?_ ?_<;>simp(disch:=apply aB;omega)only[go_sem]<;>(try omega))) ⟨by omega,?_⟩ (λi ⟨hi,hj⟩=>?_)
 rotate_left
 simp only[go_sem]
 by_cases hil:i<x.rules.length
 ·have hr:=hx.2 i hil
  have c:=aBn x.sig ps (x.rules.getD i default).r (x.rules.getD i default).l hQ hr.1.2.1 hr.1.1
  rw[aQk] at c
  repeat' first|((exfalso;omega))|apply aE|apply aG|apply aM|apply aJ|refine aI 0 aVQ λK hK=>?_|((first|apply aD|refine aA (aO ?_)|apply aA);simp(disch:=apply aB;omega)only[go_sem,Tryz.results93])|(apply hK.nil;clear hK K;simp only[go_sem])|((first|refine aH rfl rfl rfl rfl rfl ?_ ?_|refine aF rfl ?_ ?_)<;>intro h<;>try simp(disch:=apply aB;omega)only[go_sem] at h)|apply aL|refine hK.c0 rfl rfl rfl (c) rfl rfl rfl ?_|(with_reducible refine And.intro (by first|omega|(simp only[lens];omega)) ?_)|fail
  ·exact λhall=>absurd (hall i hil) (by assumption)
  ·exact⟨i+1,(by(refine aC rfl rfl ?_ ?_ ?_ ?_<;>simp(disch:=apply aB;omega)only[go_sem]<;>(try omega))),⟨by omega,bJ hj (by assumption)⟩,by omega⟩
 ·repeat' first|((exfalso;omega))|apply aE|refine aI 0 aVQ λK hK=>?_|((first|apply aD|refine aA (aO ?_)|apply aA);simp(disch:=apply aB;omega)only[go_sem,Tryz.results93])|(apply hK.nil;clear hK K;simp only[go_sem])|((first|refine aH rfl rfl rfl rfl rfl ?_ ?_|refine aF rfl ?_ ?_)<;>intro h<;>try simp(disch:=apply aB;omega)only[go_sem] at h)|refine aT rfl ?_|fail
  exact λj hj'=>hj j (by omega)
 ·intro j hj';omega
def aI8:List (Nat×List Nat):=[(0,[1,2,3,4]),(1,[1,2,3,4,23]),(2,[8,9]),(3,[1,2,3,4,10]),(4,[1,3,4,10,24,25,26]),(5,[1,3,4,10,24,25,26,27]),(6,[1,3,4,10,12,24,25,26]),(7,[1,3,4,10,12,13,14,24,25,26]),(8,[1,3,4,10,12,14,24,25,26,42]),(9,[8,9]),(10,[1,3,4,10,12,24,25,26,43]),(11,[1,3,4,10,24,25,26]),(12,[1,3,4,10,24,25,26]),(13,[8,9])]
attribute [go_sem] aI8
theorem uI(p:List Nat)(hp:p≠[])(x:SystemT)(P:List DepPairT)(set:List Int)(ps:List PolyT)(hA:kR x (ps.take x.sig.length))(hM:eW x.sig ps)(hP:∀p∈P,jN x.sig p)(hS:fG set P.length)(hl:P.length<=64):FC S 57 [] [] [] [bQ x,.sl .any (P.map bK),.sl .any (set.map (.int .i64)),.sl .any (ps.map bS)] (.tup [fN p (wR x.sig P set ps).1,.bool (wR x.sig P set ps).2]) [] []:=by
 have hsl:=lN hS
 have hm:=hM.1
 have hat:∀i<set.length,(0<=set.getD i default/\set.getD i default<P.length)/\jN x.sig (P.getD (set.getD i default).toNat default):=λi hi=>by
  have h:=(hS i hi).1
  exact⟨h,hP _ (bA P _ (by omega))⟩
 refine aP Tryz.func57 rfl (by kernel_rfl) (by simp[Tryz.f57]) λB=>?_
 simp only[Tryz.ntmps57,aS,aZ,Nat.reduceAdd]
 repeat' first|((exact absurd hA.2 (by assumption)))|apply aE|apply aG|apply aJ|refine aI 0 aI8 λK hK=>?_|refine aY aI8 (by kernel_rfl) λK hK=>?_|((first|apply aD|apply aK|refine aA (aO ?_)|apply aA);simp(disch:=apply aB;omega)only[go_sem,Tryz.results57])|(apply hK.nil;clear hK K;simp only[go_sem])|((first|refine aF rfl ?_ ?_)<;>intro h<;>try simp(disch:=apply aB;omega)only[go_sem] at h)|refine hK.c0 rfl rfl rfl (t7 x (ps.take x.sig.length) hA.1.1 hA.1.2.ps) rfl rfl rfl ?_|(with_reducible refine And.intro (by first|omega|(simp only[lens];omega)) ?_)|fail
 refine dW 10 48000 2 1 rfl (.inl rfl) rfl ?_
 simp only[go_sem]
 refine bG (ι:=Nat) (λi=>[(26,.int .i64 i),(10,.sl (.own 48000 2 1) ((wL x.sig P set ps i).map (.int .i64)))]) (λ_=>[]) (λ_=>[48000]) (λi=>i<=set.length/\∀j<i,aA2 x.sig ps (P.getD (set.getD j default).toNat default)) (λi=>set.length-i) 0 (by(refine aC rfl rfl ?_ ?_ ?_ ?_<;>simp(disch:=apply aB;omega)only[go_sem]<;>(try omega));all_goals exact⟨rfl,rfl⟩) ⟨by omega,λj hj=>absurd hj (by omega)⟩ (λi hi=>?_)
 obtain⟨hi,hj⟩:=hi
 simp only[go_sem]
 have hwl:=aLV x.sig P set ps i
 by_cases hil:i<set.length
 ·have hq:=hat i hil
  have h1:=hq.1
  repeat' first|((exfalso;omega))|apply aE|apply aG|apply aM|apply aJ|refine aI 0 aI8 λK hK=>?_|refine aY aI8 (by kernel_rfl) λK hK=>?_|((first|apply aD|apply aK|refine aA (aO ?_)|apply aA);simp(disch:=apply aB;omega)only[go_sem,Tryz.results57])|(apply hK.nil;clear hK K;simp only[go_sem])|((first|refine aF rfl ?_ ?_)<;>intro h<;>try simp(disch:=apply aB;omega)only[go_sem] at h)|apply aL|refine hK.c0 rfl rfl rfl (aDi x.sig ps (P.getD (set.getD i default).toNat default) hM hq.2) rfl rfl rfl ?_|(with_reducible refine And.intro (by first|omega|(simp only[lens];omega)) ?_)|fail
  ·rw[aSD λe=>h (e i hil)]
   first|exact⟨rfl,rfl⟩|exact⟨dR _,rfl⟩|(refine⟨?_,rfl⟩;simp[le0])
  ·exact⟨i+1,(by(refine aC rfl rfl ?_ ?_ ?_ ?_<;>simp(disch:=apply aB;omega)only[go_sem]<;>(try omega));rw[aHE (by assumption)];exact⟨rfl,by omega⟩),⟨by omega,bJ hj (by assumption)⟩,by omega⟩
  ·exact⟨i+1,(by(refine aC rfl rfl ?_ ?_ ?_ ?_<;>simp(disch:=apply aB;omega)only[go_sem]<;>(try omega));rw[aNA (by assumption)];exact⟨rfl,by omega⟩),⟨by omega,bJ hj (by assumption)⟩,by omega⟩
 ·repeat' first|((exfalso;omega))|(refine aAp 10 p (k:=48000) rfl (by simp) hp ?_;simp only[go_sem])|apply aE|refine aI 0 aI8 λK hK=>?_|((first|apply aD|apply aK|refine aA (aO ?_)|apply aA);simp(disch:=apply aB;omega)only[go_sem,Tryz.results57])|(apply hK.nil;clear hK K;simp only[go_sem])|((first|refine aF rfl ?_ ?_)<;>intro h<;>try simp(disch:=apply aB;omega)only[go_sem] at h)|refine aT rfl ?_|fail
  rw[aF5 λj hj'=>hj j (by omega),show i=set.length by omega]
  exact⟨rfl,rfl⟩
theorem aLz(x:SystemT)(P:List DepPairT)(set:List Int)(ps:List PolyT)(p:List Nat)(hx:b7 x)(hA:¬kR x (ps.take x.sig.length))(hM:eW x.sig ps):FC S 57 [] [] [] [bQ x,.sl .any (P.map bK),.sl .any (set.map (.int .i64)),.sl .any (ps.map bS)] (.tup [fN p [],.bool false]) [] []:=by
 have hm:=hM.1
 refine aP Tryz.func57 rfl (by kernel_rfl) (by simp[Tryz.f57]) λB=>?_
 simp only[Tryz.ntmps57,aS,aZ,Nat.reduceAdd]
 repeat' first|((exact absurd ⟨⟨hx,hM.2.1⟩,by assumption⟩ hA))|apply aE|refine aI 0 aI8 λK hK=>?_|refine aY aI8 (by kernel_rfl) λK hK=>?_|((first|apply aD|apply aK|refine aA (aO ?_)|apply aA);simp(disch:=apply aB;omega)only[go_sem,Tryz.results57])|(apply hK.nil;clear hK K;simp only[go_sem])|((first|refine aF rfl ?_ ?_)<;>intro h<;>try simp(disch:=apply aB;omega)only[go_sem] at h)|refine hK.c0 rfl rfl rfl (t7 x (ps.take x.sig.length) hx hM.2.1.ps) rfl rfl rfl ?_|(with_reducible refine And.intro (by first|omega|(simp only[lens];omega)) ?_)|fail
def rK(l:List Nat)(r:RuleT):D:=.agg [.sl (.lab l) (r.l.map (.int .i64)),.sl (.lab l) (r.r.map (.int .i64))]
def kZ(l:List Nat)(x:SystemT):D:=.agg [.sl (.lab l) (x.sig.map (.int .i64)),.sl (.lab l) (x.rules.map (rK l))]
def pB(l:List Nat)(p:DepPairT):D:=.agg [.sl (.lab l) (p.l.map (.int .i64)),.sl (.lab l) (p.r.map (.int .i64)),.int .i64 p.rule,.int .i64 p.at_]
attribute [go_sem] rK kZ pB
theorem aVb(l:List Nat)(r:RuleT):(fQ r).lb l=rK l r:=by simp only[fQ,rK,D.lbL,D.lb,lH]
theorem aNj(l:List Nat)(r:DepPairT):(bK r).lb l=pB l r:=by simp only[bK,pB,D.lbL,D.lb,lH]
theorem x9(l:List Nat)(x:SystemT):(bQ x).lb l=kZ l x:=by simp only[bQ,kZ,D.lbL,D.lb,lH,oM,aVb]
theorem kB(xs:List Int):D.okLbL (xs.map (.int .i64))=true:=iW (λ_=>rfl) xs
theorem aPt(r:RuleT):(fQ r).okLb=true:=by simp[fQ,D.okLb,D.okLbL,kB]
theorem aDO(r:DepPairT):(bK r).okLb=true:=by simp[bK,D.okLb,D.okLbL,kB]
theorem qY(x:SystemT):(bQ x).okLb=true:=by simp[bQ,D.okLb,D.okLbL,kB,iW aPt]
theorem sU(l:List Nat)(x:SystemT):D.le (kZ l x) (bQ x):=x9 l x ▸ aWd l (qY x)
theorem xP(l:List Nat)(P:List DepPairT):D.le (.sl (.lab l) (P.map (pB l))) (.sl .any (P.map bK)):=by
 have h:=aWd l (d:=.sl .any (P.map bK)) (by simp[D.okLb,iW aDO])
 simpa only[D.lb,oM,aNj] using h
theorem xO(l:List Nat)(rs:List Int):D.le (.agg [.sl (.lab l) (rs.map (.int .i64))]) (.agg [.sl .any (rs.map (.int .i64))]):=by
 rw[aMy];exact⟨.any,trivial⟩
theorem fJ(q tk:List Nat)(xs:List Int):D.safePL q tk (xs.map (.int .i64))=true:=kQ (λ_=>rfl) xs
theorem aE3{q l tk:List Nat}(h:l≠q)(r:RuleT):(rK l r).safeP q tk=true:=by simp[rK,D.safeP,D.safePL,fJ,h]
theorem aIP{q l tk:List Nat}(h:l≠q)(r:DepPairT):(pB l r).safeP q tk=true:=by simp[pB,D.safeP,D.safePL,fJ,h]
def tI(hs:List Int)(i:Nat):Int:=min (fR hs i) 20001
theorem aWy{hs:List Int}(hh:∀h∈hs,0<=h/\h<=1){i:Nat}(hi:i<=hs.length):(1<=tI hs i/\tI hs i<=20001)/\(tI hs i<=20000↔fR hs i<=20000):=by
 have:=lZ hh i hi
 unfold tI
 rw[Int.min_def];split<;>omega
theorem aVG{hs:List Int}(hh:∀h∈hs,0<=h/\h<=1){i:Nat}(hi:i<hs.length):min (tI hs i*(hs.getD i default+1)) 20001=tI hs (i+1):=by
 have h0:=lZ hh i (by omega)
 have hd:=hh _ (bA hs i hi)
 have e:fR hs (i+1)=fR hs i*(hs.getD i default+1):=rfl
 unfold tI
 rw[e]
 rcases (show hs.getD i default=0∨hs.getD i default=1 by omega) with e1|e1<;>rw[e1]<;>simp only[Int.min_def]<;>repeat' split
 all_goals omega
theorem lU(k:IntKind)(xs:List Int):D.idsL (xs.map (.int k))=[]:=by
 induction xs with
 | nil=>rfl
 | cons x r ih=>simp[D.idsL,D.ids,ih]
theorem aAh(k:IntKind)(xs:List Int):D.tksL (xs.map (.int k))=[]:=by
 induction xs with
 | nil=>rfl
 | cons x r ih=>simp[D.tksL,D.tks,ih]
theorem aAJ(p:Nat->Bool)(k:IntKind)(xs:List Int):(xs.map (.int k)).all (D.puOk p)=true:=by
 rw[List.all_map]
 exact List.all_eq_true.2 λ_ _=>rfl
theorem aER(o:Nat)(k:IntKind)(xs:List Int):D.shTL o (xs.map (.int k))=xs.map (.int k):=by
 induction xs with
 | nil=>rfl
 | cons x r ih=>simp[D.shTL,D.shT,ih]
end
section
attribute [local irreducible] SW bC bE dF bU FC dO toF dP fU
attribute [local go_sem] lU PL
def wB:List (Nat×List Nat):=[(0,[1,2]),(1,[1,2,6,7]),(2,[1,2,6,28]),(3,[4,5]),(4,[1,2,8]),(5,[1,2,8,9]),(6,[1,2,8,9,10]),(7,[1,2,8,9,10,39]),(9,[1,2,8,9,10,44]),(10,[1,2,8,9,10,51]),(11,[4,5]),(12,[1,2,8,9,10]),(13,[1,2,8,9,10]),(8,[1,2,8,9,10]),(14,[1,2,9,11]),(15,[1,2,9,59]),(16,[1,2,9,12,13]),(17,[1,2,9,72]),(18,[4,5]),(19,[1,2,9,11]),(20,[1,2,9,11,14]),(21,[1,2,9,11,14,82]),(23,[1,2,9,11,14,103]),(24,[1,2,9,14]),(25,[1,2,9,11,14]),(26,[1,2,9,11,14,114]),(27,[1,2,9,11,14]),(22,[1,2,9,11,14]),(28,[4,5])]
attribute [go_sem] wB
theorem wY(x:SystemT)(set:List Int):FCO S [1] 85 [kZ [1] x,.sl (.lab [1]) (set.map (.int .i64))] (.tup [.sl .any ((uZ x set).1.map (.int .i64)),.bool (uZ x set).2]) []:=by
  have cP:=(iP x).args (args:=[kZ [1] x]) ⟨sU _ _,trivial⟩
  rcases Classical.em (mK x set) with hW|hW
  · rw[aCA hW]
    obtain⟨hx,hS⟩:=hW
    have hPj:∀l,qB x.sig l->aJQ x set l=jR x.sig (bL x) set l:=λl h=>aAb ⟨⟨hx,hS⟩,h⟩
    rw[fA hx] at cP
    have h12:=hx.1.1.2
    have hsg:=hx.1.1.1
    have hs8:=hsg.1.2
    have h64:(bL x).length<=64:=hx.2
    have hP:=lA hx
    generalize hA:bL x=P at *
    have hfb:=@uM x.sig P set
    have hfo:=@aAa x.sig P set
    generalize gI x.sig P set=o at *
    have hmem:=λf=>aGV P set f set.length
    have cH:=(aA4 x.sig P set hP hS h64).args (args:=[.sl .any (P.map bK),.sl (.lab [1]) (set.map (.int .i64))]) ⟨.refl _,.any,trivial⟩
    have cS:=(iB set P.length (by omega)).args (args:=[.sl (.lab [1]) (set.map (.int .i64)),.int .i64 P.length]) ⟨.any,.refl _,trivial⟩
    generalize hH:fB P set set.length=H at *
    generalize hdL P set set.length=hd0 at *
    refine qR Tryz.func85 rfl (by kernel_rfl) (by simp[Tryz.f85]) λB hOld=>?_
    simp only[Tryz.ntmps85,aS,aZ,Nat.reduceAdd]
    repeat' first|((exact absurd hS (by assumption)))|apply aE|apply aG|apply aJ|refine aI 0 wB λK hK=>?_|((first|apply aD|apply aK|refine aA (aO ?_)|apply aA);simp(disch:=apply aB;omega)only[go_sem,Tryz.results85])|(apply hK.nil;clear hK K;simp only[go_sem])|((first|refine aH rfl rfl rfl rfl rfl ?_ ?_|refine aN rfl rfl rfl rfl rfl ?_ ?_|refine aF rfl ?_ ?_)<;>intro h<;>try simp(disch:=apply aB;omega)only[go_sem] at h)|refine hK.c0 rfl rfl rfl (cP) rfl rfl rfl ?_|refine hK.c0 rfl rfl rfl (cS) rfl rfl rfl ?_|refine hK.c0 rfl rfl rfl (cH) rfl rfl rfl ?_|fail
    refine dW 9 56000 2 1 rfl (.inr rfl) rfl ?_
    simp only[go_sem]
    refine bG (ι:=Nat) (λf=>[(10,.int .i64 f),(9,.sl (.own 56000 2 1) ((aCw x.sig H f).map (.int .i64)))]) (λ_=>[]) (λ_=>[56000]) (λf=>f<=x.sig.length/\¬aIV x.sig H f) (λf=>x.sig.length-f) 0 (by(refine aC rfl rfl ?_ ?_ ?_ ?_<;>simp(disch:=apply aB;omega)only[go_sem]<;>(try omega));all_goals exact⟨rfl,rfl⟩) ⟨by omega,λ⟨i,hi,_⟩=>absurd hi (Nat.not_lt_zero _)⟩ (λf hf=>?_)
    obtain⟨hf,hnb⟩:=hf
    simp only[go_sem]
    have hll:=aS7 x.sig H f
    by_cases hfl:f<x.sig.length
    · have hmf:=hmem f
      repeat' first|((refine jJ 59000 56000 rfl rfl ?_;simp only[go_sem]))|((exfalso;omega))|apply aE|apply aG|apply aM|apply aJ|refine aI 0 wB λK hK=>?_|((first|apply aD|apply aK|refine aA (aO ?_)|apply aA);simp(disch:=apply aB;omega)only[go_sem,Tryz.results85])|(apply hK.nil;clear hK K;simp only[go_sem])|((first|refine aH rfl rfl rfl rfl rfl ?_ ?_|refine aN rfl rfl rfl rfl rfl ?_ ?_|refine aF rfl ?_ ?_)<;>intro h<;>try simp(disch:=apply aB;omega)only[go_sem] at h)|apply aL|refine hK.c0 rfl rfl rfl (gG _ _ _) rfl rfl rfl ?_|(with_reducible refine And.intro (by first|omega|(simp only[lens];omega)) ?_)|fail
      · rw[hfb ⟨f,hfl,hmf.1 (by assumption),by assumption⟩]
        exact⟨rfl,rfl⟩
      · have hHf:H f:=hmf.1 (by assumption)
        have hz:¬x.sig.getD f default=0:=by assumption
        exact⟨f+1,(by(refine aC rfl rfl ?_ ?_ ?_ ?_<;>simp(disch:=apply aB;omega)only[go_sem]<;>(try omega));rw[aEf hHf];exact⟨rfl,by omega⟩),⟨by omega,λ⟨i,hi,h1,h2⟩=>by
          rcases Nat.lt_or_ge i f with h3|h3
          · exact hnb ⟨i,h3,h1,h2⟩
          · obtain rfl:i=f:=by omega
            exact hz h2⟩,by omega⟩
      · have hHf:¬H f:=λe=>absurd (hmf.2 e) (by assumption)
        exact⟨f+1,(by(refine aC rfl rfl ?_ ?_ ?_ ?_<;>simp(disch:=apply aB;omega)only[go_sem]<;>(try omega));rw[aHL hHf];exact⟨rfl,by omega⟩),⟨by omega,λ⟨i,hi,h1,h2⟩=>by
          rcases Nat.lt_or_ge i f with h3|h3
          · exact hnb ⟨i,h3,h1,h2⟩
          · obtain rfl:i=f:=by omega
            exact hHf h1⟩,by omega⟩
    · obtain rfl:f=x.sig.length:=by omega
      have ho:=hfo hnb
      rw[aR5]
      have hok:=aLm hsg hnb
      have hseq:=oS hok
      have hdig:=jZ hok
      have hbl:=aBJ x.sig H
      obtain⟨Lw,hLw⟩:∃Lw,jY (bsP x.sig H)=Lw:=⟨_,rfl⟩
      have hLl:Lw.length=x.sig.length:=by rw[←hLw,xE,hbl]
      have hne0:Lw≠[]:=by
        intro e;rw[e] at hLl;simp only[List.length_nil] at hLl;have:=hsg.1.1;omega
      rw[hLw]
      have hst:Lw=(gP (bsP x.sig H)).headD Lw/\true=!(gP (bsP x.sig H)).isEmpty:=by
        obtain⟨r1,hr1⟩:=hseq.2
        rw[hr1,List.headD_cons,hLw]
        exact⟨rfl,rfl⟩
      repeat' first|((exfalso;omega))|apply aE|apply aG|refine aI 0 wB λK hK=>?_|((first|apply aD|apply aK|refine aA (aO ?_)|apply aA);simp(disch:=apply aB;omega)only[go_sem,Tryz.results85])|(apply hK.nil;clear hK K;simp only[go_sem])|((first|refine aH rfl rfl rfl rfl rfl ?_ ?_|refine aN rfl rfl rfl rfl rfl ?_ ?_|refine aF rfl ?_ ?_)<;>intro h<;>try simp(disch:=apply aB;omega)only[go_sem] at h)|refine aT rfl ?_|fail
      refine aTP 9 [2] (k:=56000) rfl (by simp) (by simp) hne0 ?_
      simp only[go_sem]
      refine bB (ι:=List (List Int)) (λp=>[(9,PL [2] (p.headD Lw)),(11,.bool (!p.isEmpty))]) (λp=>[]) (λp=>(vQ (bsP x.sig H) p/\∀c∈p,nS (bsP x.sig H) c)/\fL (QJ x.sig P set) p=o) (λp=>p.length) (gP (bsP x.sig H)) (by(refine aC rfl rfl ?_ ?_ ?_ ?_<;>simp(disch:=apply aB;omega)only[go_sem]<;>(try omega));all_goals first|(rw[←hst.1];exact⟨dR _,hst.2⟩)|exact λ_ h=>h) ?_ (λp hp=>?_)
      rotate_left
      simp only[go_sem]
      · obtain⟨⟨hq1,hq2⟩,hq3⟩:=hp
        cases p with
        | nil =>
          obtain rfl:none=o:=hq3
          simp only[List.isEmpty_nil,Bool.not_true]
          repeat' first|apply aE|refine aI 0 wB λK hK=>?_|((first|apply aD|apply aK|refine aA (aO ?_)|apply aA);simp(disch:=apply aB;omega)only[go_sem,Tryz.results85])|(apply hK.nil;clear hK K;simp only[go_sem])|((first|refine aH rfl rfl rfl rfl rfl ?_ ?_|refine aN rfl rfl rfl rfl rfl ?_ ?_|refine aF rfl ?_ ?_)<;>intro h<;>try simp(disch:=apply aB;omega)only[go_sem] at h)|refine aT rfl ?_|fail
          exact⟨rfl,rfl⟩
        | cons a r =>
          have ha:=hq2 a zH
          have hal:a.length=(bsP x.sig H).length:=jG ha
          have hal2:a.length=x.sig.length:=by rw[hal,hbl]
          obtain⟨hn1,hn2⟩:=rQ hq1
          rw[hLw] at hn1
          have hpj:=tV hsg ha
          have hne:a≠[]:=by
            intro e;rw[e] at hal2;simp only[List.length_nil] at hal2;have:=hsg.1.1;omega
          have hnl:(r.headD Lw).length=a.length:=by
            have:=(oE (bs:=bsP x.sig H) (xs:=a) hal).1
            rw[hn1] at this
            rw[this,hal]
          have hnn:r.headD Lw≠[]:=by intro e;rw[e] at hnl;simp only[List.length_nil] at hnl;have:=hsg.1.1;omega
          simp only[List.headD_cons,List.isEmpty_cons,Bool.not_false]
          have cJ:=(mQ x set a).args (args:=[kZ [1] x,.sl (.lab [1]) (set.map (.int .i64)),PL [2] a]) ⟨sU _ _,.any,aNF,trivial⟩
          rw[hPj a hpj] at cJ
          have hnx:¬QJ x.sig P set a->fL (QJ x.sig P set) r=o:=λh=>by rw[←hq3,iN h]
          have hyx:QJ x.sig P set a->o=some a:=λh=>by rw[←hq3,i7 h]
          have hs2:∀tk,(D.sl (.lab [1]) (set.map (.int .i64))).safeP [2] tk=true:=λtk=>by simp[D.safeP,fJ]
          have hs4:∀tk,D.safePL [2] tk [.sl (.lab [1]) (x.sig.map (.int .i64)),.sl (.lab [1]) (x.rules.map (rK [1]))]=true:=λtk=>by simp[D.safePL,D.safeP,fJ,kQ (aE3 (q:=[2]) (l:=[1]) (tk:=tk) (by simp))]
          repeat' first|((refine aN8 4 (d:=PL [2] a) rfl aNF ?_;simp only[go_sem]))|((refine sD 19 [1] [2] hOld (by simp) (by simp) 9 500 rfl hne (by simp) [(1,.sl (.lab [1]) (set.map (.int .i64))),(2,.box 2 0)] [(2,[.sl (.lab [1]) (x.sig.map (.int .i64)),.sl (.lab [1]) (x.rules.map (rK [1]))])] (List.forall_mem_cons.2 ⟨⟨rfl,hs2 _,by simp[D.ids]⟩,List.forall_mem_cons.2 ⟨⟨rfl,rfl,by simp[D.ids]⟩,λq hq=>by cases hq⟩⟩) (List.forall_mem_cons.2 ⟨⟨by simp,rfl,hs4 _,by simp[D.idsL,D.ids]⟩,λq hq=>by cases hq⟩) ?_;simp only[go_sem]))|apply aE|apply aG|apply aJ|refine aI 0 wB λK hK=>?_|((first|apply aD|apply aK|refine aA (aO ?_)|apply aA);simp(disch:=apply aB;omega)only[go_sem,Tryz.results85])|(apply hK.nil;clear hK K;simp only[go_sem])|((first|refine aH rfl rfl rfl rfl rfl ?_ ?_|refine aN rfl rfl rfl rfl rfl ?_ ?_|refine aF rfl ?_ ?_)<;>intro h<;>try simp(disch:=apply aB;omega)only[go_sem] at h)|refine hK.c0 rfl rfl rfl (cJ) rfl rfl rfl ?_|fail
          · rw[hyx ⟨by assumption,by assumption⟩]
            exact⟨rfl,rfl⟩
          all_goals
            have hQ:¬QJ x.sig P set a:=λe=>by
              have e1:=e.1
              have e2:=e.2
              first
                | omega
                | (have h2 : (jR x.sig P set a).2 = false := by assumption
                   rw[h2] at e1;cases e1)
            have hor:=hnx hQ
            clear hnx hyx
            refine bB (ι:=Nat×Bool) (λp=>[(14,.int .i64 (p.1-1:Int)),(11,.bool p.2)]) (λp=>[(500,(if p.2=true then r.headD Lw else stD (bsP x.sig H) a p.1).map (.int .i64))]) (λp=>p.1<=a.length/\(p.2=false->rC (bsP x.sig H) a p.1)/\(p.2=true->r.isEmpty=false)) (λp=>p.1) (a.length,false) (by(refine aC rfl rfl ?_ ?_ ?_ ?_<;>simp(disch:=apply aB;omega)only[go_sem]<;>(try omega));all_goals first|(rw[aHH hal];done)|exact λ_ h=>h) ?_ (λp hp=>?_)
            rotate_left
            simp only[go_sem]
            · obtain⟨p,b⟩:=p
              obtain⟨hp1,hp2,hp3⟩:=hp
              dsimp only at hp1 hp2 hp3 ⊢
              have hgo:(p=0/\b=false->r.isEmpty=true/\stD (bsP x.sig H) a 0=r.headD Lw):=λ⟨h1,h2⟩=>by
                subst h1
                have e:=aMI hal (hp2 h2)
                rw[hn1] at e
                exact⟨by simpa using (Prod.mk.inj e).2,(Prod.mk.inj e).1.symm⟩
              cases b with
              | true =>
                have hre:=hp3 rfl
                simp only[if_true]
                repeat' first|((refine pV [2] (by simp) 9 500 (n:=a.length) (ys:=r.headD Lw) rfl rfl hnl.symm hnn (by simp) ?_;simp only[go_sem]))|apply aE|apply aM|refine aI 0 wB λK hK=>?_|((first|apply aD|apply aK|refine aA (aO ?_)|apply aA);simp(disch:=apply aB;omega)only[go_sem,Tryz.results85])|(apply hK.nil;clear hK K;simp only[go_sem])|((first|refine aH rfl rfl rfl rfl rfl ?_ ?_|refine aN rfl rfl rfl rfl rfl ?_ ?_|refine aF rfl ?_ ?_)<;>intro h<;>try simp(disch:=apply aB;omega)only[go_sem] at h)|refine aT rfl ?_|apply aL|fail
                all_goals exact⟨r,(by(refine aC rfl rfl ?_ ?_ ?_ ?_<;>simp(disch:=apply aB;omega)only[go_sem]<;>(try omega));all_goals first|exact λ_ h=>h|exact⟨dR _,by simp[hre]⟩|exact dR _|(simp[hre];done)),⟨⟨hn2,λd hd=>hq2 d (zG _ hd)⟩,hor⟩,by simp⟩
              | false =>
                simp only[Bool.false_eq_true,if_false]
                cases p with
                | zero =>
                  obtain⟨hre,hz⟩:=hgo ⟨rfl,rfl⟩
                  rw[hz]
                  repeat' first|((exfalso;omega))|((refine pV [2] (by simp) 9 500 (n:=a.length) (ys:=r.headD Lw) rfl rfl hnl.symm hnn (by simp) ?_;simp only[go_sem]))|apply aE|apply aM|refine aI 0 wB λK hK=>?_|((first|apply aD|apply aK|refine aA (aO ?_)|apply aA);simp(disch:=apply aB;omega)only[go_sem,Tryz.results85])|(apply hK.nil;clear hK K;simp only[go_sem])|((first|refine aH rfl rfl rfl rfl rfl ?_ ?_|refine aN rfl rfl rfl rfl rfl ?_ ?_|refine aF rfl ?_ ?_)<;>intro h<;>try simp(disch:=apply aB;omega)only[go_sem] at h)|refine aT rfl ?_|apply aL|fail
                  all_goals exact⟨r,(by(refine aC rfl rfl ?_ ?_ ?_ ?_<;>simp(disch:=apply aB;omega)only[go_sem]<;>(try omega));all_goals first|exact λ_ h=>h|exact⟨dR _,by simp[hre]⟩|exact dR _|(simp[hre];done)),⟨⟨hn2,λd hd=>hq2 d (zG _ hd)⟩,hor⟩,by simp⟩
                | succ k =>
                  have hk:k<a.length:=by omega
                  have hkn:k<x.sig.length:=by omega
                  have hlen:=aGS hal hp1
                  have hg:=aHl hal hk
                  have hbk:(bsP x.sig H).getD k default=aG0 x.sig H k:=aRT hkn
                  have hdk:=aG7 ha k (by rw[hbl];exact hkn)
                  rw[hbk] at hdk
                  have hnv:=hp2 rfl
                  have hark:=hsg.2 k hkn
                  have hi:((k+1:Nat):Int)-1=(k:Int):=by omega
                  rw[hi]
                  by_cases hHk:H k
                  · rw[oL hHk] at hdk hbk
                    have hd0:0<=a.getD k default/\a.getD k default<=x.sig.getD k default-1:=hdk
                    have hy:=@aLl (bsP x.sig H) a hal k hk hnv
                    have hno:=@aOn (bsP x.sig H) a hal k hk hnv
                    rw[hbk] at hy hno
                    dsimp only at hy hno
                    rw[←hg] at hd0 hy hno
                    repeat' first|((exfalso;omega))|apply aE|apply aG|apply aM|apply aJ|refine aI 0 wB λK hK=>?_|refine aY wB (by kernel_rfl) λK hK=>?_|((first|apply aD|apply aK|refine aA (aO ?_)|apply aA);simp(disch:=apply aB;omega)only[go_sem,Tryz.results85])|(apply hK.nil;clear hK K;simp only[go_sem])|((first|refine aH rfl rfl rfl rfl rfl ?_ ?_|refine aN rfl rfl rfl rfl rfl ?_ ?_|refine aF rfl ?_ ?_)<;>intro h<;>try simp(disch:=apply aB;omega)only[go_sem] at h)|apply aL|(with_reducible refine And.intro (by first|omega|(simp only[lens];omega)) ?_)|fail
                    · have e:=hy h
                      rw[hn1] at e
                      exact⟨(k,true),(by(refine aC rfl rfl ?_ ?_ ?_ ?_<;>simp(disch:=apply aB;omega)only[go_sem]<;>(try omega));all_goals first|exact λ_ h=>h|(rw[←(Prod.mk.inj e).1];done)|(exact⟨rfl,(Prod.mk.inj e).1.symm⟩)),⟨by omega,λh=>(by cases h),λ_=>by simpa using (Prod.mk.inj e).2⟩,by dsimp only;omega⟩
                    · obtain⟨n1,n2⟩:=hno (by omega)
                      exact⟨(k,false),(by(refine aC rfl rfl ?_ ?_ ?_ ?_<;>simp(disch:=apply aB;omega)only[go_sem]<;>(try omega));all_goals first|exact λ_ h=>h|(rw[←n2];done)|(exact⟨rfl,n2⟩)),⟨by omega,λ_=>n1,λh=>by cases h⟩,by dsimp only;omega⟩
                  · rw[xN hHk] at hdk hbk
                    have hd0:-1<=a.getD k default/\a.getD k default<=-1:=hdk
                    have hno:=(@aOn (bsP x.sig H) a hal k hk hnv (by rw[hbk];dsimp only;omega))
                    rw[hbk] at hno
                    dsimp only at hno
                    rw[←hg] at hd0
                    have hself:stD (bsP x.sig H) a (k+1)=stD (bsP x.sig H) a k:=by
                      rw[←hno.2]
                      have hm1:(stD (bsP x.sig H) a (k+1)).getD k default=-1:=by omega
                      have hlt:k<(stD (bsP x.sig H) a (k+1)).length:=by omega
                      rw[zD,zB hlt,Option.getD_some] at hm1
                      rw[←hm1,List.set_getElem_self]
                    repeat' first|((exfalso;omega))|apply aE|apply aG|apply aM|apply aJ|refine aI 0 wB λK hK=>?_|refine aY wB (by kernel_rfl) λK hK=>?_|((first|apply aD|apply aK|refine aA (aO ?_)|apply aA);simp(disch:=apply aB;omega)only[go_sem,Tryz.results85])|(apply hK.nil;clear hK K;simp only[go_sem])|((first|refine aH rfl rfl rfl rfl rfl ?_ ?_|refine aN rfl rfl rfl rfl rfl ?_ ?_|refine aF rfl ?_ ?_)<;>intro h<;>try simp(disch:=apply aB;omega)only[go_sem] at h)|apply aL|(with_reducible refine And.intro (by first|omega|(simp only[lens];omega)) ?_)|fail
                    exact⟨(k,false),(by(refine aC rfl rfl ?_ ?_ ?_ ?_<;>simp(disch:=apply aB;omega)only[go_sem]<;>(try omega));all_goals first|exact λ_ h=>h|(rw[←hself];done)|(exact⟨rfl,hself⟩)),⟨by omega,λ_=>hno.1,λh=>by cases h⟩,by dsimp only;omega⟩
            · exact⟨zQ _,λ_=>aB6 hal,λh=>by cases h⟩
      · exact⟨⟨hseq.1,hdig⟩,ho.symm⟩
  · rw[aPI hW]
    rcases Classical.em (gC x) with hx|hx
    · rw[fA hx] at cP
      have h64:(bL x).length<=64:=hx.2
      have cS:=(iB set (bL x).length (by omega)).args (args:=[.sl (.lab [1]) (set.map (.int .i64)),.int .i64 (bL x).length]) ⟨.any,.refl _,trivial⟩
      refine qR Tryz.func85 rfl (by kernel_rfl) (by simp[Tryz.f85]) λB hOld=>?_
      simp only[Tryz.ntmps85,aS,aZ,Nat.reduceAdd]
      repeat' first|((exact absurd (show mK x set from⟨hx,by assumption⟩) hW))|apply aE|refine aI 0 wB λK hK=>?_|((first|apply aD|apply aK|refine aA (aO ?_)|apply aA);simp(disch:=apply aB;omega)only[go_sem,Tryz.results85])|(apply hK.nil;clear hK K;simp only[go_sem])|((first|refine aH rfl rfl rfl rfl rfl ?_ ?_|refine aN rfl rfl rfl rfl rfl ?_ ?_|refine aF rfl ?_ ?_)<;>intro h<;>try simp(disch:=apply aB;omega)only[go_sem] at h)|refine hK.c0 rfl rfl rfl (cP) rfl rfl rfl ?_|refine hK.c0 rfl rfl rfl (cS) rfl rfl rfl ?_|fail
      all_goals exact⟨rfl,rfl⟩
    · rw[iE hx] at cP
      refine qR Tryz.func85 rfl (by kernel_rfl) (by simp[Tryz.f85]) λB hOld=>?_
      simp only[Tryz.ntmps85,aS,aZ,Nat.reduceAdd]
      repeat' first|apply aE|refine aI 0 wB λK hK=>?_|((first|apply aD|apply aK|refine aA (aO ?_)|apply aA);simp(disch:=apply aB;omega)only[go_sem,Tryz.results85])|(apply hK.nil;clear hK K;simp only[go_sem])|((first|refine aH rfl rfl rfl rfl rfl ?_ ?_|refine aN rfl rfl rfl rfl rfl ?_ ?_|refine aF rfl ?_ ?_)<;>intro h<;>try simp(disch:=apply aB;omega)only[go_sem] at h)|refine hK.skp rfl rfl ?_|refine hK.c0 rfl rfl rfl (cP) rfl rfl rfl ?_|fail
      all_goals exact⟨rfl,rfl⟩
end
end Go.Proofs.YtpennhjjnlkbiaaGreat
