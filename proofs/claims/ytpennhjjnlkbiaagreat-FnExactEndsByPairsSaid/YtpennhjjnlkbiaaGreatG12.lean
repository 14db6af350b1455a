/-
  A15k, A25, A17k, A17l, A17m, K6, K9, one behind the other.
-/
import Derived.Test.YtpennhjjnlkbiaaGreatG11
import Derived.Test.YtpennhjjnlkbiaaGreatG6
import Derived.Test.YtpennhjjnlkbiaaGreatG3
import Derived.Test.YtpennhjjnlkbiaaGreatG9
import Derived.Test.YtpennhjjnlkbiaaGreatG1
import Derived.Test.YtpennhjjnlkbiaaGreatG7
import Derived.Test.YtpennhjjnlkbiaaGreatG10
namespace Go.Proofs.YtpennhjjnlkbiaaGreat
open Go Go.Lg
set_option linter.unusedSimpArgs false
set_option linter.unusedVariables false
set_option maxHeartbeats 4000000
section
attribute [local irreducible] SW bC bE dE bU FC dO toF dP fV fD sumF bR
def aD3(rs:List Int)(ps:List PolyT):Prop:=(eA rs/\rs.length≤ps.length)/\∀f<rs.length,fU (rs.getD f default) (ps.getD f default)
theorem dI.ps{rs:List Int}{ps:List PolyT}(h:dI rs ps):aD3 rs ps:=⟨⟨h.1.1,Nat.le_of_eq h.1.2.symm⟩,λf hf=>h.2 f (by rw[h.1.2];exact hf)⟩
theorem aD3.at{rs:List Int}{ps:List PolyT}(h:aD3 rs ps){n:Int}(h0:0≤n)(h1:n<rs.length):fU (arS rs n) (ps.getD n.toNat default):=by
 rw[jZ (by omega)]
 exact h.2 n.toNat (by omega)
theorem aDh{rs:List Int}{ps:List PolyT}(hP:aD3 rs ps):∀f t,aX rs t->gE MF (bR rs ps f t).1
 | 0,_,_=>by unfold bR;exact sR
 | f+1,t,ht=>by
  have hl:=ht.low (show 0<t.length from ht.2.1.1)
  by_cases h:t.getD 0 default<0
  ·rw[kR h];exact aDg h hl.1.1
  ·rw[lZ h]
   exact aB3 (hP.at (by omega) hl.1.2) λj hj=>aDh hP f _ (i7 ht hj).1
noncomputable def aEU(rs:List Int)(ps:List PolyT)(bh:Int)(f:Nat)(u:List Int):PolyT×Bool:=if u.getD 0 default<0 then (xE (u.getD 0 default),true) else jG (λj=>bR rs ps f (jV rs u j)) (ps.getD (u.getD 0 default+bh).toNat default) (arS rs (u.getD 0 default)).toNat
theorem x9{rs:List Int}{ps:List PolyT}{bh:Int}{f:Nat}{u:List Int}(h:u.getD 0 default<0):aEU rs ps bh f u=(xE (u.getD 0 default),true):=if_pos h
theorem y5{rs:List Int}{ps:List PolyT}{bh:Int}{f:Nat}{u:List Int}(h:¬u.getD 0 default<0):aEU rs ps bh f u=jG (λj=>bR rs ps f (jV rs u j)) (ps.getD (u.getD 0 default+bh).toNat default) (arS rs (u.getD 0 default)).toNat:=if_neg h
theorem aL1(rs:List Int)(ps:List PolyT)(f:Nat)(u:List Int):aEU rs ps 0 f u=bR rs ps (f+1) u:=by
 by_cases h:u.getD 0 default<0
 ·rw[x9 h,kR h]
 ·rw[y5 h,lZ h,Int.add_zero]
theorem aDF{F G:Nat->PolyT×Bool}{p:PolyT}:∀n,(∀j<n,(F j).1=(G j).1)->sumF F p n=sumF G p n
 | 0,_=>by unfold sumF;rfl
 | n+1,h=>by
  have e:∀H:Nat->PolyT×Bool,sumF H p (n+1)=nC (sumF H p n) (H n).1 (p.coef.getD n default):=λH=>by conv=>lhs;unfold sumF
  rw[e,e,aDF n λj hj=>h j (by omega),h n (by omega)]
theorem rM{F G:Nat->PolyT×Bool}{p:PolyT}{n:Nat}(h1:∀j<n,(F j).1=(G j).1)(h2:∀j<n,(F j).2=(G j).2):jG F p n=jG G p n:=by
 have e:=aDF (p:=p) n h1
 rcases Classical.em ((∀j<n,(F j).2=true)/\okF (sumF F p n)) with h|h
 ·rw[sE h,sE ⟨λj hj=>by rw[←h2 j hj];exact h.1 j hj,by rw[←e];exact h.2⟩,e]
 ·rw[oO h,oO λh'=>h ⟨λj hj=>by rw[h2 j hj];exact h'.1 j hj,by rw[e];exact h'.2⟩]
def aHZ:List (Nat×List Nat):=[(0,[1,2,3,4,5,10]),(1,[1,2,3,4,5,10,21]),(2,[10,11]),(3,[1,2,3,4,5,10,12]),(4,[1,2,3,4,5,10,12,30,31,32]),(5,[1,2,3,4,5,10,12,30,31,32,33]),(6,[1,2,3,4,5,10,12,14,30,31,32]),(7,[1,2,3,4,5,10,12,15,16,30,31,32]),(8,[1,2,3,4,5,10,12,15,30,31,32,45]),(9,[10,11]),(10,[1,2,3,4,5,10,12,30,31,32]),(11,[1,2,3,4,5,10,12,30,31,32]),(12,[10,11])]
attribute [go_sem] aHZ
theorem uI(rs:List Int)(ps:List PolyT)(t:List Int)(hT:aX rs t)(hQ:aD3 rs ps)(bh:Int)(hb:0≤bh/\bh≤1000)(f a:Nat)(ha:a<t.length)(hx:0≤t.getD a default->t.getD a default+bh<ps.length/\fU (arS rs (t.getD a default)) (ps.getD (t.getD a default+bh).toNat default))
  (hform:∀q:Nat,a<q->q<t.length->(dJ rs t q).length≤f->FC S 142 [] [] [] [.agg [.sl .any (rs.map (.int .i64))],.sl .any (ps.map bS),.sl .any (t.map (.int .i64)),.int .i64 q] (.tup [bS (bR rs ps f (dJ rs t q)).1,.bool (bR rs ps f (dJ rs t q)).2]) [] []) (hlen:(dJ rs t a).length≤f+1) :
  FC S 156 [] [] [] [.agg [.sl .any (rs.map (.int .i64))],.sl .any (ps.map bS),.int .i64 bh,.sl .any (t.map (.int .i64)),.int .i64 a] (.tup [bS (aEU rs ps bh f (dJ rs t a)).1,.bool (aEU rs ps bh f (dJ rs t a)).2]) [] []:=by
 have hl:=hT.2.1.2
 have hlo:=hT.low ha
 have hsa:=(aHC hT ha).1
 have hU:=nH hT ha
 have hlt:=aDI hT ha
 have hal:=y0 rs t a
 have hget:=aAN rs t a
 have hco:∀x∈dD rs t a,((x:Nat):Int)=x:=λ_ _=>rfl
 by_cases h0:t.getD a default<0
 ·rw[x9 (by rw[hsa];exact h0),hsa]
  refine aP Tryz.func156 rfl (by kernel_rfl) (by simp[Tryz.f156]) λB=>?_
  simp only[Tryz.ntmps156,aS,aZ,Nat.reduceAdd]
  refine bZ 3 rfl λhb3=>?_
  simp only[D.bnd,zC] at hb3
  repeat' first|((exfalso;omega))|apply aE|refine aI 0 aHZ λK hK=>?_|((first|apply aD|refine aA (aO ?_)|apply aA);simp(disch:=apply aB;omega)only[go_sem,Tryz.results156])|(apply hK.nil;clear hK K;simp only[go_sem])|((first|refine aF rfl ?_ ?_)<;>intro h<;>try simp(disch:=apply aB;omega)only[go_sem] at h)|refine hK.c0 rfl rfl rfl (aKH _ h0 hlo.1.1) rfl rfl rfl ?_|(with_reducible refine And.intro (by first|omega|(simp only[lens];omega)) ?_)|fail
 ·rw[y5 (by rw[hsa];exact h0),hsa]
  have hx:=hx (by omega)
  have harg:∀j<(arS rs (t.getD a default)).toNat,jV rs (dJ rs t a) j=dJ rs t ((dD rs t a).getD j default):=λj hj=>by rw[aTo hT ha hj,hget j hj]
  generalize hz:dD rs t a=zs at *
  have hsub:∀q∈zs,(dJ rs t q).length≤f:=λq hq=>by
   obtain⟨j,hj,e⟩:=List.getElem_of_mem hq
   have h1:=harg j (by omega)
   have h2:=(i7 hU (j:=j) (by rw[hsa];omega)).2
   rw[h1,zD,zB hj,Option.getD_some,e] at h2
   omega
  have hgood:∀q∈zs,gE MF (bR rs ps f (dJ rs t q)).1:=λq hq=>aDh hQ f _ (nH hT (hlt q hq).2)
  have hFG:(∀j<zs.length,(bR rs ps f (dJ rs t (zs.getD j default))).2=true)->jG (λj=>((zs.map λq=>(bR rs ps f (dJ rs t q)).1).getD j default,true)) (ps.getD (t.getD a default+bh).toNat default) (zs.map λq=>(bR rs ps f (dJ rs t q)).1).length=jG (λj=>bR rs ps f (jV rs (dJ rs t a) j)) (ps.getD (t.getD a default+bh).toNat default) (arS rs (t.getD a default)).toNat:=λhok=>by
   rw[zC,←hal]
   refine rM (λj hj=>?_) λj hj=>?_
   ·dsimp only
    rw[harg j (by omega)]
    simp[List.getD,hj]
   ·dsimp only
    rw[harg j (by omega)]
    exact(hok j hj).symm
  have hno:∀i<zs.length,(bR rs ps f (dJ rs t (zs.getD i default))).2=false->jG (λj=>bR rs ps f (jV rs (dJ rs t a) j)) (ps.getD (t.getD a default+bh).toNat default) (arS rs (t.getD a default)).toNat=(t9,false):=λi hi e=>oO λh=>by
   have:=h.1 i (by omega)
   rw[harg i (by omega),e] at this
   cases this
  have hz3:zs.length≤3:=by omega
  have cA:=aNs (ps.getD (t.getD a default+bh).toNat default) (zs.map λq=>(bR rs ps f (dJ rs t q)).1) (by rw[zC,hal,show (((arS rs (t.getD a default)).toNat:Nat):Int)=arS rs (t.getD a default) by omega];exact hx.2) (by rw[zC];exact hz3) (λj hj=>by
   rw[zC] at hj
   have:=hgood _ (bA zs j hj)
   simpa[List.getD,hj] using this)
  have cG:=aET .any .any rs t a hT ha
  rw[hz] at cG
  refine aP Tryz.func156 rfl (by kernel_rfl) (by simp[Tryz.f156]) λB=>?_
  simp only[Tryz.ntmps156,aS,aZ,Nat.reduceAdd]
  refine bZ 3 rfl λhb3=>?_
  simp only[D.bnd,zC] at hb3
  repeat' first|((exfalso;omega))|((refine dW 12 51000 71 2 rfl (.inl rfl) rfl ?_;simp only[go_sem]))|apply aE|apply aG|apply aJ|refine aI 0 aHZ λK hK=>?_|((first|apply aD|refine aA (aO ?_)|apply aA);simp(disch:=apply aB;omega)only[go_sem,Tryz.results156])|(apply hK.nil;clear hK K;simp only[go_sem])|((first|refine aF rfl ?_ ?_)<;>intro h<;>try simp(disch:=apply aB;omega)only[go_sem] at h)|refine hK.c0 rfl rfl rfl (cG) rfl rfl rfl ?_|(with_reducible refine And.intro (by first|omega|(simp only[lens];omega)) ?_)|fail
  refine bG (ι:=Nat) (λi=>[(32,.int .i64 i),(12,.sl (.own 51000 71 2) (((zs.take i).map λq=>(bR rs ps f (dJ rs t q)).1).map bS))]) (λ_=>[]) (λ_=>[51000]) (λi=>i≤zs.length/\∀j<i,(bR rs ps f (dJ rs t (zs.getD j default))).2=true) (λi=>zs.length-i) 0 (by(refine aC rfl rfl ?_ ?_ ?_ ?_<;>simp(disch:=apply aB;omega)only[go_sem]<;>(try omega));all_goals first|rfl|(simp;done)) ⟨by omega,λj hj=>absurd hj (by omega)⟩ (λi hi=>?_)
  obtain⟨hi,hj⟩:=hi
  simp only[go_sem]
  have htl:((zs.take i).map λq=>(bR rs ps f (dJ rs t q)).1).length≤3:=by rw[zC,List.length_take];omega
  by_cases hil:i<zs.length
  ·have hm:=hlt _ (bA zs i hil)
   have cF:=hform (zs.getD i default) hm.1 hm.2 (hsub _ (bA zs i hil))
   have htk:(zs.take (i+1)).map (λq=>(bR rs ps f (dJ rs t q)).1)=(zs.take i).map (λq=>(bR rs ps f (dJ rs t q)).1)++[(bR rs ps f (dJ rs t (zs.getD i default))).1]:=by
    rw[List.take_succ_eq_append_getElem hil,List.map_append];congr 1;simp[List.getD,hil]
   repeat' first|((exfalso;omega))|apply aE|apply aG|apply aM|apply aJ|refine aI 0 aHZ λK hK=>?_|((first|apply aD|refine aA (aO ?_)|apply aA);simp(disch:=apply aB;omega)only[go_sem,Tryz.results156])|(apply hK.nil;clear hK K;simp only[go_sem])|((first|refine aF rfl ?_ ?_)<;>intro h<;>try simp(disch:=apply aB;omega)only[go_sem] at h)|apply aL|refine hK.c0 rfl rfl rfl (cF) rfl rfl rfl ?_|(with_reducible refine And.intro (by first|omega|(simp only[lens];omega)) ?_)|fail
   ·rw[hno i hil h]
    exact⟨⟨rfl,rfl⟩,rfl⟩
   ·exact⟨i+1,(by(refine aC rfl rfl ?_ ?_ ?_ ?_<;>simp(disch:=apply aB;omega)only[go_sem]<;>(try omega));rw[htk,List.map_append];exact⟨rfl,by omega⟩),⟨by omega,bJ hj h⟩,by omega⟩
  ·rw[List.take_of_length_le (by omega)]
   rw[←hFG λj hj'=>hj j (by omega)]
   have hpl:(t.getD a default+bh).toNat<ps.length:=by omega
   have hsl:=hQ.1.1.1
   repeat' first|((exfalso;omega))|apply aE|refine aI 0 aHZ λK hK=>?_|((first|apply aD|refine aA (aO ?_)|apply aA);simp(disch:=apply aB;omega)only[go_sem,Tryz.results156])|(apply hK.nil;clear hK K;simp only[go_sem])|((first|refine aF rfl ?_ ?_)<;>intro h<;>try simp(disch:=apply aB;omega)only[go_sem] at h)|refine aT rfl ?_|(refine hK.c0 rfl rfl rfl (FC.args (cA) ?le) rfl rfl rfl ?_;case le=>(simp only[go_sem];repeat' first|exact trivial|exact D.le.refl _|exact D.le.any|refine And.intro ?_ ?_))|(with_reducible refine And.intro (by first|omega|(simp only[lens];omega)) ?_)|fail
def aWj:List (Nat×List Nat):=[(0,[1,2,3,4,8]),(1,[8,9])]
attribute [go_sem] aWj
theorem aEX(rs:List Int)(ps:List PolyT)(t:List Int)(hT:aX rs t)(hQ:aD3 rs ps):∀f a:Nat,a<t.length->(dJ rs t a).length≤f->FC S 142 [] [] [] [.agg [.sl .any (rs.map (.int .i64))],.sl .any (ps.map bS),.sl .any (t.map (.int .i64)),.int .i64 a] (.tup [bS (bR rs ps f (dJ rs t a)).1,.bool (bR rs ps f (dJ rs t a)).2]) [] []:=by
 intro f
 induction f with
 | zero=>intro a ha hl;have:=(nH hT ha).2.1.1;omega
 | succ f ih =>
  intro a ha hl
  have c:=uI rs ps t hT hQ 0 (by omega) f a ha (λh=>⟨by have:=(hT.low ha).1.2;have:=hQ.1.2;omega,by rw[Int.add_zero];exact hQ.at h (hT.low ha).1.2⟩) (λq h1 h2 h3=>ih q h2 h3) hl
  rw[aL1] at c
  refine aP Tryz.func142 rfl (by kernel_rfl) (by simp[Tryz.f142]) λB=>?_
  simp only[Tryz.ntmps142,aS,aZ,Nat.reduceAdd]
  repeat' first|apply aE|refine aI 0 aWj λK hK=>?_|((first|apply aD|refine aA (aO ?_)|apply aA);simp(disch:=apply aB;omega)only[go_sem,Tryz.results142])|(apply hK.nil;clear hK K;simp only[go_sem])|refine hK.c0 rfl rfl rfl (c) rfl rfl rfl ?_|fail
theorem aCg(rs:List Int)(ps:List PolyT)(t:List Int)(hT:aX rs t)(hQ:aD3 rs ps):FC S 142 [] [] [] [.agg [.sl .any (rs.map (.int .i64))],.sl .any (ps.map bS),.sl .any (t.map (.int .i64)),.int .i64 0] (.tup [bS (bR rs ps 60 t).1,.bool (bR rs ps 60 t).2]) [] []:=by
 have h:=aEX rs ps t hT hQ 60 0 hT.2.1.1 (by rw[kN hT];exact hT.2.1.2)
 rw[kN hT] at h
 exact h
open Classical in
noncomputable def aS0(rs:List Int)(ps:List PolyT)(s t:List Int):Bool×Bool:=if (bR rs ps 60 s).2=true/\(bR rs ps 60 t).2=true then aFk (bR rs ps 60 s).1 (bR rs ps 60 t).1 else (false,false)
def aRC:List (Nat×List Nat):=[(0,[1,2,3,4]),(1,[1,3,4,10,11]),(2,[10,11,12,13]),(3,[10,12,33]),(4,[8,9]),(5,[8,9])]
attribute [go_sem] aRC
theorem aBr(rs:List Int)(ps:List PolyT)(s t:List Int)(hQ:aD3 rs ps)(hs:aX rs s)(ht:aX rs t):FC S 123 [] [] [] [.agg [.sl .any (rs.map (.int .i64))],.sl .any (ps.map bS),.sl .any (s.map (.int .i64)),.sl .any (t.map (.int .i64))] (.tup [.bool (aS0 rs ps s t).1,.bool (aS0 rs ps s t).2]) [] []:=by
 have c1:=aCg rs ps s hs hQ
 have c2:=aCg rs ps t ht hQ
 unfold aS0
 generalize bR rs ps 60 s=a at *
 generalize bR rs ps 60 t=b at *
 obtain⟨a,oa⟩:=a
 obtain⟨b,ob⟩:=b
 dsimp only at c1 c2 ⊢
 by_cases hnb:oa=true/\ob=true
 ·rw[if_pos hnb]
  obtain⟨rfl,rfl⟩:=hnb
  refine aP Tryz.func123 rfl (by kernel_rfl) (by simp[Tryz.f123]) λB=>?_
  simp only[Tryz.ntmps123,aS,aZ,Nat.reduceAdd]
  repeat' first|apply aE|apply aJ|refine aI 0 aRC λK hK=>?_|((first|apply aD|refine aA (aO ?_)|apply aA);simp(disch:=apply aB;omega)only[go_sem,Tryz.results123])|(apply hK.nil;clear hK K;simp only[go_sem])|((first|refine aH rfl rfl rfl rfl rfl ?_ ?_|refine aF rfl ?_ ?_)<;>intro h<;>try simp(disch:=apply aB;omega)only[go_sem] at h)|refine hK.c0 rfl rfl rfl (c1) rfl rfl rfl ?_|refine hK.c0 rfl rfl rfl (c2) rfl rfl rfl ?_|refine hK.c0 rfl rfl rfl (aEV a b) rfl rfl rfl ?_|fail
 ·rw[if_neg hnb]
  refine aP Tryz.func123 rfl (by kernel_rfl) (by simp[Tryz.f123]) λB=>?_
  simp only[Tryz.ntmps123,aS,aZ,Nat.reduceAdd]
  repeat' first|((exact absurd ⟨(by assumption),(by assumption)⟩ hnb))|apply aE|refine aI 0 aRC λK hK=>?_|((first|apply aD|refine aA (aO ?_)|apply aA);simp(disch:=apply aB;omega)only[go_sem,Tryz.results123])|(apply hK.nil;clear hK K;simp only[go_sem])|((first|refine aH rfl rfl rfl rfl rfl ?_ ?_|refine aF rfl ?_ ?_)<;>intro h<;>try simp(disch:=apply aB;omega)only[go_sem] at h)|refine hK.c0 rfl rfl rfl (c1) rfl rfl rfl ?_|refine hK.c0 rfl rfl rfl (c2) rfl rfl rfl ?_|fail
  all_goals exact absurd ⟨(by assumption),(by assumption)⟩ hnb
def aVd:List (Nat×List Nat):=[(0,[1,2,3]),(1,[1,2,3,12,13,14]),(2,[1,2,3,12,13,14,15]),(3,[1,2,3,8,12,13,14]),(4,[1,2,3,9,10,12,13,14]),(5,[1,2,3,12,13,14,37]),(6,[6]),(7,[1,2,3,12,13,14]),(8,[6])]
attribute [go_sem] aVd
def aRe:List (Nat×List Nat):=[(0,[1,2]),(1,[1,2,5]),(2,[4])]
attribute [go_sem] aRe
theorem aBu(rs:List Int)(ps:List PolyT)(hn:rs.length≤1000):FC S 143 [] [] [] [.agg [.sl .any (rs.map (.int .i64))],.sl .any (ps.map bS)] (.bool (tst (e7 rs ps))) [] []:=by
 refine aP Tryz.func143 rfl (by kernel_rfl) (by simp[Tryz.f143]) λB=>?_
 simp only[Tryz.ntmps143,aS,aZ,Nat.reduceAdd]
 refine bX 0 0 rfl rfl λhb0_0=>?_
 simp only[D.bnd,zC] at hb0_0
 refine bZ 1 rfl λhb1=>?_
 simp only[D.bnd,zC] at hb1
 repeat' first|apply aE|refine aI 0 aRe λK hK=>?_|refine aY aRe (by kernel_rfl) λK hK=>?_|((first|apply aD|apply aK|refine aA (aO ?_)|apply aA);simp(disch:=apply aB;omega)only[go_sem,Tryz.results143])|(apply hK.nil;clear hK K;simp only[go_sem])|((first|refine aH rfl rfl rfl rfl rfl ?_ ?_|refine aN rfl rfl rfl rfl rfl ?_ ?_)<;>intro h<;>try simp(disch:=apply aB;omega)only[go_sem] at h)|refine hK.skp rfl rfl ?_|refine hK.c0 rfl rfl rfl (qK rs (ps.take rs.length)) rfl rfl rfl ?_|refine hK.c0 rfl rfl rfl (qK rs (ps.drop rs.length)) rfl rfl rfl ?_|(with_reducible refine And.intro (by first|omega|(simp only[lens];omega)) ?_)|fail
 all_goals first|exact λhm=>absurd hm.1 (by omega)|exact λhm=>absurd hm.2.1 (by assumption)|exact λhm=>absurd hm.2.2 (by assumption)|exact⟨by omega,by assumption,by assumption⟩|exact⟨λh=>⟨by omega,by assumption,h⟩,λh=>h.2.2⟩|skip
theorem e7.ps{rs:List Int}{ps:List PolyT}(h:e7 rs ps):aD3 rs ps:=by
 refine⟨⟨h.2.1.1.1,by have:=h.1;omega⟩,λf hf=>?_⟩
 have h1:=h.2.1.2 f (by rw[h.2.1.1.2];exact hf)
 rwa [zD (l:=ps.take _),List.getElem?_take,if_pos hf,←zD] at h1
theorem tV{rs:List Int}{ps:List PolyT}:∀f t,aX rs t->bR rs (ps.take rs.length) f t=bR rs ps f t
 | 0,_,_=>by unfold bR;rfl
 | f+1,t,ht=>by
  have hl:=ht.low (show 0<t.length from ht.2.1.1)
  by_cases h:t.getD 0 default<0
  ·rw[kR h,kR h]
  ·rw[lZ h,lZ h]
   have e:(ps.take rs.length).getD (t.getD 0 default).toNat default=ps.getD (t.getD 0 default).toNat default:=by
    rw[zD,List.getElem?_take,if_pos (by have:=hl.1.2;omega),←zD]
   rw[e]
   exact rM (λj hj=>by show (bR rs (ps.take rs.length) f (jV rs t j)).1=(bR rs ps f (jV rs t j)).1;rw[tV f _ (i7 ht hj).1]) λj hj=>by show (bR rs (ps.take rs.length) f (jV rs t j)).2=(bR rs ps f (jV rs t j)).2;rw[tV f _ (i7 ht hj).1]
theorem aSx{rs:List Int}{ps:List PolyT}{t:List Int}(ht:aX rs t):aEU rs ps rs.length 60 t=eT rs ps t:=by
 by_cases h:t.getD 0 default<0
 ·rw[x9 h,aAn h]
 ·rw[y5 h,y9 h,Int.add_comm]
  exact rM (λj hj=>by show (bR rs ps 60 (jV rs t j)).1=(bR rs (ps.take rs.length) 60 (jV rs t j)).1;rw[tV 60 _ (i7 ht hj).1]) λj hj=>by show (bR rs ps 60 (jV rs t j)).2=(bR rs (ps.take rs.length) 60 (jV rs t j)).2;rw[tV 60 _ (i7 ht hj).1]
def aV9:List (Nat×List Nat):=[(0,[1,2,3,6]),(1,[6,7])]
attribute [go_sem] aV9
theorem aJg(rs:List Int)(ps:List PolyT)(t:List Int)(hM:e7 rs ps)(hT:aX rs t):FC S 144 [] [] [] [.agg [.sl .any (rs.map (.int .i64))],.sl .any (ps.map bS),.sl .any (t.map (.int .i64))] (.tup [bS (eT rs ps t).1,.bool (eT rs ps t).2]) [] []:=by
 have hl:=hT.low (show 0<t.length from hT.2.1.1)
 have hs:=hM.ps.1.1.1
 have hm:=hM.1
 have c:=uI rs ps t hT hM.ps rs.length (by omega) 60 0 hT.2.1.1 (λh=>⟨by omega,by rw[Int.add_comm];exact yK hM h hl.1.2⟩) (λq h1 h2 h3=>aEX rs ps t hT hM.ps 60 q h2 h3) (by rw[kN hT];have:=hT.2.1.2;omega)
 rw[kN hT,aSx hT] at c
 refine aP Tryz.func144 rfl (by kernel_rfl) (by simp[Tryz.f144]) λB=>?_
 simp only[Tryz.ntmps144,aS,aZ,Nat.reduceAdd]
 repeat' first|apply aE|refine aI 0 aV9 λK hK=>?_|((first|apply aD|refine aA (aO ?_)|apply aA);simp(disch:=apply aB;omega)only[go_sem,Tryz.results144])|(apply hK.nil;clear hK K;simp only[go_sem])|refine hK.c0 rfl rfl rfl (c) rfl rfl rfl ?_|fail
def aV4:List (Nat×List Nat):=[(0,[1,2,3,6]),(1,[1,2,3,6,17]),(2,[6,7]),(3,[6,7])]
attribute [go_sem] aV4
theorem qC(rs:List Int)(ps:List PolyT)(t:List Int)(hM:e7 rs ps)(hT:aX rs t):FC S 124 [] [] [] [.agg [.sl .any (rs.map (.int .i64))],.sl .any (ps.map bS),.sl .any (t.map (.int .i64))] (.tup [bS (eT rs ps t).1,.bool (eT rs ps t).2]) [] []:=by
 have hs:=hT.1.1
 refine aP Tryz.func124 rfl (by kernel_rfl) (by simp[Tryz.f124]) λB=>?_
 simp only[Tryz.ntmps124,aS,aZ,Nat.reduceAdd]
 repeat' first|((exact absurd hM (by assumption)))|((exact absurd hT (by assumption)))|apply aE|apply aJ|refine aI 0 aV4 λK hK=>?_|((first|apply aD|refine aA (aO ?_)|apply aA);simp(disch:=apply aB;omega)only[go_sem,Tryz.results124])|(apply hK.nil;clear hK K;simp only[go_sem])|((first|refine aH rfl rfl rfl rfl rfl ?_ ?_|refine aF rfl ?_ ?_)<;>intro h<;>try simp(disch:=apply aB;omega)only[go_sem] at h)|refine hK.c0 rfl rfl rfl (aBu _ _ (by omega)) rfl rfl rfl ?_|refine hK.c0 rfl rfl rfl (t8 _ _ _ _) rfl rfl rfl ?_|refine hK.c0 rfl rfl rfl (aJg rs ps t hM hT) rfl rfl rfl ?_|fail
open Classical in
noncomputable def aSd(rs:List Int)(ps:List PolyT)(p:DepPairT):Bool×Bool:=if (eT rs ps p.r).2=true/\(eT rs ps p.l).2=true then aFk (eT rs ps p.r).1 (eT rs ps p.l).1 else (false,false)
theorem aON{rs:List Int}{ps:List PolyT}{p:DepPairT}:(aSd rs ps p).2=tst (tY rs ps p):=by
 unfold aSd tY
 split
 ·rename_i h
  by_cases hm:uF (eT rs ps p.r).1 (eT rs ps p.l).1
  ·rw[tD hm]
   exact kG ⟨λe=>⟨h,hm,e⟩,λe=>e.2.2⟩
  ·rw[vS hm,bH λe=>hm e.2.1]
 ·rename_i h
  rw[bH λe=>h e.1]
theorem aPv{rs:List Int}{ps:List PolyT}{p:DepPairT}:(aSd rs ps p).1=tst (aBl rs ps p):=by
 unfold aSd aBl
 split
 ·rename_i h
  by_cases hm:uF (eT rs ps p.r).1 (eT rs ps p.l).1
  ·rw[tD hm]
   exact kG ⟨λe=>⟨h,hm,e⟩,λe=>e.2.2⟩
  ·rw[vS hm,bH λe=>hm e.2.1]
 ·rename_i h
  rw[bH λe=>h e.1]
def aXg:List (Nat×List Nat):=[(0,[1,3,5]),(1,[1,3,5,8,9]),(2,[8,9,10,11]),(3,[8,10,33]),(4,[6,7]),(5,[6,7])]
attribute [go_sem] aXg
theorem aDi(rs:List Int)(ps:List PolyT)(p:DepPairT)(hM:e7 rs ps)(hp:jN rs p):FC S 94 [] [] [] [.agg [.sl .any (rs.map (.int .i64))],.sl .any (ps.map bS),bK p] (.tup [.bool (tst (aBl rs ps p)),.bool (tst (tY rs ps p))]) [] []:=by
 have c1:=qC rs ps p.r hM hp.1.2
 have c2:=qC rs ps p.l hM hp.1.1
 rw[←aON,←aPv]
 unfold aSd
 generalize eT rs ps p.r=a at *
 generalize eT rs ps p.l=b at *
 obtain⟨a,oa⟩:=a
 obtain⟨b,ob⟩:=b
 dsimp only at c1 c2 ⊢
 by_cases hnb:oa=true/\ob=true
 ·rw[if_pos hnb]
  obtain⟨rfl,rfl⟩:=hnb
  refine aP Tryz.func94 rfl (by kernel_rfl) (by simp[Tryz.f94]) λB=>?_
  simp only[Tryz.ntmps94,aS,aZ,Nat.reduceAdd]
  repeat' first|apply aE|apply aJ|refine aI 0 aXg λK hK=>?_|((first|apply aD|refine aA (aO ?_)|apply aA);simp(disch:=apply aB;omega)only[go_sem,Tryz.results94])|(apply hK.nil;clear hK K;simp only[go_sem])|((first|refine aH rfl rfl rfl rfl rfl ?_ ?_|refine aF rfl ?_ ?_)<;>intro h<;>try simp(disch:=apply aB;omega)only[go_sem] at h)|refine hK.c0 rfl rfl rfl (c1) rfl rfl rfl ?_|refine hK.c0 rfl rfl rfl (c2) rfl rfl rfl ?_|refine hK.c0 rfl rfl rfl (aEV a b) rfl rfl rfl ?_|fail
 ·rw[if_neg hnb]
  refine aP Tryz.func94 rfl (by kernel_rfl) (by simp[Tryz.f94]) λB=>?_
  simp only[Tryz.ntmps94,aS,aZ,Nat.reduceAdd]
  repeat' first|((exact absurd ⟨(by assumption),(by assumption)⟩ hnb))|apply aE|refine aI 0 aXg λK hK=>?_|((first|apply aD|refine aA (aO ?_)|apply aA);simp(disch:=apply aB;omega)only[go_sem,Tryz.results94])|(apply hK.nil;clear hK K;simp only[go_sem])|((first|refine aH rfl rfl rfl rfl rfl ?_ ?_|refine aF rfl ?_ ?_)<;>intro h<;>try simp(disch:=apply aB;omega)only[go_sem] at h)|refine hK.c0 rfl rfl rfl (c1) rfl rfl rfl ?_|refine hK.c0 rfl rfl rfl (c2) rfl rfl rfl ?_|fail
  all_goals exact absurd ⟨(by assumption),(by assumption)⟩ hnb
theorem aPG{rs:List Int}{ps:List PolyT}{s t:List Int}:(aS0 rs ps s t).1=tst (nM rs ps s t):=by
 unfold aS0 nM
 split
 ·rename_i h
  by_cases hm:uF (bR rs ps 60 s).1 (bR rs ps 60 t).1
  ·rw[tD hm]
   exact kG ⟨λe=>⟨h,hm,e⟩,λe=>e.2.2⟩
  ·rw[vS hm,bH λe=>hm e.2.1]
 ·rename_i h
  rw[bH λe=>h e.1]
theorem t7(x:SystemT)(ps:List PolyT)(hx:b7 x)(hQ:aD3 x.sig ps):FC S 93 [] [] [] [bP x,.sl .any (ps.map bS),.bool false] (.bool (tst (∀j<x.rules.length,nM x.sig ps (x.rules.getD j default).r (x.rules.getD j default).l))) [] []:=by
 have h12:=hx.1.2
 refine aP Tryz.func93 rfl (by kernel_rfl) (by simp[Tryz.f93]) λB=>?_
 simp only[Tryz.ntmps93,aS,aZ,Nat.reduceAdd]
 repeat' first|apply aE|apply aG|refine aI 0 aVd λK hK=>?_|((first|apply aD|refine aA (aO ?_)|apply aA);simp(disch:=apply aB;omega)only[go_sem,Tryz.results93])|(apply hK.nil;clear hK K;simp only[go_sem])|fail
 refine bB (ι:=Nat) (λi=>[(14,.int .i64 i)]) (λ_=>[]) (λi=>i≤x.rules.length/\(∀j<i,nM x.sig ps (x.rules.getD j default).r (x.rules.getD j default).l)) (λi=>x.rules.length-i) 0 (by(refine aC rfl rfl ?_ ?_ ?_ ?_<;>simp(disch:=apply aB;omega)only[go_sem]<;>(try omega))) ⟨by omega,?_⟩ (λi ⟨hi,hj⟩=>?_)
 rotate_left
 simp only[go_sem]
 by_cases hil:i<x.rules.length
 ·have hr:=hx.2 i hil
  have c:=aBr x.sig ps (x.rules.getD i default).r (x.rules.getD i default).l hQ hr.1.2.1 hr.1.1
  rw[aPG] at c
  repeat' first|((exfalso;omega))|apply aE|apply aG|apply aM|apply aJ|refine aI 0 aVd λK hK=>?_|((first|apply aD|refine aA (aO ?_)|apply aA);simp(disch:=apply aB;omega)only[go_sem,Tryz.results93])|(apply hK.nil;clear hK K;simp only[go_sem])|((first|refine aH rfl rfl rfl rfl rfl ?_ ?_|refine aF rfl ?_ ?_)<;>intro h<;>try simp(disch:=apply aB;omega)only[go_sem] at h)|apply aL|refine hK.c0 rfl rfl rfl (c) rfl rfl rfl ?_|(with_reducible refine And.intro (by first|omega|(simp only[lens];omega)) ?_)|fail
  ·exact λhall=>absurd (hall i hil) (by assumption)
  ·exact⟨i+1,(by(refine aC rfl rfl ?_ ?_ ?_ ?_<;>simp(disch:=apply aB;omega)only[go_sem]<;>(try omega))),⟨by omega,bJ hj (by assumption)⟩,by omega⟩
 ·repeat' first|((exfalso;omega))|apply aE|refine aI 0 aVd λK hK=>?_|((first|apply aD|refine aA (aO ?_)|apply aA);simp(disch:=apply aB;omega)only[go_sem,Tryz.results93])|(apply hK.nil;clear hK K;simp only[go_sem])|((first|refine aH rfl rfl rfl rfl rfl ?_ ?_|refine aF rfl ?_ ?_)<;>intro h<;>try simp(disch:=apply aB;omega)only[go_sem] at h)|refine aT rfl ?_|fail
  exact λj hj'=>hj j (by omega)
 ·intro j hj';omega
def aIb:List (Nat×List Nat):=[(0,[1,2,3,4]),(1,[1,2,3,4,23]),(2,[8,9]),(3,[1,2,3,4,10]),(4,[1,3,4,10,24,25,26]),(5,[1,3,4,10,24,25,26,27]),(6,[1,3,4,10,12,24,25,26]),(7,[1,3,4,10,12,13,14,24,25,26]),(8,[1,3,4,10,12,14,24,25,26,42]),(9,[8,9]),(10,[1,3,4,10,12,24,25,26,43]),(11,[1,3,4,10,24,25,26]),(12,[1,3,4,10,24,25,26]),(13,[8,9])]
attribute [go_sem] aIb
theorem uE(p:List Nat)(hp:p≠[])(x:SystemT)(P:List DepPairT)(set:List Int)(ps:List PolyT)(hA:kU x (ps.take x.sig.length))(hM:e7 x.sig ps)(hP:∀p∈P,jN x.sig p)(hS:fI set P.length)(hl:P.length≤64):FC S 57 [] [] [] [bP x,.sl .any (P.map bK),.sl .any (set.map (.int .i64)),.sl .any (ps.map bS)] (.tup [fO p (wR x.sig P set ps).1,.bool (wR x.sig P set ps).2]) [] []:=by
 have hsl:=lO hS
 have hm:=hM.1
 have hat:∀i<set.length,(0≤set.getD i default/\set.getD i default<P.length)/\jN x.sig (P.getD (set.getD i default).toNat default):=λi hi=>by
  have h:=(hS i hi).1
  exact⟨h,hP _ (bA P _ (by omega))⟩
 refine aP Tryz.func57 rfl (by kernel_rfl) (by simp[Tryz.f57]) λB=>?_
 simp only[Tryz.ntmps57,aS,aZ,Nat.reduceAdd]
 repeat' first|((exact absurd hA.2 (by assumption)))|apply aE|apply aG|apply aJ|refine aI 0 aIb λK hK=>?_|refine aY aIb (by kernel_rfl) λK hK=>?_|((first|apply aD|apply aK|refine aA (aO ?_)|apply aA);simp(disch:=apply aB;omega)only[go_sem,Tryz.results57])|(apply hK.nil;clear hK K;simp only[go_sem])|((first|refine aF rfl ?_ ?_)<;>intro h<;>try simp(disch:=apply aB;omega)only[go_sem] at h)|refine hK.c0 rfl rfl rfl (t7 x (ps.take x.sig.length) hA.1.1 hA.1.2.ps) rfl rfl rfl ?_|(with_reducible refine And.intro (by first|omega|(simp only[lens];omega)) ?_)|fail
 refine dW 10 48000 2 1 rfl (.inl rfl) rfl ?_
 simp only[go_sem]
 refine bG (ι:=Nat) (λi=>[(26,.int .i64 i),(10,.sl (.own 48000 2 1) ((wL x.sig P set ps i).map (.int .i64)))]) (λ_=>[]) (λ_=>[48000]) (λi=>i≤set.length/\∀j<i,aBl x.sig ps (P.getD (set.getD j default).toNat default)) (λi=>set.length-i) 0 (by(refine aC rfl rfl ?_ ?_ ?_ ?_<;>simp(disch:=apply aB;omega)only[go_sem]<;>(try omega));all_goals exact⟨rfl,rfl⟩) ⟨by omega,λj hj=>absurd hj (by omega)⟩ (λi hi=>?_)
 obtain⟨hi,hj⟩:=hi
 simp only[go_sem]
 have hwl:=aLT x.sig P set ps i
 by_cases hil:i<set.length
 ·have hq:=hat i hil
  have h1:=hq.1
  repeat' first|((exfalso;omega))|apply aE|apply aG|apply aM|apply aJ|refine aI 0 aIb λK hK=>?_|refine aY aIb (by kernel_rfl) λK hK=>?_|((first|apply aD|apply aK|refine aA (aO ?_)|apply aA);simp(disch:=apply aB;omega)only[go_sem,Tryz.results57])|(apply hK.nil;clear hK K;simp only[go_sem])|((first|refine aF rfl ?_ ?_)<;>intro h<;>try simp(disch:=apply aB;omega)only[go_sem] at h)|apply aL|refine hK.c0 rfl rfl rfl (aDi x.sig ps (P.getD (set.getD i default).toNat default) hM hq.2) rfl rfl rfl ?_|(with_reducible refine And.intro (by first|omega|(simp only[lens];omega)) ?_)|fail
  ·rw[aTI λe=>h (e i hil)]
   first|exact⟨rfl,rfl⟩|exact⟨dR _,rfl⟩|(refine⟨?_,rfl⟩;simp[le0])
  ·exact⟨i+1,(by(refine aC rfl rfl ?_ ?_ ?_ ?_<;>simp(disch:=apply aB;omega)only[go_sem]<;>(try omega));rw[aHj (by assumption)];exact⟨rfl,by omega⟩),⟨by omega,bJ hj (by assumption)⟩,by omega⟩
  ·exact⟨i+1,(by(refine aC rfl rfl ?_ ?_ ?_ ?_<;>simp(disch:=apply aB;omega)only[go_sem]<;>(try omega));rw[aNv (by assumption)];exact⟨rfl,by omega⟩),⟨by omega,bJ hj (by assumption)⟩,by omega⟩
 ·repeat' first|((exfalso;omega))|(refine yR 10 p (k:=48000) rfl (by simp) hp ?_;simp only[go_sem])|apply aE|refine aI 0 aIb λK hK=>?_|((first|apply aD|apply aK|refine aA (aO ?_)|apply aA);simp(disch:=apply aB;omega)only[go_sem,Tryz.results57])|(apply hK.nil;clear hK K;simp only[go_sem])|((first|refine aF rfl ?_ ?_)<;>intro h<;>try simp(disch:=apply aB;omega)only[go_sem] at h)|refine aT rfl ?_|fail
  rw[aGk λj hj'=>hj j (by omega),show i=set.length by omega]
  exact⟨rfl,rfl⟩
theorem aMu(x:SystemT)(P:List DepPairT)(set:List Int)(ps:List PolyT)(p:List Nat)(hx:b7 x)(hA:¬kU x (ps.take x.sig.length))(hM:e7 x.sig ps):FC S 57 [] [] [] [bP x,.sl .any (P.map bK),.sl .any (set.map (.int .i64)),.sl .any (ps.map bS)] (.tup [fO p [],.bool false]) [] []:=by
 have hm:=hM.1
 refine aP Tryz.func57 rfl (by kernel_rfl) (by simp[Tryz.f57]) λB=>?_
 simp only[Tryz.ntmps57,aS,aZ,Nat.reduceAdd]
 repeat' first|((exact absurd ⟨⟨hx,hM.2.1⟩,by assumption⟩ hA))|apply aE|refine aI 0 aIb λK hK=>?_|refine aY aIb (by kernel_rfl) λK hK=>?_|((first|apply aD|apply aK|refine aA (aO ?_)|apply aA);simp(disch:=apply aB;omega)only[go_sem,Tryz.results57])|(apply hK.nil;clear hK K;simp only[go_sem])|((first|refine aF rfl ?_ ?_)<;>intro h<;>try simp(disch:=apply aB;omega)only[go_sem] at h)|refine hK.c0 rfl rfl rfl (t7 x (ps.take x.sig.length) hx hM.2.1.ps) rfl rfl rfl ?_|(with_reducible refine And.intro (by first|omega|(simp only[lens];omega)) ?_)|fail
def rS(l:List Nat)(r:RuleT):D:=.agg [.sl (.lab l) (r.l.map (.int .i64)),.sl (.lab l) (r.r.map (.int .i64))]
def kV(l:List Nat)(x:SystemT):D:=.agg [.sl (.lab l) (x.sig.map (.int .i64)),.sl (.lab l) (x.rules.map (rS l))]
def o6(l:List Nat)(p:DepPairT):D:=.agg [.sl (.lab l) (p.l.map (.int .i64)),.sl (.lab l) (p.r.map (.int .i64)),.int .i64 p.rule,.int .i64 p.at_]
attribute [go_sem] rS kV o6
theorem aUP(l:List Nat)(r:RuleT):(fT r).lb l=rS l r:=by simp only[fT,rS,D.lbL,D.lb,lH]
theorem aLr(l:List Nat)(r:DepPairT):(bK r).lb l=o6 l r:=by simp only[bK,o6,D.lbL,D.lb,lH]
theorem aAm(l:List Nat)(x:SystemT):(bP x).lb l=kV l x:=by simp only[bP,kV,D.lbL,D.lb,lH,oK,aUP]
theorem kA(xs:List Int):D.okLbL (xs.map (.int .i64))=true:=iV (λ_=>rfl) xs
theorem aPc(r:RuleT):(fT r).okLb=true:=by simp[fT,D.okLb,D.okLbL,kA]
theorem aCq(r:DepPairT):(bK r).okLb=true:=by simp[bK,D.okLb,D.okLbL,kA]
theorem rT(x:SystemT):(bP x).okLb=true:=by simp[bP,D.okLb,D.okLbL,kA,iV aPc]
theorem tR(l:List Nat)(x:SystemT):D.le (kV l x) (bP x):=aAm l x ▸ aVZ l (rT x)
theorem xO(l:List Nat)(P:List DepPairT):D.le (.sl (.lab l) (P.map (o6 l))) (.sl .any (P.map bK)):=by
 have h:=aVZ l (d:=.sl .any (P.map bK)) (by simp[D.okLb,iV aCq])
 simpa only[D.lb,oK,aLr] using h
theorem vZ(l:List Nat)(rs:List Int):D.le (.agg [.sl (.lab l) (rs.map (.int .i64))]) (.agg [.sl .any (rs.map (.int .i64))]):=by
 rw[aMA];exact⟨.any,trivial⟩
theorem fJ(q tk:List Nat)(xs:List Int):D.safePL q tk (xs.map (.int .i64))=true:=kI (λ_=>rfl) xs
theorem aFO{q l tk:List Nat}(h:l≠q)(r:RuleT):(rS l r).safeP q tk=true:=by simp[rS,D.safeP,D.safePL,fJ,h]
theorem aHO{q l tk:List Nat}(h:l≠q)(r:DepPairT):(o6 l r).safeP q tk=true:=by simp[o6,D.safeP,D.safePL,fJ,h]
def tI(hs:List Int)(i:Nat):Int:=min (fQ hs i) 20001
theorem aWH{hs:List Int}(hh:∀h∈hs,0≤h/\h≤1){i:Nat}(hi:i≤hs.length):(1≤tI hs i/\tI hs i≤20001)/\(tI hs i≤20000↔fQ hs i≤20000):=by
 have:=lV hh i hi
 unfold tI
 rw[Int.min_def];split<;>omega
theorem aVu{hs:List Int}(hh:∀h∈hs,0≤h/\h≤1){i:Nat}(hi:i<hs.length):min (tI hs i*(hs.getD i default+1)) 20001=tI hs (i+1):=by
 have h0:=lV hh i (by omega)
 have hd:=hh _ (bA hs i hi)
 have e:fQ hs (i+1)=fQ hs i*(hs.getD i default+1):=rfl
 unfold tI
 rw[e]
 rcases (show hs.getD i default=0∨hs.getD i default=1 by omega) with e1|e1<;>rw[e1]<;>simp only[Int.min_def]<;>repeat' split
 all_goals omega
theorem l8(k:IntKind)(xs:List Int):D.idsL (xs.map (.int k))=[]:=by
 induction xs with
 | nil=>rfl
 | cons x r ih=>simp[D.idsL,D.ids,ih]
theorem yM(k:IntKind)(xs:List Int):D.tksL (xs.map (.int k))=[]:=by
 induction xs with
 | nil=>rfl
 | cons x r ih=>simp[D.tksL,D.tks,ih]
theorem yY(p:Nat->Bool)(k:IntKind)(xs:List Int):(xs.map (.int k)).all (D.puOk p)=true:=by
 rw[List.all_map]
 exact List.all_eq_true.2 λ_ _=>rfl
theorem aFn(o:Nat)(k:IntKind)(xs:List Int):D.shTL o (xs.map (.int k))=xs.map (.int k):=by
 induction xs with
 | nil=>rfl
 | cons x r ih=>simp[D.shTL,D.shT,ih]
end
section
attribute [local irreducible] SW bC bE dE bU FC dO toF dP fV
attribute [local go_sem] l8 PL
def vP:List (Nat×List Nat):=[(0,[1,2]),(1,[1,2,6,7]),(2,[1,2,6,28]),(3,[4,5]),(4,[1,2,8]),(5,[1,2,8,9]),(6,[1,2,8,9,10]),(7,[1,2,8,9,10,39]),(9,[1,2,8,9,10,44]),(10,[1,2,8,9,10,51]),(11,[4,5]),(12,[1,2,8,9,10]),(13,[1,2,8,9,10]),(8,[1,2,8,9,10]),(14,[1,2,9,11]),(15,[1,2,9,59]),(16,[1,2,9,12,13]),(17,[1,2,9,72]),(18,[4,5]),(19,[1,2,9,11]),(20,[1,2,9,11,14]),(21,[1,2,9,11,14,82]),(23,[1,2,9,11,14,103]),(24,[1,2,9,14]),(25,[1,2,9,11,14]),(26,[1,2,9,11,14,114]),(27,[1,2,9,11,14]),(22,[1,2,9,11,14]),(28,[4,5])]
attribute [go_sem] vP
theorem v6(x:SystemT)(set:List Int):FCO S [1] 85 [kV [1] x,.sl (.lab [1]) (set.map (.int .i64))] (.tup [.sl .any ((vN x set).1.map (.int .i64)),.bool (vN x set).2]) []:=by
  have cP:=(iI x).args (args:=[kV [1] x]) ⟨tR _ _,trivial⟩
  rcases Classical.em (m8 x set) with hW|hW
  · rw[aDu hW]
    obtain⟨hx,hS⟩:=hW
    have hPj:∀l,p8 x.sig l->aJZ x set l=jR x.sig (bL x) set l:=λl h=>aAx ⟨⟨hx,hS⟩,h⟩
    rw[fA hx] at cP
    have h12:=hx.1.1.2
    have hsg:=hx.1.1.1
    have hs8:=hsg.1.2
    have h64:(bL x).length≤64:=hx.2
    have hP:=kZ hx
    generalize hA:bL x=P at *
    have hfb:=@vD x.sig P set
    have hfo:=@aAl x.sig P set
    generalize gG x.sig P set=o at *
    have hmem:=λf=>aHa P set f set.length
    have cH:=(aBk x.sig P set hP hS h64).args (args:=[.sl .any (P.map bK),.sl (.lab [1]) (set.map (.int .i64))]) ⟨.refl _,.any,trivial⟩
    have cS:=(iE set P.length (by omega)).args (args:=[.sl (.lab [1]) (set.map (.int .i64)),.int .i64 P.length]) ⟨.any,.refl _,trivial⟩
    generalize hH:fC P set set.length=H at *
    generalize hdL P set set.length=hd0 at *
    refine rH Tryz.func85 rfl (by kernel_rfl) (by simp[Tryz.f85]) λB hOld=>?_
    simp only[Tryz.ntmps85,aS,aZ,Nat.reduceAdd]
    repeat' first|((exact absurd hS (by assumption)))|apply aE|apply aG|apply aJ|refine aI 0 vP λK hK=>?_|((first|apply aD|apply aK|refine aA (aO ?_)|apply aA);simp(disch:=apply aB;omega)only[go_sem,Tryz.results85])|(apply hK.nil;clear hK K;simp only[go_sem])|((first|refine aH rfl rfl rfl rfl rfl ?_ ?_|refine aN rfl rfl rfl rfl rfl ?_ ?_|refine aF rfl ?_ ?_)<;>intro h<;>try simp(disch:=apply aB;omega)only[go_sem] at h)|refine hK.c0 rfl rfl rfl (cP) rfl rfl rfl ?_|refine hK.c0 rfl rfl rfl (cS) rfl rfl rfl ?_|refine hK.c0 rfl rfl rfl (cH) rfl rfl rfl ?_|fail
    refine dW 9 56000 2 1 rfl (.inr rfl) rfl ?_
    simp only[go_sem]
    refine bG (ι:=Nat) (λf=>[(10,.int .i64 f),(9,.sl (.own 56000 2 1) ((aDo x.sig H f).map (.int .i64)))]) (λ_=>[]) (λ_=>[56000]) (λf=>f≤x.sig.length/\¬aJH x.sig H f) (λf=>x.sig.length-f) 0 (by(refine aC rfl rfl ?_ ?_ ?_ ?_<;>simp(disch:=apply aB;omega)only[go_sem]<;>(try omega));all_goals exact⟨rfl,rfl⟩) ⟨by omega,λ⟨i,hi,_⟩=>absurd hi (Nat.not_lt_zero _)⟩ (λf hf=>?_)
    obtain⟨hf,hnb⟩:=hf
    simp only[go_sem]
    have hll:=aT0 x.sig H f
    by_cases hfl:f<x.sig.length
    · have hmf:=hmem f
      repeat' first|((refine jJ 59000 56000 rfl rfl ?_;simp only[go_sem]))|((exfalso;omega))|apply aE|apply aG|apply aM|apply aJ|refine aI 0 vP λK hK=>?_|((first|apply aD|apply aK|refine aA (aO ?_)|apply aA);simp(disch:=apply aB;omega)only[go_sem,Tryz.results85])|(apply hK.nil;clear hK K;simp only[go_sem])|((first|refine aH rfl rfl rfl rfl rfl ?_ ?_|refine aN rfl rfl rfl rfl rfl ?_ ?_|refine aF rfl ?_ ?_)<;>intro h<;>try simp(disch:=apply aB;omega)only[go_sem] at h)|apply aL|refine hK.c0 rfl rfl rfl (gD _ _ _) rfl rfl rfl ?_|(with_reducible refine And.intro (by first|omega|(simp only[lens];omega)) ?_)|fail
      · rw[hfb ⟨f,hfl,hmf.1 (by assumption),by assumption⟩]
        exact⟨rfl,rfl⟩
      · have hHf:H f:=hmf.1 (by assumption)
        have hz:¬x.sig.getD f default=0:=by assumption
        exact⟨f+1,(by(refine aC rfl rfl ?_ ?_ ?_ ?_<;>simp(disch:=apply aB;omega)only[go_sem]<;>(try omega));rw[aEl hHf];exact⟨rfl,by omega⟩),⟨by omega,λ⟨i,hi,h1,h2⟩=>by
          rcases Nat.lt_or_ge i f with h3|h3
          · exact hnb ⟨i,h3,h1,h2⟩
          · obtain rfl:i=f:=by omega
            exact hz h2⟩,by omega⟩
      · have hHf:¬H f:=λe=>absurd (hmf.2 e) (by assumption)
        exact⟨f+1,(by(refine aC rfl rfl ?_ ?_ ?_ ?_<;>simp(disch:=apply aB;omega)only[go_sem]<;>(try omega));rw[aG1 hHf];exact⟨rfl,by omega⟩),⟨by omega,λ⟨i,hi,h1,h2⟩=>by
          rcases Nat.lt_or_ge i f with h3|h3
          · exact hnb ⟨i,h3,h1,h2⟩
          · obtain rfl:i=f:=by omega
            exact hHf h1⟩,by omega⟩
    · obtain rfl:f=x.sig.length:=by omega
      have ho:=hfo hnb
      rw[aSM]
      have hok:=aLZ hsg hnb
      have hseq:=oS hok
      have hdig:=j1 hok
      have hbl:=aBG x.sig H
      obtain⟨Lw,hLw⟩:∃Lw,jX (bsP x.sig H)=Lw:=⟨_,rfl⟩
      have hLl:Lw.length=x.sig.length:=by rw[←hLw,wX,hbl]
      have hne0:Lw≠[]:=by
        intro e;rw[e] at hLl;simp only[List.length_nil] at hLl;have:=hsg.1.1;omega
      rw[hLw]
      have hst:Lw=(gL (bsP x.sig H)).headD Lw/\true=!(gL (bsP x.sig H)).isEmpty:=by
        obtain⟨r1,hr1⟩:=hseq.2
        rw[hr1,List.headD_cons,hLw]
        exact⟨rfl,rfl⟩
      repeat' first|((exfalso;omega))|apply aE|apply aG|refine aI 0 vP λK hK=>?_|((first|apply aD|apply aK|refine aA (aO ?_)|apply aA);simp(disch:=apply aB;omega)only[go_sem,Tryz.results85])|(apply hK.nil;clear hK K;simp only[go_sem])|((first|refine aH rfl rfl rfl rfl rfl ?_ ?_|refine aN rfl rfl rfl rfl rfl ?_ ?_|refine aF rfl ?_ ?_)<;>intro h<;>try simp(disch:=apply aB;omega)only[go_sem] at h)|refine aT rfl ?_|fail
      refine aSV 9 [2] (k:=56000) rfl (by simp) (by simp) hne0 ?_
      simp only[go_sem]
      refine bB (ι:=List (List Int)) (λp=>[(9,PL [2] (p.headD Lw)),(11,.bool (!p.isEmpty))]) (λp=>[]) (λp=>(wU (bsP x.sig H) p/\∀c∈p,nS (bsP x.sig H) c)/\fK (QJ x.sig P set) p=o) (λp=>p.length) (gL (bsP x.sig H)) (by(refine aC rfl rfl ?_ ?_ ?_ ?_<;>simp(disch:=apply aB;omega)only[go_sem]<;>(try omega));all_goals first|(rw[←hst.1];exact⟨dR _,hst.2⟩)|exact λ_ h=>h) ?_ (λp hp=>?_)
      rotate_left
      simp only[go_sem]
      · obtain⟨⟨hq1,hq2⟩,hq3⟩:=hp
        cases p with
        | nil =>
          obtain rfl:none=o:=hq3
          simp only[List.isEmpty_nil,Bool.not_true]
          repeat' first|apply aE|refine aI 0 vP λK hK=>?_|((first|apply aD|apply aK|refine aA (aO ?_)|apply aA);simp(disch:=apply aB;omega)only[go_sem,Tryz.results85])|(apply hK.nil;clear hK K;simp only[go_sem])|((first|refine aH rfl rfl rfl rfl rfl ?_ ?_|refine aN rfl rfl rfl rfl rfl ?_ ?_|refine aF rfl ?_ ?_)<;>intro h<;>try simp(disch:=apply aB;omega)only[go_sem] at h)|refine aT rfl ?_|fail
          exact⟨rfl,rfl⟩
        | cons a r =>
          have ha:=hq2 a zH
          have hal:a.length=(bsP x.sig H).length:=jB ha
          have hal2:a.length=x.sig.length:=by rw[hal,hbl]
          obtain⟨hn1,hn2⟩:=qH hq1
          rw[hLw] at hn1
          have hpj:=tB hsg ha
          have hne:a≠[]:=by
            intro e;rw[e] at hal2;simp only[List.length_nil] at hal2;have:=hsg.1.1;omega
          have hnl:(r.headD Lw).length=a.length:=by
            have:=(n5 (bs:=bsP x.sig H) (xs:=a) hal).1
            rw[hn1] at this
            rw[this,hal]
          have hnn:r.headD Lw≠[]:=by intro e;rw[e] at hnl;simp only[List.length_nil] at hnl;have:=hsg.1.1;omega
          simp only[List.headD_cons,List.isEmpty_cons,Bool.not_false]
          have cJ:=(mN x set a).args (args:=[kV [1] x,.sl (.lab [1]) (set.map (.int .i64)),PL [2] a]) ⟨tR _ _,.any,aNP,trivial⟩
          rw[hPj a hpj] at cJ
          have hnx:¬QJ x.sig P set a->fK (QJ x.sig P set) r=o:=λh=>by rw[←hq3,iN h]
          have hyx:QJ x.sig P set a->o=some a:=λh=>by rw[←hq3,iU h]
          have hs2:∀tk,(D.sl (.lab [1]) (set.map (.int .i64))).safeP [2] tk=true:=λtk=>by simp[D.safeP,fJ]
          have hs4:∀tk,D.safePL [2] tk [.sl (.lab [1]) (x.sig.map (.int .i64)),.sl (.lab [1]) (x.rules.map (rS [1]))]=true:=λtk=>by simp[D.safePL,D.safeP,fJ,kI (aFO (q:=[2]) (l:=[1]) (tk:=tk) (by simp))]
          repeat' first|((refine aNQ 4 (d:=PL [2] a) rfl aNP ?_;simp only[go_sem]))|((refine rY 19 [1] [2] hOld (by simp) (by simp) 9 500 rfl hne (by simp) [(1,.sl (.lab [1]) (set.map (.int .i64))),(2,.box 2 0)] [(2,[.sl (.lab [1]) (x.sig.map (.int .i64)),.sl (.lab [1]) (x.rules.map (rS [1]))])] (List.forall_mem_cons.2 ⟨⟨rfl,hs2 _,by simp[D.ids]⟩,List.forall_mem_cons.2 ⟨⟨rfl,rfl,by simp[D.ids]⟩,λq hq=>by cases hq⟩⟩) (List.forall_mem_cons.2 ⟨⟨by simp,rfl,hs4 _,by simp[D.idsL,D.ids]⟩,λq hq=>by cases hq⟩) ?_;simp only[go_sem]))|apply aE|apply aG|apply aJ|refine aI 0 vP λK hK=>?_|((first|apply aD|apply aK|refine aA (aO ?_)|apply aA);simp(disch:=apply aB;omega)only[go_sem,Tryz.results85])|(apply hK.nil;clear hK K;simp only[go_sem])|((first|refine aH rfl rfl rfl rfl rfl ?_ ?_|refine aN rfl rfl rfl rfl rfl ?_ ?_|refine aF rfl ?_ ?_)<;>intro h<;>try simp(disch:=apply aB;omega)only[go_sem] at h)|refine hK.c0 rfl rfl rfl (cJ) rfl rfl rfl ?_|fail
          · rw[hyx ⟨by assumption,by assumption⟩]
            exact⟨rfl,rfl⟩
          all_goals
            have hQ:¬QJ x.sig P set a:=λe=>by
              have e1:=e.1
              have e2:=e.2
              first
                | omega
                | (have h2 : (jR x.sig P set a).2 = false := by assumption
                   rw[h2] at e1;cases e1)
            have hor:=hnx hQ
            clear hnx hyx
            refine bB (ι:=Nat×Bool) (λp=>[(14,.int .i64 (p.1-1:Int)),(11,.bool p.2)]) (λp=>[(500,(if p.2=true then r.headD Lw else stD (bsP x.sig H) a p.1).map (.int .i64))]) (λp=>p.1≤a.length/\(p.2=false->rA (bsP x.sig H) a p.1)/\(p.2=true->r.isEmpty=false)) (λp=>p.1) (a.length,false) (by(refine aC rfl rfl ?_ ?_ ?_ ?_<;>simp(disch:=apply aB;omega)only[go_sem]<;>(try omega));all_goals first|(rw[aHg hal];done)|exact λ_ h=>h) ?_ (λp hp=>?_)
            rotate_left
            simp only[go_sem]
            · obtain⟨p,b⟩:=p
              obtain⟨hp1,hp2,hp3⟩:=hp
              dsimp only at hp1 hp2 hp3 ⊢
              have hgo:(p=0/\b=false->r.isEmpty=true/\stD (bsP x.sig H) a 0=r.headD Lw):=λ⟨h1,h2⟩=>by
                subst h1
                have e:=aLF hal (hp2 h2)
                rw[hn1] at e
                exact⟨by simpa using (Prod.mk.inj e).2,(Prod.mk.inj e).1.symm⟩
              cases b with
              | true =>
                have hre:=hp3 rfl
                simp only[if_true]
                repeat' first|((refine o4 [2] (by simp) 9 500 (n:=a.length) (ys:=r.headD Lw) rfl rfl hnl.symm hnn (by simp) ?_;simp only[go_sem]))|apply aE|apply aM|refine aI 0 vP λK hK=>?_|((first|apply aD|apply aK|refine aA (aO ?_)|apply aA);simp(disch:=apply aB;omega)only[go_sem,Tryz.results85])|(apply hK.nil;clear hK K;simp only[go_sem])|((first|refine aH rfl rfl rfl rfl rfl ?_ ?_|refine aN rfl rfl rfl rfl rfl ?_ ?_|refine aF rfl ?_ ?_)<;>intro h<;>try simp(disch:=apply aB;omega)only[go_sem] at h)|refine aT rfl ?_|apply aL|fail
                all_goals exact⟨r,(by(refine aC rfl rfl ?_ ?_ ?_ ?_<;>simp(disch:=apply aB;omega)only[go_sem]<;>(try omega));all_goals first|exact λ_ h=>h|exact⟨dR _,by simp[hre]⟩|exact dR _|(simp[hre];done)),⟨⟨hn2,λd hd=>hq2 d (zG _ hd)⟩,hor⟩,by simp⟩
              | false =>
                simp only[Bool.false_eq_true,if_false]
                cases p with
                | zero =>
                  obtain⟨hre,hz⟩:=hgo ⟨rfl,rfl⟩
                  rw[hz]
                  repeat' first|((exfalso;omega))|((refine o4 [2] (by simp) 9 500 (n:=a.length) (ys:=r.headD Lw) rfl rfl hnl.symm hnn (by simp) ?_;simp only[go_sem]))|apply aE|apply aM|refine aI 0 vP λK hK=>?_|((first|apply aD|apply aK|refine aA (aO ?_)|apply aA);simp(disch:=apply aB;omega)only[go_sem,Tryz.results85])|(apply hK.nil;clear hK K;simp only[go_sem])|((first|refine aH rfl rfl rfl rfl rfl ?_ ?_|refine aN rfl rfl rfl rfl rfl ?_ ?_|refine aF rfl ?_ ?_)<;>intro h<;>try simp(disch:=apply aB;omega)only[go_sem] at h)|refine aT rfl ?_|apply aL|fail
                  all_goals exact⟨r,(by(refine aC rfl rfl ?_ ?_ ?_ ?_<;>simp(disch:=apply aB;omega)only[go_sem]<;>(try omega));all_goals first|exact λ_ h=>h|exact⟨dR _,by simp[hre]⟩|exact dR _|(simp[hre];done)),⟨⟨hn2,λd hd=>hq2 d (zG _ hd)⟩,hor⟩,by simp⟩
                | succ k =>
                  have hk:k<a.length:=by omega
                  have hkn:k<x.sig.length:=by omega
                  have hlen:=aF1 hal hp1
                  have hg:=aG4 hal hk
                  have hbk:(bsP x.sig H).getD k default=aGP x.sig H k:=aTl hkn
                  have hdk:=aHl ha k (by rw[hbl];exact hkn)
                  rw[hbk] at hdk
                  have hnv:=hp2 rfl
                  have hark:=hsg.2 k hkn
                  have hi:((k+1:Nat):Int)-1=(k:Int):=by omega
                  rw[hi]
                  by_cases hHk:H k
                  · rw[oD hHk] at hdk hbk
                    have hd0:0≤a.getD k default/\a.getD k default≤x.sig.getD k default-1:=hdk
                    have hy:=@aNm (bsP x.sig H) a hal k hk hnv
                    have hno:=@aNw (bsP x.sig H) a hal k hk hnv
                    rw[hbk] at hy hno
                    dsimp only at hy hno
                    rw[←hg] at hd0 hy hno
                    repeat' first|((exfalso;omega))|apply aE|apply aG|apply aM|apply aJ|refine aI 0 vP λK hK=>?_|refine aY vP (by kernel_rfl) λK hK=>?_|((first|apply aD|apply aK|refine aA (aO ?_)|apply aA);simp(disch:=apply aB;omega)only[go_sem,Tryz.results85])|(apply hK.nil;clear hK K;simp only[go_sem])|((first|refine aH rfl rfl rfl rfl rfl ?_ ?_|refine aN rfl rfl rfl rfl rfl ?_ ?_|refine aF rfl ?_ ?_)<;>intro h<;>try simp(disch:=apply aB;omega)only[go_sem] at h)|apply aL|(with_reducible refine And.intro (by first|omega|(simp only[lens];omega)) ?_)|fail
                    · have e:=hy h
                      rw[hn1] at e
                      exact⟨(k,true),(by(refine aC rfl rfl ?_ ?_ ?_ ?_<;>simp(disch:=apply aB;omega)only[go_sem]<;>(try omega));all_goals first|exact λ_ h=>h|(rw[←(Prod.mk.inj e).1];done)|(exact⟨rfl,(Prod.mk.inj e).1.symm⟩)),⟨by omega,λh=>(by cases h),λ_=>by simpa using (Prod.mk.inj e).2⟩,by dsimp only;omega⟩
                    · obtain⟨n1,n2⟩:=hno (by omega)
                      exact⟨(k,false),(by(refine aC rfl rfl ?_ ?_ ?_ ?_<;>simp(disch:=apply aB;omega)only[go_sem]<;>(try omega));all_goals first|exact λ_ h=>h|(rw[←n2];done)|(exact⟨rfl,n2⟩)),⟨by omega,λ_=>n1,λh=>by cases h⟩,by dsimp only;omega⟩
                  · rw[vO hHk] at hdk hbk
                    have hd0:-1≤a.getD k default/\a.getD k default≤-1:=hdk
                    have hno:=(@aNw (bsP x.sig H) a hal k hk hnv (by rw[hbk];dsimp only;omega))
                    rw[hbk] at hno
                    dsimp only at hno
                    rw[←hg] at hd0
                    have hself:stD (bsP x.sig H) a (k+1)=stD (bsP x.sig H) a k:=by
                      rw[←hno.2]
                      have hm1:(stD (bsP x.sig H) a (k+1)).getD k default=-1:=by omega
                      have hlt:k<(stD (bsP x.sig H) a (k+1)).length:=by omega
                      rw[zD,zB hlt,Option.getD_some] at hm1
                      rw[←hm1,List.set_getElem_self]
                    repeat' first|((exfalso;omega))|apply aE|apply aG|apply aM|apply aJ|refine aI 0 vP λK hK=>?_|refine aY vP (by kernel_rfl) λK hK=>?_|((first|apply aD|apply aK|refine aA (aO ?_)|apply aA);simp(disch:=apply aB;omega)only[go_sem,Tryz.results85])|(apply hK.nil;clear hK K;simp only[go_sem])|((first|refine aH rfl rfl rfl rfl rfl ?_ ?_|refine aN rfl rfl rfl rfl rfl ?_ ?_|refine aF rfl ?_ ?_)<;>intro h<;>try simp(disch:=apply aB;omega)only[go_sem] at h)|apply aL|(with_reducible refine And.intro (by first|omega|(simp only[lens];omega)) ?_)|fail
                    exact⟨(k,false),(by(refine aC rfl rfl ?_ ?_ ?_ ?_<;>simp(disch:=apply aB;omega)only[go_sem]<;>(try omega));all_goals first|exact λ_ h=>h|(rw[←hself];done)|(exact⟨rfl,hself⟩)),⟨by omega,λ_=>hno.1,λh=>by cases h⟩,by dsimp only;omega⟩
            · exact⟨zQ _,λ_=>aCC hal,λh=>by cases h⟩
      · exact⟨⟨hseq.1,hdig⟩,ho.symm⟩
  · rw[aQy hW]
    rcases Classical.em (gH x) with hx|hx
    · rw[fA hx] at cP
      have h64:(bL x).length≤64:=hx.2
      have cS:=(iE set (bL x).length (by omega)).args (args:=[.sl (.lab [1]) (set.map (.int .i64)),.int .i64 (bL x).length]) ⟨.any,.refl _,trivial⟩
      refine rH Tryz.func85 rfl (by kernel_rfl) (by simp[Tryz.f85]) λB hOld=>?_
      simp only[Tryz.ntmps85,aS,aZ,Nat.reduceAdd]
      repeat' first|((exact absurd (show m8 x set from⟨hx,by assumption⟩) hW))|apply aE|refine aI 0 vP λK hK=>?_|((first|apply aD|apply aK|refine aA (aO ?_)|apply aA);simp(disch:=apply aB;omega)only[go_sem,Tryz.results85])|(apply hK.nil;clear hK K;simp only[go_sem])|((first|refine aH rfl rfl rfl rfl rfl ?_ ?_|refine aN rfl rfl rfl rfl rfl ?_ ?_|refine aF rfl ?_ ?_)<;>intro h<;>try simp(disch:=apply aB;omega)only[go_sem] at h)|refine hK.c0 rfl rfl rfl (cP) rfl rfl rfl ?_|refine hK.c0 rfl rfl rfl (cS) rfl rfl rfl ?_|fail
      all_goals exact⟨rfl,rfl⟩
    · rw[iD hx] at cP
      refine rH Tryz.func85 rfl (by kernel_rfl) (by simp[Tryz.f85]) λB hOld=>?_
      simp only[Tryz.ntmps85,aS,aZ,Nat.reduceAdd]
      repeat' first|apply aE|refine aI 0 vP λK hK=>?_|((first|apply aD|apply aK|refine aA (aO ?_)|apply aA);simp(disch:=apply aB;omega)only[go_sem,Tryz.results85])|(apply hK.nil;clear hK K;simp only[go_sem])|((first|refine aH rfl rfl rfl rfl rfl ?_ ?_|refine aN rfl rfl rfl rfl rfl ?_ ?_|refine aF rfl ?_ ?_)<;>intro h<;>try simp(disch:=apply aB;omega)only[go_sem] at h)|refine hK.skp rfl rfl ?_|refine hK.c0 rfl rfl rfl (cP) rfl rfl rfl ?_|fail
      all_goals exact⟨rfl,rfl⟩
end
end Go.Proofs.YtpennhjjnlkbiaaGreat
