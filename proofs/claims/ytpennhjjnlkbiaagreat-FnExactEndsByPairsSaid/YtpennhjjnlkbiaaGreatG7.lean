/-
  U16, U20, P20, P21, P22, A17j, A23c, A23f, A23g, P23, one behind the other.
-/
import Derived.Test.YtpennhjjnlkbiaaGreatG6
import Derived.Test.YtpennhjjnlkbiaaGreatG4
import Derived.Test.YtpennhjjnlkbiaaGreatSet
import Derived.Test.YtpennhjjnlkbiaaGreatG3
import Derived.Test.YtpennhjjnlkbiaaGreatG1
namespace Go.Proofs.YtpennhjjnlkbiaaGreat
open Go Go.Lg
set_option linter.unusedSimpArgs false
set_option linter.unusedVariables false
set_option maxHeartbeats 4000000
section
noncomputable def mD(rs:List Int):Nat->Bds->List (List Int×List Int)->Option Bool
 | 0,_,_=>none
 | n+1,β,ps=>match ps.getLast? with
  | none=>some true
  | some p=>match dG β 60 p.1,dG β 60 p.2 with
   | some u,some v =>
    if hd u=hd v/\hd u<0 then mD rs n β ps.dropLast
    else if hd u<0 then (if tst (lI β (hd u) v)=true then some false else mD rs n (β.set (vIx (hd u)) v) ps.dropLast)
    else if hd v<0 then (if tst (lI β (hd v) u)=true then some false else mD rs n (β.set (vIx (hd v)) u) ps.dropLast)
    else if hd u≠hd v then some false
    else mD rs n β (ps.dropLast++dS rs u v)
   | _,_=>none
theorem oP{rs:List Int}{β:Bds}(hβ:BOK rs β)(hA:Acy β){t:List Int}(hT:XT rs t):∃u,dG β 60 t=some u/\XT rs u/\(hd u<0->β.getD (vIx (hd u)) default=[])/\∀σ,Sat σ β->ap σ u=ap σ t:=by
 obtain⟨r,hr,h48⟩:=sD hβ hA
 obtain⟨u,h1,h2,h3,h4,_⟩:=wO hβ hr 59 t hT (λ_=>by have:=h48 (vIx (hd t));omega)
 exact⟨u,h1,h2,h3,h4⟩
def wt(σ:Int->List Int)(ps:List (List Int×List Int)):Nat:=(ps.map λp=>(ap σ p.1).length).sum
theorem aKY(σ:Int->List Int)(ps qs:List (List Int×List Int)):wt σ (ps++qs)=wt σ ps+wt σ qs:=by simp[wt]
theorem aSS{rs a b:List Int}{σ:Int->List Int}(hA:XT rs a)(h0:0≤hd a):wt σ (dS rs a b)+1=(ap σ a).length:=by
 rw[←aFq hA h0,←lY rs a b]
 simp[wt,List.map_map,Function.comp_def]
theorem aKP(σ:Int->List Int)(ps:List (List Int×List Int))(p:List Int×List Int):j9 σ (ps++[p])↔j9 σ ps/\ap σ p.1=ap σ p.2:=by
 simp only[j9,zP,zN]
 exact⟨λh=>⟨λq hq=>h q (.inl hq),h p (.inr rfl)⟩,λh q hq=>hq.elim (h.1 q) λe=>e ▸ h.2⟩
theorem aQh(σ:Int->List Int)(ps qs:List (List Int×List Int)):j9 σ (ps++qs)↔j9 σ ps/\j9 σ qs:=by
 simp only[j9,zP]
 exact⟨λh=>⟨λq hq=>h q (.inl hq),λq hq=>h q (.inr hq)⟩,λh q hq=>hq.elim (h.1 q) (h.2 q)⟩
theorem nA.congr{rs:List Int}{β:Bds}{P Q:(Int->List Int)->Prop}(h:∀σ,GS rs σ->Sat σ β->(P σ↔Q σ)):nA rs β P↔nA rs β Q :=
 ⟨λ⟨σ,h1,h2,h3⟩=>⟨σ,h1,h2,(h σ h1 h2).1 h3⟩,λ⟨σ,h1,h2,h3⟩=>⟨σ,h1,h2,(h σ h1 h2).2 h3⟩⟩
theorem l7{rs:List Int}{β:Bds}(hβ:BOK rs β)(hA:Acy β){u v:List Int}(hU:XT rs u)(hV:XT rs v)(hu:hd u<0)(hb:β.getD (vIx (hd u)) default=[])(ho:¬lI β (hd u) v)(P:(Int->List Int)->Prop) :
  BOK rs (β.set (vIx (hd u)) v)/\Acy (β.set (vIx (hd u)) v)/\cnt (β.set (vIx (hd u)) v)<cnt β/\(nA rs (β.set (vIx (hd u)) v) P↔nA rs β λσ=>P σ/\ap σ u=ap σ v):=by
 have hx8:=(hU.get (a:=0) (by have:=hU.len;omega)).1
 have hl:vIx (hd u)<β.length:=by rw[hβ.1];exact aBT hx8 hu
 refine⟨hβ.set _ hV,aJ8 hA hl hb ho,by have:=aHx β _ v hl hb hV.ne;omega,?_⟩
 have hs:=λσ=>aJw hu hl hb hV.ne σ
 have he:∀σ,(ap σ u=ap σ v↔σ (hd u)=ap σ v):=λσ=>by
  conv=>lhs;rw[m9 hU hu]
  rw[aCH (σ:=σ) hu]
 constructor
 ·rintro⟨σ,h1,h2,h3⟩
  have:=(hs σ).1 h2
  exact⟨σ,h1,this.1,h3,(he σ).2 this.2⟩
 ·rintro⟨σ,h1,h2,h3,h4⟩
  exact⟨σ,h1,(hs σ).2 ⟨h2,(he σ).1 h4⟩,h3⟩
theorem aRp{rs:List Int}{β:Bds}{u v:List Int}(hU:XT rs u)(hV:XT rs v)(hu:hd u<0)(hbu:β.getD (vIx (hd u)) default=[])(hbv:hd v<0->β.getD (vIx (hd v)) default=[])(hne:¬(hd u=hd v))(ho:lI β (hd u) v)(P:(Int->List Int)->Prop):¬nA rs β λσ=>P σ/\ap σ u=ap σ v:=by
 rintro⟨σ,_,h2,_,h4⟩
 have h5:σ (hd u)=ap σ v:=by
  have:=h4
  rw[m9 hU hu,aCH (σ:=σ) hu] at this
  have e:hd [hd u]=hd u:=rfl
  first|exact this|(rw[e] at this;exact this)
 by_cases h0:0≤hd v
 ·exact aJ6 hu hV h0 ho σ h2 h5
 ·obtain⟨z,hz,hz0,hr⟩:=ho
  rw[m9 hV (by omega)] at hz
  obtain rfl:=zN.1 hz
  generalize ei:vIx (hd v)=i at hr
  generalize ej:vIx (hd u)=j at hr
  cases hr with
  | refl=>exact hne (tU hu hz0 (ej.trans ei.symm))
  | step he _ =>
   obtain⟨w,hw,_⟩:=he
   rw[←ei,hbv hz0] at hw
   cases hw
theorem aCi(rs:List Int):∀(c:Nat) (β:Bds),cnt β<c->BOK rs β->Acy β->∀ps:List (List Int×List Int),(∀p∈ps,XT rs p.1/\XT rs p.2)->∃n b,mD rs n β ps=some b/\(b=true↔nA rs β λσ=>j9 σ ps)
 | 0,β,h,_,_,_,_=>by omega
 | c+1,β,h,hβ,hA,ps,hps=>by
  obtain⟨σ,hσ,hsat⟩:=aMT hβ hA
  have main:∀(m:Nat) (ps:List (List Int×List Int)),wt σ ps≤m->(∀p∈ps,XT rs p.1/\XT rs p.2)->∃n b,mD rs n β ps=some b/\(b=true↔nA rs β λσ=>j9 σ ps):=by
   intro m
   induction m with
   | zero =>
    intro ps hm hp
    rcases List.eq_nil_or_concat ps with rfl|⟨qs,p,rfl⟩
    ·exact⟨1,true,rfl,Iff.intro (λ_=>⟨σ,hσ,hsat,λp hp=>(by cases hp)⟩) (λ_=>rfl)⟩
    ·have h1:=(hp p (by simp)).1
     have:=aMx hσ h1
     rw[List.concat_eq_append,aKY] at hm
     have h2:wt σ [p]=(ap σ p.1).length:=by simp[wt]
     omega
   | succ m ih =>
    intro ps hm hp
    rcases List.eq_nil_or_concat ps with rfl|⟨qs,p,rfl⟩
    ·exact⟨1,true,rfl,Iff.intro (λ_=>⟨σ,hσ,hsat,λp hp=>(by cases hp)⟩) (λ_=>rfl)⟩
    rw[List.concat_eq_append] at hm hp ⊢
    obtain⟨hp1,hp2⟩:=hp p (by simp)
    have hq:∀p∈qs,XT rs p.1/\XT rs p.2:=λp hp'=>hp p (by simp[hp'])
    obtain⟨u,u1,u2,u3,u4⟩:=oP hβ hA hp1
    obtain⟨v,v1,v2,v3,v4⟩:=oP hβ hA hp2
    have hwq:wt σ qs+(ap σ p.1).length≤m+1:=by
     rw[aKY] at hm
     simpa[wt] using hm
    have hpos:=aMx hσ hp1
    have step:∀n,mD rs (n+1) β (qs++[p])=if hd u=hd v/\hd u<0 then mD rs n β qs else if hd u<0 then (if tst (lI β (hd u) v)=true then some false else mD rs n (β.set (vIx (hd u)) v) qs) else if hd v<0 then (if tst (lI β (hd v) u)=true then some false else mD rs n (β.set (vIx (hd v)) u) qs) else if hd u≠hd v then some false else mD rs n β (qs++dS rs u v):=λn=>by
     conv=>lhs;unfold mD
     simp only[List.getLast?_append,List.getLast?_singleton,Option.some_or,u1,v1,List.dropLast_concat]
    have hU:(nA rs β λσ=>j9 σ (qs++[p]))↔nA rs β λσ=>j9 σ qs/\ap σ u=ap σ v:=nA.congr λτ h1 h2=>by rw[aKP,u4 τ h2,v4 τ h2]
    rw[hU]
    by_cases c1:hd u=hd v/\hd u<0
    ·obtain⟨n,b,h1,h2⟩:=ih qs (by omega) hq
     refine⟨n+1,b,by rw[step,if_pos c1];exact h1,h2.trans (nA.congr λτ _ _=>?_)⟩
     have e:u=v:=by rw[m9 u2 c1.2,m9 v2 (by omega),c1.1]
     rw[e];simp
    by_cases c2:hd u<0
    ·by_cases ho:lI β (hd u) v
     ·refine⟨1,false,by rw[step,if_neg c1,if_pos c2,if_pos (bQ ho)],Iff.intro (λh=>(by cases h)) (λh=>?_)⟩
      exact absurd h (aRp u2 v2 c2 (u3 c2) v3 (λe=>c1 ⟨e,c2⟩) ho _)
     ·obtain⟨b1,b2,b3,b4⟩:=l7 hβ hA u2 v2 c2 (u3 c2) ho λσ=>j9 σ qs
      obtain⟨n,b,h1,h2⟩:=aCi rs c _ (by omega) b1 b2 qs hq
      exact⟨n+1,b,by rw[step,if_neg c1,if_pos c2,if_neg (by rw[bH ho];simp)];exact h1,h2.trans b4⟩
    by_cases c3:hd v<0
    ·have hsw:(nA rs β λσ=>j9 σ qs/\ap σ u=ap σ v)↔nA rs β λσ=>j9 σ qs/\ap σ v=ap σ u:=nA.congr λτ _ _=>by rw[eq_comm (a:=ap τ u)]
     rw[hsw]
     by_cases ho:lI β (hd v) u
     ·refine⟨1,false,by rw[step,if_neg c1,if_neg c2,if_pos c3,if_pos (bQ ho)],Iff.intro (λh=>(by cases h)) (λh=>?_)⟩
      exact absurd h (aRp v2 u2 c3 (v3 c3) u3 (λe=>c1 ⟨e.symm,by omega⟩) ho _)
     ·obtain⟨b1,b2,b3,b4⟩:=l7 hβ hA v2 u2 c3 (v3 c3) ho λσ=>j9 σ qs
      obtain⟨n,b,h1,h2⟩:=aCi rs c _ (by omega) b1 b2 qs hq
      exact⟨n+1,b,by rw[step,if_neg c1,if_neg c2,if_pos c3,if_neg (by rw[bH ho];simp)];exact h1,h2.trans b4⟩
    by_cases c4:hd u=hd v
    ·have hpx:∀p∈qs++dS rs u v,XT rs p.1/\XT rs p.2:=λp hp'=>by
      rcases zP.1 hp' with hp'|hp'
      ·exact hq p hp'
      ·exact r9 u2 v2 c4 p hp'
     have hw2:=aSS (b:=v) (σ:=σ) u2 (by omega)
     rw[u4 σ hsat] at hw2
     obtain⟨n,b,h1,h2⟩:=ih (qs++dS rs u v) (by rw[aKY];omega) hpx
     refine⟨n+1,b,by rw[step,if_neg c1,if_neg c2,if_neg c3,if_neg (by simpa using c4)];exact h1,h2.trans (nA.congr λτ hτ _=>?_)⟩
     rw[aQh]
     exact and_congr_right λ_=>(aNC hτ u2 v2 c4 (by omega)).symm
    ·refine⟨1,false,by rw[step,if_neg c1,if_neg c2,if_neg c3,if_pos c4],Iff.intro (λh=>(by cases h)) (λ⟨τ,hτ,_,_,h4⟩=>?_)⟩
     rw[pF u2 (by omega),pF v2 (by omega)] at h4
     exact absurd (List.cons.inj h4).1 c4
  exact main _ ps (zQ _) hps
theorem aQN{rs:List Int}{β:Bds}(hβ:BOK rs β)(hA:Acy β){a b:List Int}(ha:XT rs a)(hb:XT rs b):∃n r,mD rs n β [(a,b)]=some r/\(r=true↔nA rs β λσ=>ap σ a=ap σ b):=by
 obtain⟨n,r,h1,h2⟩:=aCi rs (cnt β+1) β (by omega) hβ hA [(a,b)] (λp hp=>by rw[zN] at hp;subst hp;exact⟨ha,hb⟩)
 exact⟨n,r,h1,h2.trans (nA.congr λσ _ _=>⟨λh=>h (a,b) (zN.2 rfl),λh p hp=>by rw[zN] at hp;subst hp;exact h⟩)⟩
noncomputable def qQ(rs:List Int):Nat->Bds->List (List Int×List Int)->Option Bool
 | 0,_,_=>none
 | n+1,β,ps=>if 400000<ps.length then none else match ps.getLast? with
  | none=>some true
  | some p=>match dG β 60 p.1,dG β 60 p.2 with
   | some u,some v =>
    if hd u=hd v/\hd u<0 then qQ rs n β ps.dropLast
    else if hd u<0 then (if tst (lI β (hd u) v)=true then some false else qQ rs n (β.set (vIx (hd u)) v) ps.dropLast)
    else if hd v<0 then (if tst (lI β (hd v) u)=true then some false else qQ rs n (β.set (vIx (hd v)) u) ps.dropLast)
    else if hd u≠hd v then some false
    else qQ rs n β (ps.dropLast++dS rs u v)
   | _,_=>none
def rkL(r:Nat->Nat):List Int->Nat
 | []=>0
 | z::t=>max (if z<0 then r (vIx z)+1 else 0) (rkL r t)
theorem aGs{r:Nat->Nat}{k:Nat}:∀ {t:List Int},(∀z∈t,z<0->r (vIx z)+1≤k)->rkL r t≤k
 | [],_=>Nat.zero_le _
 | z::t,h=>by
  have h1:=h z (zH ..)
  have h2:=aGs (r:=r) λy hy=>h y (zG _ hy)
  unfold rkL
  split<;>rename_i c
  ·have:=h1 c;omega
  ·omega
theorem aGq{r:Nat->Nat}:∀ {t:List Int} {z:Int},z∈t->z<0->r (vIx z)+1≤rkL r t
 | y::t,z,h,h0=>by
  unfold rkL
  rcases zO.1 h with rfl|h
  ·rw[if_pos h0];omega
  ·have:=aGq (r:=r) h h0;omega
def mu(r:Nat->Nat)(t:List Int):Nat:=61*rkL r t+t.length
theorem aWk{rs:List Int}{r:Nat->Nat}(hr:∀i,r i≤48){t:List Int}(h:XT rs t):mu r t≤3049:=by
 have h1:=h.len
 have h2:rkL r t≤49:=aGs λz _ _=>by have:=hr (vIx z);omega
 unfold mu;omega
theorem aUD{rs:List Int}{r:Nat->Nat}{u p:List Int}(h:XT rs u)(hp:p∈f0 rs u):mu r p+1≤mu r u:=by
 have hf:=aCp h
 have h1:∀z∈p,z∈u:=λz hz=>by
  rw[hf]
  exact zG _ (List.mem_flatten.2 ⟨p,hp,hz⟩)
 have h2:p.length+1≤u.length:=by
  rw[hf,List.length_cons]
  have:p.length≤(f0 rs u).flatten.length:=(List.sublist_flatten_of_mem hp).length_le
  omega
 have h3:rkL r p≤rkL r u:=aGs λz hz h0=>aGq (h1 z hz) h0
 unfold mu;omega
theorem aOn{rs:List Int}{β:Bds}(hβ:BOK rs β){r:Nat->Nat}(hr:∀i j,Edge β i j->r j<r i):∀(g:Nat) {t u:List Int},XT rs t->dG β g t=some u->mu r u≤mu r t
 | 0,_,_,_,h=>by cases h
 | g+1,t,u,hT,h=>by
  unfold dG at h
  split at h
  ·rename_i c
   have hc1:hd t<0:=c.1
   have hX:=hβ.get c.2
   have ih:=aOn hβ hr g hX h
   have hl:=hX.len
   have h2:rkL r (β.getD (vIx (t.getD 0 default)) default)≤r (vIx (hd t)):=aGs λz hz h0=>hr _ _ ⟨z,hz,h0,rfl⟩
   have h3:r (vIx (hd t))+1≤rkL r t:=by
    exact aGq (bA t 0 (by have:=hT.len;omega)) hc1
   have h4:=hT.len
   unfold mu at *;omega
  ·obtain rfl:=zA h
   exact zQ _
theorem aA4{rs u v:List Int}(h:XT rs u):(dS rs u v).length≤3:=by
 have hl:=h.len
 have hlen:=eJ u
 have hlo:=h.1.low (a:=0) (by omega)
 have:(dS rs u v).length=(arS rs ((bI u).getD 0 default)).toNat:=by simp[dS,dD,eM]
 rw[this]
 omega
def StI(β:Bds)(ps:List (List Int×List Int)):Prop:=∃(r:Nat->Nat) (C:Nat),(∀i j,Edge β i j->r j<r i)/\(∀i,r i≤48)/\C+6098*cnt β≤6098*50/\∀(j:Nat) (p:List Int×List Int),ps[j]?=some p->2*mu r p.1+j≤C
theorem StI.len{β:Bds}{ps:List (List Int×List Int)}(h:StI β ps):ps.length≤304901:=by
 obtain⟨r,C,_,_,h3,h4⟩:=h
 rcases Nat.eq_zero_or_pos ps.length with h0|h0
 ·omega
 ·have:=h4 (ps.length-1) _ (zB (by omega))
  omega
theorem StI.pop{β:Bds}{qs:List (List Int×List Int)}{p:List Int×List Int}(h:StI β (qs++[p])):StI β qs:=by
 obtain⟨r,C,h1,h2,h3,h4⟩:=h
 exact⟨r,C,h1,h2,h3,λj q hj=>h4 j q (by rw[zL (zE.1 hj).1];exact hj)⟩
theorem StI.bind{rs:List Int}{β β':Bds}{qs:List (List Int×List Int)}(h:StI β qs)(hβ:BOK rs β')(hA:Acy β')(hc:cnt β'<cnt β)(hX:∀p∈qs,XT rs p.1/\XT rs p.2):StI β' qs:=by
 obtain⟨r',h1',h2'⟩:=sD hβ hA
 have hl:qs.length≤304901:=h.len
 obtain⟨r,C,h1,h2,h3,h4⟩:=h
 have hq:qs.length≤C+1:=by
  rcases Nat.eq_zero_or_pos qs.length with h0|h0
  ·omega
  ·have:=h4 (qs.length-1) _ (zB (by omega));omega
 refine⟨r',C+6098,h1',h2',by omega,λj p hj=>?_⟩
 have hm:=aWk h2' (hX p (zF hj)).1
 have:=(zE.1 hj).1
 omega
theorem StI.parts{rs:List Int}{β:Bds}(hβ:BOK rs β){qs:List (List Int×List Int)}{p:List Int×List Int}(h:StI β (qs++[p]))(hT:XT rs p.1){u v:List Int}(hu:dG β 60 p.1=some u)(hU:XT rs u):StI β (qs++dS rs u v):=by
 obtain⟨r,C,h1,h2,h3,h4⟩:=h
 refine⟨r,C,h1,h2,h3,λj q hj=>?_⟩
 rcases Nat.lt_or_ge j qs.length with hl|hl
 ·exact h4 j q (by rw[zL hl] at hj ⊢;exact hj)
 ·rw[zM hl] at hj
  have hj3:=(zE.1 hj).1
  have h5:=aA4 (v:=v) hU
  have hq:q.1∈f0 rs u:=by
   rw[←lY rs u v]
   exact zJ.2 ⟨q,zF hj,rfl⟩
  have h6:=aUD (r:=r) hU hq
  have h7:=aOn hβ h1 60 hT hu
  have h8:=h4 qs.length p (by simp)
  omega
theorem StI.start{rs:List Int}{β:Bds}(hβ:BOK rs β)(hA:Acy β){a b:List Int}(ha:XT rs a):StI β [(a,b)]:=by
 obtain⟨r,h1,h2⟩:=sD hβ hA
 have hc:cnt β≤48:=by
  have:=List.length_filter_le (λx=>x.isEmpty) β
  rw[hβ.1] at this
  exact this
 refine⟨r,6098,h1,h2,by omega,λj p hj=>?_⟩
 have hjl:=(zE.1 hj).1
 have:p∈[(a,b)]:=zF hj
 rw[zN] at this
 subst this
 have:=aWk h2 ha
 simp at hjl
 simp only
 omega
theorem aJb(rs:List Int):∀(n:Nat) (β:Bds) (ps:List (List Int×List Int)) (b:Bool),BOK rs β->Acy β->(∀p∈ps,XT rs p.1/\XT rs p.2)->StI β ps->mD rs n β ps=some b->qQ rs n β ps=some b
 | 0,_,_,_,_,_,_,_,h=>by cases h
 | n+1,β,ps,b,hβ,hA,hX,hI,h=>by
  have hlen:=hI.len
  unfold mD at h
  unfold qQ
  rw[if_neg (by omega)]
  rcases List.eq_nil_or_concat ps with rfl|⟨qs,p,rfl⟩
  ·exact h
  rw[List.concat_eq_append] at h hX hI ⊢
  obtain⟨hp1,hp2⟩:=hX p (by simp)
  have hq:∀p∈qs,XT rs p.1/\XT rs p.2:=λp hp'=>hX p (by simp[hp'])
  obtain⟨u,u1,u2,u3,u4⟩:=oP hβ hA hp1
  obtain⟨v,v1,v2,v3,v4⟩:=oP hβ hA hp2
  simp only[List.getLast?_append,List.getLast?_singleton,Option.some_or,u1,v1,List.dropLast_concat] at h ⊢
  have ih:=aJb rs n
  by_cases c1:hd u=hd v/\hd u<0
  ·rw[if_pos c1] at h ⊢
   exact ih β qs b hβ hA hq hI.pop h
  rw[if_neg c1] at h ⊢
  by_cases c2:hd u<0
  ·rw[if_pos c2] at h ⊢
   by_cases ho:lI β (hd u) v
   ·rw[if_pos (bQ ho)] at h ⊢;exact h
   ·rw[if_neg (by rw[bH ho];simp)] at h ⊢
    obtain⟨b1,b2,b3,_⟩:=l7 hβ hA u2 v2 c2 (u3 c2) ho λ_=>True
    exact ih _ qs b b1 b2 hq (hI.pop.bind b1 b2 b3 hq) h
  rw[if_neg c2] at h ⊢
  by_cases c3:hd v<0
  ·rw[if_pos c3] at h ⊢
   by_cases ho:lI β (hd v) u
   ·rw[if_pos (bQ ho)] at h ⊢;exact h
   ·rw[if_neg (by rw[bH ho];simp)] at h ⊢
    obtain⟨b1,b2,b3,_⟩:=l7 hβ hA v2 u2 c3 (v3 c3) ho λ_=>True
    exact ih _ qs b b1 b2 hq (hI.pop.bind b1 b2 b3 hq) h
  rw[if_neg c3] at h ⊢
  by_cases c4:hd u=hd v
  ·rw[if_neg (by simpa using c4)] at h ⊢
   refine ih β _ b hβ hA (λp hp'=>?_) (hI.parts hβ hp1 u1 u2) h
   rcases zP.1 hp' with hp'|hp'
   ·exact hq p hp'
   ·exact r9 u2 v2 c4 p hp'
  ·rw[if_pos c4] at h ⊢;exact h
theorem aMy{rs:List Int}{β:Bds}(hβ:BOK rs β)(hA:Acy β){a b:List Int}(ha:XT rs a)(hb:XT rs b):∃n r,qQ rs n β [(a,b)]=some r/\(r=true↔nA rs β λσ=>ap σ a=ap σ b):=by
 obtain⟨n,r,h1,h2⟩:=aQN hβ hA ha hb
 exact⟨n,r,aJb rs n β _ r hβ hA (λp hp=>by rw[zN] at hp;subst hp;exact⟨ha,hb⟩) (StI.start hβ hA ha) h1,h2⟩
def aOg(rs c b:List Int):Prop:=nA rs b0 λσ=>ap σ c=ap σ (nI b)
theorem aMe:Acy b0:=λi j h _=>by
 obtain⟨x,hx,_⟩:=h
 rw[aW5] at hx
 cases hx
theorem aPN{rs c b:List Int}(hc:XT rs c)(hb:aX rs b):∃n r,qQ rs n b0 [(c,nI b)]=some r/\(r=true↔aOg rs c b):=aMy (aKu rs) aMe hc (XT.away hb)
theorem aQ1{rs c b:List Int}(hc:XT rs c)(hb:aX rs b):∃f r,eqM rs 60 f b0 c (nI b)=some r/\(r.isSome=true↔aOg rs c b):=aTJ (aKu rs) aMe hc (XT.away hb)
end
section
attribute [local irreducible] SW bC bE dE bU FC dO aEe
noncomputable def mkO(x:SystemT)(t:List Int)(a:Nat):Int:=if t.getD a default<0 then 2 else if a=0 then 0 else if tst (aEe x (t.getD a default))=true then 2 else 1
def aJM:List (Nat×List Nat):=[(0,[1,2,3]),(1,[2,3,7]),(2,[2,3,7,12]),(3,[6]),(4,[3,7,15]),(5,[6]),(6,[18]),(7,[6]),(8,[6])]
attribute [go_sem] aJM
theorem aPd(x:SystemT)(t:List Int)(a:Nat)(ha:a<t.length)(h:∀r∈x.rules,1≤r.l.length):FC S 137 [] [] [] [bP x,.sl .any (t.map (.int .i64)),.int .i64 a] (.int .i64 (mkO x t a)) [] []:=by
 have cD:=pX x (t.getD a default) h
 unfold mkO
 refine aP Tryz.func137 rfl (by kernel_rfl) (by simp[Tryz.f137]) λB=>?_
 simp only[Tryz.ntmps137,aS,aZ,Nat.reduceAdd]
 by_cases c1:t.getD a default<0
 ·rw[if_pos c1]
  repeat' first|((exfalso;omega))|apply aE|apply aG|refine aI 0 aJM λK hK=>?_|((first|apply aD|refine aA (aO ?_)|apply aA);simp(disch:=apply aB;omega)only[go_sem,Tryz.results137])|(apply hK.nil;clear hK K;simp only[go_sem])|((first|refine aF rfl ?_ ?_)<;>intro h<;>try simp(disch:=apply aB;omega)only[go_sem] at h)|(with_reducible refine And.intro (by first|omega|(simp only[lens];omega)) ?_)|fail
 rw[if_neg c1]
 by_cases c2:a=0
 ·rw[if_pos c2]
  repeat' first|((exfalso;omega))|apply aE|apply aG|refine aI 0 aJM λK hK=>?_|((first|apply aD|refine aA (aO ?_)|apply aA);simp(disch:=apply aB;omega)only[go_sem,Tryz.results137])|(apply hK.nil;clear hK K;simp only[go_sem])|((first|refine aF rfl ?_ ?_)<;>intro h<;>try simp(disch:=apply aB;omega)only[go_sem] at h)|(with_reducible refine And.intro (by first|omega|(simp only[lens];omega)) ?_)|fail
 rw[if_neg c2]
 by_cases c3:aEe x (t.getD a default)
 ·rw[bQ c3] at cD ⊢
  rw[if_pos rfl]
  repeat' first|((exfalso;omega))|apply aE|apply aG|refine aI 0 aJM λK hK=>?_|((first|apply aD|refine aA (aO ?_)|apply aA);simp(disch:=apply aB;omega)only[go_sem,Tryz.results137])|(apply hK.nil;clear hK K;simp only[go_sem])|((first|refine aF rfl ?_ ?_)<;>intro h<;>try simp(disch:=apply aB;omega)only[go_sem] at h)|refine hK.c0 rfl rfl rfl (cD) rfl rfl rfl ?_|(with_reducible refine And.intro (by first|omega|(simp only[lens];omega)) ?_)|fail
 ·rw[bH c3] at cD ⊢
  rw[if_neg (by decide)]
  repeat' first|((exfalso;omega))|apply aE|apply aG|apply aM|apply aJ|refine aI 0 aJM λK hK=>?_|((first|apply aD|refine aA (aO ?_)|apply aA);simp(disch:=apply aB;omega)only[go_sem,Tryz.results137])|(apply hK.nil;clear hK K;simp only[go_sem])|((first|refine aF rfl ?_ ?_)<;>intro h<;>try simp(disch:=apply aB;omega)only[go_sem] at h)|refine hK.c0 rfl rfl rfl (cD) rfl rfl rfl ?_|(with_reducible refine And.intro (by first|omega|(simp only[lens];omega)) ?_)|fail
end
section
attribute [local irreducible] SW bC bE dE bU FC dO aEe mkO
noncomputable def eC(x:SystemT)(t:List Int):Nat->Nat->Nat->List Int×Nat
 | 0,_,n=>([],n)
 | f+1,a,n=>if a<t.length then (if mkO x t a=2 then (-((n:Int)+1)::(eC x t f (d7 x.sig t a).toNat (n+1)).1,(eC x t f (d7 x.sig t a).toNat (n+1)).2) else (t.getD a default::(eC x t f (a+1) n).1,(eC x t f (a+1) n).2)) else ([],n)
theorem aQU(x:SystemT)(t:List Int)(a:Nat):mkO x t a=0∨mkO x t a=1∨mkO x t a=2:=by
 unfold mkO
 split
 ·simp
 ·split
  ·simp
  ·split<;>simp
def aEw:List (Nat×List Nat):=[(0,[1,2]),(1,[1,2,6]),(2,[1,2,6,7]),(3,[1,2,6,7,8]),(4,[1,2,6,7,8,12]),(5,[1,2,6,7,8,16]),(6,[1,2,6,7,8,16,17]),(7,[1,2,6,7,8,16,19]),(8,[1,2,6,7,8,21]),(9,[1,2,6,7,8]),(10,[1,2,6,7,8]),(11,[1,2,6,7,8]),(12,[1,2,6,7,8]),(13,[1,2,6,7,8]),(14,[4,5])]
attribute [go_sem] aEw
theorem aOS(x:SystemT)(t:List Int)(hT:aX x.sig t)(h:∀r∈x.rules,1≤r.l.length):FC S 116 [] [] [] [bP x,.sl .any (t.map (.int .i64))] (.tup [.sl .any ((eC x t 60 0 0).1.map (.int .i64)),.bool (decide ((((eC x t 60 0 0).2:Nat):Int)≤24))]) [] []:=by
 have hl:=hT.2.1
 generalize hR:eC x t 60 0 0=R
 refine aP Tryz.func116 rfl (by kernel_rfl) (by simp[Tryz.f116]) λB=>?_
 simp only[Tryz.ntmps116,aS,aZ,Nat.reduceAdd]
 repeat' first|apply aE|apply aG|refine aI 0 aEw λK hK=>?_|((first|apply aD|refine aA (aO ?_)|apply aA);simp(disch:=apply aB;omega)only[go_sem,Tryz.results116])|(apply hK.nil;clear hK K;simp only[go_sem])|fail
 refine dW 6 39000 2 1 rfl (.inl rfl) rfl ?_
 simp only[go_sem]
 refine bG (ι:=Nat×Nat×Nat×List Int) (λq=>[(1,.sl .any (t.map (.int .i64))),(2,.box 2 0),(8,.int .i64 q.2.1),(7,.int .i64 q.2.2.1),(6,.sl (.own 39000 2 1) (q.2.2.2.map (.int .i64)))]) (λ_=>[]) (λ_=>[39000]) (λq=>(q.2.1≤t.length/\q.2.2.1≤q.2.1/\q.2.2.2.length≤q.2.1/\t.length≤q.2.1+q.1)/\q.2.2.2++(eC x t q.1 q.2.1 q.2.2.1).1=R.1/\(eC x t q.1 q.2.1 q.2.2.1).2=R.2) (λq=>t.length-q.2.1) (60,0,0,[]) (by(refine aC rfl rfl ?_ ?_ ?_ ?_<;>simp(disch:=apply aB;omega)only[go_sem]<;>(try omega))) ⟨⟨by simp,by simp,by simp,by dsimp only;omega⟩,by dsimp only;rw[hR];rfl,by dsimp only;rw[hR]⟩ (λq hq=>?_)
 obtain⟨f,a,n,out⟩:=q
 obtain⟨⟨h1,h2,h3,h4⟩,h5,h6⟩:=hq
 dsimp only at h1 h2 h3 h4 h5 h6
 simp only[go_sem]
 by_cases hal:a<t.length
 ·obtain⟨f,rfl⟩:∃g,f=g+1:=⟨f-1,by omega⟩
  have he:=fN hT hal
  have cM:=aPd x t a hal h
  have cE:=xU .any .any x.sig t a hT.1 (λy hy=>hT.ge y hy) hl.2 (by omega)
  unfold eC at h5 h6
  rw[if_pos hal] at h5 h6
  rcases aQU x t a with e|e|e
  ·rw[if_neg (by rw[e];decide)] at h5 h6
   rw[e] at cM
   repeat' first|((refine jJ 30000 39000 rfl rfl ?_;simp only[go_sem]))|((exfalso;omega))|apply aE|apply aG|apply aM|apply aJ|refine aI 0 aEw λK hK=>?_|((first|apply aD|refine aA (aO ?_)|apply aA);simp(disch:=apply aB;omega)only[go_sem,Tryz.results116])|(apply hK.nil;clear hK K;simp only[go_sem])|((first|refine aF rfl ?_ ?_)<;>intro h<;>try simp(disch:=apply aB;omega)only[go_sem] at h)|refine aT rfl ?_|apply aL|refine hK.c0 rfl rfl rfl (cM) rfl rfl rfl ?_|(with_reducible refine And.intro (by first|omega|(simp only[lens];omega)) ?_)|fail
   exact⟨(f,a+1,n,out++[t.getD a default]),(by(refine aC rfl rfl ?_ ?_ ?_ ?_<;>simp(disch:=apply aB;omega)only[go_sem]<;>(try omega))),⟨⟨by dsimp only;omega,by dsimp only;omega,by dsimp only;rw[zK,List.length_singleton];omega,by dsimp only;omega⟩,by dsimp only;rw[List.append_assoc];exact h5,h6⟩,by dsimp only;omega⟩
  ·rw[if_neg (by rw[e];decide)] at h5 h6
   rw[e] at cM
   repeat' first|((refine jJ 30000 39000 rfl rfl ?_;simp only[go_sem]))|((exfalso;omega))|apply aE|apply aG|apply aM|apply aJ|refine aI 0 aEw λK hK=>?_|((first|apply aD|refine aA (aO ?_)|apply aA);simp(disch:=apply aB;omega)only[go_sem,Tryz.results116])|(apply hK.nil;clear hK K;simp only[go_sem])|((first|refine aF rfl ?_ ?_)<;>intro h<;>try simp(disch:=apply aB;omega)only[go_sem] at h)|refine aT rfl ?_|apply aL|refine hK.c0 rfl rfl rfl (cM) rfl rfl rfl ?_|(with_reducible refine And.intro (by first|omega|(simp only[lens];omega)) ?_)|fail
   exact⟨(f,a+1,n,out++[t.getD a default]),(by(refine aC rfl rfl ?_ ?_ ?_ ?_<;>simp(disch:=apply aB;omega)only[go_sem]<;>(try omega))),⟨⟨by dsimp only;omega,by dsimp only;omega,by dsimp only;rw[zK,List.length_singleton];omega,by dsimp only;omega⟩,by dsimp only;rw[List.append_assoc];exact h5,h6⟩,by dsimp only;omega⟩
  ·rw[if_pos e] at h5 h6
   rw[e] at cM
   repeat' first|((exfalso;omega))|apply aE|apply aG|apply aM|apply aJ|refine aI 0 aEw λK hK=>?_|((first|apply aD|refine aA (aO ?_)|apply aA);simp(disch:=apply aB;omega)only[go_sem,Tryz.results116])|(apply hK.nil;clear hK K;simp only[go_sem])|((first|refine aF rfl ?_ ?_)<;>intro h<;>try simp(disch:=apply aB;omega)only[go_sem] at h)|refine aT rfl ?_|apply aL|refine hK.c0 rfl rfl rfl (cM) rfl rfl rfl ?_|refine hK.c0 rfl rfl rfl (cE) rfl rfl rfl ?_|(with_reducible refine And.intro (by first|omega|(simp only[lens];omega)) ?_)|fail
   exact⟨(f,(d7 x.sig t a).toNat,n+1,out++[-((n:Int)+1)]),(by(refine aC rfl rfl ?_ ?_ ?_ ?_<;>simp(disch:=apply aB;omega)only[go_sem]<;>(try omega));all_goals first|exact⟨by rw[Int.zero_sub],by omega,by omega⟩|trace_state),⟨⟨by dsimp only;omega,by dsimp only;omega,by dsimp only;rw[zK,List.length_singleton];omega,by dsimp only;omega⟩,by dsimp only;rw[List.append_assoc];exact h5,h6⟩,by dsimp only;omega⟩
 ·have hz:eC x t f a n=([],n):=by
   cases f with
   | zero=>rfl
   | succ f=>unfold eC;rw[if_neg hal]
  rw[hz] at h5 h6
  dsimp only at h5 h6
  rw[List.append_nil] at h5
  repeat' first|((exfalso;omega))|apply aE|refine aI 0 aEw λK hK=>?_|((first|apply aD|refine aA (aO ?_)|apply aA);simp(disch:=apply aB;omega)only[go_sem,Tryz.results116])|(apply hK.nil;clear hK K;simp only[go_sem])|((first|refine aF rfl ?_ ?_)<;>intro h<;>try simp(disch:=apply aB;omega)only[go_sem] at h)|refine aT rfl ?_|(with_reducible refine And.intro (by first|omega|(simp only[lens];omega)) ?_)|fail
  subst h6
  first|rfl|exact⟨h5,rfl⟩|exact h5
end
section
attribute [local irreducible] SW bC bE dE bU FC dO toF dP fV fD sumF bR
def aPt:List (Nat×List Nat):=[(0,[1]),(1,[1,4]),(2,[1,4,11,12,13]),(3,[1,4,11,12,13,14]),(4,[1,4,5,6,11,12,13]),(5,[1,4,5,11,12,13,20,21]),(6,[1,4,5,11,12,13,20,21,22]),(7,[1,4,5,7,11,12,13,20,21]),(8,[1,4,5,8,9,11,12,13,20,21]),(9,[1,4,5,8,11,12,13,20,21,31]),(10,[1,4,5,11,12,13,20,21]),(11,[1,4,5,11,12,13,20,21]),(12,[1,4,11,12,13]),(13,[4,40]),(14,[2,3]),(15,[2,3])]
attribute [go_sem] aPt
theorem aR1(x:SystemT)(hx:b7 x):FC S 74 [] [] [] [bP x] (.tup [.sl .any ((lJ x).1.map bK),.bool (lJ x).2]) [] []:=by
 have h12:=hx.1.2
 have hA:(prA x x.rules.length).length≤64->lJ x=(bL x,true):=λh=>fA ⟨hx,h⟩
 have hB:¬(prA x x.rules.length).length≤64->lJ x=([],false):=λh=>iD λe=>h e.2
 refine aP Tryz.func74 rfl (by kernel_rfl) (by simp[Tryz.f74]) λB=>?_
 simp only[Tryz.ntmps74,aS,aZ,Nat.reduceAdd]
 repeat' first|apply aE|apply aG|refine aI 0 aPt λK hK=>?_|((first|apply aD|refine aA (aO ?_)|apply aA);simp(disch:=apply aB;omega)only[go_sem,Tryz.results74])|(apply hK.nil;clear hK K;simp only[go_sem])|fail
 refine dW 4 36000 94 4 rfl (.inl rfl) rfl ?_
 simp only[go_sem]
 refine bG (ι:=Nat) (λr=>[(13,.int .i64 r),(4,.sl (.own 36000 94 4) ((prA x r).map bK))]) (λ_=>[]) (λ_=>[36000]) (λr=>r≤x.rules.length) (λr=>x.rules.length-r) 0 (by(refine aC rfl rfl ?_ ?_ ?_ ?_<;>simp(disch:=apply aB;omega)only[go_sem]<;>(try omega));all_goals exact⟨rfl,rfl⟩) (by omega) (λr hr=>?_)
 simp only[go_sem]
 have hl1:=aGa hx r hr
 by_cases hrl:r<x.rules.length
 ·have hT:=(hx.2 r hrl).1.2.1
  have hTl:=hT.2.1
  repeat' first|((exfalso;omega))|apply aE|apply aG|apply aJ|refine aI 0 aPt λK hK=>?_|((first|apply aD|refine aA (aO ?_)|apply aA);simp(disch:=apply aB;omega)only[go_sem,Tryz.results74])|(apply hK.nil;clear hK K;simp only[go_sem])|((first|refine aF rfl ?_ ?_)<;>intro h<;>try simp(disch:=apply aB;omega)only[go_sem] at h)|(with_reducible refine And.intro (by first|omega|(simp only[lens];omega)) ?_)|fail
  refine bG (ι:=Nat) (λa=>[(21,.int .i64 a),(4,.sl (.own 36000 94 4) ((prA x r++prR x r a).map bK))]) (λ_=>[]) (λ_=>[36000]) (λa=>a≤(x.rules.getD r default).r.length) (λa=>(x.rules.getD r default).r.length-a) 0 (by(refine aC rfl rfl ?_ ?_ ?_ ?_<;>simp(disch:=apply aB;omega)only[go_sem]<;>(try omega));all_goals first|rfl|(rw[show prR x r 0=[] from rfl,List.append_nil];exact⟨rfl,rfl⟩)|(rw[show prR x r 0=[] from rfl,List.append_nil])) (by omega) (λa ha=>?_)
  simp only[go_sem]
  have hl2:=aBI x r a
  have hl3:(prA x r++prR x r a).length≤60*r+a:=by rw[zK];omega
  by_cases hal:a<(x.rules.getD r default).r.length
  ·have hst:=@aRO x r a
   repeat' first|((exfalso;omega))|apply aE|apply aG|apply aM|apply aJ|refine aI 0 aPt λK hK=>?_|((first|apply aD|refine aA (aO ?_)|apply aA);simp(disch:=apply aB;omega)only[go_sem,Tryz.results74])|(apply hK.nil;clear hK K;simp only[go_sem])|((first|refine aF rfl ?_ ?_)<;>intro h<;>try simp(disch:=apply aB;omega)only[go_sem] at h)|apply aL|refine hK.c0 rfl rfl rfl (aQL x hx r a hrl hal) rfl rfl rfl ?_|(with_reducible refine And.intro (by first|omega|(simp only[lens];omega)) ?_)|((with_reducible refine And.intro ?_ ?_);· first|(intro x hx;subst hx;rfl)|(intro x;refine And.intro ?_ ?_<;>(intros;subst_vars;rfl)))|fail
   ·exact⟨a+1,(by(refine aC rfl rfl ?_ ?_ ?_ ?_<;>simp(disch:=apply aB;omega)only[go_sem]<;>(try omega));rw[hst.1 h,←List.append_assoc,List.map_append (l₁:=prA x r++prR x r a),List.map_append (l₁:=prA x r)];exact⟨rfl,by omega⟩),by omega,by omega⟩
   ·exact⟨a+1,(by(refine aC rfl rfl ?_ ?_ ?_ ?_<;>simp(disch:=apply aB;omega)only[go_sem]<;>(try omega));rw[hst.2 h];exact⟨rfl,by omega⟩),by omega,by omega⟩
  ·repeat' first|((exfalso;omega))|apply aE|apply aM|refine aI 0 aPt λK hK=>?_|((first|apply aD|refine aA (aO ?_)|apply aA);simp(disch:=apply aB;omega)only[go_sem,Tryz.results74])|(apply hK.nil;clear hK K;simp only[go_sem])|((first|refine aF rfl ?_ ?_)<;>intro h<;>try simp(disch:=apply aB;omega)only[go_sem] at h)|refine aT rfl ?_|apply aL|fail
   exact⟨r+1,(by(refine aC rfl rfl ?_ ?_ ?_ ?_<;>simp(disch:=apply aB;omega)only[go_sem]<;>(try omega));rw[show prA x (r+1)=prA x r++prR x r (x.rules.getD r default).r.length from rfl,show a=(x.rules.getD r default).r.length by omega];exact⟨rfl,by omega⟩),by omega,by omega⟩
 ·obtain rfl:r=x.rules.length:=by omega
  repeat' first|((exfalso;omega))|apply aE|apply aJ|refine aI 0 aPt λK hK=>?_|((first|apply aD|refine aA (aO ?_)|apply aA);simp(disch:=apply aB;omega)only[go_sem,Tryz.results74])|(apply hK.nil;clear hK K;simp only[go_sem])|((first|refine aF rfl ?_ ?_)<;>intro h<;>try simp(disch:=apply aB;omega)only[go_sem] at h)|refine aT rfl ?_|fail
  ·rw[hB (by omega)];exact⟨rfl,rfl⟩
  ·rw[hA (by omega)];exact⟨rfl,rfl⟩
def aWS:List (Nat×List Nat):=[(0,[1]),(1,[1,6]),(2,[2,3]),(3,[2,3])]
attribute [go_sem] aWS
theorem aCM(x:SystemT):FC S 38 [] [] [] [bP x] (.tup [.sl .any ((lJ x).1.map bK),.bool (lJ x).2]) [] []:=by
 rcases Classical.em (b7 x) with hx|hx
 ·skip
  refine aP Tryz.func38 rfl (by kernel_rfl) (by simp[Tryz.f38]) λB=>?_
  simp only[Tryz.ntmps38,aS,aZ,Nat.reduceAdd]
  repeat' first|((exact absurd hx (by assumption)))|apply aE|apply aJ|refine aI 0 aWS λK hK=>?_|((first|apply aD|refine aA (aO ?_)|apply aA);simp(disch:=apply aB;omega)only[go_sem,Tryz.results38])|(apply hK.nil;clear hK K;simp only[go_sem])|((first|refine aF rfl ?_ ?_)<;>intro h<;>try simp(disch:=apply aB;omega)only[go_sem] at h)|refine hK.c0 rfl rfl rfl (qB _) rfl rfl rfl ?_|refine hK.c0 rfl rfl rfl (aR1 x hx) rfl rfl rfl ?_|fail
 ·rw[iD λh=>hx h.1]
  refine aP Tryz.func38 rfl (by kernel_rfl) (by simp[Tryz.f38]) λB=>?_
  simp only[Tryz.ntmps38,aS,aZ,Nat.reduceAdd]
  repeat' first|((exact absurd (by assumption) hx))|apply aE|refine aI 0 aWS λK hK=>?_|((first|apply aD|refine aA (aO ?_)|apply aA);simp(disch:=apply aB;omega)only[go_sem,Tryz.results38])|(apply hK.nil;clear hK K;simp only[go_sem])|((first|refine aF rfl ?_ ?_)<;>intro h<;>try simp(disch:=apply aB;omega)only[go_sem] at h)|refine hK.c0 rfl rfl rfl (qB _) rfl rfl rfl ?_|fail
  all_goals exact⟨rfl,rfl⟩
end
section
attribute [local irreducible] SW bC bE dE bU FC dO
end
section
theorem aEx(n:Int):∀xs:List Int,(eF xs n).length≤xs.length+1
 | []=>by simp[eF]
 | x::r=>by
  have ih:=aEx n r
  unfold eF
  split
  ·simp only[List.length_cons];omega
  ·split<;>simp only[List.length_cons]<;>omega
end
section
attribute [local irreducible] SW bC bE dE bU FC dO toF dP
def xW(t:List Int)(i:Nat):List Int:=(t.take i).foldl (λs x=>if x<0 then eF s (-1-x) else s) []
theorem aFU(t:List Int)(i:Nat)(h:i<t.length):xW t (i+1)=if t.getD i default<0 then eF (xW t i) (-1-t.getD i default) else xW t i:=by
 unfold xW
 rw[List.take_succ_eq_append_getElem h,List.foldl_append]
 simp[List.getD,h]
theorem aIT(t:List Int):∀i≤t.length,(xW t i).length≤i
 | 0,_=>by simp[xW]
 | i+1,hi=>by
  have ih:=aIT t i (by omega)
  rw[aFU t i (by omega)]
  split
  ·have:=aEx (-1-t.getD i default) (xW t i);omega
  ·omega
def aSz:List (Nat×List Nat):=[(0,[0]),(1,[0,3]),(2,[0,3,4]),(3,[0,3,4,9]),(5,[0,3,4,16]),(6,[0,3,4]),(4,[0,3,4]),(7,[2])]
attribute [go_sem] aSz
end
section
attribute [local irreducible] SW bC bE dE bU FC dO aEe
def fvs(s l:List Int):List Int:=l.foldl (λs x=>if x<0 then eF s (-1-x) else s) s
theorem aSc(n:Nat):eF (upTo n) n=upTo (n+1):=vR (uZ n _ (aAK n)) (aAK _) λx=>by rw[kB,aDH,aDH];omega
theorem aNR{x:SystemT}{t:List Int}{a:Nat}(h:¬mkO x t a=2):0≤t.getD a default:=by
 unfold mkO at h
 split at h
 ·exact absurd rfl h
 ·omega
theorem aDG(x:SystemT)(t:List Int):∀f a n,fvs (upTo n) (eC x t f a n).1=upTo (eC x t f a n).2
 | 0,a,n=>by unfold eC;rfl
 | f+1,a,n=>by
  unfold eC
  split
  ·split
   ·show fvs (if -((n:Int)+1)<0 then eF (upTo n) (-1 - -((n:Int)+1)) else upTo n) _=_
    rw[if_pos (by omega),show (-1 - -((n:Int)+1))=(n:Int) by omega,aSc]
    exact aDG x t f _ _
   ·rename_i h
    have:=aNR h
    show fvs (if t.getD a default<0 then _ else upTo n) _=_
    rw[if_neg (by omega)]
    exact aDG x t f _ _
  ·rfl
theorem aRE(t:List Int):xW t t.length=fvs [] t:=by unfold xW fvs;rw[List.take_length]
theorem aUo(x:SystemT)(t:List Int):(xW (eC x t 60 0 0).1 (eC x t 60 0 0).1.length).length=(eC x t 60 0 0).2:=by
 rw[aRE]
 have:=aDG x t 60 0 0
 rw[show upTo 0=[] from rfl] at this
 rw[this];simp[upTo]
theorem rZ(x:SystemT)(t:List Int):∀f a n,(eC x t f a n).1.length≤f/\n≤(eC x t f a n).2/\(eC x t f a n).2≤n+f
 | 0,a,n=>by unfold eC;simp
 | f+1,a,n=>by
  unfold eC
  split
  ·split
   ·have:=rZ x t f (d7 x.sig t a).toNat (n+1)
    simp only[List.length_cons];omega
   ·have:=rZ x t f (a+1) n
    simp only[List.length_cons];omega
  ·simp
theorem aNr(x:SystemT)(t:List Int):∀f a n,∀y∈(eC x t f a n).1,-((eC x t f a n).2:Int)≤y
 | 0,a,n=>by unfold eC;simp
 | f+1,a,n=>by
  unfold eC
  split
  ·split
   ·have h1:=rZ x t f (d7 x.sig t a).toNat (n+1)
    have h2:=aNr x t f (d7 x.sig t a).toNat (n+1)
    intro y hy
    rcases zO.1 hy with rfl|hy
    ·dsimp only;omega
    ·exact h2 y hy
   ·rename_i h
    have h0:=aNR h
    have h2:=aNr x t f (a+1) n
    intro y hy
    rcases zO.1 hy with rfl|hy
    ·dsimp only;omega
    ·exact h2 y hy
  ·simp
theorem aLE{x:SystemT}{t:List Int}(hT:aX x.sig t):∀f a n k,a≤t.length->t.length≤a+f->(eC x t f a n).2≤24->Fl x.sig k (t.drop a)->Fl x.sig k (eC x t f a n).1
 | 0,a,n,k,h1,h2,_,h=>by
  rw[List.drop_of_length_le (by omega)] at h
  unfold eC;exact h
 | f+1,a,n,k,h1,h2,hc,h=>by
  have hl:=rZ x t f
  unfold eC at hc ⊢
  split
  ·rename_i ha
   rw[if_pos ha] at hc
   obtain⟨q,rfl⟩:∃q,k=q+1:=by
    rw[List.drop_eq_getElem_cons ha] at h
    cases h;exact⟨_,rfl⟩
   split
   ·rename_i hm
    rw[if_pos hm] at hc
    obtain⟨l1,l2,e,f1,f2⟩:=Fl.split (t.drop a) 1 q (by rw[Nat.add_comm];exact h)
    have ht:t=t.take a++(l1++l2):=by rw[←e,List.take_append_drop]
    have hta:(t.take a).length=a:=by rw[List.length_take];omega
    have he:=rN (p:=t.take a) (r:=l2) f1
    rw[←ht,hta] at he
    have hd:t.drop (d7 x.sig t a).toNat=l2:=by
     rw[he,show ((a:Int)+(l1.length:Int)).toNat=a+l1.length by omega,←List.drop_drop,e,List.drop_left]
    have hle:(d7 x.sig t a).toNat≤t.length:=by have:=(fN hT ha).2;omega
    have hgt:=(fN hT ha).1
    have ih:=aLE hT f (d7 x.sig t a).toNat (n+1) q hle (by omega) hc (by rw[hd];exact f2)
    have:=(hl (d7 x.sig t a).toNat (n+1)).2.1
    dsimp only at hc
    have har:arS x.sig (-((n:Int)+1))=0:=iX (by omega)
    exact .cons (by omega) (by rw[har];exact ih)
   ·rename_i hm
    rw[if_neg hm] at hc
    rw[List.drop_eq_getElem_cons ha] at h
    have hg:t[a]=t.getD a default:=by rw[zD,zB ha];rfl
    rw[hg] at h
    cases h with
    | cons h0 hr=>exact .cons h0 (aLE hT f (a+1) n _ (by omega) (by omega) hc hr)
  ·rw[List.drop_of_length_le (by omega)] at h
   exact h
theorem aRw{x:SystemT}{t:List Int}(hT:aX x.sig t)(hc:(eC x t 60 0 0).2≤24):aX x.sig (eC x t 60 0 0).1 :=
 aFl hT.1 (aLE hT 60 0 0 1 (by omega) (by have:=hT.2.1.2;omega) hc (sL hT)) (rZ x t 60 0 0).1
theorem aSH{x:SystemT}{t:List Int}(h:0≤t.getD 0 default)(hl:0<t.length):eC x t 60 0 0=(t.getD 0 default::(eC x t 59 1 0).1,(eC x t 59 1 0).2):=by
 have hm:mkO x t 0=0:=by unfold mkO;rw[if_neg (by omega),if_pos rfl]
 show (if 0<t.length then _ else _)=_
 rw[if_pos hl,if_neg (by rw[hm];decide)]
theorem aVn{x:SystemT}{t:List Int}{a:Nat}(ha:1≤a):mkO x t a=2↔(t.getD a default<0∨aEe x (t.getD a default)):=by
 unfold mkO
 by_cases h1:t.getD a default<0
 ·rw[if_pos h1];exact⟨λ_=>.inl h1,λ_=>rfl⟩
 ·rw[if_neg h1,if_neg (by omega)]
  by_cases h2:aEe x (t.getD a default)
  ·rw[bQ h2,if_pos rfl];exact⟨λ_=>.inr h2,λ_=>rfl⟩
  ·rw[bH h2,if_neg (by decide)];exact⟨λh=>absurd h (by decide),λh=>h.elim (λh=>absurd h h1) λh=>absurd h h2⟩
attribute [local irreducible] mkO
def aFD:List (Nat×List Nat):=[(0,[1,2]),(1,[1,2,12]),(2,[4]),(3,[1,2,5]),(4,[1,2,5,6]),(5,[1,2,5,6,7]),(6,[1,2,5,6,7,8]),(7,[1,2,5,6,7,8,23]),(8,[1,2,5,6,7,8,36]),(9,[1,2,5,6,7,8]),(10,[1,2,5,6,7,8]),(11,[1,2,5,6,7,8]),(12,[1,2,5,6,7,8]),(13,[1,2,5,6,7,8]),(14,[4])]
attribute [go_sem] aFD
theorem aHz(x:SystemT)(t:List Int)(hT:aX x.sig t)(h0:0≤t.getD 0 default)(hx:b7 x):FC S 132 [] [] [] [bP x,.sl .any (t.map (.int .i64))] (.sl .any ((eC x t 60 0 0).1.map (.int .i64))) [] []:=by
 have h12:=hx.1.2
 have hd0:∀j<x.rules.length,1≤(x.rules.getD j default).l.length:=λj hj=>(hx.2 j hj).1.1.2.1.1
 have hl:=hT.2.1
 have hH:=aSH (x:=x) h0 hl.1
 generalize hR:eC x t 60 0 0=R at *
 have hm2:∀a,1≤a->(mkO x t a=2↔(t.getD a default<0∨t.getD a default∈uU x.rules x.rules.length)):=λa ha=>by rw[aVn ha,aDc]
 generalize hdl:uU x.rules x.rules.length=dl at *
 have cD:=pD x (by omega) hd0
 rw[hdl] at cD
 refine aP Tryz.func132 rfl (by kernel_rfl) (by simp[Tryz.f132]) λB=>?_
 simp only[Tryz.ntmps132,aS,aZ,Nat.reduceAdd]
 repeat' first|((exfalso;omega))|((refine aCs (id:=4) 0 aFD 3 55000 rfl λK hK=>?_))|((refine⟨_,_,_,rfl,rfl,rfl,⟨⟨by simp only[Nat.reduceLT],by decide,by decide,by decide⟩,rfl,by simp[D.strip,fX,D.cells,D.memOk,TyI.size]⟩,rfl,by simp only[Nat.reduceLT],?_⟩;simp only[go_sem]))|apply aE|apply aG|apply aJ|refine aI 0 aFD λK hK=>?_|((first|apply aD|refine aA (aO ?_)|apply aA);simp(disch:=apply aB;omega)only[go_sem,Tryz.results132])|(apply hK.nil;clear hK K;simp only[go_sem])|((first|refine aH rfl rfl rfl rfl rfl ?_ ?_|refine aF rfl ?_ ?_)<;>intro h<;>try simp(disch:=apply aB;omega)only[go_sem] at h)|refine hK.c0 rfl rfl rfl (cD) rfl rfl rfl ?_|(with_reducible refine And.intro (by first|omega|(simp only[lens];omega)) ?_)|fail
 refine bG (ι:=Nat×Nat×Nat×List Int) (λq=>[(1,.sl .any (t.map (.int .i64))),(2,.box 2 0),(5,.sl .any (dl.map (.int .i64))),(8,.int .i64 q.2.1),(7,.int .i64 (-((q.2.2.1:Int)+1))),(6,.sl (.own 55000 2 1) (q.2.2.2.map (.int .i64)))]) (λ_=>[]) (λ_=>[55000]) (λq=>(1≤q.2.1/\q.2.1≤t.length/\q.2.2.1≤q.2.1/\q.2.2.2.length≤q.2.1/\t.length≤q.2.1+q.1)/\q.2.2.2++(eC x t q.1 q.2.1 q.2.2.1).1=R.1) (λq=>t.length-q.2.1) (59,1,0,[t.getD 0 default]) (by(refine aC rfl rfl ?_ ?_ ?_ ?_<;>simp(disch:=apply aB;omega)only[go_sem]<;>(try omega))) ⟨⟨by simp,by dsimp only;omega,by simp,by simp,by dsimp only;omega⟩,by rw[hH];rfl⟩ (λq hq=>?_)
 obtain⟨f,a,n,out⟩:=q
 obtain⟨⟨h1,h2,h3,h4,h5⟩,h6⟩:=hq
 dsimp only at h1 h2 h3 h4 h5 h6
 simp only[go_sem]
 by_cases hal:a<t.length
 ·obtain⟨f,rfl⟩:∃g,f=g+1:=⟨f-1,by omega⟩
  have he:=fN hT hal
  have cE:=oR x.sig t a hT hal
  have hh:=gD .any dl (t.getD a default)
  unfold eC at h6
  rw[if_pos hal] at h6
  by_cases e:mkO x t a=2
  ·rw[if_pos e] at h6
   have e2:=(hm2 a h1).1 e
   have e3:¬t.getD a default<0->t.getD a default∈dl:=λh=>e2.resolve_left h
   repeat' first|((refine jJ 41000 55000 rfl rfl ?_;simp only[go_sem]))|((exfalso;omega))|((exfalso;exact absurd (e3 (by omega)) (by assumption)))|apply aE|apply aG|apply aM|apply aJ|refine aI 0 aFD λK hK=>?_|((first|apply aD|refine aA (aO ?_)|apply aA);simp(disch:=apply aB;omega)only[go_sem,Tryz.results132])|(apply hK.nil;clear hK K;simp only[go_sem])|((first|refine aH rfl rfl rfl rfl rfl ?_ ?_|refine aF rfl ?_ ?_)<;>intro h<;>try simp(disch:=apply aB;omega)only[go_sem] at h)|refine hK.skp rfl rfl ?_|apply aL|refine hK.c0 rfl rfl rfl (cE) rfl rfl rfl ?_|refine hK.c0 rfl rfl rfl (hh) rfl rfl rfl ?_|(with_reducible refine And.intro (by first|omega|(simp only[lens];omega)) ?_)|fail
   all_goals exact⟨(f,(d7 x.sig t a).toNat,n+1,out++[-((n:Int)+1)]),(by(refine aC rfl rfl ?_ ?_ ?_ ?_<;>simp(disch:=apply aB;omega)only[go_sem]<;>(try omega));all_goals first|exact⟨by omega,by omega⟩|trace_state),⟨⟨by dsimp only;omega,by dsimp only;omega,by dsimp only;omega,by dsimp only;rw[zK,List.length_singleton];omega,by dsimp only;omega⟩,by dsimp only;rw[List.append_assoc];exact h6⟩,by dsimp only;omega⟩
  ·rw[if_neg e] at h6
   have e2:=mt (hm2 a h1).2 e
   repeat' first|((exfalso;exact e2 (.inl (by omega))))|((exfalso;exact e2 (.inr (by assumption))))|apply aE|apply aG|apply aM|apply aJ|refine aI 0 aFD λK hK=>?_|((first|apply aD|refine aA (aO ?_)|apply aA);simp(disch:=apply aB;omega)only[go_sem,Tryz.results132])|(apply hK.nil;clear hK K;simp only[go_sem])|((first|refine aH rfl rfl rfl rfl rfl ?_ ?_|refine aF rfl ?_ ?_)<;>intro h<;>try simp(disch:=apply aB;omega)only[go_sem] at h)|apply aL|refine hK.c0 rfl rfl rfl (hh) rfl rfl rfl ?_|(with_reducible refine And.intro (by first|omega|(simp only[lens];omega)) ?_)|fail
   all_goals exact⟨(f,a+1,n,out++[t.getD a default]),(by(refine aC rfl rfl ?_ ?_ ?_ ?_<;>simp(disch:=apply aB;omega)only[go_sem]<;>(try omega))),⟨⟨by dsimp only;omega,by dsimp only;omega,by dsimp only;omega,by dsimp only;rw[zK,List.length_singleton];omega,by dsimp only;omega⟩,by dsimp only;rw[List.append_assoc];exact h6⟩,by dsimp only;omega⟩
 ·have hz:(eC x t f a n).1=[]:=by
   cases f with
   | zero=>rfl
   | succ f=>unfold eC;rw[if_neg hal]
  rw[hz,List.append_nil] at h6
  repeat' first|((exfalso;omega))|apply aE|refine aI 0 aFD λK hK=>?_|((first|apply aD|refine aA (aO ?_)|apply aA);simp(disch:=apply aB;omega)only[go_sem,Tryz.results132])|(apply hK.nil;clear hK K;simp only[go_sem])|((first|refine aH rfl rfl rfl rfl rfl ?_ ?_|refine aF rfl ?_ ?_)<;>intro h<;>try simp(disch:=apply aB;omega)only[go_sem] at h)|refine aT rfl ?_|fail
  all_goals first|rfl|rw[h6]|exact h6
theorem aKO(t:List Int)(ht:t.length≤1000)(hlo:∀x∈t,-1000≤x):FC S 133 [] [] [] [.sl .any (t.map (.int .i64))] (.sl .any ((xW t t.length).map (.int .i64))) [] []:=by
 refine aP Tryz.func133 rfl (by kernel_rfl) (by simp[Tryz.f133]) λB=>?_
 simp only[Tryz.ntmps133,aS,aZ,Nat.reduceAdd]
 refine bZ 0 rfl λhb0=>?_
 simp only[D.bnd,zC] at hb0
 repeat' first|apply aE|apply aG|refine aI 0 aSz λK hK=>?_|((first|apply aD|refine aA (aO ?_)|apply aA);simp(disch:=apply aB;omega)only[go_sem,Tryz.results133])|(apply hK.nil;clear hK K;simp only[go_sem])|fail
 refine bB (ι:=Nat) (λp=>[(4,.int .i64 p),(3,.sl .any ((xW t p).map (.int .i64)))]) (λp=>[]) (λp=>p≤t.length) (λp=>t.length-p) 0 (by(refine aC rfl rfl ?_ ?_ ?_ ?_<;>simp(disch:=apply aB;omega)only[go_sem]<;>(try omega));exact⟨rfl,rfl⟩) ?_ (λp hp=>?_)
 rotate_left
 simp only[go_sem]
 have hl:=aIT t p hp
 have hs:=aFU t p
 have hg:p<t.length->-1000≤t.getD p default:=λh=>hlo _ (bA t p h)
 repeat' first|apply aE|apply aG|apply aM|apply aJ|refine aI 0 aSz λK hK=>?_|((first|apply aD|refine aA (aO ?_)|apply aA);simp(disch:=apply aB;omega)only[go_sem,Tryz.results133])|(apply hK.nil;clear hK K;simp only[go_sem])|((first|refine aF rfl ?_ ?_)<;>intro h<;>try simp(disch:=apply aB;omega)only[go_sem] at h)|refine aT rfl ?_|apply aL|refine hK.c0 rfl rfl rfl (oA _ (xW t p) (-1-t.getD p default) (by omega)) rfl rfl rfl ?_|(with_reducible refine And.intro (by first|omega|(simp only[lens];omega)) ?_)|fail
 ·exact⟨p+1,(by rw[hs (by omega),if_pos (by omega)];(refine aC rfl rfl ?_ ?_ ?_ ?_<;>simp(disch:=apply aB;omega)only[go_sem]<;>(try omega));all_goals exact⟨rfl,by omega⟩),by omega,by omega⟩
 ·exact⟨p+1,(by rw[hs (by omega),if_neg (by omega)];(refine aC rfl rfl ?_ ?_ ?_ ?_<;>simp(disch:=apply aB;omega)only[go_sem]<;>(try omega));all_goals exact⟨rfl,by omega⟩),by omega,by omega⟩
 ·rw[show p=t.length by omega]
 ·omega
def aRR:List (Nat×List Nat):=[(0,[1,2]),(1,[1,2,16]),(2,[4,5]),(3,[6]),(4,[6,24]),(5,[4,5]),(6,[4,5])]
attribute [go_sem] aRR
theorem aKr(x:SystemT)(t:List Int)(hT:aX x.sig t)(h0:0≤t.getD 0 default)(hx:b7 x):FC S 109 [] [] [] [bP x,.sl .any (t.map (.int .i64))] (.tup [.sl .any ((if (eC x t 60 0 0).2≤24 then (eC x t 60 0 0).1 else []).map (.int .i64)),.bool (tst ((eC x t 60 0 0).2≤24))]) [] []:=by
 have cC:=aHz x t hT h0 hx
 have hn:=aUo x t
 have hl:=rZ x t 60 0 0
 have hg:=aNr x t 60 0 0
 have cV:=aKO (eC x t 60 0 0).1 (by omega) (λy hy=>by have:=hg y hy;omega)
 generalize eC x t 60 0 0=R at *
 generalize xW R.1 R.1.length=V at *
 by_cases hc:R.2≤24
 ·rw[if_pos hc,bQ hc]
  refine aP Tryz.func109 rfl (by kernel_rfl) (by simp[Tryz.f109]) λB=>?_
  simp only[Tryz.ntmps109,aS,aZ,Nat.reduceAdd]
  repeat' first|((exact absurd hx (by assumption)))|((exact absurd hT (by assumption)))|((exfalso;omega))|apply aE|apply aJ|refine aI 0 aRR λK hK=>?_|((first|apply aD|refine aA (aO ?_)|apply aA);simp(disch:=apply aB;omega)only[go_sem,Tryz.results109])|(apply hK.nil;clear hK K;simp only[go_sem])|((first|refine aH rfl rfl rfl rfl rfl ?_ ?_|refine aF rfl ?_ ?_)<;>intro h<;>try simp(disch:=apply aB;omega)only[go_sem] at h)|refine hK.c0 rfl rfl rfl (g7 _) rfl rfl rfl ?_|refine hK.c0 rfl rfl rfl (fY _ _ _ _) rfl rfl rfl ?_|refine hK.c0 rfl rfl rfl (cC) rfl rfl rfl ?_|refine hK.c0 rfl rfl rfl (cV) rfl rfl rfl ?_|fail
 ·rw[if_neg hc,bH hc]
  refine aP Tryz.func109 rfl (by kernel_rfl) (by simp[Tryz.f109]) λB=>?_
  simp only[Tryz.ntmps109,aS,aZ,Nat.reduceAdd]
  repeat' first|((exact absurd hx (by assumption)))|((exact absurd hT (by assumption)))|((exfalso;omega))|apply aE|apply aJ|refine aI 0 aRR λK hK=>?_|((first|apply aD|refine aA (aO ?_)|apply aA);simp(disch:=apply aB;omega)only[go_sem,Tryz.results109])|(apply hK.nil;clear hK K;simp only[go_sem])|((first|refine aH rfl rfl rfl rfl rfl ?_ ?_|refine aF rfl ?_ ?_)<;>intro h<;>try simp(disch:=apply aB;omega)only[go_sem] at h)|refine hK.c0 rfl rfl rfl (g7 _) rfl rfl rfl ?_|refine hK.c0 rfl rfl rfl (fY _ _ _ _) rfl rfl rfl ?_|refine hK.c0 rfl rfl rfl (cC) rfl rfl rfl ?_|refine hK.c0 rfl rfl rfl (cV) rfl rfl rfl ?_|fail
end
end Go.Proofs.YtpennhjjnlkbiaaGreat
