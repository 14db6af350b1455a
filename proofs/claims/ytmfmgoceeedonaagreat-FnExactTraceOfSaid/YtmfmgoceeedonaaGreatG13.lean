/-
  MFnExactTraceOf, LFnExactTraceOf, one behind the other.
-/
import Derived.Test.YtmfmgoceeedonaaGreatSet
import Derived.Test.YtmfmgoceeedonaaGreatG1
import Derived.Test.YtmfmgoceeedonaaGreatG0
namespace Go.Proofs.YtmfmgoceeedonaaGreat
open Go Go.Lg
set_option linter.unusedSimpArgs false
set_option linter.unusedVariables false
set_option maxHeartbeats 4000000
section
set_option maxRecDepth 20000
attribute [local irreducible] kR SM
attribute [go_sem] Tryz.ntmps37
theorem dK:MKs S.P 37 jA:=by
 refine⟨⟨_,Tryz.func37,by kernel_rfl,rfl⟩,λlim w v qs k h hW h0 hb=>?_⟩;refine g7 (vals:=[v,Value.int .i64 k]) (t:=4) Tryz.func37 rfl (by simp[Tryz.f37]) rfl (R:=λE' w'=>Lg.look E' 4=some (Value.int .i64 (k+qs.length))/\w'=wrs w qs k) ?_ (λE' w' h=>⟨_,h.1,rfl,h.2⟩);simp only[Tryz.ntmps37,o4];repeat' first
  | refine bU ?_
  | refine aW ?_
  | refine bF ?_
  | refine aP ?_
  | refine aS ?_
  | refine bT rfl (by decide) ?_
  | refine aY rfl (by decide) ?_
  | refine c9 rfl (aN rfl) (by decide) ?_
  | refine c8 rfl rfl (by decide) ?_
  | refine cZ ?_
 refine nA h hW h0 hb (by intro p hp;simp only[zO,List.not_mem_nil,or_false] at hp;rcases hp with rfl|rfl|rfl<;>rfl) λA m cp hv hm i k' wi J hk0 hkm hi hx hend=>?_;subst hv;simp only[maxLen] at hm;repeat' first
  | refine bU ?_
  | refine aW ?_
  | refine bF ?_
  | refine aP ?_
  | refine aS ?_
  | refine bT rfl (by decide) ?_
  | refine aY rfl (by decide) ?_
  | refine c9 rfl (aN rfl) (by decide) ?_
  | refine c8 rfl rfl (by decide) ?_
  | refine cZ ?_
 refine jI rfl (λhc=>?_) (λhc=>?_)
 ·have hlt:i<m:=by simpa using hc
  obtain⟨b,o,l,rfl,hF0,hw0,hkb,hJ⟩:=hx hlt;have hk0':=hk0;obtain⟨r1,m1,rfl,hm1,-,hn1⟩:=LvF.cell_step hF0;have ha1:=hw0 _ zH;have hb1:=λq hq=>hw0 q (zG _ hq);simp only[List.length_cons] at hkb;repeat' first
   | refine dS rfl rfl (aN rfl) (λw=>Lg.run_sizeOf (S.ok _ _ rfl) w) hlt (by decide) ?_
   | refine dB (S:=S) rfl rfl rfl rfl rfl (by decide) (by decide) ?_
   | refine aPR (S:=S) rfl rfl rfl rfl rfl ha1 hm1 ?_
   | refine uS rfl rfl (by omega) (by decide) ?_
   | refine bU ?_
   | refine aW ?_
   | refine bF ?_
   | refine aP ?_
   | refine aS ?_
   | refine bT rfl (by decide) ?_
   | refine aY rfl (by decide) ?_
   | refine c9 rfl (aN rfl) (by decide) ?_
   | refine c8 rfl rfl (by decide) ?_
   | refine cZ ?_
  obtain⟨hF1,hw1⟩:=hn1 (k') ha1 hb1;obtain rfl:=hF1.nil_step;repeat' first
   | refine uS rfl rfl (by omega) (by decide) ?_
   | refine bU ?_
   | refine aW ?_
   | refine bF ?_
   | refine aP ?_
   | refine aS ?_
   | refine bT rfl (by decide) ?_
   | refine aY rfl (by decide) ?_
   | refine c9 rfl (aN rfl) (by decide) ?_
   | refine c8 rfl rfl (by decide) ?_
   | refine cZ ?_
  refine kT (Eq.mp (congrArg (J _) ?_) (hJ _ ?_))
  ·first|rfl|(simp only[iU,wrs,List.append_nil];done)|(simp only[iU,wrs,List.append_nil];rfl)
  intro p hp;simp only[zO,List.not_mem_nil,or_false] at hp;rcases hp with rfl|rfl|rfl
  ·rfl
  ·exact rW (by simp only[zK,List.length_cons,List.length_nil];omega)
  ·rfl
 ·have hlt:¬i<m:=by simpa using hc
  obtain⟨rfl,rfl⟩:=hend (by omega);refine rF rfl ?_;repeat' first
   | refine bU ?_
   | refine aW ?_
   | refine bF ?_
   | refine aP ?_
   | refine aS ?_
   | refine bT rfl (by decide) ?_
   | refine aY rfl (by decide) ?_
   | refine c9 rfl (aN rfl) (by decide) ?_
   | refine c8 rfl rfl (by decide) ?_
   | refine cZ ?_
  exact sF ⟨rfl,rfl⟩
attribute [go_sem] Tryz.ntmps39
theorem gF:HDs S.P 39 jA:=by
 refine⟨⟨_,Tryz.func39,by kernel_rfl,rfl⟩,λlim w v qs k h hW h0 hb=>?_⟩;refine g7 (vals:=[v,Value.int .i64 k]) (t:=4) Tryz.func39 rfl (by simp[Tryz.f39]) rfl (R:=λE' w'=>Lg.look E' 4=some (Value.int .i64 (k+qs.length))/\w'=w) ?_ (λE' w' h=>⟨_,h.1,rfl,h.2⟩);simp only[Tryz.ntmps39,o4];repeat' first
  | refine bU ?_
  | refine aW ?_
  | refine bF ?_
  | refine aP ?_
  | refine aS ?_
  | refine bT rfl (by decide) ?_
  | refine aY rfl (by decide) ?_
  | refine c9 rfl (aN rfl) (by decide) ?_
  | refine c8 rfl rfl (by decide) ?_
  | refine cZ ?_
 refine rY h hW h0 hb (by intro p hp;simp only[zO,List.not_mem_nil,or_false] at hp;rcases hp with rfl|rfl|rfl<;>rfl) λA m cp hv hm i k' J hk0 hkm hi hx hend=>?_;subst hv;simp only[maxLen] at hm;repeat' first
  | refine bU ?_
  | refine aW ?_
  | refine bF ?_
  | refine aP ?_
  | refine aS ?_
  | refine bT rfl (by decide) ?_
  | refine aY rfl (by decide) ?_
  | refine c9 rfl (aN rfl) (by decide) ?_
  | refine c8 rfl rfl (by decide) ?_
  | refine cZ ?_
 refine jI rfl (λhc=>?_) (λhc=>?_)
 ·have hlt:i<m:=by simpa using hc
  obtain⟨b,o,l,rfl,hF0,hw0,hkb,hJ⟩:=hx hlt;obtain⟨r1,m1,rfl,hm1,hF1,-⟩:=LvF.cell_step hF0;have ha1:=(aEu hw0).int hm1;have hw1:=aD7 hw0;simp only[List.length_cons] at hkb;repeat' first
   | refine dS rfl rfl (aN rfl) (λw=>Lg.run_sizeOf (S.ok _ _ rfl) w) hlt (by decide) ?_
   | refine dB (S:=S) rfl rfl rfl rfl rfl (by decide) (by decide) ?_
   | refine kA (S:=S) rfl rfl rfl rfl ha1 (by decide) ?_
   | refine aYb rfl rfl (by decide) ?_
   | refine bU ?_
   | refine aW ?_
   | refine bF ?_
   | refine aP ?_
   | refine aS ?_
   | refine bT rfl (by decide) ?_
   | refine aY rfl (by decide) ?_
   | refine c9 rfl (aN rfl) (by decide) ?_
   | refine c8 rfl rfl (by decide) ?_
   | refine cZ ?_
  refine jI rfl (λhc=>absurd hc (by simp)) (λ_=>?_);repeat' first
   | refine uS rfl rfl (by omega) (by decide) ?_
   | refine bU ?_
   | refine aW ?_
   | refine bF ?_
   | refine aP ?_
   | refine aS ?_
   | refine bT rfl (by decide) ?_
   | refine aY rfl (by decide) ?_
   | refine c9 rfl (aN rfl) (by decide) ?_
   | refine c8 rfl rfl (by decide) ?_
   | refine cZ ?_
  obtain rfl:=hF1.nil_step;repeat' first
   | refine uS rfl rfl (by omega) (by decide) ?_
   | refine bU ?_
   | refine aW ?_
   | refine bF ?_
   | refine aP ?_
   | refine aS ?_
   | refine bT rfl (by decide) ?_
   | refine aY rfl (by decide) ?_
   | refine c9 rfl (aN rfl) (by decide) ?_
   | refine c8 rfl rfl (by decide) ?_
   | refine cZ ?_
  refine kT (hJ _ ?_);intro p hp;simp only[zO,List.not_mem_nil,or_false] at hp;rcases hp with rfl|rfl|rfl
  ·rfl
  ·exact rW (by simp only[zK,List.length_cons,List.length_nil];omega)
  ·rfl
 ·have hlt:¬i<m:=by simpa using hc
  obtain rfl:=hend (by omega);refine rF rfl ?_;repeat' first
   | refine bU ?_
   | refine aW ?_
   | refine bF ?_
   | refine aP ?_
   | refine aS ?_
   | refine bT rfl (by decide) ?_
   | refine aY rfl (by decide) ?_
   | refine c9 rfl (aN rfl) (by decide) ?_
   | refine c8 rfl rfl (by decide) ?_
   | refine cZ ?_
  exact sF ⟨rfl,rfl⟩
attribute [go_sem] Tryz.ntmps35
theorem aE4:MKa S.P 35 aPx:=by
 refine⟨⟨_,Tryz.func35,by kernel_rfl,rfl⟩,λlim w vs qs k hl h hW h0 hb=>?_⟩;simp only[aPx,Fs.len] at hl;rcases vs with _|⟨v0,_|⟨_,_⟩⟩<;>simp at hl
 clear hl;refine g7 (vals:=[Value.agg [v0].toArray,Value.int .i64 k]) (t:=4) Tryz.func35 rfl (by simp[Tryz.f35]) rfl (R:=λE' w'=>Lg.look E' 4=some (Value.int .i64 (k+qs.length))/\Marked w qs k w') ?_ (λE' w' h=>⟨_,h.1,rfl,h.2⟩);simp only[Tryz.ntmps35,o4];repeat' first
  | refine aX0 rfl (by decide) ?_
  | refine bU ?_
  | refine aW ?_
  | refine bF ?_
  | refine aP ?_
  | refine aS ?_
  | refine bT rfl (by decide) ?_
  | refine aY rfl (by decide) ?_
  | refine c9 rfl (aN rfl) (by decide) ?_
  | refine c8 rfl rfl (by decide) ?_
  | refine cZ ?_
 have hx0:∀q∈([]:List (Nat×Nat)),MkC w q:=by simp
 have hM0:Marked w [] k (w.alloc (.cells [v0].toArray 32)):=Marked.of_grown (Grown.alloc w _ _) k;have hB0:∀(j:Nat) u,[v0][j]?=some u->cellAt (w.alloc (.cells [v0].toArray 32)) w.heap.size j=some u:=λj u hj=>by rw[aAy];simpa using hj
 have hA0:=h;have hw0:=hW;unfold aPx at hA0;obtain⟨l1,r1,rfl,hL1,hA1⟩:=LvA.sub_step hA0;simp only[zK] at hb;have hi1:∀q∈l1,MkC w q:=λq hq=>(Lv.ints _ _ _ hL1 q hq).2;repeat' first
  | refine dB (S:=S) rfl rfl rfl rfl rfl (by decide) (by decide) ?_
  | refine kA (S:=S) rfl rfl rfl rfl (hB0 0 _ rfl) (by decide) ?_
  | refine bU ?_
  | refine aW ?_
  | refine bF ?_
  | refine aP ?_
  | refine aS ?_
  | refine bT rfl (by decide) ?_
  | refine aY rfl (by decide) ?_
  | refine c9 rfl (aN rfl) (by decide) ?_
  | refine c8 rfl rfl (by decide) ?_
  | refine cZ ?_
 have ha1:=λq hq=>hw0 q (List.mem_append_left _ hq);have hw1:=λq hq=>hw0 q (List.mem_append_right _ hq);have hI1:=hM0.intW lim hx0;refine kV dK.1 rfl rfl (dK.2 lim _ v0 l1 _ (Lv.mono hI1 _ _ _ hL1) (λq hq=>hM0.Wr (ha1 q hq)) (by omega) (by omega)) (by decide) ?_;rintro _ w1 ⟨rfl,hm1'⟩;refine⟨_,rfl,?_⟩;have hm1:=Marked.of_wrs (k) (λq (hq:q∈l1)=>hM0.Wr (ha1 q hq)) (λq hq=>(Lv.ints _ _ _ (Lv.mono hI1 _ _ _ hL1) q hq).2);rw[←hm1'] at hm1;have hB1:=yS hB0 hm1 ha1;have hM1:=hM0.append (l2:=l1) (w'':=w1) (by simpa only[List.nil_append,zK,List.length_nil,Int.natCast_add,Int.natCast_zero,Int.zero_add,Int.add_zero,Int.add_assoc] using hm1);have hx1:=λq (hq:q∈_++l1)=>(zP.1 hq).elim (hx0 q) (hi1 q);repeat' first
  | refine bU ?_
  | refine aW ?_
  | refine bF ?_
  | refine aP ?_
  | refine aS ?_
  | refine bT rfl (by decide) ?_
  | refine aY rfl (by decide) ?_
  | refine c9 rfl (aN rfl) (by decide) ?_
  | refine c8 rfl rfl (by decide) ?_
  | refine cZ ?_
 obtain rfl:=hA1.nil_step;repeat' first
  | refine bU ?_
  | refine aW ?_
  | refine bF ?_
  | refine aP ?_
  | refine aS ?_
  | refine bT rfl (by decide) ?_
  | refine aY rfl (by decide) ?_
  | refine c9 rfl (aN rfl) (by decide) ?_
  | refine c8 rfl rfl (by decide) ?_
  | refine cZ ?_
 refine sF ⟨?_,?_⟩
 ·exact rW (by simp only[zK,List.length_nil];omega)
 ·simpa only[List.nil_append,List.append_nil,List.append_assoc] using hM1
attribute [go_sem] Tryz.ntmps38
theorem aAv:MKs S.P 38 aDC:=by
 refine⟨⟨_,Tryz.func38,by kernel_rfl,rfl⟩,λlim w v qs k h hW h0 hb=>?_⟩;refine g7 (vals:=[v,Value.int .i64 k]) (t:=4) Tryz.func38 rfl (by simp[Tryz.f38]) rfl (R:=λE' w'=>Lg.look E' 4=some (Value.int .i64 (k+qs.length))/\w'=wrs w qs k) ?_ (λE' w' h=>⟨_,h.1,rfl,h.2⟩);simp only[Tryz.ntmps38,o4];repeat' first
  | refine bU ?_
  | refine aW ?_
  | refine bF ?_
  | refine aP ?_
  | refine aS ?_
  | refine bT rfl (by decide) ?_
  | refine aY rfl (by decide) ?_
  | refine c9 rfl (aN rfl) (by decide) ?_
  | refine c8 rfl rfl (by decide) ?_
  | refine cZ ?_
 refine nA h hW h0 hb (by intro p hp;simp only[zO,List.not_mem_nil,or_false] at hp;rcases hp with rfl|rfl|rfl<;>rfl) λA m cp hv hm i k' wi J hk0 hkm hi hx hend=>?_;subst hv;simp only[maxLen] at hm;repeat' first
  | refine bU ?_
  | refine aW ?_
  | refine bF ?_
  | refine aP ?_
  | refine aS ?_
  | refine bT rfl (by decide) ?_
  | refine aY rfl (by decide) ?_
  | refine c9 rfl (aN rfl) (by decide) ?_
  | refine c8 rfl rfl (by decide) ?_
  | refine cZ ?_
 refine jI rfl (λhc=>?_) (λhc=>?_)
 ·have hlt:i<m:=by simpa using hc
  obtain⟨b,o,l,rfl,hF0,hw0,hkb,hJ⟩:=hx hlt;have hk0':=hk0;obtain⟨r1,m1,rfl,hm1,-,hn1⟩:=LvF.cell_step hF0;have ha1:=hw0 _ zH;have hb1:=λq hq=>hw0 q (zG _ hq);simp only[List.length_cons] at hkb;repeat' first
   | refine dS rfl rfl (aN rfl) (λw=>Lg.run_sizeOf (S.ok _ _ rfl) w) hlt (by decide) ?_
   | refine dB (S:=S) rfl rfl rfl rfl rfl (by decide) (by decide) ?_
   | refine aPR (S:=S) rfl rfl rfl rfl rfl ha1 hm1 ?_
   | refine uS rfl rfl (by omega) (by decide) ?_
   | refine bU ?_
   | refine aW ?_
   | refine bF ?_
   | refine aP ?_
   | refine aS ?_
   | refine bT rfl (by decide) ?_
   | refine aY rfl (by decide) ?_
   | refine c9 rfl (aN rfl) (by decide) ?_
   | refine c8 rfl rfl (by decide) ?_
   | refine cZ ?_
  obtain⟨hF1,hw1⟩:=hn1 (k') ha1 hb1;obtain⟨v2,l2,r2,rfl,hc2,hL2,-,hn2⟩:=LvF.sub_step hF1;have ha2:=λq hq=>hw1 q (List.mem_append_left _ hq);have hb2:=λq hq=>hw1 q (List.mem_append_right _ hq);simp only[zK] at hkb;repeat' first
   | refine dS rfl rfl (aN rfl) (λw=>Lg.run_sizeOf (S.ok _ _ rfl) w) hlt (by decide) ?_
   | refine dB (S:=S) rfl rfl rfl rfl rfl (by decide) (by decide) ?_
   | refine kA (S:=S) rfl rfl rfl rfl hc2 (by decide) ?_
   | refine bU ?_
   | refine aW ?_
   | refine bF ?_
   | refine aP ?_
   | refine aS ?_
   | refine bT rfl (by decide) ?_
   | refine aY rfl (by decide) ?_
   | refine c9 rfl (aN rfl) (by decide) ?_
   | refine c8 rfl rfl (by decide) ?_
   | refine cZ ?_
  refine kV dK.1 rfl rfl (dK.2 lim _ v2 l2 _ hL2 ha2 (by omega) (by omega)) (by decide) ?_;rintro _ _ ⟨rfl,rfl⟩;refine⟨_,rfl,?_⟩;obtain⟨hF2,hw2⟩:=hn2 (k'+1) ha2 hb2;obtain rfl:=hF2.nil_step;repeat' first
   | refine uS rfl rfl (by omega) (by decide) ?_
   | refine bU ?_
   | refine aW ?_
   | refine bF ?_
   | refine aP ?_
   | refine aS ?_
   | refine bT rfl (by decide) ?_
   | refine aY rfl (by decide) ?_
   | refine c9 rfl (aN rfl) (by decide) ?_
   | refine c8 rfl rfl (by decide) ?_
   | refine cZ ?_
  refine kT (Eq.mp (congrArg (J _) ?_) (hJ _ ?_))
  ·first|rfl|(simp only[iU,wrs,List.append_nil];done)|(simp only[iU,wrs,List.append_nil];rfl)
  intro p hp;simp only[zO,List.not_mem_nil,or_false] at hp;rcases hp with rfl|rfl|rfl
  ·rfl
  ·exact rW (by simp only[zK,List.length_cons,List.length_nil];omega)
  ·rfl
 ·have hlt:¬i<m:=by simpa using hc
  obtain⟨rfl,rfl⟩:=hend (by omega);refine rF rfl ?_;repeat' first
   | refine bU ?_
   | refine aW ?_
   | refine bF ?_
   | refine aP ?_
   | refine aS ?_
   | refine bT rfl (by decide) ?_
   | refine aY rfl (by decide) ?_
   | refine c9 rfl (aN rfl) (by decide) ?_
   | refine c8 rfl rfl (by decide) ?_
   | refine cZ ?_
  exact sF ⟨rfl,rfl⟩
attribute [go_sem] Tryz.ntmps40
theorem aAI:HDs S.P 40 aDC:=by
 refine⟨⟨_,Tryz.func40,by kernel_rfl,rfl⟩,λlim w v qs k h hW h0 hb=>?_⟩;refine g7 (vals:=[v,Value.int .i64 k]) (t:=4) Tryz.func40 rfl (by simp[Tryz.f40]) rfl (R:=λE' w'=>Lg.look E' 4=some (Value.int .i64 (k+qs.length))/\w'=w) ?_ (λE' w' h=>⟨_,h.1,rfl,h.2⟩);simp only[Tryz.ntmps40,o4];repeat' first
  | refine bU ?_
  | refine aW ?_
  | refine bF ?_
  | refine aP ?_
  | refine aS ?_
  | refine bT rfl (by decide) ?_
  | refine aY rfl (by decide) ?_
  | refine c9 rfl (aN rfl) (by decide) ?_
  | refine c8 rfl rfl (by decide) ?_
  | refine cZ ?_
 refine rY h hW h0 hb (by intro p hp;simp only[zO,List.not_mem_nil,or_false] at hp;rcases hp with rfl|rfl|rfl<;>rfl) λA m cp hv hm i k' J hk0 hkm hi hx hend=>?_;subst hv;simp only[maxLen] at hm;repeat' first
  | refine bU ?_
  | refine aW ?_
  | refine bF ?_
  | refine aP ?_
  | refine aS ?_
  | refine bT rfl (by decide) ?_
  | refine aY rfl (by decide) ?_
  | refine c9 rfl (aN rfl) (by decide) ?_
  | refine c8 rfl rfl (by decide) ?_
  | refine cZ ?_
 refine jI rfl (λhc=>?_) (λhc=>?_)
 ·have hlt:i<m:=by simpa using hc
  obtain⟨b,o,l,rfl,hF0,hw0,hkb,hJ⟩:=hx hlt;obtain⟨r1,m1,rfl,hm1,hF1,-⟩:=LvF.cell_step hF0;have ha1:=(aEu hw0).int hm1;have hw1:=aD7 hw0;simp only[List.length_cons] at hkb;repeat' first
   | refine dS rfl rfl (aN rfl) (λw=>Lg.run_sizeOf (S.ok _ _ rfl) w) hlt (by decide) ?_
   | refine dB (S:=S) rfl rfl rfl rfl rfl (by decide) (by decide) ?_
   | refine kA (S:=S) rfl rfl rfl rfl ha1 (by decide) ?_
   | refine aYb rfl rfl (by decide) ?_
   | refine bU ?_
   | refine aW ?_
   | refine bF ?_
   | refine aP ?_
   | refine aS ?_
   | refine bT rfl (by decide) ?_
   | refine aY rfl (by decide) ?_
   | refine c9 rfl (aN rfl) (by decide) ?_
   | refine c8 rfl rfl (by decide) ?_
   | refine cZ ?_
  refine jI rfl (λhc=>absurd hc (by simp)) (λ_=>?_);repeat' first
   | refine uS rfl rfl (by omega) (by decide) ?_
   | refine bU ?_
   | refine aW ?_
   | refine bF ?_
   | refine aP ?_
   | refine aS ?_
   | refine bT rfl (by decide) ?_
   | refine aY rfl (by decide) ?_
   | refine c9 rfl (aN rfl) (by decide) ?_
   | refine c8 rfl rfl (by decide) ?_
   | refine cZ ?_
  obtain⟨v2,l2,r2,rfl,hc2,hL2,hF2,-⟩:=LvF.sub_step hF1;have ha2:=kP hw1;have hw2:=jJ hw1;simp only[zK] at hkb;repeat' first
   | refine dS rfl rfl (aN rfl) (λw=>Lg.run_sizeOf (S.ok _ _ rfl) w) hlt (by decide) ?_
   | refine dB (S:=S) rfl rfl rfl rfl rfl (by decide) (by decide) ?_
   | refine kA (S:=S) rfl rfl rfl rfl hc2 (by decide) ?_
   | refine bU ?_
   | refine aW ?_
   | refine bF ?_
   | refine aP ?_
   | refine aS ?_
   | refine bT rfl (by decide) ?_
   | refine aY rfl (by decide) ?_
   | refine c9 rfl (aN rfl) (by decide) ?_
   | refine c8 rfl rfl (by decide) ?_
   | refine cZ ?_
  refine kV gF.1 rfl rfl (gF.2 lim _ v2 l2 _ hL2 ha2 (by omega) (by omega)) (by decide) ?_;rintro _ _ ⟨rfl,rfl⟩;refine⟨_,rfl,?_⟩;repeat' first
   | refine bU ?_
   | refine aW ?_
   | refine bF ?_
   | refine aP ?_
   | refine aS ?_
   | refine bT rfl (by decide) ?_
   | refine aY rfl (by decide) ?_
   | refine c9 rfl (aN rfl) (by decide) ?_
   | refine c8 rfl rfl (by decide) ?_
   | refine cZ ?_
  refine jI rfl (λhc=>absurd (of_decide_eq_true hc) (by omega)) (λ_=>?_);obtain rfl:=hF2.nil_step;repeat' first
   | refine uS rfl rfl (by omega) (by decide) ?_
   | refine bU ?_
   | refine aW ?_
   | refine bF ?_
   | refine aP ?_
   | refine aS ?_
   | refine bT rfl (by decide) ?_
   | refine aY rfl (by decide) ?_
   | refine c9 rfl (aN rfl) (by decide) ?_
   | refine c8 rfl rfl (by decide) ?_
   | refine cZ ?_
  refine kT (hJ _ ?_);intro p hp;simp only[zO,List.not_mem_nil,or_false] at hp;rcases hp with rfl|rfl|rfl
  ·rfl
  ·exact rW (by simp only[zK,List.length_cons,List.length_nil];omega)
  ·rfl
 ·have hlt:¬i<m:=by simpa using hc
  obtain rfl:=hend (by omega);refine rF rfl ?_;repeat' first
   | refine bU ?_
   | refine aW ?_
   | refine bF ?_
   | refine aP ?_
   | refine aS ?_
   | refine bT rfl (by decide) ?_
   | refine aY rfl (by decide) ?_
   | refine c9 rfl (aN rfl) (by decide) ?_
   | refine c8 rfl rfl (by decide) ?_
   | refine cZ ?_
  exact sF ⟨rfl,rfl⟩
attribute [go_sem] Tryz.ntmps36
theorem aAi:MKs S.P 36 aDt:=by
 refine⟨⟨_,Tryz.func36,by kernel_rfl,rfl⟩,λlim w v qs k h hW h0 hb=>?_⟩;refine g7 (vals:=[v,Value.int .i64 k]) (t:=4) Tryz.func36 rfl (by simp[Tryz.f36]) rfl (R:=λE' w'=>Lg.look E' 4=some (Value.int .i64 (k+qs.length))/\w'=wrs w qs k) ?_ (λE' w' h=>⟨_,h.1,rfl,h.2⟩);simp only[Tryz.ntmps36,o4];repeat' first
  | refine bU ?_
  | refine aW ?_
  | refine bF ?_
  | refine aP ?_
  | refine aS ?_
  | refine bT rfl (by decide) ?_
  | refine aY rfl (by decide) ?_
  | refine c9 rfl (aN rfl) (by decide) ?_
  | refine c8 rfl rfl (by decide) ?_
  | refine cZ ?_
 refine nA h hW h0 hb (by intro p hp;simp only[zO,List.not_mem_nil,or_false] at hp;rcases hp with rfl|rfl|rfl<;>rfl) λA m cp hv hm i k' wi J hk0 hkm hi hx hend=>?_;subst hv;simp only[maxLen] at hm;repeat' first
  | refine bU ?_
  | refine aW ?_
  | refine bF ?_
  | refine aP ?_
  | refine aS ?_
  | refine bT rfl (by decide) ?_
  | refine aY rfl (by decide) ?_
  | refine c9 rfl (aN rfl) (by decide) ?_
  | refine c8 rfl rfl (by decide) ?_
  | refine cZ ?_
 refine jI rfl (λhc=>?_) (λhc=>?_)
 ·have hlt:i<m:=by simpa using hc
  obtain⟨b,o,l,rfl,hF0,hw0,hkb,hJ⟩:=hx hlt;have hk0':=hk0;obtain⟨v1,l1,r1,rfl,hc1,hL1,-,hn1⟩:=LvF.sub_step hF0;have ha1:=λq hq=>hw0 q (List.mem_append_left _ hq);have hb1:=λq hq=>hw0 q (List.mem_append_right _ hq);simp only[zK] at hkb;repeat' first
   | refine dS rfl rfl (aN rfl) (λw=>Lg.run_sizeOf (S.ok _ _ rfl) w) hlt (by decide) ?_
   | refine dB (S:=S) rfl rfl rfl rfl rfl (by decide) (by decide) ?_
   | refine kA (S:=S) rfl rfl rfl rfl hc1 (by decide) ?_
   | refine bU ?_
   | refine aW ?_
   | refine bF ?_
   | refine aP ?_
   | refine aS ?_
   | refine bT rfl (by decide) ?_
   | refine aY rfl (by decide) ?_
   | refine c9 rfl (aN rfl) (by decide) ?_
   | refine c8 rfl rfl (by decide) ?_
   | refine cZ ?_
  refine kV dK.1 rfl rfl (dK.2 lim _ v1 l1 _ hL1 ha1 (by omega) (by omega)) (by decide) ?_;rintro _ _ ⟨rfl,rfl⟩;refine⟨_,rfl,?_⟩;obtain⟨hF1,hw1⟩:=hn1 (k') ha1 hb1;obtain⟨v2,l2,r2,rfl,hc2,hL2,-,hn2⟩:=LvF.sub_step hF1;have ha2:=λq hq=>hw1 q (List.mem_append_left _ hq);have hb2:=λq hq=>hw1 q (List.mem_append_right _ hq);simp only[zK] at hkb;repeat' first
   | refine dS rfl rfl (aN rfl) (λw=>Lg.run_sizeOf (S.ok _ _ rfl) w) hlt (by decide) ?_
   | refine dB (S:=S) rfl rfl rfl rfl rfl (by decide) (by decide) ?_
   | refine kA (S:=S) rfl rfl rfl rfl hc2 (by decide) ?_
   | refine bU ?_
   | refine aW ?_
   | refine bF ?_
   | refine aP ?_
   | refine aS ?_
   | refine bT rfl (by decide) ?_
   | refine aY rfl (by decide) ?_
   | refine c9 rfl (aN rfl) (by decide) ?_
   | refine c8 rfl rfl (by decide) ?_
   | refine cZ ?_
  refine kV dK.1 rfl rfl (dK.2 lim _ v2 l2 _ hL2 ha2 (by omega) (by omega)) (by decide) ?_;rintro _ _ ⟨rfl,rfl⟩;refine⟨_,rfl,?_⟩;obtain⟨hF2,hw2⟩:=hn2 (k'+(l1.length:Int)) ha2 hb2;obtain rfl:=hF2.nil_step;repeat' first
   | refine uS rfl rfl (by omega) (by decide) ?_
   | refine bU ?_
   | refine aW ?_
   | refine bF ?_
   | refine aP ?_
   | refine aS ?_
   | refine bT rfl (by decide) ?_
   | refine aY rfl (by decide) ?_
   | refine c9 rfl (aN rfl) (by decide) ?_
   | refine c8 rfl rfl (by decide) ?_
   | refine cZ ?_
  refine kT (Eq.mp (congrArg (J _) ?_) (hJ _ ?_))
  ·first|rfl|(simp only[iU,wrs,List.append_nil];done)|(simp only[iU,wrs,List.append_nil];rfl)
  intro p hp;simp only[zO,List.not_mem_nil,or_false] at hp;rcases hp with rfl|rfl|rfl
  ·rfl
  ·exact rW (by simp only[zK,List.length_cons,List.length_nil];omega)
  ·rfl
 ·have hlt:¬i<m:=by simpa using hc
  obtain⟨rfl,rfl⟩:=hend (by omega);refine rF rfl ?_;repeat' first
   | refine bU ?_
   | refine aW ?_
   | refine bF ?_
   | refine aP ?_
   | refine aS ?_
   | refine bT rfl (by decide) ?_
   | refine aY rfl (by decide) ?_
   | refine c9 rfl (aN rfl) (by decide) ?_
   | refine c8 rfl rfl (by decide) ?_
   | refine cZ ?_
  exact sF ⟨rfl,rfl⟩
attribute [go_sem] Tryz.ntmps10
theorem aF2:MKa S.P 10 aAf:=by
 refine⟨⟨_,Tryz.func10,by kernel_rfl,rfl⟩,λlim w vs qs k hl h hW h0 hb=>?_⟩;simp only[aAf,Fs.len] at hl;rcases vs with _|⟨v0,_|⟨v1,_|⟨_,_⟩⟩⟩<;>simp at hl
 clear hl;refine g7 (vals:=[Value.agg [v0,v1].toArray,Value.int .i64 k]) (t:=4) Tryz.func10 rfl (by simp[Tryz.f10]) rfl (R:=λE' w'=>Lg.look E' 4=some (Value.int .i64 (k+qs.length))/\Marked w qs k w') ?_ (λE' w' h=>⟨_,h.1,rfl,h.2⟩);simp only[Tryz.ntmps10,o4];repeat' first
  | refine aX0 rfl (by decide) ?_
  | refine bU ?_
  | refine aW ?_
  | refine bF ?_
  | refine aP ?_
  | refine aS ?_
  | refine bT rfl (by decide) ?_
  | refine aY rfl (by decide) ?_
  | refine c9 rfl (aN rfl) (by decide) ?_
  | refine c8 rfl rfl (by decide) ?_
  | refine cZ ?_
 have hx0:∀q∈([]:List (Nat×Nat)),MkC w q:=by simp
 have hM0:Marked w [] k (w.alloc (.cells [v0,v1].toArray 35)):=Marked.of_grown (Grown.alloc w _ _) k;have hB0:∀(j:Nat) u,[v0,v1][j]?=some u->cellAt (w.alloc (.cells [v0,v1].toArray 35)) w.heap.size j=some u:=λj u hj=>by rw[aAy];simpa using hj
 have hA0:=h;have hw0:=hW;unfold aAf at hA0;obtain⟨l1,r1,rfl,hL1,hA1⟩:=LvA.sub_step hA0;simp only[zK] at hb;have hi1:∀q∈l1,MkC w q:=λq hq=>(Lv.ints _ _ _ hL1 q hq).2;repeat' first
  | refine dB (S:=S) rfl rfl rfl rfl rfl (by decide) (by decide) ?_
  | refine aWq (S:=S) (vs:=[v0]) rfl rfl rfl rfl rfl (λi v hi=>by rcases i with _|i<;>simp at hi;subst hi;exact hB0 0 _ rfl) (by decide) ?_
  | refine bU ?_
  | refine aW ?_
  | refine bF ?_
  | refine aP ?_
  | refine aS ?_
  | refine bT rfl (by decide) ?_
  | refine aY rfl (by decide) ?_
  | refine c9 rfl (aN rfl) (by decide) ?_
  | refine c8 rfl rfl (by decide) ?_
  | refine cZ ?_
 have ha1:=λq hq=>hw0 q (List.mem_append_left _ hq);have hw1:=λq hq=>hw0 q (List.mem_append_right _ hq);have hI1:=hM0.intW lim hx0;refine kV aE4.1 rfl rfl (aE4.2 lim _ [v0] l1 _ rfl (by unfold aPx LvA LvA;exact⟨v0,l1,[],by simp,rfl,(Lv.mono hI1 _ _ _ hL1),rfl⟩) (λq hq=>hM0.Wr (ha1 q hq)) (by omega) (by omega)) (by decide) ?_;rintro _ w1 ⟨rfl,hm1⟩;refine⟨_,rfl,?_⟩;have hB1:=yS hB0 hm1 ha1;have hM1:=hM0.append (l2:=l1) (w'':=w1) (by simpa only[List.nil_append,zK,List.length_nil,Int.natCast_add,Int.natCast_zero,Int.zero_add,Int.add_zero,Int.add_assoc] using hm1);have hx1:=λq (hq:q∈_++l1)=>(zP.1 hq).elim (hx0 q) (hi1 q);repeat' first
  | refine bU ?_
  | refine aW ?_
  | refine bF ?_
  | refine aP ?_
  | refine aS ?_
  | refine bT rfl (by decide) ?_
  | refine aY rfl (by decide) ?_
  | refine c9 rfl (aN rfl) (by decide) ?_
  | refine c8 rfl rfl (by decide) ?_
  | refine cZ ?_
 obtain⟨l2,r2,rfl,hL2,hA2⟩:=LvA.sub_step hA1;simp only[zK] at hb;have hi2:∀q∈l2,MkC w q:=λq hq=>(Lv.ints _ _ _ hL2 q hq).2;repeat' first
  | refine dB (S:=S) rfl rfl rfl rfl rfl (by decide) (by decide) ?_
  | refine kA (S:=S) rfl rfl rfl rfl (hB1 1 _ rfl) (by decide) ?_
  | refine bU ?_
  | refine aW ?_
  | refine bF ?_
  | refine aP ?_
  | refine aS ?_
  | refine bT rfl (by decide) ?_
  | refine aY rfl (by decide) ?_
  | refine c9 rfl (aN rfl) (by decide) ?_
  | refine c8 rfl rfl (by decide) ?_
  | refine cZ ?_
 have ha2:=λq hq=>hw1 q (List.mem_append_left _ hq);have hw2:=λq hq=>hw1 q (List.mem_append_right _ hq);have hI2:=hM1.intW lim hx1;refine kV aAi.1 rfl rfl (aAi.2 lim _ v1 l2 _ (Lv.mono hI2 _ _ _ hL2) (λq hq=>hM1.Wr (ha2 q hq)) (by omega) (by omega)) (by decide) ?_;rintro _ w2 ⟨rfl,hm2'⟩;refine⟨_,rfl,?_⟩;have hm2:=Marked.of_wrs (k+(l1.length:Int)) (λq (hq:q∈l2)=>hM1.Wr (ha2 q hq)) (λq hq=>(Lv.ints _ _ _ (Lv.mono hI2 _ _ _ hL2) q hq).2);rw[←hm2'] at hm2;have hB2:=yS hB1 hm2 ha2;have hM2:=hM1.append (l2:=l2) (w'':=w2) (by simpa only[List.nil_append,zK,List.length_nil,Int.natCast_add,Int.natCast_zero,Int.zero_add,Int.add_zero,Int.add_assoc] using hm2);have hx2:=λq (hq:q∈_++l2)=>(zP.1 hq).elim (hx1 q) (hi2 q);repeat' first
  | refine bU ?_
  | refine aW ?_
  | refine bF ?_
  | refine aP ?_
  | refine aS ?_
  | refine bT rfl (by decide) ?_
  | refine aY rfl (by decide) ?_
  | refine c9 rfl (aN rfl) (by decide) ?_
  | refine c8 rfl rfl (by decide) ?_
  | refine cZ ?_
 obtain rfl:=hA2.nil_step;repeat' first
  | refine bU ?_
  | refine aW ?_
  | refine bF ?_
  | refine aP ?_
  | refine aS ?_
  | refine bT rfl (by decide) ?_
  | refine aY rfl (by decide) ?_
  | refine c9 rfl (aN rfl) (by decide) ?_
  | refine c8 rfl rfl (by decide) ?_
  | refine cZ ?_
 refine sF ⟨?_,?_⟩
 ·exact rW (by simp only[zK,List.length_nil];omega)
 ·simpa only[List.nil_append,List.append_nil,List.append_assoc] using hM2
attribute [go_sem] Tryz.ntmps11
theorem aCb:MKs S.P 11 uT:=by
 refine⟨⟨_,Tryz.func11,by kernel_rfl,rfl⟩,λlim w v qs k h hW h0 hb=>?_⟩;refine g7 (vals:=[v,Value.int .i64 k]) (t:=4) Tryz.func11 rfl (by simp[Tryz.f11]) rfl (R:=λE' w'=>Lg.look E' 4=some (Value.int .i64 (k+qs.length))/\w'=wrs w qs k) ?_ (λE' w' h=>⟨_,h.1,rfl,h.2⟩);simp only[Tryz.ntmps11,o4];repeat' first
  | refine bU ?_
  | refine aW ?_
  | refine bF ?_
  | refine aP ?_
  | refine aS ?_
  | refine bT rfl (by decide) ?_
  | refine aY rfl (by decide) ?_
  | refine c9 rfl (aN rfl) (by decide) ?_
  | refine c8 rfl rfl (by decide) ?_
  | refine cZ ?_
 refine nA h hW h0 hb (by intro p hp;simp only[zO,List.not_mem_nil,or_false] at hp;rcases hp with rfl|rfl|rfl<;>rfl) λA m cp hv hm i k' wi J hk0 hkm hi hx hend=>?_;subst hv;simp only[maxLen] at hm;repeat' first
  | refine bU ?_
  | refine aW ?_
  | refine bF ?_
  | refine aP ?_
  | refine aS ?_
  | refine bT rfl (by decide) ?_
  | refine aY rfl (by decide) ?_
  | refine c9 rfl (aN rfl) (by decide) ?_
  | refine c8 rfl rfl (by decide) ?_
  | refine cZ ?_
 refine jI rfl (λhc=>?_) (λhc=>?_)
 ·have hlt:i<m:=by simpa using hc
  obtain⟨b,o,l,rfl,hF0,hw0,hkb,hJ⟩:=hx hlt;have hk0':=hk0;obtain⟨v1,l1,r1,rfl,hc1,hL1,-,hn1⟩:=LvF.sub_step hF0;have ha1:=λq hq=>hw0 q (List.mem_append_left _ hq);have hb1:=λq hq=>hw0 q (List.mem_append_right _ hq);simp only[zK] at hkb;repeat' first
   | refine dS rfl rfl (aN rfl) (λw=>Lg.run_sizeOf (S.ok _ _ rfl) w) hlt (by decide) ?_
   | refine dB (S:=S) rfl rfl rfl rfl rfl (by decide) (by decide) ?_
   | refine kA (S:=S) rfl rfl rfl rfl hc1 (by decide) ?_
   | refine bU ?_
   | refine aW ?_
   | refine bF ?_
   | refine aP ?_
   | refine aS ?_
   | refine bT rfl (by decide) ?_
   | refine aY rfl (by decide) ?_
   | refine c9 rfl (aN rfl) (by decide) ?_
   | refine c8 rfl rfl (by decide) ?_
   | refine cZ ?_
  refine kV dK.1 rfl rfl (dK.2 lim _ v1 l1 _ hL1 ha1 (by omega) (by omega)) (by decide) ?_;rintro _ _ ⟨rfl,rfl⟩;refine⟨_,rfl,?_⟩;obtain⟨hF1,hw1⟩:=hn1 (k') ha1 hb1;obtain⟨v2,l2,r2,rfl,hc2,hL2,-,hn2⟩:=LvF.sub_step hF1;have ha2:=λq hq=>hw1 q (List.mem_append_left _ hq);have hb2:=λq hq=>hw1 q (List.mem_append_right _ hq);simp only[zK] at hkb;repeat' first
   | refine dS rfl rfl (aN rfl) (λw=>Lg.run_sizeOf (S.ok _ _ rfl) w) hlt (by decide) ?_
   | refine dB (S:=S) rfl rfl rfl rfl rfl (by decide) (by decide) ?_
   | refine kA (S:=S) rfl rfl rfl rfl hc2 (by decide) ?_
   | refine bU ?_
   | refine aW ?_
   | refine bF ?_
   | refine aP ?_
   | refine aS ?_
   | refine bT rfl (by decide) ?_
   | refine aY rfl (by decide) ?_
   | refine c9 rfl (aN rfl) (by decide) ?_
   | refine c8 rfl rfl (by decide) ?_
   | refine cZ ?_
  refine kV dK.1 rfl rfl (dK.2 lim _ v2 l2 _ hL2 ha2 (by omega) (by omega)) (by decide) ?_;rintro _ _ ⟨rfl,rfl⟩;refine⟨_,rfl,?_⟩;obtain⟨hF2,hw2⟩:=hn2 (k'+(l1.length:Int)) ha2 hb2;obtain⟨v3,l3,r3,rfl,hc3,hL3,-,hn3⟩:=LvF.sub_step hF2;have ha3:=λq hq=>hw2 q (List.mem_append_left _ hq);have hb3:=λq hq=>hw2 q (List.mem_append_right _ hq);simp only[zK] at hkb;repeat' first
   | refine dS rfl rfl (aN rfl) (λw=>Lg.run_sizeOf (S.ok _ _ rfl) w) hlt (by decide) ?_
   | refine dB (S:=S) rfl rfl rfl rfl rfl (by decide) (by decide) ?_
   | refine kA (S:=S) rfl rfl rfl rfl hc3 (by decide) ?_
   | refine bU ?_
   | refine aW ?_
   | refine bF ?_
   | refine aP ?_
   | refine aS ?_
   | refine bT rfl (by decide) ?_
   | refine aY rfl (by decide) ?_
   | refine c9 rfl (aN rfl) (by decide) ?_
   | refine c8 rfl rfl (by decide) ?_
   | refine cZ ?_
  refine kV aAv.1 rfl rfl (aAv.2 lim _ v3 l3 _ hL3 ha3 (by omega) (by omega)) (by decide) ?_;rintro _ _ ⟨rfl,rfl⟩;refine⟨_,rfl,?_⟩;obtain⟨hF3,hw3⟩:=hn3 (k'+(l1.length:Int)+(l2.length:Int)) ha3 hb3;obtain⟨v4,l4,r4,rfl,hc4,hL4,-,hn4⟩:=LvF.sub_step hF3;have ha4:=λq hq=>hw3 q (List.mem_append_left _ hq);have hb4:=λq hq=>hw3 q (List.mem_append_right _ hq);simp only[zK] at hkb;repeat' first
   | refine dS rfl rfl (aN rfl) (λw=>Lg.run_sizeOf (S.ok _ _ rfl) w) hlt (by decide) ?_
   | refine dB (S:=S) rfl rfl rfl rfl rfl (by decide) (by decide) ?_
   | refine kA (S:=S) rfl rfl rfl rfl hc4 (by decide) ?_
   | refine bU ?_
   | refine aW ?_
   | refine bF ?_
   | refine aP ?_
   | refine aS ?_
   | refine bT rfl (by decide) ?_
   | refine aY rfl (by decide) ?_
   | refine c9 rfl (aN rfl) (by decide) ?_
   | refine c8 rfl rfl (by decide) ?_
   | refine cZ ?_
  refine kV dK.1 rfl rfl (dK.2 lim _ v4 l4 _ hL4 ha4 (by omega) (by omega)) (by decide) ?_;rintro _ _ ⟨rfl,rfl⟩;refine⟨_,rfl,?_⟩;obtain⟨hF4,hw4⟩:=hn4 (k'+(l1.length:Int)+(l2.length:Int)+(l3.length:Int)) ha4 hb4;obtain rfl:=hF4.nil_step;repeat' first
   | refine uS rfl rfl (by omega) (by decide) ?_
   | refine bU ?_
   | refine aW ?_
   | refine bF ?_
   | refine aP ?_
   | refine aS ?_
   | refine bT rfl (by decide) ?_
   | refine aY rfl (by decide) ?_
   | refine c9 rfl (aN rfl) (by decide) ?_
   | refine c8 rfl rfl (by decide) ?_
   | refine cZ ?_
  refine kT (Eq.mp (congrArg (J _) ?_) (hJ _ ?_))
  ·first|rfl|(simp only[iU,wrs,List.append_nil];done)|(simp only[iU,wrs,List.append_nil];rfl)
  intro p hp;simp only[zO,List.not_mem_nil,or_false] at hp;rcases hp with rfl|rfl|rfl
  ·rfl
  ·exact rW (by simp only[zK,List.length_cons,List.length_nil];omega)
  ·rfl
 ·have hlt:¬i<m:=by simpa using hc
  obtain⟨rfl,rfl⟩:=hend (by omega);refine rF rfl ?_;repeat' first
   | refine bU ?_
   | refine aW ?_
   | refine bF ?_
   | refine aP ?_
   | refine aS ?_
   | refine bT rfl (by decide) ?_
   | refine aY rfl (by decide) ?_
   | refine c9 rfl (aN rfl) (by decide) ?_
   | refine c8 rfl rfl (by decide) ?_
   | refine cZ ?_
  exact sF ⟨rfl,rfl⟩
attribute [go_sem] Tryz.ntmps12
theorem aBf:HDs S.P 12 uT:=by
 refine⟨⟨_,Tryz.func12,by kernel_rfl,rfl⟩,λlim w v qs k h hW h0 hb=>?_⟩;refine g7 (vals:=[v,Value.int .i64 k]) (t:=4) Tryz.func12 rfl (by simp[Tryz.f12]) rfl (R:=λE' w'=>Lg.look E' 4=some (Value.int .i64 (k+qs.length))/\w'=w) ?_ (λE' w' h=>⟨_,h.1,rfl,h.2⟩);simp only[Tryz.ntmps12,o4];repeat' first
  | refine bU ?_
  | refine aW ?_
  | refine bF ?_
  | refine aP ?_
  | refine aS ?_
  | refine bT rfl (by decide) ?_
  | refine aY rfl (by decide) ?_
  | refine c9 rfl (aN rfl) (by decide) ?_
  | refine c8 rfl rfl (by decide) ?_
  | refine cZ ?_
 refine rY h hW h0 hb (by intro p hp;simp only[zO,List.not_mem_nil,or_false] at hp;rcases hp with rfl|rfl|rfl<;>rfl) λA m cp hv hm i k' J hk0 hkm hi hx hend=>?_;subst hv;simp only[maxLen] at hm;repeat' first
  | refine bU ?_
  | refine aW ?_
  | refine bF ?_
  | refine aP ?_
  | refine aS ?_
  | refine bT rfl (by decide) ?_
  | refine aY rfl (by decide) ?_
  | refine c9 rfl (aN rfl) (by decide) ?_
  | refine c8 rfl rfl (by decide) ?_
  | refine cZ ?_
 refine jI rfl (λhc=>?_) (λhc=>?_)
 ·have hlt:i<m:=by simpa using hc
  obtain⟨b,o,l,rfl,hF0,hw0,hkb,hJ⟩:=hx hlt;obtain⟨v1,l1,r1,rfl,hc1,hL1,hF1,-⟩:=LvF.sub_step hF0;have ha1:=kP hw0;have hw1:=jJ hw0;simp only[zK] at hkb;repeat' first
   | refine dS rfl rfl (aN rfl) (λw=>Lg.run_sizeOf (S.ok _ _ rfl) w) hlt (by decide) ?_
   | refine dB (S:=S) rfl rfl rfl rfl rfl (by decide) (by decide) ?_
   | refine kA (S:=S) rfl rfl rfl rfl hc1 (by decide) ?_
   | refine bU ?_
   | refine aW ?_
   | refine bF ?_
   | refine aP ?_
   | refine aS ?_
   | refine bT rfl (by decide) ?_
   | refine aY rfl (by decide) ?_
   | refine c9 rfl (aN rfl) (by decide) ?_
   | refine c8 rfl rfl (by decide) ?_
   | refine cZ ?_
  refine kV gF.1 rfl rfl (gF.2 lim _ v1 l1 _ hL1 ha1 (by omega) (by omega)) (by decide) ?_;rintro _ _ ⟨rfl,rfl⟩;refine⟨_,rfl,?_⟩;repeat' first
   | refine bU ?_
   | refine aW ?_
   | refine bF ?_
   | refine aP ?_
   | refine aS ?_
   | refine bT rfl (by decide) ?_
   | refine aY rfl (by decide) ?_
   | refine c9 rfl (aN rfl) (by decide) ?_
   | refine c8 rfl rfl (by decide) ?_
   | refine cZ ?_
  refine jI rfl (λhc=>absurd (of_decide_eq_true hc) (by omega)) (λ_=>?_);obtain⟨v2,l2,r2,rfl,hc2,hL2,hF2,-⟩:=LvF.sub_step hF1;have ha2:=kP hw1;have hw2:=jJ hw1;simp only[zK] at hkb;repeat' first
   | refine dS rfl rfl (aN rfl) (λw=>Lg.run_sizeOf (S.ok _ _ rfl) w) hlt (by decide) ?_
   | refine dB (S:=S) rfl rfl rfl rfl rfl (by decide) (by decide) ?_
   | refine kA (S:=S) rfl rfl rfl rfl hc2 (by decide) ?_
   | refine bU ?_
   | refine aW ?_
   | refine bF ?_
   | refine aP ?_
   | refine aS ?_
   | refine bT rfl (by decide) ?_
   | refine aY rfl (by decide) ?_
   | refine c9 rfl (aN rfl) (by decide) ?_
   | refine c8 rfl rfl (by decide) ?_
   | refine cZ ?_
  refine kV gF.1 rfl rfl (gF.2 lim _ v2 l2 _ hL2 ha2 (by omega) (by omega)) (by decide) ?_;rintro _ _ ⟨rfl,rfl⟩;refine⟨_,rfl,?_⟩;repeat' first
   | refine bU ?_
   | refine aW ?_
   | refine bF ?_
   | refine aP ?_
   | refine aS ?_
   | refine bT rfl (by decide) ?_
   | refine aY rfl (by decide) ?_
   | refine c9 rfl (aN rfl) (by decide) ?_
   | refine c8 rfl rfl (by decide) ?_
   | refine cZ ?_
  refine jI rfl (λhc=>absurd (of_decide_eq_true hc) (by omega)) (λ_=>?_);obtain⟨v3,l3,r3,rfl,hc3,hL3,hF3,-⟩:=LvF.sub_step hF2;have ha3:=kP hw2;have hw3:=jJ hw2;simp only[zK] at hkb;repeat' first
   | refine dS rfl rfl (aN rfl) (λw=>Lg.run_sizeOf (S.ok _ _ rfl) w) hlt (by decide) ?_
   | refine dB (S:=S) rfl rfl rfl rfl rfl (by decide) (by decide) ?_
   | refine kA (S:=S) rfl rfl rfl rfl hc3 (by decide) ?_
   | refine bU ?_
   | refine aW ?_
   | refine bF ?_
   | refine aP ?_
   | refine aS ?_
   | refine bT rfl (by decide) ?_
   | refine aY rfl (by decide) ?_
   | refine c9 rfl (aN rfl) (by decide) ?_
   | refine c8 rfl rfl (by decide) ?_
   | refine cZ ?_
  refine kV aAI.1 rfl rfl (aAI.2 lim _ v3 l3 _ hL3 ha3 (by omega) (by omega)) (by decide) ?_;rintro _ _ ⟨rfl,rfl⟩;refine⟨_,rfl,?_⟩;repeat' first
   | refine bU ?_
   | refine aW ?_
   | refine bF ?_
   | refine aP ?_
   | refine aS ?_
   | refine bT rfl (by decide) ?_
   | refine aY rfl (by decide) ?_
   | refine c9 rfl (aN rfl) (by decide) ?_
   | refine c8 rfl rfl (by decide) ?_
   | refine cZ ?_
  refine jI rfl (λhc=>absurd (of_decide_eq_true hc) (by omega)) (λ_=>?_);obtain⟨v4,l4,r4,rfl,hc4,hL4,hF4,-⟩:=LvF.sub_step hF3;have ha4:=kP hw3;have hw4:=jJ hw3;simp only[zK] at hkb;repeat' first
   | refine dS rfl rfl (aN rfl) (λw=>Lg.run_sizeOf (S.ok _ _ rfl) w) hlt (by decide) ?_
   | refine dB (S:=S) rfl rfl rfl rfl rfl (by decide) (by decide) ?_
   | refine kA (S:=S) rfl rfl rfl rfl hc4 (by decide) ?_
   | refine bU ?_
   | refine aW ?_
   | refine bF ?_
   | refine aP ?_
   | refine aS ?_
   | refine bT rfl (by decide) ?_
   | refine aY rfl (by decide) ?_
   | refine c9 rfl (aN rfl) (by decide) ?_
   | refine c8 rfl rfl (by decide) ?_
   | refine cZ ?_
  refine kV gF.1 rfl rfl (gF.2 lim _ v4 l4 _ hL4 ha4 (by omega) (by omega)) (by decide) ?_;rintro _ _ ⟨rfl,rfl⟩;refine⟨_,rfl,?_⟩;repeat' first
   | refine bU ?_
   | refine aW ?_
   | refine bF ?_
   | refine aP ?_
   | refine aS ?_
   | refine bT rfl (by decide) ?_
   | refine aY rfl (by decide) ?_
   | refine c9 rfl (aN rfl) (by decide) ?_
   | refine c8 rfl rfl (by decide) ?_
   | refine cZ ?_
  refine jI rfl (λhc=>absurd (of_decide_eq_true hc) (by omega)) (λ_=>?_);obtain rfl:=hF4.nil_step;repeat' first
   | refine uS rfl rfl (by omega) (by decide) ?_
   | refine bU ?_
   | refine aW ?_
   | refine bF ?_
   | refine aP ?_
   | refine aS ?_
   | refine bT rfl (by decide) ?_
   | refine aY rfl (by decide) ?_
   | refine c9 rfl (aN rfl) (by decide) ?_
   | refine c8 rfl rfl (by decide) ?_
   | refine cZ ?_
  refine kT (hJ _ ?_);intro p hp;simp only[zO,List.not_mem_nil,or_false] at hp;rcases hp with rfl|rfl|rfl
  ·rfl
  ·exact rW (by simp only[zK,List.length_cons,List.length_nil];omega)
  ·rfl
 ·have hlt:¬i<m:=by simpa using hc
  obtain rfl:=hend (by omega);refine rF rfl ?_;repeat' first
   | refine bU ?_
   | refine aW ?_
   | refine bF ?_
   | refine aP ?_
   | refine aS ?_
   | refine bT rfl (by decide) ?_
   | refine aY rfl (by decide) ?_
   | refine c9 rfl (aN rfl) (by decide) ?_
   | refine c8 rfl rfl (by decide) ?_
   | refine cZ ?_
  exact sF ⟨rfl,rfl⟩
end
section
attribute [local irreducible] SW bA bC dM bZ FC Ret dX
theorem qY(p:List Nat)(hp:p≠[])(tk:Tk)(xs:List Int)(hn:d9 xs≤1048576):FC S 53 [] [] [] [.sl tk (xs.map (.int .i64))] (dL p xs) [] []:=by
 have hl:xs.length≤1048576:=hn;refine fcb Tryz.func53 λB=>?_;refine bM 0 λhb0=>?_;repeat' first|apply aG|refine aE 0 aUs λK hK=>?_|refine aB ?_|(refine hK.n0 ?_;clear hK K)|with_reducible refine aH ?_|apply tTT
 refine aV (ι:=Nat) (λi=>[(4,.int .i64 i)]) (λi=>[(7,lG (λj=>.int .i64 (xs.getD j default)) (.int .i64 0) i xs.length)]) (λi=>i≤xs.length/\(True)) (λi=>xs.length-i) 0 (by(refine aD rfl rfl ?_ ?_ ?_ ?_<;>simp(disch:=apply aR;omega)only[go_sem]<;>(try omega));exact aCG _ _ _) ⟨by omega,?_⟩ (λi ⟨hi,hj⟩=>?_);rotate_left
 simp only[go_sem];repeat' first|exact h.elim|(refine tD 6 3 1 p (xs.map (.int .i64)) rfl rfl (by rw[show i=xs.length by omega];exact(aDZ (.int .i64) _ xs).trans (aCu _ _ (λ_=>rfl)).symm) (by rw[zC]) (fI λ_=>rfl) (aCz (λ_=>rfl) rfl) hp (by simp) ?_;simp only[go_sem])|apply aG|refine aE 0 aUs λK hK=>?_|refine aB ?_|refine aC ?_|(refine hK.n0 ?_;clear hK K)|refine aA rfl (λh=>?_) λh=>?_|refine aJ rfl ?_|apply aF|with_reducible refine aH ?_|apply tTT
 ·exact⟨i+1,(by(refine aD rfl rfl ?_ ?_ ?_ ?_<;>simp(disch:=apply aR;omega)only[go_sem]<;>(try omega));exact aHt (λj=>.int .i64 (xs.getD j default)) _ _ _),by omega,by omega⟩
 all_goals trivial
theorem aOp(p:List Nat)(hp:p≠[])(x:RuleT)(hn:gP x≤1048576):FC S 54 [] [] [] [fO x] (aC0 p x) [] []:=by
 have hn':=hn;simp only[gP] at hn';refine fcb Tryz.func54 λB=>?_;repeat' first|apply aG|refine aE 0 aZB λK hK=>?_|refine aB ?_|refine aC ?_|(refine hK.n0 ?_;clear hK K)|refine hK.c1 rfl rfl rfl (qY (p++[0]) (by simp) _ (x.l) (by omega)) ?_|refine hK.c1 rfl rfl rfl (qY (p++[1]) (by simp) _ (x.r) (by omega)) ?_|apply tTT
 all_goals exact D.le.refl _
theorem aQp(p:List Nat)(hp:p≠[])(x:List Int)(hn:qT x≤1048576):FC S 21 [] [] [] [aF6 x] (aTz p x) [] []:=by
 have hn':=hn;simp only[qT] at hn';refine fcb Tryz.func21 λB=>?_;repeat' first|apply aG|refine aE 0 aZf λK hK=>?_|refine aB ?_|refine aC ?_|(refine hK.n0 ?_;clear hK K)|refine hK.c1 rfl rfl rfl (qY (p++[0]) (by simp) _ (x) (by omega)) ?_|apply tTT
 all_goals exact D.le.refl _
theorem aJ8(p:List Nat)(hp:p≠[])(tk:Tk)(xs:List RuleT)(hn:iH xs≤1048576):FC S 22 [] [] [] [.sl tk (xs.map fO)] (aD3 p xs) [] []:=by
 have hl:xs.length≤1048576:=by unfold iH at hn;omega
 have hq:∀i<xs.length,gP (xs.getD i default)≤1048576:=λi hi=>by
  have:=aKK gP xs i hi;unfold iH at hn;omega
 refine fcb Tryz.func22 λB=>?_;refine bM 0 λhb0=>?_;repeat' first|apply aG|refine aE 0 aVF λK hK=>?_|refine aB ?_|(refine hK.n0 ?_;clear hK K)|with_reducible refine aH ?_|apply tTT
 refine aV (ι:=Nat) (λi=>[(4,.int .i64 i)]) (λi=>[(7,m7 (λj=>[dL ((p++[j])++[0]) (((xs.getD j default)).l),dL ((p++[j])++[1]) (((xs.getD j default)).r)]) [.sl .nil [],.sl .nil []] i xs.length)]) (λi=>i≤xs.length/\(True)) (λi=>xs.length-i) 0 (by(refine aD rfl rfl ?_ ?_ ?_ ?_<;>simp(disch:=apply aR;omega)only[go_sem]<;>(try omega));exact aC2 _ _ _) ⟨by omega,?_⟩ (λi ⟨hi,hj⟩=>?_);rotate_left
 simp only[go_sem];have hm:i*2+2≤2*xs.length∨xs.length≤i:=by omega
 repeat' first|exact h.elim|(refine tD 6 3 2 p (gU (λi y=>aC0 (p++[i]) y) xs) rfl rfl (by rw[show i=xs.length by omega];exact aMg (λi y=>aC0 (p++[i]) y) _ xs) (by rw[iS]) (aNJ λ_ _=>rfl) (aC7 (λj d hd=>by revert d hd;simp[D.memOk]) (by simp[D.memOk])) hp (by simp) ?_;simp only[go_sem])|apply aG|refine aE 0 aVF λK hK=>?_|refine aB ?_|refine aC ?_|(refine hK.n0 ?_;clear hK K)|refine aA rfl (λh=>?_) λh=>?_|refine aJ rfl ?_|apply aF|refine hK.c1 rfl rfl rfl (aOp (p++[i]) (by simp) (xs.getD i default) (by exact hq i (by omega))) ?_|with_reducible refine aH ?_|apply tTT
 ·exact⟨i+1,(by(refine aD rfl rfl ?_ ?_ ?_ ?_<;>simp(disch:=apply aR;omega)only[go_sem]<;>(try omega));exact aHO (f:=(λj=>[dL ((p++[j])++[0]) (((xs.getD j default)).l),dL ((p++[j])++[1]) (((xs.getD j default)).r)])) (λ_=>rfl) rfl (by omega)),by omega,by omega⟩
 all_goals trivial
theorem aIS(p:List Nat)(hp:p≠[])(x:SystemT)(hn:iK x≤1048576):FC S 6 [] [] [] [bR x] (wH p x) [] []:=by
 have hn':=hn;simp only[iK] at hn';refine fcb Tryz.func6 λB=>?_;repeat' first|apply aG|refine aE 0 kp6 λK hK=>?_|refine aB ?_|refine aC ?_|(refine hK.n0 ?_;clear hK K)|refine hK.c1 rfl rfl rfl (aQp p hp (x.sig) (by omega)) ?_|refine hK.c1 rfl rfl rfl (aJ8 (p++[1]) (by simp) _ (x.rules) (by omega)) ?_|apply tTT
 all_goals exact D.le.refl _
end
end Go.Proofs.YtmfmgoceeedonaaGreat
