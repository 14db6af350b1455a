/-
  U15, U16, U20, P20, P21, P22, A17j, A23c, A23f, A23g, one behind the other.
-/
import Derived.Test.YtohnfgligddanaaGreatG7
import Derived.Test.YtohnfgligddanaaGreatG5
import Derived.Test.YtohnfgligddanaaGreatSet
import Derived.Test.YtohnfgligddanaaGreatG4
import Derived.Test.YtohnfgligddanaaGreatG1
section
namespace Go.Proofs.YtohnfgligddanaaGreat
open Go Go.Lg
set_option linter.unusedVariables false
set_option linter.unusedSimpArgs false
def Sn (s:List Bool) (k:Nat):Prop:=s.getD k default=true
theorem sn_set {s:List Bool} {i k:Nat} (hi:i<s.length):Sn (s.set i true) k↔i=k∨Sn s k:=by
 unfold Sn
 by_cases e:i=k
 ·subst e
  simp[List.getD_eq_getElem?_getD,hi]
 ·simp only[List.getD_eq_getElem?_getD,List.getElem?_set_ne e]
  simp[e]
def OccSp (β:Bds) (n:Int) (t:List Int) (s:List Bool) (q:Bool×List Bool):Prop :=
 q.2.length=48∧(q.1=true→∃x∈t,x<0∧Rch β (vIx x) (vIx n))∧(q.1=false→(∀k,Sn s k→Sn q.2 k)∧(∀x∈t,x<0→x≠n∧Sn q.2 (vIx x))∧∀k,Sn q.2 k→¬Sn s k→∀y∈β.getD k default,y<0→y≠n∧Sn q.2 (vIx y))
theorem vIx_lt {x:Int} (h:-48≤x) (h0:x<0):vIx x<48:=by unfold vIx;omega
theorem occL_law {β:Bds} {n:Int} (hn:n<0) {rec:List Int→List Bool→Option (Bool×List Bool)}:∀(t:List Int) (s:List Bool),(∀x∈t,x<0→β.getD (vIx x) default≠[]→∀s:List Bool,s.length=48→∃q,rec (β.getD (vIx x) default) s=some q∧OccSp β n (β.getD (vIx x) default) s q)→(∀x∈t,-48≤x)→s.length=48→∃q,occL β n rec t s=some q∧OccSp β n t s q
 | [],s,_,_,hl=>⟨(false,s),rfl,hl,fun h=>(by cases h),fun _=>⟨fun _ h=>h,fun x hx=>(by cases hx),fun k h1 h2=>absurd h1 h2⟩⟩
 | m::r,s,hrec,h8,hl=>by
  have hrec':∀x∈r,x<0→β.getD (vIx x) default≠[]→∀s:List Bool,s.length=48→∃q,rec (β.getD (vIx x) default) s=some q∧OccSp β n (β.getD (vIx x) default) s q:=fun x hx=>hrec x (List.mem_cons_of_mem _ hx)
  have h8':∀x∈r,-48≤x:=fun x hx=>h8 x (List.mem_cons_of_mem _ hx)
  have hm8:=h8 m List.mem_cons_self
  unfold occL
  by_cases e:m=n
  ·rw[if_pos e]
   exact⟨_,rfl,hl,fun _=>⟨m,List.mem_cons_self,by omega,by rw[e];exact .refl _⟩,fun h=>by cases h⟩
  rw[if_neg e]
  by_cases h0:0≤m∨s.getD (vIx m) default=true
  ·rw[if_pos h0]
   obtain⟨q,h1,h2,h3,h4⟩:=occL_law hn r s hrec' h8' hl
   refine⟨q,h1,h2,fun h=>?_,fun h=>?_⟩
   ·obtain⟨x,hx,hx0,hr⟩:=h3 h
    exact⟨x,List.mem_cons_of_mem _ hx,hx0,hr⟩
   ·obtain⟨k1,k2,k3⟩:=h4 h
    refine⟨k1,fun x hx hx0=>?_,k3⟩
    rcases List.mem_cons.1 hx with rfl|hx
    ·exact⟨e,k1 _ (h0.resolve_left (by omega))⟩
    ·exact k2 x hx hx0
  rw[if_neg h0]
  have hm0:m<0:=by omega
  have hns:¬Sn s (vIx m):=fun h=>h0 (.inr h)
  have hlt:=vIx_lt hm8 hm0
  have hset:=@sn_set s (vIx m)
  by_cases hb:β.getD (vIx m) default=[]
  ·rw[if_pos hb]
   obtain⟨q,h1,h2,h3,h4⟩:=occL_law hn r (s.set (vIx m) true) hrec' h8' (by rw[List.length_set];exact hl)
   refine⟨q,h1,h2,fun h=>?_,fun h=>?_⟩
   ·obtain⟨x,hx,hx0,hr⟩:=h3 h
    exact⟨x,List.mem_cons_of_mem _ hx,hx0,hr⟩
   ·obtain⟨k1,k2,k3⟩:=h4 h
    refine⟨fun k hk=>k1 k ((hset (by omega)).2 (.inr hk)),fun x hx hx0=>?_,fun k hk hk' y hy hy0=>?_⟩
    ·rcases List.mem_cons.1 hx with rfl|hx
     ·exact⟨e,k1 _ ((hset (by omega)).2 (.inl rfl))⟩
     ·exact k2 x hx hx0
    ·by_cases ek:vIx m=k
     ·subst ek;rw[hb] at hy;cases hy
     ·exact k3 k hk (fun h=>hk' (((hset (by omega)).1 h).resolve_left ek)) y hy hy0
  rw[if_neg hb]
  obtain⟨q1,g1,g2,g3,g4⟩:=hrec m List.mem_cons_self hm0 hb (s.set (vIx m) true) (by rw[List.length_set];exact hl)
  rw[g1]
  obtain⟨b1,s2⟩:=q1
  cases b1 with
  | true =>
   obtain⟨y,hy,hy0,hr⟩:=g3 rfl
   exact⟨_,rfl,g2,fun _=>⟨m,List.mem_cons_self,hm0,.step ⟨y,hy,hy0,rfl⟩ hr⟩,fun h=>by cases h⟩
  | false =>
   obtain⟨a1,a2,a3⟩:=g4 rfl
   obtain⟨q,h1,h2,h3,h4⟩:=occL_law hn r s2 hrec' h8' g2
   refine⟨q,h1,h2,fun h=>?_,fun h=>?_⟩
   ·obtain⟨x,hx,hx0,hr⟩:=h3 h
    exact⟨x,List.mem_cons_of_mem _ hx,hx0,hr⟩
   ·obtain⟨k1,k2,k3⟩:=h4 h
    refine⟨fun k hk=>k1 k (a1 k ((hset (by omega)).2 (.inr hk))),fun x hx hx0=>?_,fun k hk hk' y hy hy0=>?_⟩
    ·rcases List.mem_cons.1 hx with rfl|hx
     ·exact⟨e,k1 _ (a1 _ ((hset (by omega)).2 (.inl rfl)))⟩
     ·exact k2 x hx hx0
    ·by_cases h5:Sn s2 k
     ·by_cases ek:vIx m=k
      ·subst ek
       have:=a2 y hy hy0
       exact⟨this.1,k1 _ this.2⟩
      ·have:=a3 k h5 (fun h=>hk' (((hset (by omega)).1 h).resolve_left ek)) y hy hy0
       exact⟨this.1,k1 _ this.2⟩
     ·exact k3 k hk h5 y hy hy0
theorem occM_law {rs:List Int} {β:Bds} (hβ:BOK rs β) {n:Int} (hn:n<0) {r:Nat→Nat} (hr:∀i j,Edge β i j→r j<r i):∀(f:Nat) (t:List Int) (s:List Bool),(∀x∈t,x<0→β.getD (vIx x) default≠[]→r (vIx x)<f)→(∀x∈t,-48≤x)→s.length=48→∃q,occM β n (f+1) t s=some q∧OccSp β n t s q
 | f,t,s,hf,h8,hl=>by
  refine occL_law hn t s (fun x hx h0 hb s hs=>?_) h8 hl
  have:=hf x hx h0 hb
  obtain⟨f',rfl⟩:∃f',f=f'+1:=⟨f-1,by omega⟩
  exact occM_law hβ hn hr f' _ s (fun y hy hy0 _=>by have:=hr (vIx x) (vIx y) ⟨y,hy,hy0,rfl⟩;omega) (hβ.get hb).2 hs
def OccP (β:Bds) (n:Int) (t:List Int):Prop:=∃x∈t,x<0∧Rch β (vIx x) (vIx n)
theorem occM_top {rs:List Int} {β:Bds} (hβ:BOK rs β) (hA:Acy β) {n:Int} (hn:n<0) {t:List Int} (hT:∀x∈t,-48≤x):∃q,occM β n 60 t (List.replicate 48 false)=some q∧(q.1=true↔OccP β n t):=by
 obtain⟨r,hr,h48⟩:=rank_ex hβ hA
 obtain⟨q,h1,h2,h3,h4⟩:=occM_law hβ hn hr 59 t (List.replicate 48 false) (fun x _ _ _=>by have:=h48 (vIx x);omega) hT (by simp)
 refine⟨q,h1,h3,fun⟨x,hx,hx0,hrc⟩=>?_⟩
 cases hq:q.1 with
 | true=>rfl
 | false =>
  exfalso
  obtain⟨k1,k2,k3⟩:=h4 hq
  have hno:∀k,¬Sn (List.replicate 48 false) k:=fun k hk=>by
   unfold Sn at hk
   rw[List.getD_eq_getElem?_getD,List.getElem?_replicate] at hk
   split at hk<;>cases hk
  have key:∀i j,Rch β i j→Sn q.2 i→i≠vIx n→j≠vIx n:=by
   intro i j h
   induction h with
   | refl i=>exact fun _ h=>h
   | step he _ ih =>
    intro hs _
    obtain⟨y,hy,hy0,rfl⟩:=he
    have:=k3 _ hs (hno _) y hy hy0
    exact ih this.2 fun e=>this.1 (vIx_inj hy0 hn e)
  have:=k2 x hx hx0
  exact key _ _ hrc this.2 (fun e=>this.1 (vIx_inj hx0 hn e)) rfl
def cnt (β:Bds):Nat:=(β.filter fun x=>x.isEmpty).length
theorem cnt_set:∀(β:Bds) (i:Nat) (y:List Int),i<β.length→β.getD i default=[]→y≠[]→cnt (β.set i y)+1=cnt β
 | [],i,y,h,_,_=>by simp at h
 | x::β,0,y,_,h,hy=>by
  have:x=[]:=h
  subst this
  cases y with
  | nil=>exact absurd rfl hy
  | cons a b=>simp[cnt]
 | x::β,i+1,y,h,h1,hy=>by
  have:=cnt_set β i y (by simpa using h) h1 hy
  simp only[cnt,List.set_cons_succ,List.filter_cons] at this ⊢
  split<;>simp_all<;>omega
theorem getD_set {β:Bds} {i:Nat} (hi:i<β.length) (y:List Int) (k:Nat):(β.set i y).getD k default=if i=k then y else β.getD k default:=by
 by_cases e:i=k
 ·subst e;simp[List.getD_eq_getElem?_getD,hi]
 ·simp only[List.getD_eq_getElem?_getD,List.getElem?_set_ne e,if_neg e]
theorem rch_set {β:Bds} {i:Nat} (hi:i<β.length) (hb:β.getD i default=[]) {y:List Int} {a b:Nat} (h:Rch (β.set i y) a b):Rch β a b∨(Rch β a i∧∃z∈y,z<0∧Rch β (vIx z) b):=by
 induction h with
 | refl a=>exact .inl (.refl a)
 | @step a c b he hr ih =>
  obtain⟨x,hx,hx0,rfl⟩:=he
  rw[getD_set hi] at hx
  by_cases e:i=a
  ·subst e
   rw[if_pos rfl] at hx
   rcases ih with ih|⟨ih,hz⟩
   ·exact .inr ⟨.refl _,x,hx,hx0,ih⟩
   ·exact .inr ⟨.refl _,hz⟩
  ·rw[if_neg e] at hx
   have he:Edge β a (vIx x):=⟨x,hx,hx0,rfl⟩
   rcases ih with ih|⟨ih,hz⟩
   ·exact .inl (.step he ih)
   ·exact .inr ⟨.step he ih,hz⟩
theorem bind_acy {β:Bds} (hA:Acy β) {x:Int} (hi:vIx x<β.length) (hb:β.getD (vIx x) default=[]) {y:List Int} (ho:¬OccP β x y):Acy (β.set (vIx x) y):=by
 intro i j he hr
 have hr:=rch_set hi hb hr
 obtain⟨z,hz,hz0,rfl⟩:=he
 rw[getD_set hi] at hz
 by_cases e:vIx x=i
 ·subst e
  rw[if_pos rfl] at hz
  rcases hr with hr|⟨hr,_⟩
  ·exact ho ⟨z,hz,hz0,hr⟩
  ·exact ho ⟨z,hz,hz0,hr⟩
 ·rw[if_neg e] at hz
  have he:Edge β i (vIx z):=⟨z,hz,hz0,rfl⟩
  rcases hr with hr|⟨hr,w,hw,hw0,hr2⟩
  ·exact hA _ _ he hr
  ·exact ho ⟨w,hw,hw0,hr2.trans (.step he hr)⟩
theorem bind_sat {β:Bds} {x:Int} (hx:x<0) (hi:vIx x<β.length) (hb:β.getD (vIx x) default=[]) {y:List Int} (hy:y≠[]) (σ:Int→List Int):Sat σ (β.set (vIx x) y)↔Sat σ β∧σ x=ap σ y:=by
 have hv:-1-((vIx x:Nat):Int)=x:=by unfold vIx;omega
 constructor
 ·intro h
  constructor
  ·intro i hne
   have:=h i
   rw[getD_set hi] at this
   by_cases e:vIx x=i
   ·subst e;exact absurd hb hne
   ·rw[if_neg e] at this;exact this hne
  ·have:=h (vIx x)
   rw[getD_set hi,if_pos rfl,hv] at this
   exact this hy
 ·intro ⟨h1,h2⟩ i hne
  rw[getD_set hi] at hne ⊢
  by_cases e:vIx x=i
  ·subst e;rw[if_pos rfl,hv];exact h2
  ·rw[if_neg e] at hne ⊢;exact h1 i hne
theorem mem_ap {σ:Int→List Int} {z:Int} (hz:z<0):∀ {t:List Int},z∈t→(σ z).length≤(ap σ t).length
 | x::t,h=>by
  rw[ap_cons,List.length_append]
  rcases List.mem_cons.1 h with rfl|h
  ·rw[if_pos hz];omega
  ·have:=mem_ap (σ:=σ) hz h;omega
theorem rch_size {β:Bds} {σ:Int→List Int} (hs:Sat σ β) {i j:Nat} (h:Rch β i j):(σ (-1-(j:Int))).length≤(σ (-1-(i:Int))).length:=by
 induction h with
 | refl=>exact Nat.le_refl _
 | @step i j k he _ ih =>
  obtain⟨z,hz,hz0,rfl⟩:=he
  have hne:β.getD i default≠[]:=fun e=>by rw[e] at hz;cases hz
  rw[hs i hne]
  have:=mem_ap (σ:=σ) hz0 hz
  rw[show -1-((vIx z:Nat):Int)=z by unfold vIx;omega] at ih
  omega
theorem occ_none {rs:List Int} {β:Bds} {x:Int} (hx:x<0) {y:List Int} (hY:XT rs y) (h0:0≤hd y) (ho:OccP β x y) (σ:Int→List Int) (hs:Sat σ β):σ x≠ap σ y:=by
 intro e
 obtain⟨z,hz,hz0,hr⟩:=ho
 have h1:=rch_size hs hr
 rw[show -1-((vIx z:Nat):Int)=z by unfold vIx;omega,show -1-((vIx x:Nat):Int)=x by unfold vIx;omega] at h1
 obtain⟨l,el,_⟩:=xt_cons hY
 have hzl:z∈l:=by
  rw[el] at hz
  rcases List.mem_cons.1 hz with h|h
  ·omega
  ·exact h
 have h2:=mem_ap (σ:=σ) hz0 hzl
 have h3:(ap σ y).length=(ap σ l).length+1:=by
  conv=>lhs;rw[el]
  rw[ap_cons,if_neg (by omega)]
  simp only[List.length_append,List.length_singleton];omega
 rw[e] at h1
 omega
def Good (rs:List Int) (β:Bds) (P:(Int→List Int)→Prop):Option Bds→Prop
 | none=>∀σ,GS rs σ→Sat σ β→¬P σ
 | some β'=>BOK rs β'∧Acy β'∧(β'=β∨cnt β'<cnt β)∧∀σ,GS rs σ→(Sat σ β'↔Sat σ β∧P σ)
theorem Good.congr {rs:List Int} {β:Bds} {P Q:(Int→List Int)→Prop} {r:Option Bds} (h:Good rs β P r) (he:∀σ,GS rs σ→Sat σ β→(P σ↔Q σ)):Good rs β Q r:=by
 cases r with
 | none=>exact fun σ h1 h2 h3=>h σ h1 h2 ((he σ h1 h2).2 h3)
 | some β' =>
  obtain⟨h1,h2,h3,h4⟩:=h
  exact⟨h1,h2,h3,fun σ hσ=>(h4 σ hσ).trans ⟨fun⟨a,b⟩=>⟨a,(he σ hσ a).1 b⟩,fun⟨a,b⟩=>⟨a,(he σ hσ a).2 b⟩⟩⟩
theorem bindM_law {rs:List Int} {β:Bds} (hβ:BOK rs β) (hA:Acy β) {x y:List Int} (hX:XT rs x) (hY:XT rs y) (hx:hd x<0) (hbx:β.getD (vIx (hd x)) default=[]) (hby:hd y<0→β.getD (vIx (hd y)) default=[]) (hne:hd y<0→hd y≠hd x) :
  ∃r,bindM 60 β x y=some r∧Good rs β (fun σ=>σ (hd x)=ap σ y) r:=by
 have hx8:=(hX.get (a:=0) (by have:=hX.len;omega)).1
 have hlt:=vIx_lt hx8 hx
 have hl:vIx (hd x)<β.length:=by rw[hβ.1];exact hlt
 have good:¬OccP β (hd x) y→Good rs β (fun σ=>σ (hd x)=ap σ y) (some (β.set (vIx (hd x)) y)):=fun ho =>
  ⟨hβ.set _ hY,bind_acy hA hl hbx ho,.inr (by have:=cnt_set β _ y hl hbx hY.ne;omega),fun σ _=>bind_sat hx hl hbx hY.ne σ⟩
 unfold bindM
 by_cases h0:0≤hd y
 ·rw[if_pos h0]
  obtain⟨q,h1,h2⟩:=occM_top hβ hA hx hY.2
  rw[h1]
  obtain⟨b,s⟩:=q
  cases b with
  | true=>exact⟨_,rfl,fun σ _ hs=>occ_none hx hY h0 (h2.1 rfl) σ hs⟩
  | false=>exact⟨_,rfl,good fun ho=>by have:=h2.2 ho;cases this⟩
 ·rw[if_neg h0]
  refine⟨_,rfl,good fun⟨z,hz,hz0,hr⟩=>?_⟩
  have ey:=xt_var hY (by omega)
  rw[ey] at hz
  obtain rfl:=List.mem_singleton.1 hz
  generalize ei:vIx (hd y)=i at hr
  generalize ej:vIx (hd x)=j at hr
  cases hr with
  | refl=>exact hne hz0 (vIx_inj hz0 hx (ei.trans ej.symm))
  | step he _ =>
   obtain⟨w,hw,_⟩:=he
   rw[←ei,hby hz0] at hw
   cases hw
theorem eqL_mono {rec rec':Bds→List Int→List Int→Option (Option Bds)} (h:∀β a b r,rec β a b=some r→rec' β a b=some r):∀(ps:List (List Int×List Int)) (β:Bds) (r:Option Bds),eqL rec ps β=some r→eqL rec' ps β=some r
 | [],_,_,e=>e
 | p::ps,β,r,e=>by
  unfold eqL at e ⊢
  split at e
  ·cases e
  ·rename_i hq;rw[h _ _ _ _ hq];exact e
  ·rename_i β' hq;rw[h _ _ _ _ hq];exact eqL_mono h ps β' r e
theorem eqM_mono {rs:List Int} {g:Nat}:∀(f:Nat) (β:Bds) (a b:List Int) (r:Option Bds),eqM rs g f β a b=some r→eqM rs g (f+1) β a b=some r
 | 0,_,_,_,_,e=>by cases e
 | f+1,β,a,b,r,e=>by
  unfold eqM at e ⊢
  split at e
  ·rename_i a1 b1 h1 h2
   unfold eqB at e ⊢
   split at e
   ·rename_i c;rw[if_pos c];exact e
   ·rename_i c;rw[if_neg c]
    split at e
    ·rename_i c;rw[if_pos c];exact e
    ·rename_i c;rw[if_neg c]
     split at e
     ·rename_i c;rw[if_pos c];exact e
     ·rename_i c;rw[if_neg c]
      split at e
      ·rename_i c;rw[if_pos c];exact e
      ·rename_i c;rw[if_neg c]
       exact eqL_mono (fun β a b r=>eqM_mono f β a b r) _ _ _ e
  ·cases e
theorem eqM_up {rs:List Int} {g:Nat} {f:Nat} {β:Bds} {a b:List Int} {r:Option Bds} (h:eqM rs g f β a b=some r):∀d,eqM rs g (f+d) β a b=some r
 | 0=>h
 | d+1=>eqM_mono _ _ _ _ _ (eqM_up h d)
theorem eqL_up {rs:List Int} {g:Nat} {f:Nat} {β:Bds} {ps:List (List Int×List Int)} {r:Option Bds} (h:eqL (eqM rs g f) ps β=some r) (d:Nat):eqL (eqM rs g (f+d)) ps β=some r :=
 eqL_mono (fun β a b r h=>eqM_up h d) ps β r h
def AllEq (σ:Int→List Int) (ps:List (List Int×List Int)):Prop:=∀p∈ps,ap σ p.1=ap σ p.2
theorem good_step {rs:List Int} {β β1:Bds} {P Q:(Int→List Int)→Prop} (h1:Good rs β P (some β1)) {r:Option Bds} (h2:Good rs β1 Q r):Good rs β (fun σ=>P σ∧Q σ) r:=by
 obtain⟨a1,a2,a3,a4⟩:=h1
 cases r with
 | none=>exact fun σ hσ hs ⟨hp,hq⟩=>h2 σ hσ ((a4 σ hσ).2 ⟨hs,hp⟩) hq
 | some β2 =>
  obtain⟨b1,b2,b3,b4⟩:=h2
  refine⟨b1,b2,?_,fun σ hσ=>?_⟩
  ·rcases b3 with b3|b3
   ·rw[b3];exact a3
   ·rcases a3 with a3|a3
    ·rw[a3] at b3;exact .inr b3
    ·exact .inr (by omega)
  ·rw[b4 σ hσ,a4 σ hσ,and_assoc]
theorem eqL_law {rs:List Int} (I:Bds→Prop) (hI:∀β β',I β→BOK rs β→Acy β→(β'=β∨cnt β'<cnt β)→I β'):∀(ps:List (List Int×List Int)),
  (∀p∈ps,∀β,I β→BOK rs β→Acy β→∃f r,eqM rs 60 f β p.1 p.2=some r∧Good rs β (fun σ=>ap σ p.1=ap σ p.2) r)→∀β,I β→BOK rs β→Acy β→∃f r,eqL (eqM rs 60 f) ps β=some r∧Good rs β (fun σ=>AllEq σ ps) r
 | [],_,β,_,hβ,hA=>⟨0,some β,rfl,hβ,hA,.inl rfl,fun σ _=>⟨fun h=>⟨h,fun p hp=>by cases hp⟩,fun h=>h.1⟩⟩
 | p::ps,h,β,hi,hβ,hA=>by
  obtain⟨f1,r1,e1,g1⟩:=h p List.mem_cons_self β hi hβ hA
  cases r1 with
  | none =>
   refine⟨f1,none,?_,fun σ h1 h2 h3=>g1 σ h1 h2 (h3 p List.mem_cons_self)⟩
   unfold eqL;rw[e1]
  | some β1 =>
   obtain⟨f2,r2,e2,g2⟩:=eqL_law I hI ps (fun q hq=>h q (List.mem_cons_of_mem _ hq)) β1 (hI β β1 hi hβ hA g1.2.2.1) g1.1 g1.2.1
   refine⟨f1+f2,r2,?_,(good_step g1 g2).congr fun σ _ _=>?_⟩
   ·unfold eqL
    rw[eqM_up e1 f2]
    have:=eqL_up e2 f1
    rwa [Nat.add_comm] at this
   ·simp only[AllEq,List.mem_cons,forall_eq_or_imp]
theorem eq_node {rs:List Int} {β:Bds} (hβ:BOK rs β) (hA:Acy β) {a b a1 b1:List Int} (hra:rootM β 60 a=some a1) (hrb:rootM β 60 b=some b1) (hA1:XT rs a1) (hB1:XT rs b1)
  (ha:hd a1<0→β.getD (vIx (hd a1)) default=[]) (hb:hd b1<0→β.getD (vIx (hd b1)) default=[]) (hrec:hd a1=hd b1→0≤hd a1→∃f r,eqL (eqM rs 60 f) (pairsX rs a1 b1) β=some r∧Good rs β (fun σ=>AllEq σ (pairsX rs a1 b1)) r) :
  ∃f r,eqM rs 60 f β a b=some r∧Good rs β (fun σ=>ap σ a1=ap σ b1) r:=by
 have e:∀f,eqM rs 60 (f+1) β a b=eqB rs 60 (eqM rs 60 f) β a1 b1:=fun f=>by
  show (match rootM β 60 a,rootM β 60 b with|some a1,some b1=>eqB rs 60 (eqM rs 60 f) β a1 b1|_,_=>none)=_
  rw[hra,hrb]
 by_cases c1:hd a1=hd b1∧hd a1<0
 ·refine⟨1,some β,?_,hβ,hA,.inl rfl,fun σ _=>⟨fun h=>⟨h,?_⟩,fun h=>h.1⟩⟩
  ·rw[e];unfold eqB;rw[if_pos c1]
  ·rw[xt_var hA1 c1.2,xt_var hB1 (by omega),c1.1]
 by_cases c2:hd b1<0∧(0≤hd a1∨hd b1<hd a1)
 ·obtain⟨r,h1,h2⟩:=bindM_law hβ hA hB1 hA1 c2.1 (hb c2.1) ha (fun h e=>c1 ⟨e,h⟩)
  refine⟨1,r,?_,h2.congr fun σ _ _=>?_⟩
  ·rw[e];unfold eqB;rw[if_neg c1,if_pos c2];exact h1
  ·conv=>rhs;rw[xt_var hB1 c2.1]
   rw[ap_var (σ:=σ) c2.1]
   exact eq_comm
 by_cases c3:hd a1<0
 ·obtain⟨r,h1,h2⟩:=bindM_law hβ hA hA1 hB1 c3 (ha c3) hb (fun h e=>c1 ⟨e.symm,c3⟩)
  refine⟨1,r,?_,h2.congr fun σ _ _=>?_⟩
  ·rw[e];unfold eqB;rw[if_neg c1,if_neg c2,if_pos c3];exact h1
  ·conv=>rhs;rw[xt_var hA1 c3]
   rw[ap_var (σ:=σ) c3]
 by_cases c4:hd a1=hd b1
 ·obtain⟨f,r,h1,h2⟩:=hrec c4 (by omega)
  refine⟨f+1,r,?_,h2.congr fun σ hσ _=>(dec_iff hσ hA1 hB1 c4 (by omega)).symm⟩
  rw[e];unfold eqB;rw[if_neg c1,if_neg c2,if_neg c3,if_neg (by omega)];exact h1
 ·refine⟨1,none,?_,fun σ _ _ h=>?_⟩
  ·rw[e];unfold eqB;rw[if_neg c1,if_neg c2,if_neg c3,if_pos c4]
  ·have h0:0≤hd b1:=by
    by_cases h:hd b1<0
    ·exact absurd ⟨h,.inl (by omega)⟩ c2
    ·omega
   have h:ap σ a1=ap σ b1:=h
   rw[ap_node hA1 (by omega),ap_node hB1 h0] at h
   exact c4 (List.cons.inj h).1
theorem part_len {rs a:List Int} {σ:Int→List Int} (hA:XT rs a) (h0:0≤hd a):∀x∈partsX rs a,(ap σ x).length+1≤(ap σ a).length:=fun x hx=>by
 have h1:=sum_parts (σ:=σ) hA h0
 have h2:(ap σ x).length≤(((partsX rs a).map (ap σ)).map List.length).sum:=by
  have:∀(l:List Nat) (n:Nat),n∈l→n≤l.sum:=fun l n h=>by
   induction l with
   | nil=>cases h
   | cons m l ih =>
    rw[List.sum_cons]
    rcases List.mem_cons.1 h with rfl|h
    ·omega
    ·have:=ih h;omega
  exact this _ _ (List.mem_map.2 ⟨_,List.mem_map.2 ⟨x,hx,rfl⟩,rfl⟩)
 omega
theorem eq_law (rs:List Int):∀(c:Nat) (β:Bds),cnt β<c→BOK rs β→Acy β→∀a b,XT rs a→XT rs b→∃f r,eqM rs 60 f β a b=some r∧Good rs β (fun σ=>ap σ a=ap σ b) r
 | 0,β,h,_,_,_,_,_,_=>by omega
 | c+1,β,h,hβ,hA,a,b,hTa,hTb=>by
  obtain⟨σ,hσ,hsat⟩:=sol_ex hβ hA
  obtain⟨r,hr,h48⟩:=rank_ex hβ hA
  have main:∀(m:Nat) (a b:List Int),(ap σ a).length≤m→XT rs a→XT rs b→∃f r,eqM rs 60 f β a b=some r∧Good rs β (fun σ=>ap σ a=ap σ b) r:=by
   intro m
   induction m with
   | zero=>intro a b hm ha _;have:=ap_pos hσ ha;omega
   | succ m ih =>
    intro a b hm ha hb
    obtain⟨a1,u1,u2,u3,u4,_⟩:=root_law hβ hr 59 a ha (fun _=>by have:=h48 (vIx (hd a));omega)
    obtain⟨b1,v1,v2,v3,v4,_⟩:=root_law hβ hr 59 b hb (fun _=>by have:=h48 (vIx (hd b));omega)
    obtain⟨f,q,k1,k2⟩:=eq_node hβ hA u1 v1 u2 v2 u3 v3 (fun he h0=>by
     refine eqL_law (fun β'=>β'=β∨cnt β'<c) (fun β1 β2 h1 _ _ h2=>?_) _ (fun p hp β1 hi hβ1 hA1=>?_) β (.inl rfl) hβ hA
     ·rcases h1 with rfl|h1
      ·rcases h2 with rfl|h2
       ·exact .inl rfl
       ·exact .inr (by omega)
      ·rcases h2 with rfl|h2
       ·exact .inr h1
       ·exact .inr (by omega)
     ·have hp1:p.1∈partsX rs a1:=by rw[←pairs_fst rs a1 b1];exact List.mem_map.2 ⟨p,hp,rfl⟩
      have hp2:p.2∈partsX rs b1:=by rw[←pairs_snd u2 v2 he];exact List.mem_map.2 ⟨p,hp,rfl⟩
      rcases hi with rfl|hi
      ·have h1:=part_len (σ:=σ) u2 h0 _ hp1
       rw[u4 σ hsat] at h1
       exact ih _ _ (by omega) (partsX_ok u2 _ hp1) (partsX_ok v2 _ hp2)
      ·exact eq_law rs c β1 hi hβ1 hA1 _ _ (partsX_ok u2 _ hp1) (partsX_ok v2 _ hp2))
    exact⟨f,q,k1,k2.congr fun τ _ hs=>by rw[u4 τ hs,v4 τ hs]⟩
  exact main _ a b (Nat.le_refl _) hTa hTb
def Unif (rs:List Int) (β:Bds) (P:(Int→List Int)→Prop):Prop:=∃σ,GS rs σ∧Sat σ β∧P σ
theorem good_unif {rs:List Int} {β:Bds} {P:(Int→List Int)→Prop} {r:Option Bds} (h:Good rs β P r):r.isSome=true↔Unif rs β P:=by
 cases r with
 | none=>exact Iff.intro (fun h=>by cases h) (fun⟨σ,h1,h2,h3⟩=>absurd h3 (h σ h1 h2))
 | some β' =>
  refine⟨fun _=>?_,fun _=>rfl⟩
  obtain⟨h1,h2,_,h4⟩:=h
  obtain⟨σ,hσ,hs⟩:=sol_ex h1 h2
  have:=(h4 σ hσ).1 hs
  exact⟨σ,hσ,this.1,this.2⟩
theorem eqM_unif {rs:List Int} {β:Bds} (hβ:BOK rs β) (hA:Acy β) {a b:List Int} (ha:XT rs a) (hb:XT rs b):∃f r,eqM rs 60 f β a b=some r∧(r.isSome=true↔Unif rs β fun σ=>ap σ a=ap σ b):=by
 obtain⟨f,r,h1,h2⟩:=eq_law rs (cnt β+1) β (by omega) hβ hA a b ha hb
 exact⟨f,r,h1,good_unif h2⟩
noncomputable def meetS (rs:List Int):Nat→Bds→List (List Int×List Int)→Option Bool
 | 0,_,_=>none
 | n+1,β,ps=>match ps.getLast? with
  | none=>some true
  | some p=>match rootM β 60 p.1,rootM β 60 p.2 with
   | some u,some v =>
    if hd u=hd v∧hd u<0 then meetS rs n β ps.dropLast
    else if hd u<0 then (if tst (OccP β (hd u) v)=true then some false else meetS rs n (β.set (vIx (hd u)) v) ps.dropLast)
    else if hd v<0 then (if tst (OccP β (hd v) u)=true then some false else meetS rs n (β.set (vIx (hd v)) u) ps.dropLast)
    else if hd u≠hd v then some false
    else meetS rs n β (ps.dropLast++pairsX rs u v)
   | _,_=>none
theorem root_top {rs:List Int} {β:Bds} (hβ:BOK rs β) (hA:Acy β) {t:List Int} (hT:XT rs t):∃u,rootM β 60 t=some u∧XT rs u∧(hd u<0→β.getD (vIx (hd u)) default=[])∧∀σ,Sat σ β→ap σ u=ap σ t:=by
 obtain⟨r,hr,h48⟩:=rank_ex hβ hA
 obtain⟨u,h1,h2,h3,h4,_⟩:=root_law hβ hr 59 t hT (fun _=>by have:=h48 (vIx (hd t));omega)
 exact⟨u,h1,h2,h3,h4⟩
def wt (σ:Int→List Int) (ps:List (List Int×List Int)):Nat:=(ps.map fun p=>(ap σ p.1).length).sum
theorem wt_app (σ:Int→List Int) (ps qs:List (List Int×List Int)):wt σ (ps++qs)=wt σ ps+wt σ qs:=by simp[wt]
theorem wt_pairs {rs a b:List Int} {σ:Int→List Int} (hA:XT rs a) (h0:0≤hd a):wt σ (pairsX rs a b)+1=(ap σ a).length:=by
 rw[←sum_parts hA h0,←pairs_fst rs a b]
 simp[wt,List.map_map,Function.comp_def]
theorem allEq_snoc (σ:Int→List Int) (ps:List (List Int×List Int)) (p:List Int×List Int):AllEq σ (ps++[p])↔AllEq σ ps∧ap σ p.1=ap σ p.2:=by
 simp only[AllEq,List.mem_append,List.mem_singleton]
 exact⟨fun h=>⟨fun q hq=>h q (.inl hq),h p (.inr rfl)⟩,fun h q hq=>hq.elim (h.1 q) fun e=>e ▸ h.2⟩
theorem allEq_app (σ:Int→List Int) (ps qs:List (List Int×List Int)):AllEq σ (ps++qs)↔AllEq σ ps∧AllEq σ qs:=by
 simp only[AllEq,List.mem_append]
 exact⟨fun h=>⟨fun q hq=>h q (.inl hq),fun q hq=>h q (.inr hq)⟩,fun h q hq=>hq.elim (h.1 q) (h.2 q)⟩
theorem Unif.congr {rs:List Int} {β:Bds} {P Q:(Int→List Int)→Prop} (h:∀σ,GS rs σ→Sat σ β→(P σ↔Q σ)):Unif rs β P↔Unif rs β Q :=
 ⟨fun⟨σ,h1,h2,h3⟩=>⟨σ,h1,h2,(h σ h1 h2).1 h3⟩,fun⟨σ,h1,h2,h3⟩=>⟨σ,h1,h2,(h σ h1 h2).2 h3⟩⟩
theorem bind_unif {rs:List Int} {β:Bds} (hβ:BOK rs β) (hA:Acy β) {u v:List Int} (hU:XT rs u) (hV:XT rs v) (hu:hd u<0) (hb:β.getD (vIx (hd u)) default=[]) (ho:¬OccP β (hd u) v) (P:(Int→List Int)→Prop) :
  BOK rs (β.set (vIx (hd u)) v)∧Acy (β.set (vIx (hd u)) v)∧cnt (β.set (vIx (hd u)) v)<cnt β∧(Unif rs (β.set (vIx (hd u)) v) P↔Unif rs β fun σ=>P σ∧ap σ u=ap σ v):=by
 have hx8:=(hU.get (a:=0) (by have:=hU.len;omega)).1
 have hl:vIx (hd u)<β.length:=by rw[hβ.1];exact vIx_lt hx8 hu
 refine⟨hβ.set _ hV,bind_acy hA hl hb ho,by have:=cnt_set β _ v hl hb hV.ne;omega,?_⟩
 have hs:=fun σ=>bind_sat hu hl hb hV.ne σ
 have he:∀σ,(ap σ u=ap σ v↔σ (hd u)=ap σ v):=fun σ=>by
  conv=>lhs;rw[xt_var hU hu]
  rw[ap_var (σ:=σ) hu]
 constructor
 ·rintro⟨σ,h1,h2,h3⟩
  have:=(hs σ).1 h2
  exact⟨σ,h1,this.1,h3,(he σ).2 this.2⟩
 ·rintro⟨σ,h1,h2,h3,h4⟩
  exact⟨σ,h1,(hs σ).2 ⟨h2,(he σ).1 h4⟩,h3⟩
theorem occ_no {rs:List Int} {β:Bds} {u v:List Int} (hU:XT rs u) (hV:XT rs v) (hu:hd u<0) (hbu:β.getD (vIx (hd u)) default=[]) (hbv:hd v<0→β.getD (vIx (hd v)) default=[]) (hne:¬(hd u=hd v)) (ho:OccP β (hd u) v) (P:(Int→List Int)→Prop):¬Unif rs β fun σ=>P σ∧ap σ u=ap σ v:=by
 rintro⟨σ,_,h2,_,h4⟩
 have h5:σ (hd u)=ap σ v:=by
  have:=h4
  rw[xt_var hU hu,ap_var (σ:=σ) hu] at this
  have e:hd [hd u]=hd u:=rfl
  first|exact this|(rw[e] at this;exact this)
 by_cases h0:0≤hd v
 ·exact occ_none hu hV h0 ho σ h2 h5
 ·obtain⟨z,hz,hz0,hr⟩:=ho
  rw[xt_var hV (by omega)] at hz
  obtain rfl:=List.mem_singleton.1 hz
  generalize ei:vIx (hd v)=i at hr
  generalize ej:vIx (hd u)=j at hr
  cases hr with
  | refl=>exact hne (vIx_inj hu hz0 (ej.trans ei.symm))
  | step he _ =>
   obtain⟨w,hw,_⟩:=he
   rw[←ei,hbv hz0] at hw
   cases hw
theorem meet_law (rs:List Int):∀(c:Nat) (β:Bds),cnt β<c→BOK rs β→Acy β→∀ps:List (List Int×List Int),(∀p∈ps,XT rs p.1∧XT rs p.2)→∃n b,meetS rs n β ps=some b∧(b=true↔Unif rs β fun σ=>AllEq σ ps)
 | 0,β,h,_,_,_,_=>by omega
 | c+1,β,h,hβ,hA,ps,hps=>by
  obtain⟨σ,hσ,hsat⟩:=sol_ex hβ hA
  have main:∀(m:Nat) (ps:List (List Int×List Int)),wt σ ps≤m→(∀p∈ps,XT rs p.1∧XT rs p.2)→∃n b,meetS rs n β ps=some b∧(b=true↔Unif rs β fun σ=>AllEq σ ps):=by
   intro m
   induction m with
   | zero =>
    intro ps hm hp
    rcases List.eq_nil_or_concat ps with rfl|⟨qs,p,rfl⟩
    ·exact⟨1,true,rfl,Iff.intro (fun _=>⟨σ,hσ,hsat,fun p hp=>(by cases hp)⟩) (fun _=>rfl)⟩
    ·have h1:=(hp p (by simp)).1
     have:=ap_pos hσ h1
     rw[List.concat_eq_append,wt_app] at hm
     have h2:wt σ [p]=(ap σ p.1).length:=by simp[wt]
     omega
   | succ m ih =>
    intro ps hm hp
    rcases List.eq_nil_or_concat ps with rfl|⟨qs,p,rfl⟩
    ·exact⟨1,true,rfl,Iff.intro (fun _=>⟨σ,hσ,hsat,fun p hp=>(by cases hp)⟩) (fun _=>rfl)⟩
    rw[List.concat_eq_append] at hm hp ⊢
    obtain⟨hp1,hp2⟩:=hp p (by simp)
    have hq:∀p∈qs,XT rs p.1∧XT rs p.2:=fun p hp'=>hp p (by simp[hp'])
    obtain⟨u,u1,u2,u3,u4⟩:=root_top hβ hA hp1
    obtain⟨v,v1,v2,v3,v4⟩:=root_top hβ hA hp2
    have hwq:wt σ qs+(ap σ p.1).length≤m+1:=by
     rw[wt_app] at hm
     simpa[wt] using hm
    have hpos:=ap_pos hσ hp1
    have step:∀n,meetS rs (n+1) β (qs++[p])=if hd u=hd v∧hd u<0 then meetS rs n β qs else if hd u<0 then (if tst (OccP β (hd u) v)=true then some false else meetS rs n (β.set (vIx (hd u)) v) qs) else if hd v<0 then (if tst (OccP β (hd v) u)=true then some false else meetS rs n (β.set (vIx (hd v)) u) qs) else if hd u≠hd v then some false else meetS rs n β (qs++pairsX rs u v):=fun n=>by
     conv=>lhs;unfold meetS
     simp only[List.getLast?_append,List.getLast?_singleton,Option.some_or,u1,v1,List.dropLast_concat]
    have hU:(Unif rs β fun σ=>AllEq σ (qs++[p]))↔Unif rs β fun σ=>AllEq σ qs∧ap σ u=ap σ v:=Unif.congr fun τ h1 h2=>by rw[allEq_snoc,u4 τ h2,v4 τ h2]
    rw[hU]
    by_cases c1:hd u=hd v∧hd u<0
    ·obtain⟨n,b,h1,h2⟩:=ih qs (by omega) hq
     refine⟨n+1,b,by rw[step,if_pos c1];exact h1,h2.trans (Unif.congr fun τ _ _=>?_)⟩
     have e:u=v:=by rw[xt_var u2 c1.2,xt_var v2 (by omega),c1.1]
     rw[e];simp
    by_cases c2:hd u<0
    ·by_cases ho:OccP β (hd u) v
     ·refine⟨1,false,by rw[step,if_neg c1,if_pos c2,if_pos (tst_true ho)],Iff.intro (fun h=>(by cases h)) (fun h=>?_)⟩
      exact absurd h (occ_no u2 v2 c2 (u3 c2) v3 (fun e=>c1 ⟨e,c2⟩) ho _)
     ·obtain⟨b1,b2,b3,b4⟩:=bind_unif hβ hA u2 v2 c2 (u3 c2) ho fun σ=>AllEq σ qs
      obtain⟨n,b,h1,h2⟩:=meet_law rs c _ (by omega) b1 b2 qs hq
      exact⟨n+1,b,by rw[step,if_neg c1,if_pos c2,if_neg (by rw[tst_false ho];simp)];exact h1,h2.trans b4⟩
    by_cases c3:hd v<0
    ·have hsw:(Unif rs β fun σ=>AllEq σ qs∧ap σ u=ap σ v)↔Unif rs β fun σ=>AllEq σ qs∧ap σ v=ap σ u:=Unif.congr fun τ _ _=>by rw[eq_comm (a:=ap τ u)]
     rw[hsw]
     by_cases ho:OccP β (hd v) u
     ·refine⟨1,false,by rw[step,if_neg c1,if_neg c2,if_pos c3,if_pos (tst_true ho)],Iff.intro (fun h=>(by cases h)) (fun h=>?_)⟩
      exact absurd h (occ_no v2 u2 c3 (v3 c3) u3 (fun e=>c1 ⟨e.symm,by omega⟩) ho _)
     ·obtain⟨b1,b2,b3,b4⟩:=bind_unif hβ hA v2 u2 c3 (v3 c3) ho fun σ=>AllEq σ qs
      obtain⟨n,b,h1,h2⟩:=meet_law rs c _ (by omega) b1 b2 qs hq
      exact⟨n+1,b,by rw[step,if_neg c1,if_neg c2,if_pos c3,if_neg (by rw[tst_false ho];simp)];exact h1,h2.trans b4⟩
    by_cases c4:hd u=hd v
    ·have hpx:∀p∈qs++pairsX rs u v,XT rs p.1∧XT rs p.2:=fun p hp'=>by
      rcases List.mem_append.1 hp' with hp'|hp'
      ·exact hq p hp'
      ·exact pairsX_ok u2 v2 c4 p hp'
     have hw2:=wt_pairs (b:=v) (σ:=σ) u2 (by omega)
     rw[u4 σ hsat] at hw2
     obtain⟨n,b,h1,h2⟩:=ih (qs++pairsX rs u v) (by rw[wt_app];omega) hpx
     refine⟨n+1,b,by rw[step,if_neg c1,if_neg c2,if_neg c3,if_neg (by simpa using c4)];exact h1,h2.trans (Unif.congr fun τ hτ _=>?_)⟩
     rw[allEq_app]
     exact and_congr_right fun _=>(dec_iff hτ u2 v2 c4 (by omega)).symm
    ·refine⟨1,false,by rw[step,if_neg c1,if_neg c2,if_neg c3,if_pos c4],Iff.intro (fun h=>(by cases h)) (fun⟨τ,hτ,_,_,h4⟩=>?_)⟩
     rw[ap_node u2 (by omega),ap_node v2 (by omega)] at h4
     exact absurd (List.cons.inj h4).1 c4
  exact main _ ps (Nat.le_refl _) hps
theorem meet_unif {rs:List Int} {β:Bds} (hβ:BOK rs β) (hA:Acy β) {a b:List Int} (ha:XT rs a) (hb:XT rs b):∃n r,meetS rs n β [(a,b)]=some r∧(r=true↔Unif rs β fun σ=>ap σ a=ap σ b):=by
 obtain⟨n,r,h1,h2⟩:=meet_law rs (cnt β+1) β (by omega) hβ hA [(a,b)] (fun p hp=>by rw[List.mem_singleton] at hp;subst hp;exact⟨ha,hb⟩)
 exact⟨n,r,h1,h2.trans (Unif.congr fun σ _ _=>⟨fun h=>h (a,b) (List.mem_singleton.2 rfl),fun h p hp=>by rw[List.mem_singleton] at hp;subst hp;exact h⟩)⟩
noncomputable def meetT (rs:List Int):Nat→Bds→List (List Int×List Int)→Option Bool
 | 0,_,_=>none
 | n+1,β,ps=>if 400000<ps.length then none else match ps.getLast? with
  | none=>some true
  | some p=>match rootM β 60 p.1,rootM β 60 p.2 with
   | some u,some v =>
    if hd u=hd v∧hd u<0 then meetT rs n β ps.dropLast
    else if hd u<0 then (if tst (OccP β (hd u) v)=true then some false else meetT rs n (β.set (vIx (hd u)) v) ps.dropLast)
    else if hd v<0 then (if tst (OccP β (hd v) u)=true then some false else meetT rs n (β.set (vIx (hd v)) u) ps.dropLast)
    else if hd u≠hd v then some false
    else meetT rs n β (ps.dropLast++pairsX rs u v)
   | _,_=>none
def rkL (r:Nat→Nat):List Int→Nat
 | []=>0
 | z::t=>max (if z<0 then r (vIx z)+1 else 0) (rkL r t)
theorem rkL_le {r:Nat→Nat} {k:Nat}:∀ {t:List Int},(∀z∈t,z<0→r (vIx z)+1≤k)→rkL r t≤k
 | [],_=>Nat.zero_le _
 | z::t,h=>by
  have h1:=h z (List.mem_cons_self ..)
  have h2:=rkL_le (r:=r) fun y hy=>h y (List.mem_cons_of_mem _ hy)
  unfold rkL
  split<;>rename_i c
  ·have:=h1 c;omega
  ·omega
theorem rkL_mem {r:Nat→Nat}:∀ {t:List Int} {z:Int},z∈t→z<0→r (vIx z)+1≤rkL r t
 | y::t,z,h,h0=>by
  unfold rkL
  rcases List.mem_cons.1 h with rfl|h
  ·rw[if_pos h0];omega
  ·have:=rkL_mem (r:=r) h h0;omega
def mu (r:Nat→Nat) (t:List Int):Nat:=61*rkL r t+t.length
theorem mu_le {rs:List Int} {r:Nat→Nat} (hr:∀i,r i≤48) {t:List Int} (h:XT rs t):mu r t≤3049:=by
 have h1:=h.len
 have h2:rkL r t≤49:=rkL_le fun z _ _=>by have:=hr (vIx z);omega
 unfold mu;omega
theorem mu_part {rs:List Int} {r:Nat→Nat} {u p:List Int} (h:XT rs u) (hp:p∈partsX rs u):mu r p+1≤mu r u:=by
 have hf:=parts_flat h
 have h1:∀z∈p,z∈u:=fun z hz=>by
  rw[hf]
  exact List.mem_cons_of_mem _ (List.mem_flatten.2 ⟨p,hp,hz⟩)
 have h2:p.length+1≤u.length:=by
  rw[hf,List.length_cons]
  have:p.length≤(partsX rs u).flatten.length:=(List.sublist_flatten_of_mem hp).length_le
  omega
 have h3:rkL r p≤rkL r u:=rkL_le fun z hz h0=>rkL_mem (h1 z hz) h0
 unfold mu;omega
theorem mu_root {rs:List Int} {β:Bds} (hβ:BOK rs β) {r:Nat→Nat} (hr:∀i j,Edge β i j→r j<r i):∀(g:Nat) {t u:List Int},XT rs t→rootM β g t=some u→mu r u≤mu r t
 | 0,_,_,_,h=>by cases h
 | g+1,t,u,hT,h=>by
  unfold rootM at h
  split at h
  ·rename_i c
   have hc1:hd t<0:=c.1
   have hX:=hβ.get c.2
   have ih:=mu_root hβ hr g hX h
   have hl:=hX.len
   have h2:rkL r (β.getD (vIx (t.getD 0 default)) default)≤r (vIx (hd t)):=rkL_le fun z hz h0=>hr _ _ ⟨z,hz,h0,rfl⟩
   have h3:r (vIx (hd t))+1≤rkL r t:=by
    exact rkL_mem (getD_mem t 0 (by have:=hT.len;omega)) hc1
   have h4:=hT.len
   unfold mu at *;omega
  ·obtain rfl:=Option.some.inj h
   exact Nat.le_refl _
theorem pairs_three {rs u v:List Int} (h:XT rs u):(pairsX rs u v).length≤3:=by
 have hl:=h.len
 have hlen:=phiL_len u
 have hlo:=h.1.low (a:=0) (by omega)
 have:(pairsX rs u v).length=(arS rs ((phiL u).getD 0 default)).toNat:=by simp[pairsX,argsS,begS_length]
 rw[this]
 omega
def StI (β:Bds) (ps:List (List Int×List Int)):Prop:=∃(r:Nat→Nat) (C:Nat),(∀i j,Edge β i j→r j<r i)∧(∀i,r i≤48)∧C+6098*cnt β≤6098*50∧∀(j:Nat) (p:List Int×List Int),ps[j]?=some p→2*mu r p.1+j≤C
theorem StI.len {β:Bds} {ps:List (List Int×List Int)} (h:StI β ps):ps.length≤304901:=by
 obtain⟨r,C,_,_,h3,h4⟩:=h
 rcases Nat.eq_zero_or_pos ps.length with h0|h0
 ·omega
 ·have:=h4 (ps.length-1) _ (List.getElem?_eq_getElem (by omega))
  omega
theorem StI.pop {β:Bds} {qs:List (List Int×List Int)} {p:List Int×List Int} (h:StI β (qs++[p])):StI β qs:=by
 obtain⟨r,C,h1,h2,h3,h4⟩:=h
 exact⟨r,C,h1,h2,h3,fun j q hj=>h4 j q (by rw[List.getElem?_append_left (List.getElem?_eq_some_iff.1 hj).1];exact hj)⟩
theorem StI.bind {rs:List Int} {β β':Bds} {qs:List (List Int×List Int)} (h:StI β qs) (hβ:BOK rs β') (hA:Acy β') (hc:cnt β'<cnt β) (hX:∀p∈qs,XT rs p.1∧XT rs p.2):StI β' qs:=by
 obtain⟨r',h1',h2'⟩:=rank_ex hβ hA
 have hl:qs.length≤304901:=h.len
 obtain⟨r,C,h1,h2,h3,h4⟩:=h
 have hq:qs.length≤C+1:=by
  rcases Nat.eq_zero_or_pos qs.length with h0|h0
  ·omega
  ·have:=h4 (qs.length-1) _ (List.getElem?_eq_getElem (by omega));omega
 refine⟨r',C+6098,h1',h2',by omega,fun j p hj=>?_⟩
 have hm:=mu_le h2' (hX p (List.mem_of_getElem? hj)).1
 have:=(List.getElem?_eq_some_iff.1 hj).1
 omega
theorem StI.parts {rs:List Int} {β:Bds} (hβ:BOK rs β) {qs:List (List Int×List Int)} {p:List Int×List Int} (h:StI β (qs++[p])) (hT:XT rs p.1) {u v:List Int} (hu:rootM β 60 p.1=some u) (hU:XT rs u):StI β (qs++pairsX rs u v):=by
 obtain⟨r,C,h1,h2,h3,h4⟩:=h
 refine⟨r,C,h1,h2,h3,fun j q hj=>?_⟩
 rcases Nat.lt_or_ge j qs.length with hl|hl
 ·exact h4 j q (by rw[List.getElem?_append_left hl] at hj ⊢;exact hj)
 ·rw[List.getElem?_append_right hl] at hj
  have hj3:=(List.getElem?_eq_some_iff.1 hj).1
  have h5:=pairs_three (v:=v) hU
  have hq:q.1∈partsX rs u:=by
   rw[←pairs_fst rs u v]
   exact List.mem_map.2 ⟨q,List.mem_of_getElem? hj,rfl⟩
  have h6:=mu_part (r:=r) hU hq
  have h7:=mu_root hβ h1 60 hT hu
  have h8:=h4 qs.length p (by simp)
  omega
theorem StI.start {rs:List Int} {β:Bds} (hβ:BOK rs β) (hA:Acy β) {a b:List Int} (ha:XT rs a):StI β [(a,b)]:=by
 obtain⟨r,h1,h2⟩:=rank_ex hβ hA
 have hc:cnt β≤48:=by
  have:=List.length_filter_le (fun x=>x.isEmpty) β
  rw[hβ.1] at this
  exact this
 refine⟨r,6098,h1,h2,by omega,fun j p hj=>?_⟩
 have hjl:=(List.getElem?_eq_some_iff.1 hj).1
 have:p∈[(a,b)]:=List.mem_of_getElem? hj
 rw[List.mem_singleton] at this
 subst this
 have:=mu_le h2 ha
 simp at hjl
 simp only
 omega
theorem meetT_of (rs:List Int):∀(n:Nat) (β:Bds) (ps:List (List Int×List Int)) (b:Bool),BOK rs β→Acy β→(∀p∈ps,XT rs p.1∧XT rs p.2)→StI β ps→meetS rs n β ps=some b→meetT rs n β ps=some b
 | 0,_,_,_,_,_,_,_,h=>by cases h
 | n+1,β,ps,b,hβ,hA,hX,hI,h=>by
  have hlen:=hI.len
  unfold meetS at h
  unfold meetT
  rw[if_neg (by omega)]
  rcases List.eq_nil_or_concat ps with rfl|⟨qs,p,rfl⟩
  ·exact h
  rw[List.concat_eq_append] at h hX hI ⊢
  obtain⟨hp1,hp2⟩:=hX p (by simp)
  have hq:∀p∈qs,XT rs p.1∧XT rs p.2:=fun p hp'=>hX p (by simp[hp'])
  obtain⟨u,u1,u2,u3,u4⟩:=root_top hβ hA hp1
  obtain⟨v,v1,v2,v3,v4⟩:=root_top hβ hA hp2
  simp only[List.getLast?_append,List.getLast?_singleton,Option.some_or,u1,v1,List.dropLast_concat] at h ⊢
  have ih:=meetT_of rs n
  by_cases c1:hd u=hd v∧hd u<0
  ·rw[if_pos c1] at h ⊢
   exact ih β qs b hβ hA hq hI.pop h
  rw[if_neg c1] at h ⊢
  by_cases c2:hd u<0
  ·rw[if_pos c2] at h ⊢
   by_cases ho:OccP β (hd u) v
   ·rw[if_pos (tst_true ho)] at h ⊢;exact h
   ·rw[if_neg (by rw[tst_false ho];simp)] at h ⊢
    obtain⟨b1,b2,b3,_⟩:=bind_unif hβ hA u2 v2 c2 (u3 c2) ho fun _=>True
    exact ih _ qs b b1 b2 hq (hI.pop.bind b1 b2 b3 hq) h
  rw[if_neg c2] at h ⊢
  by_cases c3:hd v<0
  ·rw[if_pos c3] at h ⊢
   by_cases ho:OccP β (hd v) u
   ·rw[if_pos (tst_true ho)] at h ⊢;exact h
   ·rw[if_neg (by rw[tst_false ho];simp)] at h ⊢
    obtain⟨b1,b2,b3,_⟩:=bind_unif hβ hA v2 u2 c3 (v3 c3) ho fun _=>True
    exact ih _ qs b b1 b2 hq (hI.pop.bind b1 b2 b3 hq) h
  rw[if_neg c3] at h ⊢
  by_cases c4:hd u=hd v
  ·rw[if_neg (by simpa using c4)] at h ⊢
   refine ih β _ b hβ hA (fun p hp'=>?_) (hI.parts hβ hp1 u1 u2) h
   rcases List.mem_append.1 hp' with hp'|hp'
   ·exact hq p hp'
   ·exact pairsX_ok u2 v2 c4 p hp'
  ·rw[if_pos c4] at h ⊢;exact h
theorem meetT_unif {rs:List Int} {β:Bds} (hβ:BOK rs β) (hA:Acy β) {a b:List Int} (ha:XT rs a) (hb:XT rs b):∃n r,meetT rs n β [(a,b)]=some r∧(r=true↔Unif rs β fun σ=>ap σ a=ap σ b):=by
 obtain⟨n,r,h1,h2⟩:=meet_unif hβ hA ha hb
 exact⟨n,r,meetT_of rs n β _ r hβ hA (fun p hp=>by rw[List.mem_singleton] at hp;subst hp;exact⟨ha,hb⟩) (StI.start hβ hA ha) h1,h2⟩
end Go.Proofs.YtohnfgligddanaaGreat
end
section
namespace Go.Proofs.YtohnfgligddanaaGreat
open Go Go.Lg
set_option linter.unusedVariables false
def ConnU (rs c b:List Int):Prop:=Unif rs b0 fun σ=>ap σ c=ap σ (awayL b)
theorem b0_acy:Acy b0:=fun i j h _=>by
 obtain⟨x,hx,_⟩:=h
 rw[b0_get] at hx
 cases hx
theorem conn_spec {rs c b:List Int} (hc:XT rs c) (hb:TermOkP rs b):∃n r,meetT rs n b0 [(c,awayL b)]=some r∧(r=true↔ConnU rs c b):=meetT_unif (b0_ok rs) b0_acy hc (XT.away hb)
theorem conn_impl {rs c b:List Int} (hc:XT rs c) (hb:TermOkP rs b):∃f r,eqM rs 60 f b0 c (awayL b)=some r∧(r.isSome=true↔ConnU rs c b):=eqM_unif (b0_ok rs) b0_acy hc (XT.away hb)
end Go.Proofs.YtohnfgligddanaaGreat
end
section
namespace Go.Proofs.YtohnfgligddanaaGreat
open Go Go.Lg
set_option linter.unusedSimpArgs false
set_option linter.unusedVariables false
set_option maxHeartbeats 4000000
attribute [local irreducible] SW runL runQ runG runQG FC Ret1 DefP
noncomputable def mkO (x:SystemT) (t:List Int) (a:Nat):Int:=if t.getD a default<0 then 2 else if a=0 then 0 else if tst (DefP x (t.getD a default))=true then 2 else 1
def kp120:List (Nat×List Nat):=[(0,[1,2,3]),(1,[2,3,7]),(2,[2,3,7,12]),(3,[6]),(4,[3,7,15]),(5,[6]),(6,[18]),(7,[6]),(8,[6])]
attribute [go_sem] kp120
theorem markOf_fc (x:SystemT) (t:List Int) (a:Nat) (ha:a<t.length) (h:∀r∈x.rules,1≤r.l.length):FC S 120 [] [] [] [SystemD x,.sl .any (t.map (.int .i64)),.int .i64 a] (.int .i64 (mkO x t a)) [] []:=by
 have cD:=isDefined_fc x (t.getD a default) h
 unfold mkO
 refine fc_body Tryz.func120 rfl (by kernel_rfl) (by simp[Tryz.f120]) fun B=>?_
 simp only[Tryz.ntmps120,enumD,lst0,Nat.reduceAdd]
 by_cases c1:t.getD a default<0
 ·rw[if_pos c1]
  repeat' first|((exfalso;omega))|refine sw_seq ?_|refine sw_block ?_|refine sw_go 0 kp120 fun K hK=>?_|((first|refine runL_go ?_|refine sw_ret (ret0 ?_)|refine sw_ret ?_);simp (disch:=(refine Om.mk ?_;omega)) only[go_sem,Tryz.results120])|(refine hK.nil ?_;clear hK K;simp only[go_sem])|((first|refine sw_cond rfl ?_ ?_)<;>intro h<;>try simp (disch:=(refine Om.mk ?_;omega)) only[go_sem] at h)|(with_reducible refine And.intro (by first|omega|(simp only[lens];omega)) ?_)|fail
 rw[if_neg c1]
 by_cases c2:a=0
 ·rw[if_pos c2]
  repeat' first|((exfalso;omega))|refine sw_seq ?_|refine sw_block ?_|refine sw_go 0 kp120 fun K hK=>?_|((first|refine runL_go ?_|refine sw_ret (ret0 ?_)|refine sw_ret ?_);simp (disch:=(refine Om.mk ?_;omega)) only[go_sem,Tryz.results120])|(refine hK.nil ?_;clear hK K;simp only[go_sem])|((first|refine sw_cond rfl ?_ ?_)<;>intro h<;>try simp (disch:=(refine Om.mk ?_;omega)) only[go_sem] at h)|(with_reducible refine And.intro (by first|omega|(simp only[lens];omega)) ?_)|fail
 rw[if_neg c2]
 by_cases c3:DefP x (t.getD a default)
 ·rw[tst_true c3] at cD ⊢
  rw[if_pos rfl]
  repeat' first|((exfalso;omega))|refine sw_seq ?_|refine sw_block ?_|refine sw_go 0 kp120 fun K hK=>?_|((first|refine runL_go ?_|refine sw_ret (ret0 ?_)|refine sw_ret ?_);simp (disch:=(refine Om.mk ?_;omega)) only[go_sem,Tryz.results120])|(refine hK.nil ?_;clear hK K;simp only[go_sem])|((first|refine sw_cond rfl ?_ ?_)<;>intro h<;>try simp (disch:=(refine Om.mk ?_;omega)) only[go_sem] at h)|refine hK.c0 rfl rfl rfl (cD) rfl rfl rfl ?_|(with_reducible refine And.intro (by first|omega|(simp only[lens];omega)) ?_)|fail
 ·rw[tst_false c3] at cD ⊢
  rw[if_neg (by decide)]
  repeat' first|((exfalso;omega))|refine sw_seq ?_|refine sw_block ?_|refine sw_inBlock ?_|refine sw_skip ?_|refine sw_go 0 kp120 fun K hK=>?_|((first|refine runL_go ?_|refine sw_ret (ret0 ?_)|refine sw_ret ?_);simp (disch:=(refine Om.mk ?_;omega)) only[go_sem,Tryz.results120])|(refine hK.nil ?_;clear hK K;simp only[go_sem])|((first|refine sw_cond rfl ?_ ?_)<;>intro h<;>try simp (disch:=(refine Om.mk ?_;omega)) only[go_sem] at h)|refine hK.c0 rfl rfl rfl (cD) rfl rfl rfl ?_|(with_reducible refine And.intro (by first|omega|(simp only[lens];omega)) ?_)|fail
end Go.Proofs.YtohnfgligddanaaGreat
end
section
namespace Go.Proofs.YtohnfgligddanaaGreat
open Go Go.Lg
set_option linter.unusedSimpArgs false
set_option linter.unusedVariables false
set_option maxHeartbeats 4000000
attribute [local irreducible] SW runL runQ runG runQG FC Ret1 DefP mkO
noncomputable def capL (x:SystemT) (t:List Int):Nat→Nat→Nat→List Int×Nat
 | 0,_,n=>([],n)
 | f+1,a,n=>if a<t.length then (if mkO x t a=2 then (-((n:Int)+1)::(capL x t f (endS x.sig t a).toNat (n+1)).1,(capL x t f (endS x.sig t a).toNat (n+1)).2) else (t.getD a default::(capL x t f (a+1) n).1,(capL x t f (a+1) n).2)) else ([],n)
theorem mkO_cases (x:SystemT) (t:List Int) (a:Nat):mkO x t a=0∨mkO x t a=1∨mkO x t a=2:=by
 unfold mkO
 split
 ·simp
 ·split
  ·simp
  ·split<;>simp
def kp103:List (Nat×List Nat):=[(0,[1,2]),(1,[1,2,6]),(2,[1,2,6,7]),(3,[1,2,6,7,8]),(4,[1,2,6,7,8,12]),(5,[1,2,6,7,8,16]),(6,[1,2,6,7,8,16,17]),(7,[1,2,6,7,8,16,19]),(8,[1,2,6,7,8,21]),(9,[1,2,6,7,8]),(10,[1,2,6,7,8]),(11,[1,2,6,7,8]),(12,[1,2,6,7,8]),(13,[1,2,6,7,8]),(14,[4,5])]
attribute [go_sem] kp103
theorem capped_fc (x:SystemT) (t:List Int) (hT:TermOkP x.sig t) (h:∀r∈x.rules,1≤r.l.length):FC S 103 [] [] [] [SystemD x,.sl .any (t.map (.int .i64))] (.tup [.sl .any ((capL x t 60 0 0).1.map (.int .i64)),.bool (decide ((((capL x t 60 0 0).2:Nat):Int)≤24))]) [] []:=by
 have hl:=hT.2.1
 generalize hR:capL x t 60 0 0=R
 refine fc_body Tryz.func103 rfl (by kernel_rfl) (by simp[Tryz.f103]) fun B=>?_
 simp only[Tryz.ntmps103,enumD,lst0,Nat.reduceAdd]
 repeat' first|refine sw_seq ?_|refine sw_block ?_|refine sw_go 0 kp103 fun K hK=>?_|((first|refine runL_go ?_|refine sw_ret (ret0 ?_)|refine sw_ret ?_);simp (disch:=(refine Om.mk ?_;omega)) only[go_sem,Tryz.results103])|(refine hK.nil ?_;clear hK K;simp only[go_sem])|fail
 refine sw_tok 6 39000 2 1 rfl (.inl rfl) rfl ?_
 simp only[go_sem]
 refine sw_loopT (ι:=Nat×Nat×Nat×List Int) (fun q=>[(1,.sl .any (t.map (.int .i64))),(2,.box 2 0),(8,.int .i64 q.2.1),(7,.int .i64 q.2.2.1),(6,.sl (.own 39000 2 1) (q.2.2.2.map (.int .i64)))]) (fun _=>[]) (fun _=>[39000]) (fun q=>(q.2.1≤t.length∧q.2.2.1≤q.2.1∧q.2.2.2.length≤q.2.1∧t.length≤q.2.1+q.1)∧q.2.2.2++(capL x t q.1 q.2.1 q.2.2.1).1=R.1∧(capL x t q.1 q.2.1 q.2.2.1).2=R.2) (fun q=>t.length-q.2.1) (60,0,0,[]) (by(refine covers_mk0 rfl rfl ?_ ?_ ?_ ?_<;>simp (disch:=(refine Om.mk ?_;omega)) only[go_sem]<;>(try omega))) ⟨⟨by simp,by simp,by simp,by dsimp only;omega⟩,by dsimp only;rw[hR];rfl,by dsimp only;rw[hR]⟩ (fun q hq=>?_)
 obtain⟨f,a,n,out⟩:=q
 obtain⟨⟨h1,h2,h3,h4⟩,h5,h6⟩:=hq
 dsimp only at h1 h2 h3 h4 h5 h6
 simp only[go_sem]
 by_cases hal:a<t.length
 ·obtain⟨f,rfl⟩:∃g,f=g+1:=⟨f-1,by omega⟩
  have he:=endS_ge hT hal
  have cM:=markOf_fc x t a hal h
  have cE:=endAt_fc .any .any x.sig t a hT.1 (fun y hy=>hT.ge y hy) hl.2 (by omega)
  unfold capL at h5 h6
  rw[if_pos hal] at h5 h6
  rcases mkO_cases x t a with e|e|e
  ·rw[if_neg (by rw[e];decide)] at h5 h6
   rw[e] at cM
   repeat' first|((refine sw_renC 30000 39000 rfl rfl ?_;simp only[go_sem]))|((exfalso;omega))|refine sw_seq ?_|refine sw_block ?_|refine sw_inBlock ?_|refine sw_skip ?_|refine sw_go 0 kp103 fun K hK=>?_|((first|refine runL_go ?_|refine sw_ret (ret0 ?_)|refine sw_ret ?_);simp (disch:=(refine Om.mk ?_;omega)) only[go_sem,Tryz.results103])|(refine hK.nil ?_;clear hK K;simp only[go_sem])|((first|refine sw_cond rfl ?_ ?_)<;>intro h<;>try simp (disch:=(refine Om.mk ?_;omega)) only[go_sem] at h)|refine sw_exit rfl ?_|refine sw_loopEnd ?_|refine hK.c0 rfl rfl rfl (cM) rfl rfl rfl ?_|(with_reducible refine And.intro (by first|omega|(simp only[lens];omega)) ?_)|fail
   exact⟨(f,a+1,n,out++[t.getD a default]),(by(refine covers_mk0 rfl rfl ?_ ?_ ?_ ?_<;>simp (disch:=(refine Om.mk ?_;omega)) only[go_sem]<;>(try omega))),⟨⟨by dsimp only;omega,by dsimp only;omega,by dsimp only;rw[List.length_append,List.length_singleton];omega,by dsimp only;omega⟩,by dsimp only;rw[List.append_assoc];exact h5,h6⟩,by dsimp only;omega⟩
  ·rw[if_neg (by rw[e];decide)] at h5 h6
   rw[e] at cM
   repeat' first|((refine sw_renC 30000 39000 rfl rfl ?_;simp only[go_sem]))|((exfalso;omega))|refine sw_seq ?_|refine sw_block ?_|refine sw_inBlock ?_|refine sw_skip ?_|refine sw_go 0 kp103 fun K hK=>?_|((first|refine runL_go ?_|refine sw_ret (ret0 ?_)|refine sw_ret ?_);simp (disch:=(refine Om.mk ?_;omega)) only[go_sem,Tryz.results103])|(refine hK.nil ?_;clear hK K;simp only[go_sem])|((first|refine sw_cond rfl ?_ ?_)<;>intro h<;>try simp (disch:=(refine Om.mk ?_;omega)) only[go_sem] at h)|refine sw_exit rfl ?_|refine sw_loopEnd ?_|refine hK.c0 rfl rfl rfl (cM) rfl rfl rfl ?_|(with_reducible refine And.intro (by first|omega|(simp only[lens];omega)) ?_)|fail
   exact⟨(f,a+1,n,out++[t.getD a default]),(by(refine covers_mk0 rfl rfl ?_ ?_ ?_ ?_<;>simp (disch:=(refine Om.mk ?_;omega)) only[go_sem]<;>(try omega))),⟨⟨by dsimp only;omega,by dsimp only;omega,by dsimp only;rw[List.length_append,List.length_singleton];omega,by dsimp only;omega⟩,by dsimp only;rw[List.append_assoc];exact h5,h6⟩,by dsimp only;omega⟩
  ·rw[if_pos e] at h5 h6
   rw[e] at cM
   repeat' first|((exfalso;omega))|refine sw_seq ?_|refine sw_block ?_|refine sw_inBlock ?_|refine sw_skip ?_|refine sw_go 0 kp103 fun K hK=>?_|((first|refine runL_go ?_|refine sw_ret (ret0 ?_)|refine sw_ret ?_);simp (disch:=(refine Om.mk ?_;omega)) only[go_sem,Tryz.results103])|(refine hK.nil ?_;clear hK K;simp only[go_sem])|((first|refine sw_cond rfl ?_ ?_)<;>intro h<;>try simp (disch:=(refine Om.mk ?_;omega)) only[go_sem] at h)|refine sw_exit rfl ?_|refine sw_loopEnd ?_|refine hK.c0 rfl rfl rfl (cM) rfl rfl rfl ?_|refine hK.c0 rfl rfl rfl (cE) rfl rfl rfl ?_|(with_reducible refine And.intro (by first|omega|(simp only[lens];omega)) ?_)|fail
   exact⟨(f,(endS x.sig t a).toNat,n+1,out++[-((n:Int)+1)]),(by(refine covers_mk0 rfl rfl ?_ ?_ ?_ ?_<;>simp (disch:=(refine Om.mk ?_;omega)) only[go_sem]<;>(try omega));all_goals first|exact⟨by rw[Int.zero_sub],by omega,by omega⟩|trace_state),⟨⟨by dsimp only;omega,by dsimp only;omega,by dsimp only;rw[List.length_append,List.length_singleton];omega,by dsimp only;omega⟩,by dsimp only;rw[List.append_assoc];exact h5,h6⟩,by dsimp only;omega⟩
 ·have hz:capL x t f a n=([],n):=by
   cases f with
   | zero=>rfl
   | succ f=>unfold capL;rw[if_neg hal]
  rw[hz] at h5 h6
  dsimp only at h5 h6
  rw[List.append_nil] at h5
  repeat' first|((exfalso;omega))|refine sw_seq ?_|refine sw_go 0 kp103 fun K hK=>?_|((first|refine runL_go ?_|refine sw_ret (ret0 ?_)|refine sw_ret ?_);simp (disch:=(refine Om.mk ?_;omega)) only[go_sem,Tryz.results103])|(refine hK.nil ?_;clear hK K;simp only[go_sem])|((first|refine sw_cond rfl ?_ ?_)<;>intro h<;>try simp (disch:=(refine Om.mk ?_;omega)) only[go_sem] at h)|refine sw_exit rfl ?_|(with_reducible refine And.intro (by first|omega|(simp only[lens];omega)) ?_)|fail
  subst h6
  first|rfl|exact⟨h5,rfl⟩|exact h5
end Go.Proofs.YtohnfgligddanaaGreat
end
section
namespace Go.Proofs.YtohnfgligddanaaGreat
open Go Go.Lg
set_option linter.unusedSimpArgs false
set_option linter.unusedVariables false
set_option maxHeartbeats 4000000
attribute [local irreducible] SW runL runQ runG runQG FC Ret1 toF redoL anyB addJ sumF formM
def kp45:List (Nat×List Nat):=[(0,[1]),(1,[1,4]),(2,[1,4,11,12,13]),(3,[1,4,11,12,13,14]),(4,[1,4,5,6,11,12,13]),(5,[1,4,5,11,12,13,20,21]),(6,[1,4,5,11,12,13,20,21,22]),(7,[1,4,5,7,11,12,13,20,21]),(8,[1,4,5,8,9,11,12,13,20,21]),(9,[1,4,5,8,11,12,13,20,21,31]),(10,[1,4,5,11,12,13,20,21]),(11,[1,4,5,11,12,13,20,21]),(12,[1,4,11,12,13]),(13,[4,40]),(14,[2,3]),(15,[2,3])]
attribute [go_sem] kp45
theorem pairs_fc (x:SystemT) (hx:SystemOkP x):FC S 45 [] [] [] [SystemD x] (.tup [.sl .any ((pairsR x).1.map DepPairD),.bool (pairsR x).2]) [] []:=by
 have h12:=hx.1.2
 have hA:(prA x x.rules.length).length≤64→pairsR x=(allP x,true):=fun h=>pairsR_yes ⟨hx,h⟩
 have hB:¬(prA x x.rules.length).length≤64→pairsR x=([],false):=fun h=>pairsR_no fun e=>h e.2
 refine fc_body Tryz.func45 rfl (by kernel_rfl) (by simp[Tryz.f45]) fun B=>?_
 simp only[Tryz.ntmps45,enumD,lst0,Nat.reduceAdd]
 repeat' first|refine sw_seq ?_|refine sw_block ?_|refine sw_go 0 kp45 fun K hK=>?_|((first|refine runL_go ?_|refine sw_ret (ret0 ?_)|refine sw_ret ?_);simp (disch:=(refine Om.mk ?_;omega)) only[go_sem,Tryz.results45])|(refine hK.nil ?_;clear hK K;simp only[go_sem])|fail
 refine sw_tok 4 36000 77 4 rfl (.inl rfl) rfl ?_
 simp only[go_sem]
 refine sw_loopT (ι:=Nat) (fun r=>[(13,.int .i64 r),(4,.sl (.own 36000 77 4) ((prA x r).map DepPairD))]) (fun _=>[]) (fun _=>[36000]) (fun r=>r≤x.rules.length) (fun r=>x.rules.length-r) 0 (by(refine covers_mk0 rfl rfl ?_ ?_ ?_ ?_<;>simp (disch:=(refine Om.mk ?_;omega)) only[go_sem]<;>(try omega));all_goals exact⟨rfl,rfl⟩) (by omega) (fun r hr=>?_)
 simp only[go_sem]
 have hl1:=prA_len hx r hr
 by_cases hrl:r<x.rules.length
 ·have hT:=(hx.2 r hrl).1.2.1
  have hTl:=hT.2.1
  repeat' first|((exfalso;omega))|refine sw_seq ?_|refine sw_block ?_|refine sw_skip ?_|refine sw_go 0 kp45 fun K hK=>?_|((first|refine runL_go ?_|refine sw_ret (ret0 ?_)|refine sw_ret ?_);simp (disch:=(refine Om.mk ?_;omega)) only[go_sem,Tryz.results45])|(refine hK.nil ?_;clear hK K;simp only[go_sem])|((first|refine sw_cond rfl ?_ ?_)<;>intro h<;>try simp (disch:=(refine Om.mk ?_;omega)) only[go_sem] at h)|(with_reducible refine And.intro (by first|omega|(simp only[lens];omega)) ?_)|fail
  refine sw_loopT (ι:=Nat) (fun a=>[(21,.int .i64 a),(4,.sl (.own 36000 77 4) ((prA x r++prR x r a).map DepPairD))]) (fun _=>[]) (fun _=>[36000]) (fun a=>a≤(x.rules.getD r default).r.length) (fun a=>(x.rules.getD r default).r.length-a) 0 (by(refine covers_mk0 rfl rfl ?_ ?_ ?_ ?_<;>simp (disch:=(refine Om.mk ?_;omega)) only[go_sem]<;>(try omega));all_goals first|rfl|(rw[show prR x r 0=[] from rfl,List.append_nil];exact⟨rfl,rfl⟩)|(rw[show prR x r 0=[] from rfl,List.append_nil])) (by omega) (fun a ha=>?_)
  simp only[go_sem]
  have hl2:=prR_len x r a
  have hl3:(prA x r++prR x r a).length≤60*r+a:=by rw[List.length_append];omega
  by_cases hal:a<(x.rules.getD r default).r.length
  ·have hst:=@prR_at x r a
   repeat' first|((exfalso;omega))|refine sw_seq ?_|refine sw_block ?_|refine sw_inBlock ?_|refine sw_skip ?_|refine sw_go 0 kp45 fun K hK=>?_|((first|refine runL_go ?_|refine sw_ret (ret0 ?_)|refine sw_ret ?_);simp (disch:=(refine Om.mk ?_;omega)) only[go_sem,Tryz.results45])|(refine hK.nil ?_;clear hK K;simp only[go_sem])|((first|refine sw_cond rfl ?_ ?_)<;>intro h<;>try simp (disch:=(refine Om.mk ?_;omega)) only[go_sem] at h)|refine sw_loopEnd ?_|refine hK.c0 rfl rfl rfl (pairAt_fc x hx r a hrl hal) rfl rfl rfl ?_|(with_reducible refine And.intro (by first|omega|(simp only[lens];omega)) ?_)|((with_reducible refine And.intro ?_ ?_);· first|(intro x hx;subst hx;rfl)|(intro x;refine And.intro ?_ ?_<;>(intros;subst_vars;rfl)))|fail
   ·exact⟨a+1,(by(refine covers_mk0 rfl rfl ?_ ?_ ?_ ?_<;>simp (disch:=(refine Om.mk ?_;omega)) only[go_sem]<;>(try omega));rw[hst.1 h,←List.append_assoc,List.map_append (l₁:=prA x r++prR x r a),List.map_append (l₁:=prA x r)];exact⟨rfl,by omega⟩),by omega,by omega⟩
   ·exact⟨a+1,(by(refine covers_mk0 rfl rfl ?_ ?_ ?_ ?_<;>simp (disch:=(refine Om.mk ?_;omega)) only[go_sem]<;>(try omega));rw[hst.2 h];exact⟨rfl,by omega⟩),by omega,by omega⟩
  ·repeat' first|((exfalso;omega))|refine sw_seq ?_|refine sw_inBlock ?_|refine sw_go 0 kp45 fun K hK=>?_|((first|refine runL_go ?_|refine sw_ret (ret0 ?_)|refine sw_ret ?_);simp (disch:=(refine Om.mk ?_;omega)) only[go_sem,Tryz.results45])|(refine hK.nil ?_;clear hK K;simp only[go_sem])|((first|refine sw_cond rfl ?_ ?_)<;>intro h<;>try simp (disch:=(refine Om.mk ?_;omega)) only[go_sem] at h)|refine sw_exit rfl ?_|refine sw_loopEnd ?_|fail
   exact⟨r+1,(by(refine covers_mk0 rfl rfl ?_ ?_ ?_ ?_<;>simp (disch:=(refine Om.mk ?_;omega)) only[go_sem]<;>(try omega));rw[show prA x (r+1)=prA x r++prR x r (x.rules.getD r default).r.length from rfl,show a=(x.rules.getD r default).r.length by omega];exact⟨rfl,by omega⟩),by omega,by omega⟩
 ·obtain rfl:r=x.rules.length:=by omega
  repeat' first|((exfalso;omega))|refine sw_seq ?_|refine sw_skip ?_|refine sw_go 0 kp45 fun K hK=>?_|((first|refine runL_go ?_|refine sw_ret (ret0 ?_)|refine sw_ret ?_);simp (disch:=(refine Om.mk ?_;omega)) only[go_sem,Tryz.results45])|(refine hK.nil ?_;clear hK K;simp only[go_sem])|((first|refine sw_cond rfl ?_ ?_)<;>intro h<;>try simp (disch:=(refine Om.mk ?_;omega)) only[go_sem] at h)|refine sw_exit rfl ?_|fail
  ·rw[hB (by omega)];exact⟨rfl,rfl⟩
  ·rw[hA (by omega)];exact⟨rfl,rfl⟩
def kp25:List (Nat×List Nat):=[(0,[1]),(1,[1,6]),(2,[2,3]),(3,[2,3])]
attribute [go_sem] kp25
theorem implPairsOf_fc (x:SystemT):FC S 25 [] [] [] [SystemD x] (.tup [.sl .any ((pairsR x).1.map DepPairD),.bool (pairsR x).2]) [] []:=by
 rcases Classical.em (SystemOkP x) with hx|hx
 ·skip
  refine fc_body Tryz.func25 rfl (by kernel_rfl) (by simp[Tryz.f25]) fun B=>?_
  simp only[Tryz.ntmps25,enumD,lst0,Nat.reduceAdd]
  repeat' first|((exact absurd hx (by assumption)))|refine sw_seq ?_|refine sw_skip ?_|refine sw_go 0 kp25 fun K hK=>?_|((first|refine runL_go ?_|refine sw_ret (ret0 ?_)|refine sw_ret ?_);simp (disch:=(refine Om.mk ?_;omega)) only[go_sem,Tryz.results25])|(refine hK.nil ?_;clear hK K;simp only[go_sem])|((first|refine sw_cond rfl ?_ ?_)<;>intro h<;>try simp (disch:=(refine Om.mk ?_;omega)) only[go_sem] at h)|refine hK.c0 rfl rfl rfl (implSystemOk_fc _) rfl rfl rfl ?_|refine hK.c0 rfl rfl rfl (pairs_fc x hx) rfl rfl rfl ?_|fail
 ·rw[pairsR_no fun h=>hx h.1]
  refine fc_body Tryz.func25 rfl (by kernel_rfl) (by simp[Tryz.f25]) fun B=>?_
  simp only[Tryz.ntmps25,enumD,lst0,Nat.reduceAdd]
  repeat' first|((exact absurd (by assumption) hx))|refine sw_seq ?_|refine sw_go 0 kp25 fun K hK=>?_|((first|refine runL_go ?_|refine sw_ret (ret0 ?_)|refine sw_ret ?_);simp (disch:=(refine Om.mk ?_;omega)) only[go_sem,Tryz.results25])|(refine hK.nil ?_;clear hK K;simp only[go_sem])|((first|refine sw_cond rfl ?_ ?_)<;>intro h<;>try simp (disch:=(refine Om.mk ?_;omega)) only[go_sem] at h)|refine hK.c0 rfl rfl rfl (implSystemOk_fc _) rfl rfl rfl ?_|fail
  all_goals exact⟨rfl,rfl⟩
end Go.Proofs.YtohnfgligddanaaGreat
end
section
namespace Go.Proofs.YtohnfgligddanaaGreat
open Go Go.Lg
set_option linter.unusedSimpArgs false
set_option maxHeartbeats 4000000
attribute [local irreducible] SW runL runQ runG runQG FC Ret1
end Go.Proofs.YtohnfgligddanaaGreat
end
section
namespace Go.Proofs.YtohnfgligddanaaGreat
open Go Go.Lg
set_option linter.unusedSimpArgs false
set_option linter.unusedVariables false
set_option maxHeartbeats 4000000
theorem intoL_len (n:Int):∀xs:List Int,(intoL xs n).length≤xs.length+1
 | []=>by simp[intoL]
 | x::r=>by
  have ih:=intoL_len n r
  unfold intoL
  split
  ·simp only[List.length_cons];omega
  ·split<;>simp only[List.length_cons]<;>omega
end Go.Proofs.YtohnfgligddanaaGreat
end
section
namespace Go.Proofs.YtohnfgligddanaaGreat
open Go Go.Lg
set_option linter.unusedSimpArgs false
set_option linter.unusedVariables false
set_option maxHeartbeats 4000000
attribute [local irreducible] SW runL runQ runG runQG FC Ret1 toF redoL
def negV (t:List Int) (i:Nat):List Int:=(t.take i).foldl (fun s x=>if x<0 then intoL s (-1-x) else s) []
theorem negV_succ (t:List Int) (i:Nat) (h:i<t.length):negV t (i+1)=if t.getD i default<0 then intoL (negV t i) (-1-t.getD i default) else negV t i:=by
 unfold negV
 rw[List.take_succ_eq_append_getElem h,List.foldl_append]
 simp[List.getD,h]
theorem negV_len (t:List Int):∀i≤t.length,(negV t i).length≤i
 | 0,_=>by simp[negV]
 | i+1,hi=>by
  have ih:=negV_len t i (by omega)
  rw[negV_succ t i (by omega)]
  split
  ·have:=intoL_len (-1-t.getD i default) (negV t i);omega
  ·omega
def kp91:List (Nat×List Nat):=[(0,[0]),(1,[0,3]),(2,[0,3,4]),(3,[0,3,4,9]),(5,[0,3,4,16]),(6,[0,3,4]),(4,[0,3,4]),(7,[2])]
attribute [go_sem] kp91
end Go.Proofs.YtohnfgligddanaaGreat
end
