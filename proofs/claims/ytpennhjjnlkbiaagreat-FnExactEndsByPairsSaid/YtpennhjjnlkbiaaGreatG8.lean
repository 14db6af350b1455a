/-
  U17, U18, U19, U21, P19, P26, U06, one behind the other.
-/
import Derived.Test.YtpennhjjnlkbiaaGreatG7
import Derived.Test.YtpennhjjnlkbiaaGreatG2
import Derived.Test.YtpennhjjnlkbiaaGreatLgK13
import Derived.Test.YtpennhjjnlkbiaaGreatLgK10
import Derived.Test.YtpennhjjnlkbiaaGreatLgK12
import Derived.Test.YtpennhjjnlkbiaaGreatLgK17
import Derived.Test.YtpennhjjnlkbiaaGreatLgK7
import Derived.Test.YtpennhjjnlkbiaaGreatG6
import Derived.Recover
import Derived.Laws.Pointers
import Derived.Laws.NewBlocks
namespace Go.Proofs.YtpennhjjnlkbiaaGreat
open Go Go.Lg
set_option linter.unusedSimpArgs false
set_option linter.unusedVariables false
set_option maxHeartbeats 4000000
section
attribute [local irreducible] SW bC bE dE bU FC dO bD
theorem aEZ{rs t:List Int}{a i:Nat}{need m:Int}(hi:i<t.length)(h3:1≤need)(h4:d7 rs t a=scan rs (t.drop i) need i)(h0:0≤arS rs (t.getD i default))(hm:m=need+arS rs (t.getD i default)-1):(m=0/\d7 rs t a=((i+1:Nat):Int))∨(1≤m/\d7 rs t a=scan rs (t.drop (i+1)) m (i+1)):=by
 have hb:=aAi rs t need i hi
 rw[if_neg (by omega)] at hb
 subst hm
 by_cases h:need+arS rs (t.getD i default)-1=0
 ·rw[if_pos h] at hb
  exact .inl ⟨h,by rw[h4,hb];omega⟩
 ·rw[if_neg h] at hb
  exact .inr ⟨by omega,by rw[h4,hb]⟩
theorem aWM{rs t:List Int}(hT:XT rs t){i:Nat}(hi:i<t.length)(h:t.getD i default<0):arS rs (phi (t.getD i default))=0:=by
 have hg:=hT.get hi
 exact iX ⟨aUm hg.1,by have:=(aN2 _ hg.1).2 h;omega⟩
theorem aTz{rs t:List Int}(hT:XT rs t){i:Nat}(hi:i<t.length)(h:0≤t.getD i default):arS rs (phi (t.getD i default))=rs.getD (t.getD i default).toNat default:=by
 have hg:=hT.get hi
 rw[aBK h]
 exact jZ (by omega)
theorem aLi(rs t:List Int)(a:Nat)(hT:XT rs t)(ha:a<t.length):FC S 98 [] [] [] [.agg [.sl .any (rs.map (.int .i64))],.sl .any (t.map (.int .i64)),.int .i64 a] (.int .i64 (d7 rs (bI t) a)) [] []:=by
 have hlen:=eJ t
 have he:=fN hT.1 (a:=a) (by omega)
 have hl:=hT.len
 refine aP Tryz.func98 rfl (by kernel_rfl) (by simp[Tryz.f98]) λB=>?_
 simp only[Tryz.ntmps98,aS,aZ,Nat.reduceAdd]
 refine bZ 1 rfl λhb1=>?_
 simp only[D.bnd,zC] at hb1
 repeat' first|apply aE|apply aG|refine aI 0 aL3 λK hK=>?_|((first|apply aD|apply aK|refine aA (aO ?_)|apply aA);simp(disch:=apply aB;omega)only[go_sem,Tryz.results98])|(apply hK.nil;clear hK K;simp only[go_sem])|fail
 refine bB (ι:=Nat×Int) (λp=>[(2,.int .i64 p.1),(7,.int .i64 p.2)]) (λp=>[]) (λp=>(p.1≤t.length/\0≤p.2/\p.2≤1+3*p.1)/\((p.2=0/\d7 rs (bI t) a=p.1)∨(1≤p.2/\d7 rs (bI t) a=scan rs ((bI t).drop p.1) p.2 p.1))) (λp=>t.length-p.1) (a,1) (by(refine aC rfl rfl ?_ ?_ ?_ ?_<;>simp(disch:=apply aB;omega)only[go_sem]<;>(try omega))) ?_ (λp hp=>?_)
 rotate_left
 simp only[go_sem]
 obtain⟨i,need⟩:=p
 obtain⟨⟨h1,h2,h2'⟩,h3⟩:=hp
 dsimp only at h1 h2 h2' h3
 have hlt:1≤need->i<t.length:=λh=>Classical.byContradiction λhn=>by
  have hx:=aCm rs (bI t) need i (by omega)
  omega
 have hlow:i<t.length->_:=λh=>hT.1.low (a:=i) (by omega)
 have hgt:i<t.length->_:=λh=>hT.get h
 have hv:i<t.length->t.getD i default<0->_:=λhi h=>aWM hT hi h
 have hsy:i<t.length->0≤t.getD i default->_:=λhi h=>aTz hT hi h
 have hph:i<t.length->_:=λh=>lB t i h
 repeat' first|apply aE|apply aG|apply aM|apply aJ|refine aI 0 aL3 λK hK=>?_|refine aY aL3 (by kernel_rfl) λK hK=>?_|((first|apply aD|apply aK|refine aA (aO ?_)|apply aA);simp(disch:=apply aB;omega)only[go_sem,Tryz.results98])|(apply hK.nil;clear hK K;simp only[go_sem])|((first|refine aF rfl ?_ ?_)<;>intro h<;>try simp(disch:=apply aB;omega)only[go_sem] at h)|refine aT rfl ?_|apply aL|(with_reducible refine And.intro (by first|omega|(simp only[lens];omega)) ?_)|fail
 ·have hi:=hlt (by omega)
  have e:=hsy hi (by omega)
  have hl0:=(hlow hi).2
  rw[hph hi] at hl0
  exact⟨(i+1,need+rs.getD (t.getD i default).toNat default-1),by(refine aC rfl rfl ?_ ?_ ?_ ?_<;>simp(disch:=apply aB;omega)only[go_sem]<;>(try omega)),⟨⟨by omega,by omega,by omega⟩,aEZ (t:=bI t) (need:=need) (m:=need+rs.getD (t.getD i default).toNat default-1) (by omega) (by omega) (by omega) (by rw[hph hi];exact hl0.1) (by rw[hph hi,e])⟩,by omega⟩
 ·have hi:=hlt (by omega)
  have e:=hv hi (by omega)
  exact⟨(i+1,need-1),by(refine aC rfl rfl ?_ ?_ ?_ ?_<;>simp(disch:=apply aB;omega)only[go_sem]<;>(try omega)),⟨⟨by omega,by omega,by omega⟩,aEZ (t:=bI t) (need:=need) (m:=need-1) (by omega) (by omega) (by omega) (by rw[hph hi,e];omega) (by rw[hph hi,e];omega)⟩,by omega⟩
 ·omega
 ·exact .inr ⟨by simp,rfl⟩
def aDL:List (Nat×List Nat):=[(0,[0,1]),(1,[0,1,22]),(2,[0,1]),(3,[4])]
attribute [go_sem] aDL
theorem aBV(rs:List Int)(β:List (List Int))(hβ:BOK rs β)(f:Nat)(t r:List Int)(hr:dG β f t=some r)(hT:XT rs t):FC S 134 [(1030,[.ms 1028 48]),(1028,β.map bD)] [] [] [.box 1030 0,.sl .any (t.map (.int .i64))] (.sl .any (r.map (.int .i64))) [] []:=by
 have hlb:=hβ.1
 refine aP Tryz.func134 rfl (by kernel_rfl) (by simp[Tryz.f134]) λB=>?_
 simp only[Tryz.ntmps134,aS,aZ,Nat.reduceAdd]
 repeat' first|apply aE|apply aG|refine aI 0 aDL λK hK=>?_|((first|apply aD|apply aK|refine aA (aO ?_)|apply aA);simp(disch:=apply aB;omega)only[go_sem,Tryz.results134])|(apply hK.nil;clear hK K;simp only[go_sem])|fail
 refine bB (ι:=Nat×List Int) (λp=>[(1,.sl .any (p.2.map (.int .i64)))]) (λp=>[]) (λp=>dG β p.1 p.2=some r/\XT rs p.2) (λp=>p.1) (f,t) (by(refine aC rfl rfl ?_ ?_ ?_ ?_<;>simp(disch:=apply aB;omega)only[go_sem]<;>(try omega))) ?_ (λp hp=>?_)
 rotate_left
 simp only[go_sem]
 obtain⟨k,u⟩:=p
 obtain⟨h1,h2⟩:=hp
 dsimp only at h1 h2
 rcases k with _|k
 ·cases h1
 have hg:=h2.get (a:=0) (by have:=h2.len;omega)
 have hl:=h2.len
 by_cases hv:u.getD 0 default<0
 ·have h48:vIx (u.getD 0 default)<48:=by unfold vIx;omega
  unfold dG at h1
  by_cases hb:β.getD (vIx (u.getD 0 default)) default=[]
  ·rw[if_neg (by rintro⟨_,h⟩;exact h hb)] at h1
   obtain rfl:=zA h1
   have hrd:bD (β.getD (-1-u.getD 0 default).toNat default)=.sl .nil []:=by rw[show β.getD (-1-u.getD 0 default).toNat default=[] from hb];exact rF
   repeat' first|((exfalso;omega))|((rw[hrd];simp only[go_sem]))|apply aE|refine aI 0 aDL λK hK=>?_|refine aY aDL (by kernel_rfl) λK hK=>?_|((first|apply aD|apply aK|refine aA (aO ?_)|apply aA);simp(disch:=apply aB;omega)only[go_sem,Tryz.results134])|(apply hK.nil;clear hK K;simp only[go_sem])|((first|refine aH rfl rfl rfl rfl rfl ?_ ?_|refine aN rfl rfl rfl rfl rfl ?_ ?_|refine aF rfl ?_ ?_)<;>intro h<;>try simp(disch:=apply aB;omega)only[go_sem] at h)|refine aT rfl ?_|(with_reducible refine And.intro (by first|omega|(simp only[lens];omega)) ?_)|fail
   all_goals trace_state
  ·rw[if_pos ⟨hv,hb⟩] at h1
   have hrd:bD (β.getD (-1-u.getD 0 default).toNat default)=.sl .any ((β.getD (-1-u.getD 0 default).toNat default).map (.int .i64)):=nO hb
   have hb2:(β.getD (-1-u.getD 0 default).toNat default).map (D.int .i64)≠[]:=λe=>hb (List.map_eq_nil_iff.1 e)
   have hb3:0<(β.getD (-1-u.getD 0 default).toNat default).length:=List.length_pos_iff.2 hb
   repeat' first|((exfalso;omega))|((rw[hrd];simp only[go_sem]))|apply aE|apply aG|apply aM|apply aJ|refine aY aDL (by kernel_rfl) λK hK=>?_|((first|apply aD|apply aK|refine aA (aO ?_)|apply aA);simp(disch:=apply aB;omega)only[go_sem,Tryz.results134])|(apply hK.nil;clear hK K;simp only[go_sem])|((first|refine aH rfl rfl rfl rfl rfl ?_ ?_|refine aN rfl rfl rfl rfl rfl ?_ ?_|refine aF rfl ?_ ?_)<;>intro h<;>try simp(disch:=apply aB;omega)only[go_sem] at h)|apply aL|(with_reducible refine And.intro (by first|omega|(simp only[lens];omega)) ?_)|fail
   all_goals exact⟨(k,β.getD (-1-u.getD 0 default).toNat default),(by(refine aC rfl rfl ?_ ?_ ?_ ?_<;>simp(disch:=apply aB;omega)only[go_sem]<;>(try omega));rw[hrd];simp only[go_sem]),⟨h1,hβ.get hb⟩,by simp⟩
 ·unfold dG at h1
  rw[if_neg (by rintro⟨h,_⟩;exact hv h)] at h1
  obtain rfl:=zA h1
  repeat' first|((exfalso;omega))|apply aE|refine aI 0 aDL λK hK=>?_|refine aY aDL (by kernel_rfl) λK hK=>?_|((first|apply aD|apply aK|refine aA (aO ?_)|apply aA);simp(disch:=apply aB;omega)only[go_sem,Tryz.results134])|(apply hK.nil;clear hK K;simp only[go_sem])|((first|refine aH rfl rfl rfl rfl rfl ?_ ?_|refine aN rfl rfl rfl rfl rfl ?_ ?_|refine aF rfl ?_ ?_)<;>intro h<;>try simp(disch:=apply aB;omega)only[go_sem] at h)|refine aT rfl ?_|(with_reducible refine And.intro (by first|omega|(simp only[lens];omega)) ?_)|fail
  all_goals trace_state
 ·exact⟨hr,hT⟩
def qN(rs t:List Int)(j:Nat):List (List Int):=(List.range j).map λi=>oZ rs t (dQ rs (bI t) 1 i)
theorem aKT(rs t:List Int)(j:Nat):(qN rs t j).length=j:=by simp[qN]
theorem aKw(rs t:List Int)(j:Nat):qN rs t (j+1)=qN rs t j++[oZ rs t (dQ rs (bI t) 1 j)]:=by simp[qN,List.range_succ]
theorem aK2(rs t:List Int):qN rs t (arS rs ((bI t).getD 0 default)).toNat=f0 rs t:=by
 unfold qN f0
 rw[show dD rs (bI t) 0=vG rs (bI t) (arS rs ((bI t).getD 0 default)).toNat 1 from rfl,eM]
 exact List.map_congr_left λi hi=>by rw[wA _ _ _ _ _ (List.mem_range.1 hi)]
theorem xK(rs t:List Int)(hT:XT rs t)(h0:0≤hd t):FC S 136 [] [] [] [.agg [.sl .any (rs.map (.int .i64))],.sl .any (t.map (.int .i64))] (.sl .any ((f0 rs t).map b6)) [] []:=by
 rw[←aK2]
 have hl:=hT.len
 have hlen:=eJ t
 have hlo:=hT.1.low (a:=0) (by omega)
 have hph:=lB t 0 (by omega)
 have hsy:=aTz hT (i:=0) (by omega) h0
 have hg:=hT.get (a:=0) (by omega)
 have hhd:0≤t.getD 0 default:=h0
 have hlt:∀j<(arS rs ((bI t).getD 0 default)).toNat,0<dQ rs (bI t) 1 j/\dQ rs (bI t) 1 j<(bI t).length:=λj hj=>nJ hT.1 (by omega) (by omega)
 have hle:∀j≤(arS rs ((bI t).getD 0 default)).toNat,0<dQ rs (bI t) 1 j/\dQ rs (bI t) 1 j≤(bI t).length:=λj hj=>aBM hT.1 (by omega) (by omega)
 have hlow:=hlo.2
 rw[hph,hsy] at hlow hlt hle ⊢
 generalize hk:(rs.getD (t.getD 0 default).toNat default).toNat=k at *
 refine aP Tryz.func136 rfl (by kernel_rfl) (by simp[Tryz.f136]) λB=>?_
 simp only[Tryz.ntmps136,aS,aZ,Nat.reduceAdd]
 refine bZ 1 rfl λhb1=>?_
 simp only[D.bnd,zC] at hb1
 repeat' first|apply aE|apply aG|apply aJ|refine aI 0 qR λK hK=>?_|((first|apply aD|apply aK|refine aA (aO ?_)|apply aA);simp(disch:=apply aB;omega)only[go_sem,Tryz.results136])|(apply hK.nil;clear hK K;simp only[go_sem])|((first|refine aF rfl ?_ ?_)<;>intro h<;>try simp(disch:=apply aB;omega)only[go_sem] at h)|(with_reducible refine And.intro (by first|omega|(simp only[lens];omega)) ?_)|fail
 ·exfalso;omega
 refine dW 5 37000 22 1 rfl (.inr rfl) rfl ?_
 simp only[go_sem]
 refine bG (ι:=Nat) (λj=>[(7,.int .i64 j),(6,.int .i64 (dQ rs (bI t) 1 j)),(5,.sl (.own 37000 22 1) ((qN rs t j).map b6))]) (λ_=>[]) (λ_=>[37000]) (λj=>j≤k) (λj=>k-j) 0 (by(refine aC rfl rfl ?_ ?_ ?_ ?_<;>simp(disch:=apply aB;omega)only[go_sem]<;>(try omega));all_goals exact⟨rfl,rfl,rfl⟩) (by omega) (λj hj=>?_)
 simp only[go_sem]
 have h3:=hle j hj
 have h4:=hlt j
 have h5:j<k->dQ rs (bI t) 1 j<d7 rs (bI t) (dQ rs (bI t) 1 j)/\d7 rs (bI t) (dQ rs (bI t) 1 j)≤(bI t).length:=λh=>fN hT.1 (h4 h).2
 have h6:j<k->((d7 rs (bI t) (dQ rs (bI t) 1 j)).toNat:Int)=d7 rs (bI t) (dQ rs (bI t) 1 j):=λh=>by have:=h5 h;omega
 have h7:=aKT rs t j
 have h8:=aKw rs t j
 by_cases hjk:j<k
 ·repeat' first|((exfalso;omega))|apply aE|apply aG|apply aM|apply aJ|refine aI 0 qR λK hK=>?_|refine aY qR (by kernel_rfl) λK hK=>?_|((first|apply aD|apply aK|refine aA (aO ?_)|apply aA);simp(disch:=apply aB;omega)only[go_sem,Tryz.results136])|(apply hK.nil;clear hK K;simp only[go_sem])|((first|refine aF rfl ?_ ?_)<;>intro h<;>try simp(disch:=apply aB;omega)only[go_sem] at h)|apply aL|refine hK.c0 rfl rfl rfl (aLi rs t (dQ rs (bI t) 1 j) hT (by have:=(h4 hjk).2;omega)) rfl rfl rfl ?_|(with_reducible refine And.intro (by first|omega|(simp only[lens];omega)) ?_)|fail
  exact⟨j+1,(by(refine aC rfl rfl ?_ ?_ ?_ ?_<;>simp(disch:=apply aB;omega)only[go_sem]<;>(try omega));rw[h8,List.map_append];exact⟨rfl,(h6 hjk).symm,by omega⟩),by omega,by omega⟩
 ·repeat' first|((exfalso;omega))|apply aE|refine aI 0 qR λK hK=>?_|refine aY qR (by kernel_rfl) λK hK=>?_|((first|apply aD|apply aK|refine aA (aO ?_)|apply aA);simp(disch:=apply aB;omega)only[go_sem,Tryz.results136])|(apply hK.nil;clear hK K;simp only[go_sem])|((first|refine aF rfl ?_ ?_)<;>intro h<;>try simp(disch:=apply aB;omega)only[go_sem] at h)|refine aT rfl ?_|(with_reducible refine And.intro (by first|omega|(simp only[lens];omega)) ?_)|fail
  rw[show j=k by omega]
end
section
def PrU(β:Bds)(x:Int)(s:List Bool)(u:List Int):Prop:=∀z∈u,z≠x/\(z<0->Sn s (vIx z)∨β.getD (vIx z) default=[])
def unS(s:List Bool):Nat:=s.count false
theorem aGW:∀(s:List Bool) (i:Nat),i<s.length->s.getD i default=false->unS (s.set i true)+1=unS s
 | [],_,h,_=>by cases h
 | b::s,0,_,h=>by
  have:b=false:=by simpa using h
  subst this
  simp[unS]
 | b::s,i+1,h,h0=>by
  have ih:=aGW s i (by simpa using h) (by simpa using h0)
  unfold unS at ih ⊢
  rw[List.set_cons_succ,List.count_cons,List.count_cons]
  omega
theorem PrU.mono{β:Bds}{x:Int}{s:List Bool}{i:Nat}(hi:i<s.length){u:List Int}(h:PrU β x s u):PrU β x (s.set i true) u:=λz hz=>⟨(h z hz).1,λh0=>((h z hz).2 h0).imp (λh=>(aHi hi).2 (.inr h)) id⟩
theorem PrU.nil(β:Bds)(x:Int)(s:List Bool):PrU β x s []:=λz hz=>by cases hz
theorem PrU.snoc{β:Bds}{x:Int}{s:List Bool}{u:List Int}{i:Nat}(hi:i<u.length)(h:PrU β x s (u.take i))(hne:u.getD i default≠x)(h0:u.getD i default<0->Sn s (vIx (u.getD i default))∨β.getD (vIx (u.getD i default)) default=[]):PrU β x s (u.take (i+1)):=λz hz=>by
 have e:u.take (i+1)=u.take i++[u.getD i default]:=by
  rw[List.take_add_one,zB hi,zD,zB hi]
  rfl
 rw[e] at hz
 rcases zP.1 hz with hz|hz
 ·exact h z hz
 ·rw[zN.1 hz];exact⟨hne,h0⟩
structure OccI (β:Bds) (x:Int) (t:List Int) (us:List (List Int)) (s:List Bool):Prop where
 len:s.length=48
 size:us.length+unS s≤49
 sound:∀u∈us,lI β x u->lI β x t
 top:PrU β x s t∨t∈us
 seen:∀i,Sn s i->PrU β x s (β.getD i default)∨β.getD i default∈us
theorem OccI.start(β:Bds)(x:Int)(t:List Int):OccI β x t [t] (List.replicate 48 false) where
 len:=List.length_replicate
 size:=by simp[unS]
 sound:=λu hu h=>by rw[zN.1 hu] at h;exact h
 top:=.inr (zN.2 rfl)
 seen:=λi h=>by
  unfold Sn at h
  rw[zD,List.getElem?_replicate] at h
  split at h<;>cases h
theorem OccI.done{β:Bds}{x:Int}(hx:x<0){t:List Int}{s:List Bool}(h:OccI β x t [] s):¬lI β x t:=by
 have key:∀i j,Rch β i j->j=vIx x->i≠vIx x->(Sn s i∨β.getD i default=[])->False:=by
  intro i j hr
  induction hr with
  | refl=>intro e h1 _;exact h1 e
  | step he _ ih =>
   intro e h1 h2
   obtain⟨y,hy,hy0,hyj⟩:=he
   rcases h2 with h2|h2
   ·have hp:=(h.seen _ h2).resolve_right (by simp)
    have:=hp y hy
    exact ih e (λe'=>this.1 (tU hy0 hx (hyj.trans e'))) (hyj ▸ this.2 hy0)
   ·rw[h2] at hy;cases hy
 rintro⟨z,hz,hz0,hr⟩
 have hp:=(h.top.resolve_right (by simp)) z hz
 exact key _ _ hr rfl (λe=>hp.1 (tU hz0 hx e)) (hp.2 hz0)
theorem OccI.found{β:Bds}{x:Int}(hx:x<0){t u:List Int}{us:List (List Int)}{s:List Bool}(h:OccI β x t (u::us) s)(hm:x∈u):lI β x t :=
 h.sound u (zH ..) ⟨x,hm,hx,.refl _⟩
theorem OccI.drop{β:Bds}{x:Int}{t u:List Int}{us:List (List Int)}{s:List Bool}(h:OccI β x t (u::us) s)(hp:PrU β x s u):OccI β x t us s where
 len:=h.len
 size:=by have:=h.size;rw[List.length_cons] at this;omega
 sound:=λv hv=>h.sound v (zG _ hv)
 top:=h.top.elim .inl λh1=>(zO.1 h1).elim (λe=>.inl (e ▸ hp)) .inr
 seen:=λi hi=>(h.seen i hi).elim .inl λh1=>(zO.1 h1).elim (λe=>.inl (e ▸ hp)) .inr
theorem OccI.perm{β:Bds}{x:Int}{t:List Int}{us vs:List (List Int)}{s:List Bool}(h:OccI β x t us s)(hl:vs.length=us.length)(hm:∀v,v∈vs↔v∈us):OccI β x t vs s where
 len:=h.len
 size:=by rw[hl];exact h.size
 sound:=λv hv=>h.sound v ((hm v).1 hv)
 top:=h.top.imp id (hm _).2
 seen:=λi hi=>(h.seen i hi).imp id (hm _).2
theorem OccI.push{β:Bds}{x:Int}{t u:List Int}{us:List (List Int)}{s:List Bool}(h:OccI β x t (u::us) s){z:Int}(hz:z∈u)(hz0:z<0)(h8:vIx z<48)(hns:s.getD (vIx z) default=false):OccI β x t (u::(us++[β.getD (vIx z) default])) (s.set (vIx z) true) where
 len:=by rw[List.length_set];exact h.len
 size:=by
  have:=h.size
  have:=aGW s (vIx z) (by rw[h.len];exact h8) hns
  simp only[List.length_cons,zK,List.length_nil] at *
  omega
 sound:=λv hv ho=>by
  rcases zO.1 hv with rfl|hv
  ·exact h.sound _ (zH ..) ho
  ·rcases zP.1 hv with hv|hv
   ·exact h.sound v (zG _ hv) ho
   ·rw[zN.1 hv] at ho
    obtain⟨y,hy,hy0,hr⟩:=ho
    exact h.sound u (zH ..) ⟨z,hz,hz0,.step ⟨y,hy,hy0,rfl⟩ hr⟩
 top:=h.top.imp (λh1=>h1.mono (by rw[h.len];exact h8)) λh1=>(zO.1 h1).elim (λe=>zO.2 (.inl e)) λh1=>zG _ (List.mem_append_left _ h1)
 seen:=λi hi=>by
  rcases (aHi (by rw[h.len];exact h8)).1 hi with rfl|hi
  ·exact .inr (zG _ (List.mem_append_right _ (zN.2 rfl)))
  ·exact(h.seen i hi).imp (λh1=>h1.mono (by rw[h.len];exact h8)) λh1=>(zO.1 h1).elim (λe=>zO.2 (.inl e)) λh1=>zG _ (List.mem_append_left _ h1)
end
section
attribute [local irreducible] SW bC bE dE bU FC dO bD PrU lI
theorem aNZ(f:Nat->Bool)(β:List (List Int)):(β.map bD).map (D.pu1 f)=β.map bD:=by
 rw[List.map_map]
 exact List.map_congr_left λx _=>by
  show D.pu1 f (bD x)=bD x
  by_cases h:x=[]
  ·rw[h,rF];rfl
  ·rw[nO h];rfl
theorem aQX(f:Nat->Bool)(ys:List Bool):(ys.map D.bool).map (D.pu1 f)=ys.map D.bool:=by
 rw[List.map_map]
 exact List.map_congr_left λx _=>rfl
attribute [go_sem] aNZ aQX
theorem aL0(us:List (List Int))(m:Nat):((us.map λy=>(Tk.any,y)).take m).map nG=(us.take m).map b6:=by rw[←List.map_take,List.map_map];rfl
theorem gV(k:Nat)(tk:List Nat)(u:List Int):(b6 u).safe k tk=true:=aAP u .i64
theorem aHn(k:Nat)(tk:List Nat)(u:List Int):(bD u).safe k tk=true:=by
 by_cases h:u=[]
 ·rw[h,rF];rfl
 ·rw[nO h];exact aAP u .i64
def j8:List (Nat×List Nat):=[(0,[0,1,2]),(1,[0,1,2,7]),(2,[0,1,7,8]),(3,[0,1,7,8,21]),(4,[0,1,7,8,9]),(5,[0,1,7,8,9]),(6,[0,1,7,8,9,10]),(7,[0,1,7,8,9,10,36]),(9,[0,1,7,8,9,10,44]),(10,[6]),(11,[0,1,7,8,9,10,75]),(12,[0,1,7,8,9,10]),(13,[0,1,7,8,9,10]),(8,[0,1,7,8,9,10]),(14,[6])]
attribute [go_sem] j8
theorem xR(rs:List Int)(β:List (List Int))(hβ:BOK rs β)(x:Int)(hx:x<0)(t:List Int)(hT:XT rs t):FC S 135 [] [(1030,[.ms 1028 48]),(1028,β.map bD)] [] [.box 1030 0,.int .i64 x,.sl .any (t.map (.int .i64))] (.bool (tst (lI β x t))) [(1030,[.ms 1028 48]),(1028,β.map bD)] []:=by
 have hlb:=hβ.1
 refine aJ9 Tryz.func135 rfl (by kernel_rfl) (by simp[Tryz.f135]) λB hP=>?_
 simp only[Tryz.ntmps135,aS,aZ,Nat.reduceAdd]
 repeat' first|((refine aCs (id:=2) 0 j8 1 97000 rfl λK hK=>?_))|((refine⟨_,_,_,rfl,rfl,rfl,⟨⟨by simp only[Nat.reduceLT],by decide,by decide,by decide⟩,rfl,by simp[D.strip,fX,D.cells,D.memOk,TyI.size]⟩,(by simp[-List.map_set,LS.clean,D.tks,D.tksL,b9,dY]),by simp only[Nat.reduceLT],?_⟩;simp only[go_sem]))|apply aE|apply aG|refine aI 0 j8 λK hK=>?_|((first|apply aD|apply aK|refine aA (aO ?_)|apply aA);simp(disch:=apply aB;omega)only[go_sem,Tryz.results135])|(apply hK.nil;clear hK K;simp only[go_sem])|(with_reducible refine And.intro (by first|omega|(simp only[lens];omega)) ?_)|fail
 refine bG (ι:=List (List Int)×List Bool) (λp=>[(0,.box 1030 0),(1,.int .i64 x),(7,.ms 16 48),(8,.sl (.own 97000 22 1) (p.1.map b6))]) (λp=>[(1030,[.ms 1028 48]),(1028,β.map bD),(16,p.2.map .bool)]) (λ_=>[97000]) (λp=>OccI β x t p.1 p.2/\∀u∈p.1,XT rs u) (λp=>2*unS p.2+p.1.length) ([t],List.replicate 48 false) (by(refine aC rfl rfl ?_ ?_ ?_ ?_<;>simp(disch:=apply aB;omega)only[go_sem]<;>(try omega));rfl) ⟨OccI.start β x t,λu hu=>by rw[zN.1 hu];exact hT⟩ (λp hp=>?_)
 obtain⟨us,s⟩:=p
 obtain⟨hI,hX⟩:=hp
 dsimp only at hI hX
 have hsz:=hI.size
 have hsl:=hI.len
 simp only[go_sem]
 by_cases hn:us=[]
 ·subst hn
  repeat' first|((exfalso;omega))|apply aE|refine aI 0 j8 λK hK=>?_|((first|apply aD|apply aK|refine aA (aO ?_)|apply aA);simp(disch:=apply aB;omega)only[go_sem,Tryz.results135])|(apply hK.nil;clear hK K;simp only[go_sem])|((first|refine aH rfl rfl rfl rfl rfl ?_ ?_|refine aN rfl rfl rfl rfl rfl ?_ ?_|refine aF rfl ?_ ?_)<;>intro h<;>try simp(disch:=apply aB;omega)only[go_sem] at h)|refine aT rfl ?_|fail
  exact hI.done hx
 ·have hup:0<us.length:=List.length_pos_iff.2 hn
  repeat' first|((exfalso;omega))|((refine pU (id:=5) 0 j8 4 rfl λK hK=>?_))|apply aE|apply aG|apply aJ|refine aI 0 j8 λK hK=>?_|((first|apply aD|apply aK|refine aA (aO ?_)|apply aA);simp(disch:=apply aB;omega)only[go_sem,Tryz.results135])|(apply hK.nil;clear hK K;simp only[go_sem])|((first|refine aH rfl rfl rfl rfl rfl ?_ ?_|refine aN rfl rfl rfl rfl rfl ?_ ?_|refine aF rfl ?_ ?_)<;>intro h<;>try simp(disch:=apply aB;omega)only[go_sem] at h)|(with_reducible refine And.intro (by first|omega|(simp only[lens];omega)) ?_)|fail
  refine aU.popOwn hP (k:=97000) (by simp) (kd:=.i64) (m:=us.length-1) (ps:=us.map λy=>(.any,y)) (by simp only[go_sem];rw[List.map_map];rfl) (by simp only[go_sem]) rfl rfl ⟨by omega,by rw[zC];omega⟩ (λp hp=>by obtain⟨y,_,rfl⟩:=zJ.1 hp;rfl) [(0,.box 1030 0),(1,.int .i64 x),(7,.ms 16 48),(9,b6 (us.getD (us.length-1) default))] [(1030,[.ms 1028 48]),(1028,β.map bD),(16,s.map .bool)] ?_ ?_ (by simp only[Nat.reduceLT]) (aU.nil ?_)
  ·intro p hp
   simp only[zO,List.not_mem_nil,or_false] at hp
   rcases hp with rfl|rfl|rfl|rfl
   ·exact⟨rfl,rfl⟩
   ·exact⟨rfl,rfl⟩
   ·exact⟨rfl,rfl⟩
   ·exact⟨rfl,gV _ _ _⟩
  ·intro p hp
   simp only[zO,List.not_mem_nil,or_false] at hp
   rcases hp with rfl|rfl|rfl
   ·exact⟨rfl,λd hd=>by rw[zN.1 hd];rfl⟩
   ·exact⟨rfl,λd hd=>by obtain⟨y,_,rfl⟩:=zJ.1 hd;exact aHn _ _ _⟩
   ·exact⟨rfl,λd hd=>by obtain⟨y,_,rfl⟩:=zJ.1 hd;rfl⟩
  simp only[aL0,go_sem]
  refine λ(K:List Oper->LS->Prop) (hK:KOk S 0 _ _ _ K)=>?_
  have hdec:us=us.take (us.length-1)++[us.getD (us.length-1) default]:=by
   conv=>lhs;rw[←List.take_append_drop (us.length-1) us]
   congr 1
   rw[List.drop_eq_getElem_cons (by omega),List.drop_of_length_le (by omega),zD,zB (by omega)]
   rfl
  have hXu:XT rs (us.getD (us.length-1) default):=hX _ (by rw[hdec];simp)
  have hXr:∀v∈us.take (us.length-1),XT rs v:=λv hv=>hX v (List.mem_of_mem_take hv)
  have hIu:OccI β x t (us.getD (us.length-1) default::us.take (us.length-1)) s:=hI.perm (by rw[List.length_cons,List.length_take];omega) λv=>by
   conv=>rhs;rw[hdec]
   simp[or_comm]
  have hrl:(us.take (us.length-1)).length+1=us.length:=by rw[List.length_take];omega
  generalize us.getD (us.length-1) default=u at *
  generalize us.take (us.length-1)=ur at *
  repeat' first|apply aE|apply aG|refine aI 0 j8 λK hK=>?_|((first|apply aD|apply aK|refine aA (aO ?_)|apply aA);simp(disch:=apply aB;omega)only[go_sem,Tryz.results135])|(apply hK.nil;clear hK K;simp only[go_sem])|fail
  refine bG (ι:=Nat×List (List Int)×List Bool) (λq=>[(0,.box 1030 0),(1,.int .i64 x),(7,.ms 16 48),(8,.sl (.own 97000 22 1) (q.2.1.map b6)),(9,.sl .any (u.map (.int .i64))),(10,.int .i64 q.1)]) (λq=>[(1030,[.ms 1028 48]),(1028,β.map bD),(16,q.2.2.map .bool)]) (λ_=>[97000]) (λq=>(q.1≤u.length/\2*unS q.2.2+q.2.1.length≤2*unS s+ur.length)/\OccI β x t (u::q.2.1) q.2.2/\(∀v∈q.2.1,XT rs v)/\PrU β x q.2.2 (u.take q.1)) (λq=>u.length-q.1) (0,ur,s) (by(refine aC rfl rfl ?_ ?_ ?_ ?_<;>simp(disch:=apply aB;omega)only[go_sem]<;>(try omega))) ⟨⟨Nat.zero_le _,zQ _⟩,hIu,hXr,by rw[List.take_zero];exact PrU.nil β x s⟩ (λq hq=>?_)
  obtain⟨i,vs,s'⟩:=q
  obtain⟨⟨hi,hm⟩,hI',hX',hP'⟩:=hq
  dsimp only at hi hm hI' hX' hP'
  have hsz':=hI'.size
  have hsl':=hI'.len
  rw[List.length_cons] at hsz'
  have hlu:=hXu.len
  simp only[go_sem]
  by_cases hil:i<u.length
  ·have hg:=hXu.get hil
   have hmi:u.getD i default∈u:=bA _ _ hil
   by_cases hz:u.getD i default=x
   ·have hf:lI β x t:=hI'.found hx (hz ▸ hmi)
    repeat' first|((exfalso;omega))|apply aE|apply aG|apply aJ|refine aI 0 j8 λK hK=>?_|((first|apply aD|apply aK|refine aA (aO ?_)|apply aA);simp(disch:=apply aB;omega)only[go_sem,Tryz.results135])|(apply hK.nil;clear hK K;simp only[go_sem])|((first|refine aH rfl rfl rfl rfl rfl ?_ ?_|refine aN rfl rfl rfl rfl rfl ?_ ?_|refine aF rfl ?_ ?_)<;>intro h<;>try simp(disch:=apply aB;omega)only[go_sem] at h)|(with_reducible refine And.intro (by first|omega|(simp only[lens];omega)) ?_)|fail
    all_goals first|exact hf|exact bQ hf|trace_state
   ·by_cases h0:0≤u.getD i default
    ·repeat' first|((exfalso;omega))|apply aE|apply aG|apply aM|apply aJ|refine aI 0 j8 λK hK=>?_|refine aY j8 (by kernel_rfl) λK hK=>?_|((first|apply aD|apply aK|refine aA (aO ?_)|apply aA);simp(disch:=apply aB;omega)only[go_sem,Tryz.results135])|(apply hK.nil;clear hK K;simp only[go_sem])|((first|refine aH rfl rfl rfl rfl rfl ?_ ?_|refine aN rfl rfl rfl rfl rfl ?_ ?_|refine aF rfl ?_ ?_)<;>intro h<;>try simp(disch:=apply aB;omega)only[go_sem] at h)|apply aL|(with_reducible refine And.intro (by first|omega|(simp only[lens];omega)) ?_)|fail
     all_goals exact⟨(i+1,vs,s'),(by(refine aC rfl rfl ?_ ?_ ?_ ?_<;>simp(disch:=apply aB;omega)only[go_sem]<;>(try omega))),⟨⟨by omega,hm⟩,hI',hX',hP'.snoc hil hz λh=>absurd h (by omega)⟩,by omega⟩
    ·have h48:vIx (u.getD i default)<48:=by unfold vIx;omega
     by_cases hsn:s'.getD (vIx (u.getD i default)) default=true
     ·repeat' first|((exfalso;omega))|((exfalso;have hx:s'.getD (-1-u.getD i default).toNat default=false:=(by assumption);exact absurd (hx.symm.trans hsn) (by decide)))|apply aE|apply aG|apply aM|apply aJ|refine aI 0 j8 λK hK=>?_|refine aY j8 (by kernel_rfl) λK hK=>?_|((first|apply aD|apply aK|refine aA (aO ?_)|apply aA);simp(disch:=apply aB;omega)only[go_sem,Tryz.results135])|(apply hK.nil;clear hK K;simp only[go_sem])|((first|refine aH rfl rfl rfl rfl rfl ?_ ?_|refine aN rfl rfl rfl rfl rfl ?_ ?_|refine aF rfl ?_ ?_)<;>intro h<;>try simp(disch:=apply aB;omega)only[go_sem] at h)|apply aL|(with_reducible refine And.intro (by first|omega|(simp only[lens];omega)) ?_)|fail
      all_goals exact⟨(i+1,vs,s'),(by(refine aC rfl rfl ?_ ?_ ?_ ?_<;>simp(disch:=apply aB;omega)only[go_sem]<;>(try omega))),⟨⟨by omega,hm⟩,hI',hX',hP'.snoc hil hz λ_=>.inl hsn⟩,by omega⟩
     ·have hsf:s'.getD (vIx (u.getD i default)) default=false:=by simpa using hsn
      by_cases hb:β.getD (vIx (u.getD i default)) default=[]
      ·have hrd:bD (β.getD (-1-u.getD i default).toNat default)=.sl .nil []:=by rw[show β.getD (-1-u.getD i default).toNat default=[] from hb];exact rF
       repeat' first|((exfalso;omega))|((exact absurd (by assumption) hsn))|((rw[hrd];simp only[go_sem]))|apply aE|apply aG|apply aM|apply aJ|refine aI 0 j8 λK hK=>?_|refine aY j8 (by kernel_rfl) λK hK=>?_|((first|apply aD|apply aK|refine aA (aO ?_)|apply aA);simp(disch:=apply aB;omega)only[go_sem,Tryz.results135])|(apply hK.nil;clear hK K;simp only[go_sem])|((first|refine aH rfl rfl rfl rfl rfl ?_ ?_|refine aN rfl rfl rfl rfl rfl ?_ ?_|refine aF rfl ?_ ?_)<;>intro h<;>try simp(disch:=apply aB;omega)only[go_sem] at h)|apply aL|(with_reducible refine And.intro (by first|omega|(simp only[lens];omega)) ?_)|fail
       all_goals exact⟨(i+1,vs,s'),(by(refine aC rfl rfl ?_ ?_ ?_ ?_<;>simp(disch:=apply aB;omega)only[go_sem]<;>(try omega))),⟨⟨by omega,hm⟩,hI',hX',hP'.snoc hil hz λ_=>.inr hb⟩,by omega⟩
      ·have hrd:bD (β.getD (-1-u.getD i default).toNat default)=.sl .any ((β.getD (-1-u.getD i default).toNat default).map (.int .i64)):=nO hb
       have hb3:0<(β.getD (-1-u.getD i default).toNat default).length:=List.length_pos_iff.2 hb
       have hpu:=hI'.push hmi (by omega) h48 hsf
       have hun:=aGW s' _ (by omega) hsf
       have hset:=hP'.mono (i:=vIx (u.getD i default)) (by omega)
       repeat' first|((exfalso;omega))|((exact absurd (by assumption) hsn))|((rw[hrd];simp only[go_sem]))|apply aE|apply aG|apply aM|apply aJ|refine aI 0 j8 λK hK=>?_|refine gK 0 j8 13 (id:=13) (by kernel_rfl) λK hK=>?_|refine λ(K:KT) (hK:KOk S 0 _ _ _ K)=>?_|refine aY j8 (by kernel_rfl) λK hK=>?_|((first|apply aD|apply aK|refine aA (aO ?_)|apply aA);simp(disch:=apply aB;omega)only[go_sem,Tryz.results135])|(apply hK.nil;clear hK K;simp only[go_sem])|((first|refine aH rfl rfl rfl rfl rfl ?_ ?_|refine aN rfl rfl rfl rfl rfl ?_ ?_|refine aF rfl ?_ ?_)<;>intro h<;>try simp(disch:=apply aB;omega)only[go_sem] at h)|apply aL|(with_reducible refine And.intro (by first|omega|(simp only[lens];omega)) ?_)|fail
       exact⟨(i+1,vs++[β.getD (vIx (u.getD i default)) default],s'.set (vIx (u.getD i default)) true),(by(refine aC rfl rfl ?_ ?_ ?_ ?_<;>simp(disch:=apply aB;omega)only[go_sem]<;>(try omega));all_goals first|rfl|(rw[List.map_append];exact⟨rfl,by omega⟩)),⟨⟨by omega,by dsimp only;rw[zK,List.length_singleton];omega⟩,hpu,(λv hv=>(zP.1 hv).elim (hX' v) λh=>by rw[zN.1 h];exact hβ.get hb),hset.snoc hil hz λ_=>.inl ((aHi (by omega)).2 (.inl rfl))⟩,by dsimp only;omega⟩
  ·have hfin:PrU β x s' u:=by
    rw[List.take_of_length_le (by omega)] at hP'
    exact hP'
   repeat' first|((exfalso;omega))|apply aE|apply aM|refine aI 0 j8 λK hK=>?_|((first|apply aD|apply aK|refine aA (aO ?_)|apply aA);simp(disch:=apply aB;omega)only[go_sem,Tryz.results135])|(apply hK.nil;clear hK K;simp only[go_sem])|((first|refine aH rfl rfl rfl rfl rfl ?_ ?_|refine aN rfl rfl rfl rfl rfl ?_ ?_|refine aF rfl ?_ ?_)<;>intro h<;>try simp(disch:=apply aB;omega)only[go_sem] at h)|refine aT rfl ?_|apply aL|fail
   exact⟨(vs,s'),(by(refine aC rfl rfl ?_ ?_ ?_ ?_<;>simp(disch:=apply aB;omega)only[go_sem]<;>(try omega))),⟨hI'.drop hfin,hX'⟩,by dsimp only;omega⟩
end
section
attribute [local irreducible] SW bC bE dE bU FC dO bD lI
theorem aTZ(β:Bds)(i:Nat){y:List Int}(hy:y≠[]):(β.map bD).set i (.sl .any (y.map (.int .i64)))=(β.set i y).map bD:=by rw[List.map_set,nO hy]
def iQ:List (Nat×List Nat):=[(0,[1,2,3,4]),(1,[1,3,4,9]),(2,[1,4,9,10]),(3,[1,4,9,10,19]),(4,[1,4,9,10,11]),(5,[1,4,9,10,11,12]),(6,[1,4,9,10,11,12]),(7,[1,4,9,10,11,12]),(10,[1,4,9,10,11,12,56]),(11,[1,4,9,10,11,12,70]),(12,[1,4,9,10,11,12,80]),(13,[8]),(14,[1,4,9,10]),(15,[1,4,9,10,11,12,91]),(16,[1,4,9,10,11,12,101]),(17,[8]),(18,[1,4,9,10]),(19,[1,4,9,10,11,12,112]),(20,[8]),(8,[1,4,9,10,12]),(9,[1,4,9,10]),(21,[8])]
attribute [go_sem] iQ
theorem aMp(rs:List Int)(β:List (List Int))(hβ:BOK rs β)(hA:Acy β)(n:Nat)(a b:List Int)(ha:XT rs a)(hb:XT rs b)(r:Bool)(hr:qQ rs n β [(a,b)]=some r):FC S 110 [] [(1030,[.ms 1028 48]),(1028,β.map bD)] [] [.agg [.sl .any (rs.map (.int .i64))],.box 1030 0,.sl .any (a.map (.int .i64)),.sl .any (b.map (.int .i64))] (.bool r) [] []:=by
 have hlb:=hβ.1
 refine aJ9 Tryz.func110 rfl (by kernel_rfl) (by simp[Tryz.f110]) λB hP=>?_
 simp only[Tryz.ntmps110,aS,aZ,Nat.reduceAdd]
 refine bZ 1 rfl λhb1=>?_
 simp only[D.bnd,zC] at hb1
 repeat' first|((refine aCs (id:=1) 0 iQ 1 51000 rfl λK hK=>?_))|((refine aCs (id:=2) 0 iQ 1 56000 rfl λK hK=>?_))|((refine⟨_,_,_,rfl,rfl,rfl,⟨⟨by simp only[Nat.reduceLT],by decide,by decide,by decide⟩,rfl,by simp[D.strip,fX,D.cells,D.memOk,TyI.size]⟩,(by simp[-List.map_set,LS.clean,D.tks,D.tksL,b9,dY]),by simp only[Nat.reduceLT],?_⟩;simp only[go_sem]))|apply aE|apply aG|refine aI 0 iQ λK hK=>?_|((first|apply aD|apply aK|refine aA (aO ?_)|apply aA);simp(disch:=apply aB;omega)only[go_sem,Tryz.results110])|(apply hK.nil;clear hK K;simp only[go_sem])|fail
 refine bG (ι:=Nat×Bds×List (List Int×List Int)) (λp=>[(1,.box 1030 0),(4,.box 4 0),(9,.sl (.own 51000 22 1) ((p.2.2.map Prod.fst).map b6)),(10,.sl (.own 56000 22 1) ((p.2.2.map Prod.snd).map b6))]) (λp=>[(1030,[.ms 1028 48]),(1028,p.2.1.map bD),(4,[.sl .any (rs.map (.int .i64))])]) (λ_=>[51000,56000]) (λp=>qQ rs p.1 p.2.1 p.2.2=some r/\BOK rs p.2.1/\Acy p.2.1/\∀q∈p.2.2,XT rs q.1/\XT rs q.2) (λp=>p.1) (n,β,[(a,b)]) (by(refine aC rfl rfl ?_ ?_ ?_ ?_<;>simp(disch:=apply aB;omega)only[go_sem]<;>(try omega))) ⟨hr,hβ,hA,λq hq=>by rw[zN] at hq;subst hq;exact⟨ha,hb⟩⟩ (λp hp=>?_)
 obtain⟨k,γ,ps⟩:=p
 obtain⟨h1,hγ,hAγ,hX⟩:=hp
 dsimp only at h1 hγ hAγ hX
 have hlg:=hγ.1
 rcases k with _|k
 ·cases h1
 unfold qQ at h1
 have hlen:ps.length≤400000:=by
  by_cases h:400000<ps.length
  ·rw[if_pos h] at h1;cases h1
  ·omega
 rw[if_neg (by omega)] at h1
 rcases List.eq_nil_or_concat ps with rfl|⟨qs,p,rfl⟩
 ·obtain rfl:=zA h1
  simp only[go_sem]
  repeat' first|((exfalso;omega))|apply aE|refine aI 0 iQ λK hK=>?_|((first|apply aD|apply aK|refine aA (aO ?_)|apply aA);simp(disch:=apply aB;omega)only[go_sem,Tryz.results110])|(apply hK.nil;clear hK K;simp only[go_sem])|((first|refine aH rfl rfl rfl rfl rfl ?_ ?_|refine aN rfl rfl rfl rfl rfl ?_ ?_|refine aF rfl ?_ ?_)<;>intro h<;>try simp(disch:=apply aB;omega)only[go_sem] at h)|refine aT rfl ?_|fail
 ·rw[List.concat_eq_append] at h1 hX hlen ⊢
  obtain⟨hp1,hp2⟩:=hX p (by simp)
  have hq:∀p∈qs,XT rs p.1/\XT rs p.2:=λp hp'=>hX p (by simp[hp'])
  obtain⟨u,u1,u2,u3,u4⟩:=oP hγ hAγ hp1
  obtain⟨v,v1,v2,v3,v4⟩:=oP hγ hAγ hp2
  simp only[List.getLast?_append,List.getLast?_singleton,Option.some_or,u1,v1,List.dropLast_concat] at h1
  rw[zK,List.length_singleton] at hlen
  obtain⟨us,hus⟩:∃us,us=(qs++[p]).map Prod.fst:=⟨_,rfl⟩
  obtain⟨vs,hvs⟩:∃vs,vs=(qs++[p]).map Prod.snd:=⟨_,rfl⟩
  have hul:us.length=qs.length+1:=by rw[hus];simp
  have hvl:vs.length=qs.length+1:=by rw[hvs];simp
  have hu0:us.getD (us.length-1) default=p.1:=by rw[hul,hus];simp
  have hv0:vs.getD (vs.length-1) default=p.2:=by rw[hvl,hvs];simp
  have hut:us.take (us.length-1)=qs.map Prod.fst:=by rw[hul,hus];simp
  have hvt:vs.take (vs.length-1)=qs.map Prod.snd:=by rw[hvl,hvs];simp
  dsimp only
  rw[←hus,←hvs]
  simp only[go_sem]
  have cH1:=aBV rs γ hγ 60 (us.getD (us.length-1) default) u (by rw[hu0];exact u1) (by rw[hu0];exact hp1)
  have cH2:=aBV rs γ hγ 60 (vs.getD (vs.length-1) default) v (by rw[hv0];exact v1) (by rw[hv0];exact hp2)
  repeat' first|((refine hK.callB rfl rfl rfl (cH1) (by refine⟨⟨?_,?_,?_,?_,?_⟩,⟨?_,?_,?_,?_,?_⟩,?_⟩<;>simp[-List.map_set,LS.getBox,Lg.look,D.ids,D.idsL,dF,eO,LS.clean,D.puOk,D.pu,D.pu1,D.tks,D.tksL,b9,c9,dY,dB,dL,eW,dK]) ?_;simp(disch:=apply aB;omega)only[go_sem]))|((refine hK.callB rfl rfl rfl (cH2) (by refine⟨⟨?_,?_,?_,?_,?_⟩,⟨?_,?_,?_,?_,?_⟩,?_⟩<;>simp[-List.map_set,LS.getBox,Lg.look,D.ids,D.idsL,dF,eO,LS.clean,D.puOk,D.pu,D.pu1,D.tks,D.tksL,b9,c9,dY,dB,dL,eW,dK]) ?_;simp(disch:=apply aB;omega)only[go_sem]))|((exfalso;omega))|((refine pU (id:=6) 0 iQ 4 rfl λK hK=>?_))|apply aE|apply aG|apply aJ|refine aI 0 iQ λK hK=>?_|((first|apply aD|apply aK|refine aA (aO ?_)|apply aA);simp(disch:=apply aB;omega)only[go_sem,Tryz.results110])|(apply hK.nil;clear hK K;simp only[go_sem])|((first|refine aH rfl rfl rfl rfl rfl ?_ ?_|refine aN rfl rfl rfl rfl rfl ?_ ?_|refine aF rfl ?_ ?_)<;>intro h<;>try simp(disch:=apply aB;omega)only[go_sem] at h)|(with_reducible refine And.intro (by first|omega|(simp only[lens];omega)) ?_)|fail
  refine aU.popOwn hP (k:=51000) (by simp) (kd:=.i64) (m:=us.length-1) (ps:=us.map λy=>(.any,y)) (by simp only[go_sem];rw[List.map_map];rfl) (by simp only[go_sem]) rfl rfl ⟨by omega,by rw[zC];omega⟩ (λp hp=>by obtain⟨y,_,rfl⟩:=zJ.1 hp;rfl) [(1,.box 1030 0),(4,.box 4 0),(10,.sl (.own 56000 22 1) (vs.map b6)),(11,.sl .any (u.map (.int .i64))),(12,.sl .any (v.map (.int .i64)))] [(1030,[.ms 1028 48]),(1028,γ.map bD),(4,[.sl .any (rs.map (.int .i64))])] ?_ ?_ (by simp only[Nat.reduceLT]) (aU.nil ?_)
  ·intro p hp
   simp only[zO,List.not_mem_nil,or_false] at hp
   rcases hp with rfl|rfl|rfl|rfl|rfl
   ·exact⟨rfl,rfl⟩
   ·exact⟨rfl,rfl⟩
   ·exact⟨rfl,by simp only[D.safe,List.contains_cons];exact Bool.and_eq_true_iff.2 ⟨rfl,aB7 λd hd=>by obtain⟨y,_,rfl⟩:=zJ.1 hd;exact gV _ _ _⟩⟩
   ·exact⟨rfl,gV _ _ _⟩
   ·exact⟨rfl,gV _ _ _⟩
  ·intro p hp
   simp only[zO,List.not_mem_nil,or_false] at hp
   rcases hp with rfl|rfl|rfl
   ·exact⟨rfl,λd hd=>by rw[zN.1 hd];rfl⟩
   ·exact⟨rfl,λd hd=>by obtain⟨y,_,rfl⟩:=zJ.1 hd;exact aHn _ _ _⟩
   ·exact⟨rfl,λd hd=>by rw[zN.1 hd];exact gV _ _ rs⟩
  simp only[aL0,go_sem]
  refine λ(K:List Oper->LS->Prop) (hK:KOk S 0 _ _ _ K)=>?_
  repeat' first|((refine pU (id:=7) 0 iQ 4 rfl λK hK=>?_))|apply aE|((first|apply aD|apply aK|refine aA (aO ?_)|apply aA);simp(disch:=apply aB;omega)only[go_sem,Tryz.results110])|(apply hK.nil;clear hK K;simp only[go_sem])|fail
  refine aU.popOwn hP (k:=56000) (by simp) (kd:=.i64) (m:=vs.length-1) (ps:=vs.map λy=>(.any,y)) (by simp only[go_sem];rw[List.map_map];rfl) (by simp only[go_sem]) rfl rfl ⟨by omega,by rw[zC];omega⟩ (λp hp=>by obtain⟨y,_,rfl⟩:=zJ.1 hp;rfl) [(1,.box 1030 0),(4,.box 4 0),(9,.sl (.own 51000 22 1) ((us.take (us.length-1)).map b6)),(11,.sl .any (u.map (.int .i64))),(12,.sl .any (v.map (.int .i64)))] [(1030,[.ms 1028 48]),(1028,γ.map bD),(4,[.sl .any (rs.map (.int .i64))])] ?_ ?_ (by simp only[Nat.reduceLT]) (aU.nil ?_)
  ·intro p hp
   simp only[zO,List.not_mem_nil,or_false] at hp
   rcases hp with rfl|rfl|rfl|rfl|rfl
   ·exact⟨rfl,rfl⟩
   ·exact⟨rfl,rfl⟩
   ·exact⟨rfl,by simp only[D.safe,List.contains_cons];exact Bool.and_eq_true_iff.2 ⟨rfl,aB7 λd hd=>by obtain⟨y,_,rfl⟩:=zJ.1 hd;exact gV _ _ _⟩⟩
   ·exact⟨rfl,gV _ _ _⟩
   ·exact⟨rfl,gV _ _ _⟩
  ·intro p hp
   simp only[zO,List.not_mem_nil,or_false] at hp
   rcases hp with rfl|rfl|rfl
   ·exact⟨rfl,λd hd=>by rw[zN.1 hd];rfl⟩
   ·exact⟨rfl,λd hd=>by obtain⟨y,_,rfl⟩:=zJ.1 hd;exact aHn _ _ _⟩
   ·exact⟨rfl,λd hd=>by rw[zN.1 hd];exact gV _ _ rs⟩
  simp only[aL0,go_sem]
  refine λ(K:List Oper->LS->Prop) (hK:KOk S 0 _ _ _ K)=>?_
  rw[hut,hvt]
  have hgu:=u2.get (a:=0) (by have:=u2.len;omega)
  have hgv:=v2.get (a:=0) (by have:=v2.len;omega)
  have hlu:=u2.len
  have hlv:=v2.len
  have hiu:u.getD 0 default<0->vIx (u.getD 0 default)<48:=λh=>aBT hgu.1 h
  have hiv:v.getD 0 default<0->vIx (v.getD 0 default)<48:=λh=>aBT hgv.1 h
  have eu:hd u=u.getD 0 default:=rfl
  have ev:hd v=v.getD 0 default:=rfl
  rw[eu,ev] at h1
  rw[eu] at u3
  rw[ev] at v3
  clear u1 v1 u4 v4 hu0 hv0 cH1 cH2 hX hus hvs hul hvl hut hvt eu ev
  by_cases c1:u.getD 0 default=v.getD 0 default/\u.getD 0 default<0
  ·rw[if_pos c1] at h1
   obtain⟨c5,c6⟩:=c1
   repeat' first|((exfalso;omega))|apply aE|apply aG|refine aY iQ (by kernel_rfl) λK hK=>?_|((first|apply aD|apply aK|refine aA (aO ?_)|apply aA);simp(disch:=apply aB;omega)only[go_sem,Tryz.results110])|(apply hK.nil;clear hK K;simp only[go_sem])|((first|refine aH rfl rfl rfl rfl rfl ?_ ?_|refine aN rfl rfl rfl rfl rfl ?_ ?_|refine aF rfl ?_ ?_)<;>intro h<;>try simp(disch:=apply aB;omega)only[go_sem] at h)|refine aT rfl ?_|apply aL|(with_reducible refine And.intro (by first|omega|(simp only[lens];omega)) ?_)|fail
   all_goals exact⟨(k,γ,qs),(by(refine aC rfl rfl ?_ ?_ ?_ ?_<;>simp(disch:=apply aB;omega)only[go_sem]<;>(try omega));all_goals simp),⟨h1,hγ,hAγ,hq⟩,by simp⟩
  rw[if_neg c1] at h1
  by_cases c2:u.getD 0 default<0
  ·rw[if_pos c2] at h1
   have c7:¬u.getD 0 default=v.getD 0 default:=λe=>c1 ⟨e,c2⟩
   have cO:=xR rs γ hγ (u.getD 0 default) c2 v v2
   have hi:=hiu c2
   by_cases ho:lI γ (u.getD 0 default) v
   ·rw[if_pos (bQ ho)] at h1
    obtain rfl:=zA h1
    rw[bQ ho] at cO
    repeat' first|((refine hK.callB rfl rfl rfl (cO) (by refine⟨⟨?_,?_,?_,?_,?_⟩,⟨?_,?_,?_,?_,?_⟩,?_⟩<;>simp[-List.map_set,LS.getBox,Lg.look,D.ids,D.idsL,dF,eO,LS.clean,D.puOk,D.pu,D.pu1,D.tks,D.tksL,b9,c9,dY,dB,dL,eW,dK]) ?_;simp(disch:=apply aB;omega)only[go_sem]))|((exfalso;omega))|apply aE|apply aG|refine aI 0 iQ λK hK=>?_|refine aY iQ (by kernel_rfl) λK hK=>?_|((first|apply aD|apply aK|refine aA (aO ?_)|apply aA);simp(disch:=apply aB;omega)only[go_sem,Tryz.results110])|(apply hK.nil;clear hK K;simp only[go_sem])|((first|refine aH rfl rfl rfl rfl rfl ?_ ?_|refine aN rfl rfl rfl rfl rfl ?_ ?_|refine aF rfl ?_ ?_)<;>intro h<;>try simp(disch:=apply aB;omega)only[go_sem] at h)|(with_reducible refine And.intro (by first|omega|(simp only[lens];omega)) ?_)|fail
   ·rw[if_neg (by rw[bH ho];simp)] at h1
    rw[bH ho] at cO
    obtain⟨b1,b2,b3,_⟩:=l7 hγ hAγ u2 v2 c2 (u3 c2) ho λ_=>True
    repeat' first|((refine hK.callB rfl rfl rfl (cO) (by refine⟨⟨?_,?_,?_,?_,?_⟩,⟨?_,?_,?_,?_,?_⟩,?_⟩<;>simp[-List.map_set,LS.getBox,Lg.look,D.ids,D.idsL,dF,eO,LS.clean,D.puOk,D.pu,D.pu1,D.tks,D.tksL,b9,c9,dY,dB,dL,eW,dK]) ?_;simp(disch:=apply aB;omega)only[go_sem]))|((exfalso;omega))|apply aE|apply aG|apply aM|apply aJ|refine aI 0 iQ λK hK=>?_|refine gK 0 iQ 10 (id:=14) (by kernel_rfl) λK hK=>?_|refine λ(K:KT) (hK:KOk S 0 _ _ _ K)=>?_|refine aY iQ (by kernel_rfl) λK hK=>?_|((first|apply aD|apply aK|refine aA (aO ?_)|apply aA);simp(disch:=apply aB;omega)only[go_sem,Tryz.results110])|(apply hK.nil;clear hK K;simp only[go_sem])|((first|refine aH rfl rfl rfl rfl rfl ?_ ?_|refine aN rfl rfl rfl rfl rfl ?_ ?_|refine aF rfl ?_ ?_)<;>intro h<;>try simp(disch:=apply aB;omega)only[go_sem] at h)|apply aL|(with_reducible refine And.intro (by first|omega|(simp only[lens];omega)) ?_)|fail
    exact⟨(k,γ.set (vIx (u.getD 0 default)) v,qs),(by(refine aC rfl rfl ?_ ?_ ?_ ?_<;>simp(disch:=apply aB;omega)only[go_sem]<;>(try omega));all_goals first|exact aTZ γ _ v2.ne|(simp;done)|trace_state),⟨h1,b1,b2,hq⟩,by simp⟩
  rw[if_neg c2] at h1
  by_cases c3:v.getD 0 default<0
  ·rw[if_pos c3] at h1
   have c7:¬u.getD 0 default=v.getD 0 default:=λe=>c2 (e ▸ c3)
   have cO:=xR rs γ hγ (v.getD 0 default) c3 u u2
   have hi:=hiv c3
   by_cases ho:lI γ (v.getD 0 default) u
   ·rw[if_pos (bQ ho)] at h1
    obtain rfl:=zA h1
    rw[bQ ho] at cO
    repeat' first|((refine hK.callB rfl rfl rfl (cO) (by refine⟨⟨?_,?_,?_,?_,?_⟩,⟨?_,?_,?_,?_,?_⟩,?_⟩<;>simp[-List.map_set,LS.getBox,Lg.look,D.ids,D.idsL,dF,eO,LS.clean,D.puOk,D.pu,D.pu1,D.tks,D.tksL,b9,c9,dY,dB,dL,eW,dK]) ?_;simp(disch:=apply aB;omega)only[go_sem]))|((exfalso;omega))|apply aE|apply aG|refine aI 0 iQ λK hK=>?_|refine aY iQ (by kernel_rfl) λK hK=>?_|((first|apply aD|apply aK|refine aA (aO ?_)|apply aA);simp(disch:=apply aB;omega)only[go_sem,Tryz.results110])|(apply hK.nil;clear hK K;simp only[go_sem])|((first|refine aH rfl rfl rfl rfl rfl ?_ ?_|refine aN rfl rfl rfl rfl rfl ?_ ?_|refine aF rfl ?_ ?_)<;>intro h<;>try simp(disch:=apply aB;omega)only[go_sem] at h)|(with_reducible refine And.intro (by first|omega|(simp only[lens];omega)) ?_)|fail
   ·rw[if_neg (by rw[bH ho];simp)] at h1
    rw[bH ho] at cO
    obtain⟨b1,b2,b3,_⟩:=l7 hγ hAγ v2 u2 c3 (v3 c3) ho λ_=>True
    repeat' first|((refine hK.callB rfl rfl rfl (cO) (by refine⟨⟨?_,?_,?_,?_,?_⟩,⟨?_,?_,?_,?_,?_⟩,?_⟩<;>simp[-List.map_set,LS.getBox,Lg.look,D.ids,D.idsL,dF,eO,LS.clean,D.puOk,D.pu,D.pu1,D.tks,D.tksL,b9,c9,dY,dB,dL,eW,dK]) ?_;simp(disch:=apply aB;omega)only[go_sem]))|((exfalso;omega))|apply aE|apply aG|apply aM|apply aJ|refine aI 0 iQ λK hK=>?_|refine gK 0 iQ 10 (id:=18) (by kernel_rfl) λK hK=>?_|refine λ(K:KT) (hK:KOk S 0 _ _ _ K)=>?_|refine aY iQ (by kernel_rfl) λK hK=>?_|((first|apply aD|apply aK|refine aA (aO ?_)|apply aA);simp(disch:=apply aB;omega)only[go_sem,Tryz.results110])|(apply hK.nil;clear hK K;simp only[go_sem])|((first|refine aH rfl rfl rfl rfl rfl ?_ ?_|refine aN rfl rfl rfl rfl rfl ?_ ?_|refine aF rfl ?_ ?_)<;>intro h<;>try simp(disch:=apply aB;omega)only[go_sem] at h)|apply aL|(with_reducible refine And.intro (by first|omega|(simp only[lens];omega)) ?_)|fail
    exact⟨(k,γ.set (vIx (v.getD 0 default)) u,qs),(by(refine aC rfl rfl ?_ ?_ ?_ ?_<;>simp(disch:=apply aB;omega)only[go_sem]<;>(try omega));all_goals first|exact aTZ γ _ u2.ne|(simp;done)|trace_state),⟨h1,b1,b2,hq⟩,by simp⟩
  rw[if_neg c3] at h1
  by_cases c4:u.getD 0 default=v.getD 0 default
  ·rw[if_neg (by simpa using c4)] at h1
   have cP1:=xK rs u u2 (by show 0≤u.getD 0 default;omega)
   have cP2:=xK rs v v2 (by show 0≤v.getD 0 default;omega)
   have e1:=lY rs u v
   have e2:=tG u2 v2 c4
   have e3:(qs++dS rs u v).map Prod.fst=qs.map Prod.fst++f0 rs u:=by rw[List.map_append];exact congrArg _ e1
   have e4:(qs++dS rs u v).map Prod.snd=qs.map Prod.snd++f0 rs v:=by rw[List.map_append];exact congrArg _ e2
   have hl3:=aA4 (v:=v) u2
   have hl4:(f0 rs u).length≤3:=by rw[←e1,zC];exact hl3
   have hl5:(f0 rs v).length≤3:=by rw[←e2,zC];exact hl3
   repeat' first|((refine hK.callB rfl rfl rfl (cP1) (by refine⟨⟨?_,?_,?_,?_,?_⟩,⟨?_,?_,?_,?_,?_⟩,?_⟩<;>simp[-List.map_set,LS.getBox,Lg.look,D.ids,D.idsL,dF,eO,LS.clean,D.puOk,D.pu,D.pu1,D.tks,D.tksL,b9,c9,dY,dB,dL,eW,dK]) ?_;simp(disch:=apply aB;omega)only[go_sem]))|((refine hK.callB rfl rfl rfl (cP2) (by refine⟨⟨?_,?_,?_,?_,?_⟩,⟨?_,?_,?_,?_,?_⟩,?_⟩<;>simp[-List.map_set,LS.getBox,Lg.look,D.ids,D.idsL,dF,eO,LS.clean,D.puOk,D.pu,D.pu1,D.tks,D.tksL,b9,c9,dY,dB,dL,eW,dK]) ?_;simp(disch:=apply aB;omega)only[go_sem]))|((exfalso;omega))|((refine⟨List.mem_filter.2 ⟨by simp,by simp⟩,by omega,by omega,?_⟩))|apply aE|apply aG|apply aM|refine aI 0 iQ λK hK=>?_|refine aY iQ (by kernel_rfl) λK hK=>?_|((first|apply aD|apply aK|refine aA (aO ?_)|apply aA);simp(disch:=apply aB;omega)only[go_sem,Tryz.results110])|(apply hK.nil;clear hK K;simp only[go_sem])|((first|refine aH rfl rfl rfl rfl rfl ?_ ?_|refine aN rfl rfl rfl rfl rfl ?_ ?_|refine aF rfl ?_ ?_)<;>intro h<;>try simp(disch:=apply aB;omega)only[go_sem] at h)|apply aL|(with_reducible refine And.intro (by first|omega|(simp only[lens];omega)) ?_)|fail
   refine⟨(k,γ,qs++dS rs u v),?_,⟨h1,hγ,hAγ,λq hq'=>(zP.1 hq').elim (hq q) λh=>r9 u2 v2 c4 q h⟩,by simp⟩
   dsimp only
   rw[e3,e4]
   (refine aC rfl rfl ?_ ?_ ?_ ?_<;>simp(disch:=apply aB;omega)only[go_sem]<;>(try omega))
   all_goals first|(simp;done)|trace_state
  ·rw[if_pos c4] at h1
   obtain rfl:=zA h1
   repeat' first|((exfalso;omega))|apply aE|apply aG|refine aI 0 iQ λK hK=>?_|refine aY iQ (by kernel_rfl) λK hK=>?_|((first|apply aD|apply aK|refine aA (aO ?_)|apply aA);simp(disch:=apply aB;omega)only[go_sem,Tryz.results110])|(apply hK.nil;clear hK K;simp only[go_sem])|((first|refine aH rfl rfl rfl rfl rfl ?_ ?_|refine aN rfl rfl rfl rfl rfl ?_ ?_|refine aF rfl ?_ ?_)<;>intro h<;>try simp(disch:=apply aB;omega)only[go_sem] at h)|(with_reducible refine And.intro (by first|omega|(simp only[lens];omega)) ?_)|fail
end
section
attribute [local irreducible] SW bC bE dE bU FC dO
theorem aO9{t:List Int}{i:Nat}(h:i<t.length):nI (t.take (i+1))=nI (t.take i)++[awF (t.getD i default)]:=by
 have e:t.take (i+1)=t.take i++[t.getD i default]:=by
  rw[List.take_add_one,zB h,zD,zB h]
  rfl
 rw[e];unfold nI;rw[List.map_append];rfl
theorem aQM(t:List Int):(nI t).length=t.length:=zC _
theorem aUX{n:Int}(h:n<0):awF n=n-24:=by unfold awF;exact if_pos h
theorem aUr{n:Int}(h:¬n<0):awF n=n:=by unfold awF;exact if_neg h
attribute [local irreducible] awF
def aIg:List (Nat×List Nat):=[(0,[0,1]),(1,[0,1,5]),(2,[0,1,5,6]),(3,[0,1,5,6,11]),(5,[0,1,5,6,18]),(6,[0,1,5,6]),(7,[0,1,5,6]),(4,[0,1,5,6]),(8,[4])]
attribute [go_sem] aIg
theorem aNe(t:List Int)(h1:t.length≤1000)(ht:∀x∈t,-24≤x):FC S 111 [] [] [] [.sl .any (t.map (.int .i64)),.int .i64 24] (.sl .any ((nI t).map (.int .i64))) [] []:=by
 refine aP Tryz.func111 rfl (by kernel_rfl) (by simp[Tryz.f111]) λB=>?_
 simp only[Tryz.ntmps111,aS,aZ,Nat.reduceAdd]
 repeat' first|apply aE|apply aG|refine aI 0 aIg λK hK=>?_|((first|apply aD|refine aA (aO ?_)|apply aA);simp(disch:=apply aB;omega)only[go_sem,Tryz.results111])|(apply hK.nil;clear hK K;simp only[go_sem])|fail
 refine dW 5 35000 2 1 rfl (.inr rfl) rfl ?_
 simp only[go_sem]
 refine bG (ι:=Nat) (λi=>[(0,.sl .any (t.map (.int .i64))),(1,.int .i64 24),(6,.int .i64 i),(5,.sl (.own 35000 2 1) ((nI (t.take i)).map (.int .i64)))]) (λ_=>[]) (λ_=>[35000]) (λi=>i≤t.length) (λi=>t.length-i) 0 (by(refine aC rfl rfl ?_ ?_ ?_ ?_<;>simp(disch:=apply aB;omega)only[go_sem]<;>(try omega));exact⟨rfl,rfl⟩) (by omega) (λi hi=>?_)
 simp only[go_sem]
 have hal:=aQM (t.take i)
 rw[List.length_take] at hal
 by_cases hil:i<t.length
 ·have hg:=ht _ (bA t i hil)
  have hs:=aO9 hil
  by_cases h0:t.getD i default<0
  ·have e:=aUX h0
   repeat' first|((refine jJ 28000 35000 rfl rfl ?_;simp only[go_sem]))|((exfalso;omega))|apply aE|apply aG|apply aM|apply aJ|refine aI 0 aIg λK hK=>?_|((first|apply aD|refine aA (aO ?_)|apply aA);simp(disch:=apply aB;omega)only[go_sem,Tryz.results111])|(apply hK.nil;clear hK K;simp only[go_sem])|((first|refine aF rfl ?_ ?_)<;>intro h<;>try simp(disch:=apply aB;omega)only[go_sem] at h)|apply aL|(with_reducible refine And.intro (by first|omega|(simp only[lens];omega)) ?_)|fail
   exact⟨i+1,(by(refine aC rfl rfl ?_ ?_ ?_ ?_<;>simp(disch:=apply aB;omega)only[go_sem]<;>(try omega));all_goals first|exact⟨by rw[hs,e],by omega⟩|trace_state),by omega,by omega⟩
  ·have e:=aUr h0
   repeat' first|((exfalso;omega))|apply aE|apply aG|apply aM|apply aJ|refine aI 0 aIg λK hK=>?_|((first|apply aD|refine aA (aO ?_)|apply aA);simp(disch:=apply aB;omega)only[go_sem,Tryz.results111])|(apply hK.nil;clear hK K;simp only[go_sem])|((first|refine aF rfl ?_ ?_)<;>intro h<;>try simp(disch:=apply aB;omega)only[go_sem] at h)|apply aL|(with_reducible refine And.intro (by first|omega|(simp only[lens];omega)) ?_)|fail
   exact⟨i+1,(by(refine aC rfl rfl ?_ ?_ ?_ ?_<;>simp(disch:=apply aB;omega)only[go_sem]<;>(try omega));all_goals first|exact⟨by rw[hs,e],by omega⟩|trace_state),by omega,by omega⟩
 ·repeat' first|((exfalso;omega))|apply aE|refine aI 0 aIg λK hK=>?_|((first|apply aD|refine aA (aO ?_)|apply aA);simp(disch:=apply aB;omega)only[go_sem,Tryz.results111])|(apply hK.nil;clear hK K;simp only[go_sem])|((first|refine aF rfl ?_ ?_)<;>intro h<;>try simp(disch:=apply aB;omega)only[go_sem] at h)|refine aT rfl ?_|fail
  rw[List.take_of_length_le (by omega)]
end
section
attribute [local irreducible] SW bC bE dE bU FC dO toF dP bD
def p7(x:SystemT)(p q:DepPairT):Prop:=p.r.getD 0 default=q.l.getD 0 default/\((eC x p.r 60 0 0).2≤24->aOg x.sig (eC x p.r 60 0 0).1 q.l)
theorem aFI{x:SystemT}{p q:DepPairT}(h:¬p.r.getD 0 default=q.l.getD 0 default):tst (p7 x p q)=false:=bH λe=>h e.1
theorem aFP{x:SystemT}{p q:DepPairT}(h:p.r.getD 0 default=q.l.getD 0 default)(hc:¬(eC x p.r 60 0 0).2≤24):tst (p7 x p q)=true:=bQ ⟨h,λe=>absurd e hc⟩
theorem aJp{x:SystemT}{p q:DepPairT}(h:p.r.getD 0 default=q.l.getD 0 default)(hc:(eC x p.r 60 0 0).2≤24){r:Bool}(hr:r=true↔aOg x.sig (eC x p.r 60 0 0).1 q.l):tst (p7 x p q)=r:=by
 cases r with
 | true=>exact bQ ⟨h,λ_=>hr.1 rfl⟩
 | false=>exact bH λe=>by simpa using hr.2 (e.2 hc)
theorem aYz:(List.replicate (Int.toNat 48) [D.sl Tk.nil []]).flatten=b0.map bD:=by
 rw[List.flatten_replicate_singleton]
 unfold b0
 rw[List.map_replicate,rF]
 rfl
attribute [local go_sem] aYz eO dY aNZ
def aHP:List (Nat×List Nat):=[(0,[3,4,5]),(1,[3,4,5,7,8]),(2,[3,5,7,8,25]),(3,[6]),(4,[3,5,7,27]),(5,[6]),(6,[3,5,7,9]),(7,[6])]
attribute [go_sem] aHP
theorem aBC(x:SystemT)(hx:b7 x)(p q:DepPairT)(hp:jN x.sig p)(hq:jN x.sig q):FC S 82 [] [] [] [bP x,bK p,bK q] (.bool (tst (p7 x p q))) [] []:=by
 have cC:=aKr x p.r hp.1.2 hp.2.2 hx
 have hpl:=hp.1.2.2.1
 have hql:=hq.1.1.2.1
 have cW:=aNe q.l (by omega) hq.1.1.ge
 by_cases hh:p.r.getD 0 default=q.l.getD 0 default
 ·by_cases hc:(eC x p.r 60 0 0).2≤24
  ·have hX:=XT.of (aRw hp.1.2 hc)
   obtain⟨n,r,hr,hri⟩:=aPN hX hq.1.1
   rw[if_pos hc,bQ hc] at cC
   rw[aJp hh hc hri]
   have cM:=aMp x.sig b0 (aKu _) aMe n _ (nI q.l) hX (XT.away hq.1.1) r hr
   generalize (eC x p.r 60 0 0).1=out at *
   refine aP Tryz.func82 rfl (by kernel_rfl) (by simp[Tryz.f82]) λB=>?_
   simp only[Tryz.ntmps82,aS,aZ,Nat.reduceAdd]
   repeat' first|((exfalso;omega))|((refine hK.callB rfl rfl rfl (cM) (by refine⟨⟨?_,?_,?_,?_,?_⟩,⟨?_,?_,?_,?_,?_⟩,?_⟩<;>simp[-List.map_set,LS.getBox,Lg.look,D.ids,D.idsL,dF,eO,LS.clean,D.puOk,D.pu,D.pu1,D.tks,D.tksL,b9,c9,dY,dB,dL,eW,dK]) ?_;simp(disch:=apply aB;omega)only[go_sem]))|apply aE|apply aJ|refine aI 1000 aHP λK hK=>?_|refine gK 1000 aHP 7 (id:=7) (by kernel_rfl) λK hK=>?_|refine λ(K:KT) (hK:KOk S 1000 _ _ _ K)=>?_|refine aY aHP (by kernel_rfl) λK hK=>?_|((first|apply aD|apply aK|refine aA (aO ?_)|apply aA);simp(disch:=apply aB;omega)only[go_sem,Tryz.results82])|(apply hK.nil;clear hK K;simp only[go_sem])|((first|refine aF rfl ?_ ?_)<;>intro h<;>try simp(disch:=apply aB;omega)only[go_sem] at h)|refine hK.c0 rfl rfl rfl (cC) rfl rfl rfl ?_|refine hK.c0 rfl rfl rfl (cW) rfl rfl rfl ?_|(with_reducible refine And.intro (by first|omega|(simp only[lens];omega)) ?_)|fail
   all_goals trace_state
  ·rw[aFP hh hc]
   rw[if_neg hc,bH hc] at cC
   refine aP Tryz.func82 rfl (by kernel_rfl) (by simp[Tryz.f82]) λB=>?_
   simp only[Tryz.ntmps82,aS,aZ,Nat.reduceAdd]
   repeat' first|((exfalso;omega))|apply aE|apply aJ|refine aI 1000 aHP λK hK=>?_|refine aY aHP (by kernel_rfl) λK hK=>?_|((first|apply aD|apply aK|refine aA (aO ?_)|apply aA);simp(disch:=apply aB;omega)only[go_sem,Tryz.results82])|(apply hK.nil;clear hK K;simp only[go_sem])|((first|refine aF rfl ?_ ?_)<;>intro h<;>try simp(disch:=apply aB;omega)only[go_sem] at h)|refine hK.c0 rfl rfl rfl (cC) rfl rfl rfl ?_|(with_reducible refine And.intro (by first|omega|(simp only[lens];omega)) ?_)|fail
 ·rw[aFI hh]
  generalize hb:tst ((eC x p.r 60 0 0).2≤24)=b at *
  generalize (if (eC x p.r 60 0 0).2≤24 then (eC x p.r 60 0 0).1 else [])=zs at *
  refine aP Tryz.func82 rfl (by kernel_rfl) (by simp[Tryz.f82]) λB=>?_
  simp only[Tryz.ntmps82,aS,aZ,Nat.reduceAdd]
  repeat' first|((exfalso;omega))|apply aE|refine aI 1000 aHP λK hK=>?_|refine aY aHP (by kernel_rfl) λK hK=>?_|((first|apply aD|apply aK|refine aA (aO ?_)|apply aA);simp(disch:=apply aB;omega)only[go_sem,Tryz.results82])|(apply hK.nil;clear hK K;simp only[go_sem])|((first|refine aF rfl ?_ ?_)<;>intro h<;>try simp(disch:=apply aB;omega)only[go_sem] at h)|refine hK.c0 rfl rfl rfl (cC) rfl rfl rfl ?_|(with_reducible refine And.intro (by first|omega|(simp only[lens];omega)) ?_)|fail
end
section
theorem aIH(p:Addr)(w:World):CallsD Tryz.prog 139 #[.pointer (some p)] .returning w λe u' w'=>e=.returned (.tuple #[])/\u'=.returning/\w'=w:=by
 refine callsD_of_wpS Tryz.func139 rfl λc₀ cs hu=>?_
 apply wpS_seq
 apply wpS_region
 simp[wpOpsS,go_sem,recoverD,hu,Tryz.ntmps139,Exit.thenS]
 apply wpS_seq
 apply wpS_region
 simp[wpOpsS,go_sem,recoverD,hu,Tryz.ntmps139,Exit.thenS]
 refine wpS_cond (t:=false) (by simp[Act.eval,Array.replicate]) ?_
 simp only[Bool.false_eq_true,if_false]
 refine wpS_of_wp (wp_skip ?_)
 cases c₀
 simp_all [bodyPostS,results,Tryz.results139]
theorem aM5(p:Addr)(x:Bool)(w:World)(hc:w.cell? p=some (.bool x))(hz:w.frozen? p=false):CallsD Tryz.prog 139 #[.pointer (some p)] (.panicking (chainE 159)) w λe u' w' =>
  e=.returned (.tuple #[])/\u'=.panicking [{v:=.iface 159 (.agg #[]),recovered:=true}]/\w'=(w.alloc (.cells #[] 159)).setCell p (.bool false):=by
 refine callsD_of_wpS Tryz.func139 rfl λc₀ cs hu=>?_
 unfold chainE at hu
 have hta:∀w,(Instr.typeAssert (.iface 159 (.agg #[])) 20 159 true).run Tryz.prog w=.ok (.tuple #[.agg #[],.bool true]) w:=λw=>by kernel_rfl
 apply wpS_seq
 apply wpS_region
 simp[wpOpsS,go_sem,recoverD,hu,Tryz.ntmps139,Exit.thenS]
 apply wpS_seq
 apply wpS_region
 simp[wpOpsS,go_sem,recoverD,hu,Tryz.ntmps139,Exit.thenS]
 refine wpS_cond (t:=true) (by simp[Act.eval,Array.replicate]) ?_
 simp only[if_true]
 apply wpS_seq
 apply wpS_seq
 apply wpS_region
 simp[wpOpsS,go_sem,recoverD,hu,Tryz.ntmps139,Exit.thenS,hta]
 have hb:p.block<w.heap.size:=World.block_lt_of_cell? w p hc
 have hc2:(w.alloc (.cells #[] 159)).cell? p=some (.bool x):=(World.cell?_alloc_old w _ p (Nat.ne_of_lt hb)).trans hc
 have hz2:(w.alloc (.cells #[] 159)).frozen? p=false:=(World.frozen?_alloc_old w _ p (Nat.ne_of_lt hb)).trans hz
 apply wpS_seq
 apply wpS_region
 simp[wpOpsS,go_sem,recoverD,hu,Tryz.ntmps139,Exit.thenS]
 refine wpS_cond (t:=false) (by simp[Act.eval,Array.replicate]) ?_
 simp only[Bool.false_eq_true,if_false]
 refine wpS_of_wp (wp_skip ?_)
 simp only[Exit.thenS]
 apply wpS_region
 simp[wpOpsS,go_sem,hc2,hz2,bodyPostS,results,Tryz.results139,Tryz.ntmps139]
end
end Go.Proofs.YtpennhjjnlkbiaaGreat
