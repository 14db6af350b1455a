/-
  U05, A04p, A20p, A04, U08, U11, U1x, U14, U15, one behind the other.
-/
import Derived.Test.YtpennhjjnlkbiaaGreatG5
import Derived.Test.YtpennhjjnlkbiaaGreatG0
import Derived.Test.YtpennhjjnlkbiaaGreatG1
import Derived.Test.YtpennhjjnlkbiaaGreatG2
namespace Go.Proofs.YtpennhjjnlkbiaaGreat
open Go Go.Lg
set_option linter.unusedSimpArgs false
set_option linter.unusedVariables false
set_option maxHeartbeats 4000000
section
attribute [local irreducible] SW bC bE dE bU FC dO bD
theorem aIU(ys:List Nat):D.tksL (ys.map aGU)=[]:=by
 induction ys with
 | nil=>rfl
 | cons y r ih=>simp[D.tksL,D.tks,aGU,ih]
def aVs(rs:List Int)(rec:Bds->List Int->List Int->Option (Option Bds))(id:Nat):Prop:=∀(β:Bds) (a b:List Int),BOK rs β->XT rs a->XT rs b →
 (∀β',rec β a b=some (some β')->BOK rs β'/\FC S 140 [] [(id+1000,uC rs β)] [] [.box (id+1000) 0,.sl .any (a.map (.int .i64)),.sl .any (b.map (.int .i64))] (.tup []) [(id+1000,uC rs β')] []) ∧
 (rec β a b=some none->FCX S 140 [] [(id+1000,uC rs β)] [] [.box (id+1000) 0,.sl .any (a.map (.int .i64)),.sl .any (b.map (.int .i64))] (chainE 159))
theorem uJ(rs a b:List Int):(dS rs a b).length=(dD rs (bI a) 0).length:=by simp[dS]
theorem aBf(rs a b:List Int){i:Nat}(h:i<(dD rs (bI a) 0).length):(dS rs a b).drop i=(oZ rs a ((dD rs (bI a) 0).getD i default),oZ rs b ((dD rs (bI b) 0).getD i default))::(dS rs a b).drop (i+1):=by
 rw[List.drop_eq_getElem_cons (by rw[uJ];exact h)]
 simp[dS]
theorem sG{rs a b:List Int}(hA:XT rs a)(hB:XT rs b)(he:hd a=hd b):(dD rs (bI b) 0).length=(dD rs (bI a) 0).length:=by
 have h1:=hA.len
 have h2:=hB.len
 unfold dD
 rw[eM,eM,lB b 0 (by omega),lB a 0 (by omega)]
 unfold hd at he
 rw[he]
theorem iK{rs a:List Int}(hA:XT rs a){i:Nat}(hi:i<(dD rs (bI a) 0).length):(dD rs (bI a) 0).getD i default<a.length:=by
 have h1:=hA.len
 have:=(aDI hA.1 (a:=0) (by rw[eJ];omega) _ (bA _ i hi)).2
 rwa [eJ] at this
theorem r9{rs a b:List Int}(hA:XT rs a)(hB:XT rs b)(he:hd a=hd b):∀p∈dS rs a b,XT rs p.1/\XT rs p.2:=λp hp=>by
 obtain⟨k,hk,rfl⟩:=zJ.1 hp
 have hk:=List.mem_range.1 hk
 exact⟨pT hA (iK hA hk),pT hB (iK hB (by rw[sG hA hB he];exact hk))⟩
theorem aUl{rs:List Int}{rec:Bds->List Int->List Int->Option (Option Bds)}{id:Nat}(hr:aVs rs rec id):∀ {ps:List (List Int×List Int)} {β β':Bds},(∀p∈ps,XT rs p.1/\XT rs p.2)->BOK rs β->eqL rec ps β=some (some β')->BOK rs β'
 | [],β,β',_,hβ,h=>by obtain rfl:=zA (zA h);exact hβ
 | p::r,β,β',hp,hβ,h=>by
  unfold eqL at h
  split at h
  ·cases h
  ·cases h
  ·rename_i δ hx
   have h0:=hp p (zH ..)
   exact aUl hr (λq hq=>hp q (zG _ hq)) ((hr β _ _ hβ h0.1 h0.2).1 δ hx).1 h
theorem aMX(id:Nat)(rs:List Int)(g:Nat)(β:Bds)(hβ:BOK rs β)(a b a1 b1:List Int)(hA:XT rs a)(hB:XT rs b)(h1:dG β g a=some a1)(h2:dG β g b=some b1)(rec:Bds->List Int->List Int->Option (Option Bds))(hr:aVs rs rec id)(β':Bds)(hl:eqL rec (dS rs a1 b1) β=some (some β'))(he:hd a1=hd b1)(h0:0≤hd a1):FC S 140 [] [(id+1000,uC rs β)] [] [.box (id+1000) 0,.sl .any (a.map (.int .i64)),.sl .any (b.map (.int .i64))] (.tup []) [(id+1000,uC rs β')] []:=by
 have c1:=eX (id+1000) rs β hβ g a a1 h1 hA
 have c2:=eX (id+1000) rs β hβ g b b1 h2 hB
 have hA1:=dM hβ h1 hA
 have hB1:=dM hβ h2 hB
 have hla:=hA1.len
 have hlb:=hB1.len
 have hga:=hA1.get (a:=0) (by omega)
 have hgb:=hB1.get (a:=0) (by omega)
 have hlβ:=hβ.1
 have hlen:=sG hA1 hB1 he
 have hn8:(dD rs (bI a1) 0).length≤60:=by
  unfold dD;rw[eM]
  have:=sA hA1.1.1 ((bI a1).getD 0 default)
  omega
 have cP:=pG .any .any rs a1 0 hA1 (by omega)
 have cQ:=pG .any .any rs b1 0 hB1 (by omega)
 unfold uC at *
 unfold hd at *
 refine aP Tryz.func140 rfl (by kernel_rfl) (by simp[Tryz.f140]) λB=>?_
 simp only[Tryz.ntmps140,aS,aZ,Nat.reduceAdd]
 repeat' first|((exfalso;omega))|apply aE|apply aG|apply aJ|refine aI 0 fM λK hK=>?_|refine aY fM (by kernel_rfl) λK hK=>?_|((first|apply aD|apply aK|refine aA (aO ?_)|apply aA);simp(disch:=apply aB;omega)only[go_sem,Tryz.results140])|(apply hK.nil;clear hK K;simp only[go_sem])|((first|refine aH rfl rfl rfl rfl rfl ?_ ?_|refine aN rfl rfl rfl rfl rfl ?_ ?_|refine aF rfl ?_ ?_)<;>intro h<;>try simp(disch:=apply aB;omega)only[go_sem] at h)|refine hK.call rfl rfl rfl (c1) ⟨(by simp[LS.getBox,Lg.look]),rfl,rfl,(by simp only[dC,Nat.reduceLT])⟩ ?_|refine hK.call rfl rfl rfl (c2) ⟨(by simp[LS.getBox,Lg.look]),rfl,rfl,(by simp only[dC,Nat.reduceLT])⟩ ?_|refine hK.c0 rfl rfl rfl (cP) rfl rfl rfl ?_|refine hK.c0 rfl rfl rfl (cQ) rfl rfl rfl ?_|(with_reducible refine And.intro (by first|omega|(simp only[lens];omega)) ?_)|fail
 refine bB (ι:=Nat×Bds) (λp=>[(101,.int .i64 p.1)]) (λp=>[(id+1000,D.sl .any (rs.map (.int .i64))::p.2.map bD)]) (λp=>(p.1≤(dD rs (bI a1) 0).length/\BOK rs p.2)/\eqL rec ((dS rs a1 b1).drop p.1) p.2=some (some β')) (λp=>(dD rs (bI a1) 0).length-p.1) (0,β) (by(refine aC rfl rfl ?_ ?_ ?_ ?_<;>simp(disch:=apply aB;omega)only[go_sem]<;>(try omega))) ?_ (λp hp=>?_)
 rotate_left
 simp only[go_sem]
 obtain⟨i,γ⟩:=p
 obtain⟨⟨hi,hγ⟩,h3⟩:=hp
 dsimp only at hi hγ h3
 by_cases hil:i<(dD rs (bI a1) 0).length
 ·rw[aBf rs a1 b1 hil] at h3
  have hXa:=pT hA1 (iK hA1 hil)
  have hXb:=pT hB1 (iK hB1 (i:=i) (by omega))
  have cS:=sF .any .any rs a1 _ hA1 (iK hA1 hil)
  have cT:=sF .any .any rs b1 _ hB1 (iK hB1 (i:=i) (by omega))
  unfold eqL at h3
  dsimp only at h3
  obtain⟨δ,hδ⟩:∃δ,rec γ (oZ rs a1 ((dD rs (bI a1) 0).getD i default)) (oZ rs b1 ((dD rs (bI b1) 0).getD i default))=some (some δ):=by
   split at h3
   ·cases h3
   ·cases h3
   ·rename_i δ hx;exact⟨δ,hx⟩
  rw[hδ] at h3
  dsimp only at h3
  obtain⟨hδB,cE⟩:=(hr γ _ _ hγ hXa hXb).1 δ hδ
  unfold uC at cE
  repeat' first|((exfalso;omega))|((refine hK.callB rfl rfl rfl (cE) (by refine⟨⟨?_,?_,?_,?_,?_⟩,⟨?_,?_,?_,?_,?_⟩,?_⟩<;>simp[-List.map_set,LS.getBox,Lg.look,D.ids,D.idsL,dF,eO,LS.clean,D.puOk,D.pu,D.pu1,D.tks,D.tksL,b9,c9,dY,dB,dL,eW,dK]) ?_;simp(disch:=apply aB;omega)only[go_sem]))|apply aE|apply aG|apply aM|apply aJ|refine aI 0 fM λK hK=>?_|refine gK 0 fM 21 (id:=14) (by kernel_rfl) λK hK=>?_|refine λ(K:KT) (hK:KOk S 0 _ _ _ K)=>?_|((first|apply aD|apply aK|refine aA (aO ?_)|apply aA);simp(disch:=apply aB;omega)only[go_sem,Tryz.results140])|(apply hK.nil;clear hK K;simp only[go_sem])|((first|refine aH rfl rfl rfl rfl rfl ?_ ?_|refine aN rfl rfl rfl rfl rfl ?_ ?_|refine aF rfl ?_ ?_)<;>intro h<;>try simp(disch:=apply aB;omega)only[go_sem] at h)|apply aL|refine hK.c0 rfl rfl rfl (cS) rfl rfl rfl ?_|refine hK.c0 rfl rfl rfl (cT) rfl rfl rfl ?_|(with_reducible refine And.intro (by first|omega|(simp only[lens];omega)) ?_)|fail
  all_goals exact⟨(i+1,δ),(by(refine aC rfl rfl ?_ ?_ ?_ ?_<;>simp(disch:=apply aB;omega)only[go_sem]<;>(try omega))),⟨⟨by omega,hδB⟩,h3⟩,by omega⟩
 ·rw[List.drop_of_length_le (by rw[uJ];omega)] at h3
  obtain rfl:=zA (zA h3)
  repeat' first|((exfalso;omega))|apply aE|refine aI 0 fM λK hK=>?_|((first|apply aD|apply aK|refine aA (aO ?_)|apply aA);simp(disch:=apply aB;omega)only[go_sem,Tryz.results140])|(apply hK.nil;clear hK K;simp only[go_sem])|((first|refine aH rfl rfl rfl rfl rfl ?_ ?_|refine aN rfl rfl rfl rfl rfl ?_ ?_|refine aF rfl ?_ ?_)<;>intro h<;>try simp(disch:=apply aB;omega)only[go_sem] at h)|refine aT rfl ?_|fail
  refine aXA ?_
  simp only[go_sem,Tryz.results140]
  all_goals trace_state
 ·exact⟨⟨by omega,hβ⟩,hl⟩
theorem aMK(id:Nat)(rs:List Int)(g:Nat)(β:Bds)(hβ:BOK rs β)(a b a1 b1:List Int)(hA:XT rs a)(hB:XT rs b)(h1:dG β g a=some a1)(h2:dG β g b=some b1)(rec:Bds->List Int->List Int->Option (Option Bds))(hr:aVs rs rec id)(hl:eqL rec (dS rs a1 b1) β=some none)(he:hd a1=hd b1)(h0:0≤hd a1):FCX S 140 [] [(id+1000,uC rs β)] [] [.box (id+1000) 0,.sl .any (a.map (.int .i64)),.sl .any (b.map (.int .i64))] (chainE 159):=by
 have c1:=eX (id+1000) rs β hβ g a a1 h1 hA
 have c2:=eX (id+1000) rs β hβ g b b1 h2 hB
 have hA1:=dM hβ h1 hA
 have hB1:=dM hβ h2 hB
 have hla:=hA1.len
 have hlb:=hB1.len
 have hga:=hA1.get (a:=0) (by omega)
 have hgb:=hB1.get (a:=0) (by omega)
 have hlβ:=hβ.1
 have hlen:=sG hA1 hB1 he
 have hn8:(dD rs (bI a1) 0).length≤60:=by
  unfold dD;rw[eM]
  have:=sA hA1.1.1 ((bI a1).getD 0 default)
  omega
 have cP:=pG .any .any rs a1 0 hA1 (by omega)
 have cQ:=pG .any .any rs b1 0 hB1 (by omega)
 unfold uC at *
 unfold hd at *
 refine w6 Tryz.func140 rfl (by kernel_rfl) (by simp[Tryz.f140]) λB hp hp1=>?_
 simp only[Tryz.ntmps140,aS,List.map_nil,List.map_cons,zC,Nat.zero_add,Nat.reduceAdd]
 repeat' first|((exfalso;omega))|apply aE|apply aG|apply aJ|refine aI 0 fM λK hK=>?_|refine aY fM (by kernel_rfl) λK hK=>?_|((first|apply aD|apply aK|refine aA (aO ?_)|apply aA);simp(disch:=apply aB;omega)only[go_sem,Tryz.results140])|(apply hK.nil;clear hK K;simp only[go_sem])|((first|refine aH rfl rfl rfl rfl rfl ?_ ?_|refine aN rfl rfl rfl rfl rfl ?_ ?_|refine aF rfl ?_ ?_)<;>intro h<;>try simp(disch:=apply aB;omega)only[go_sem] at h)|refine hK.call rfl rfl rfl (c1) ⟨(by simp[LS.getBox,Lg.look]),rfl,rfl,(by simp only[dC,Nat.reduceLT])⟩ ?_|refine hK.call rfl rfl rfl (c2) ⟨(by simp[LS.getBox,Lg.look]),rfl,rfl,(by simp only[dC,Nat.reduceLT])⟩ ?_|refine hK.c0 rfl rfl rfl (cP) rfl rfl rfl ?_|refine hK.c0 rfl rfl rfl (cQ) rfl rfl rfl ?_|(with_reducible refine And.intro (by first|omega|(simp only[lens];omega)) ?_)|fail
 refine bB (ι:=Nat×Bds) (λp=>[(101,.int .i64 p.1)]) (λp=>[(id+1000,D.sl .any (rs.map (.int .i64))::p.2.map bD)]) (λp=>(p.1≤(dD rs (bI a1) 0).length/\BOK rs p.2)/\eqL rec ((dS rs a1 b1).drop p.1) p.2=some none) (λp=>(dD rs (bI a1) 0).length-p.1) (0,β) (by(refine aC rfl rfl ?_ ?_ ?_ ?_<;>simp(disch:=apply aB;omega)only[go_sem]<;>(try omega))) ?_ (λp hp=>?_)
 rotate_left
 simp only[go_sem]
 obtain⟨i,γ⟩:=p
 obtain⟨⟨hi,hγ⟩,h3⟩:=hp
 dsimp only at hi hγ h3
 by_cases hil:i<(dD rs (bI a1) 0).length
 ·rw[aBf rs a1 b1 hil] at h3
  have hXa:=pT hA1 (iK hA1 hil)
  have hXb:=pT hB1 (iK hB1 (i:=i) (by omega))
  have cS:=sF .any .any rs a1 _ hA1 (iK hA1 hil)
  have cT:=sF .any .any rs b1 _ hB1 (iK hB1 (i:=i) (by omega))
  unfold eqL at h3
  dsimp only at h3
  have hR:=hr γ _ _ hγ hXa hXb
  cases hx:rec γ (oZ rs a1 ((dD rs (bI a1) 0).getD i default)) (oZ rs b1 ((dD rs (bI b1) 0).getD i default)) with
  | none=>rw[hx] at h3;cases h3
  | some o =>
   rw[hx] at h3
   cases o with
   | none =>
    have cE:=hR.2 hx
    unfold uC at cE
    repeat' first|((exfalso;omega))|((refine aUZ 21 (id:=14) (by kernel_rfl) λK hK=>?_))|apply aE|apply aG|apply aJ|refine aI 0 fM λK hK=>?_|((first|apply aD|apply aK|refine aA (aO ?_)|apply aA);simp(disch:=apply aB;omega)only[go_sem,Tryz.results140])|(apply hK.nil;clear hK K;simp only[go_sem])|((first|refine aH rfl rfl rfl rfl rfl ?_ ?_|refine aN rfl rfl rfl rfl rfl ?_ ?_|refine aF rfl ?_ ?_)<;>intro h<;>try simp(disch:=apply aB;omega)only[go_sem] at h)|refine hK.c0 rfl rfl rfl (cS) rfl rfl rfl ?_|refine hK.c0 rfl rfl rfl (cT) rfl rfl rfl ?_|(with_reducible refine And.intro (by first|omega|(simp only[lens];omega)) ?_)|fail
    try simp only[List.drop_succ_cons,List.drop_zero]
    refine gI.call rfl rfl rfl cE hp ⟨by simp,by simp[Lg.look],by simp⟩ 1000000 (by simp[-List.map_set,LS.clean,D.tks,D.tksL,b9,c9,dY,aIU,dK])
   | some δ =>
    dsimp only at h3
    obtain⟨hδB,cE⟩:=hR.1 δ hx
    unfold uC at cE
    repeat' first|((exfalso;omega))|((refine hK.callB rfl rfl rfl (cE) (by refine⟨⟨?_,?_,?_,?_,?_⟩,⟨?_,?_,?_,?_,?_⟩,?_⟩<;>simp[-List.map_set,LS.getBox,Lg.look,D.ids,D.idsL,dF,eO,LS.clean,D.puOk,D.pu,D.pu1,D.tks,D.tksL,b9,c9,dY,dB,dL,eW,dK]) ?_;simp(disch:=apply aB;omega)only[go_sem]))|apply aE|apply aG|apply aM|apply aJ|refine aI 0 fM λK hK=>?_|refine gK 0 fM 21 (id:=14) (by kernel_rfl) λK hK=>?_|refine λ(K:KT) (hK:KOk S 0 _ _ _ K)=>?_|((first|apply aD|apply aK|refine aA (aO ?_)|apply aA);simp(disch:=apply aB;omega)only[go_sem,Tryz.results140])|(apply hK.nil;clear hK K;simp only[go_sem])|((first|refine aH rfl rfl rfl rfl rfl ?_ ?_|refine aN rfl rfl rfl rfl rfl ?_ ?_|refine aF rfl ?_ ?_)<;>intro h<;>try simp(disch:=apply aB;omega)only[go_sem] at h)|apply aL|refine hK.c0 rfl rfl rfl (cS) rfl rfl rfl ?_|refine hK.c0 rfl rfl rfl (cT) rfl rfl rfl ?_|(with_reducible refine And.intro (by first|omega|(simp only[lens];omega)) ?_)|fail
    all_goals exact⟨(i+1,δ),(by(refine aC rfl rfl ?_ ?_ ?_ ?_<;>simp(disch:=apply aB;omega)only[go_sem]<;>(try omega))),⟨⟨by omega,hδB⟩,h3⟩,by omega⟩
 ·rw[List.drop_of_length_le (by rw[uJ];omega)] at h3
  cases h3
 ·exact⟨⟨by omega,hβ⟩,hl⟩
theorem aAO(rs:List Int)(g id:Nat):∀f,aVs rs (eqM rs g f) id
 | 0=>λβ a b _ _ _=>⟨λ_ h=>(by cases h),λh=>(by cases h)⟩
 | f+1=>λβ a b hβ hA hB=>by
  have ih:=aAO rs g id f
  cases h1:dG β g a with
  | none=>exact⟨λ_ h=>(by simp[eqM,h1] at h),λh=>(by simp[eqM,h1] at h)⟩
  | some a1 =>
   cases h2:dG β g b with
   | none=>exact⟨λ_ h=>(by simp[eqM,h1,h2] at h),λh=>(by simp[eqM,h1,h2] at h)⟩
   | some b1 =>
    have hA1:=dM hβ h1 hA
    have hB1:=dM hβ h2 hB
    have e:eqM rs g (f+1) β a b=eqB rs g (eqM rs g f) β a1 b1:=by simp[eqM,h1,h2]
    rw[e]
    unfold eqB
    by_cases k1:hd a1=hd b1/\hd a1<0
    ·rw[if_pos k1]
     exact⟨λβ' h=>(by obtain rfl:=zA (zA h);exact⟨hβ,aNn id rs g β hβ a b a1 b1 hA hB h1 h2 k1⟩),λh=>(by cases h)⟩
    rw[if_neg k1]
    by_cases k2:hd b1<0/\(0≤hd a1∨hd b1<hd a1)
    ·rw[if_pos k2]
     unfold aFE
     by_cases k3:0≤hd a1
     ·rw[if_pos k3]
      cases hq:tX β (hd b1) g a1 (List.replicate 48 false) with
      | none=>exact⟨λ_ h=>(by cases h),λh=>(by cases h)⟩
      | some q =>
       obtain⟨o,s⟩:=q
       cases o with
       | true=>exact⟨λ_ h=>(by cases h),λ_=>aIK id rs g β hβ a b a1 b1 hA hB h1 h2 k1 k2 k3 s hq⟩
       | false=>exact⟨λβ' h=>(by obtain rfl:=zA (zA h);exact⟨hβ.set _ hA1,aKD id rs g β hβ a b a1 b1 hA hB h1 h2 k1 k2 k3 s hq⟩),λh=>(by cases h)⟩
     ·rw[if_neg k3]
      exact⟨λβ' h=>(by obtain rfl:=zA (zA h);exact⟨hβ.set _ hA1,aJG id rs g β hβ a b a1 b1 hA hB h1 h2 k1 k2 (by omega)⟩),λh=>(by cases h)⟩
    rw[if_neg k2]
    by_cases k4:hd a1<0
    ·rw[if_pos k4]
     unfold aFE
     by_cases k3:0≤hd b1
     ·rw[if_pos k3]
      cases hq:tX β (hd a1) g b1 (List.replicate 48 false) with
      | none=>exact⟨λ_ h=>(by cases h),λh=>(by cases h)⟩
      | some q =>
       obtain⟨o,s⟩:=q
       cases o with
       | true=>exact⟨λ_ h=>(by cases h),λ_=>aKd id rs g β hβ a b a1 b1 hA hB h1 h2 k1 k2 k4 k3 s hq⟩
       | false=>exact⟨λβ' h=>(by obtain rfl:=zA (zA h);exact⟨hβ.set _ hB1,aKx id rs g β hβ a b a1 b1 hA hB h1 h2 k1 k2 k4 k3 s hq⟩),λh=>(by cases h)⟩
     ·rw[if_neg k3]
      exact⟨λβ' h=>(by obtain rfl:=zA (zA h);exact⟨hβ.set _ hB1,aJv id rs g β hβ a b a1 b1 hA hB h1 h2 k1 k2 k4 (by omega)⟩),λh=>(by cases h)⟩
    rw[if_neg k4]
    have k5:0≤hd b1:=by omega
    by_cases k6:hd a1=hd b1
    ·rw[if_neg (by simpa using k6)]
     exact⟨λβ' h=>⟨aUl ih (λp hp=>r9 hA1 hB1 k6 p hp) hβ h,aMX id rs g β hβ a b a1 b1 hA hB h1 h2 _ ih β' h k6 (by omega)⟩,λh=>aMK id rs g β hβ a b a1 b1 hA hB h1 h2 _ ih h k6 (by omega)⟩
    ·rw[if_pos k6]
     exact⟨λ_ h=>(by cases h),λ_=>aLz id rs g β hβ a b a1 b1 hA hB h1 h2 (by omega) k5 k6⟩
end
section
abbrev Bnd:=List (List Int)
def vx(n:Int):Nat:=(-1-n).toNat
def aRM(rs t:List Int):List Int->Nat->Bnd->Bnd×Bool
 | [],_,g=>(g,true)
 | n::p,a,g=>if t.length≤a then (g,false) else if 0≤n then (if t.getD a default=n then aRM rs t p (a+1) g else (g,false))
   else if g.getD (vx n) default=[] then aRM rs t p (a+(dJ rs t a).length) (g.set (vx n) (dJ rs t a))
   else if g.getD (vx n) default=dJ rs t a then aRM rs t p (a+(dJ rs t a).length) g else (g,false)
theorem wT(rs t:List Int):∀(p:List Int) (a:Nat) (g:Bnd),(aRM rs t p a g).1.length=g.length
 | [],_,_=>rfl
 | n::p,a,g=>by
  have h1:=wT rs t p (a+1) g
  have h2:=wT rs t p (a+(dJ rs t a).length) (g.set (vx n) (dJ rs t a))
  have h3:=wT rs t p (a+(dJ rs t a).length) g
  rw[List.length_set] at h2
  simp only[aRM]
  split
  ·rfl
  ·split
   ·split
    ·exact h1
    ·rfl
   ·split
    ·exact h2
    ·split
     ·exact h3
     ·rfl
def G0:Bnd:=List.replicate 24 []
end
section
attribute [local irreducible] SW bC bE dE bU FC dO
def tkN(u:List Int):Tk:=if u=[] then .nil else .any
def lM(u:List Int):D:=.sl (tkN u) (u.map (.int .i64))
attribute [go_sem] lM
theorem aRc(u:List Int)(K:D->Prop):uR .eql (tkN u) (u.map (.int .i64)) K=K (.bool (tst (u=[]))):=by
 unfold tkN
 by_cases h:u=[]
 ·subst h;simp[uR,tst]
 ·rw[if_neg h,bH h]
  simp[uR,h]
theorem aQl{α:Type}(xs:List α)(n:Nat)(h:Om (xs.length≤n)):xs.take n=xs:=List.take_of_length_le h.out
theorem aQs(cs new:List D)(h:Om (cs.length=new.length)):aGx cs 0 new=new:=by
 have h:=h.out
 unfold aGx
 split
 ·match cs,h with
  | [c],_=>rfl
 ·unfold cI
  rw[List.take_zero,List.nil_append,Nat.zero_add,←h,List.drop_length,List.append_nil]
theorem aSr(g:List (List Int)):D.idsL (g.map lM)=[]:=by
 induction g with
 | nil=>rfl
 | cons u g ih=>simp[D.idsL,lM,D.ids];exact ih
theorem aTx(g:List (List Int)):D.tksL (g.map lM)=[]:=by
 induction g with
 | nil=>rfl
 | cons u g ih =>
  simp only[List.map_cons,D.tksL,ih,lM,tkN]
  split<;>rfl
theorem aVA(g:List (List Int)):(g.map lM).all D.one=true:=by
 rw[List.all_eq_true]
 intro d hd
 obtain⟨u,_,rfl⟩:=zJ.1 hd
 rfl
attribute [local go_sem] aSr aTx aRc aQl aVA wT
theorem aT1(g:List (List Int))(h:Om (g.length=24)):aGx [D.sl .nil [],D.sl .nil [],D.sl .nil [],D.sl .nil [],D.sl .nil [],D.sl .nil [],D.sl .nil [],D.sl .nil [],D.sl .nil [],D.sl .nil [],D.sl .nil [],D.sl .nil [],D.sl .nil [],D.sl .nil [],D.sl .nil [],D.sl .nil [],D.sl .nil [],D.sl .nil [],D.sl .nil [],D.sl .nil [],D.sl .nil [],D.sl .nil [],D.sl .nil [],D.sl .nil []] 0 (g.map lM)=g.map lM:=aQs _ _ ⟨by rw[zC,h.out];rfl⟩
attribute [local go_sem] aT1
theorem aLG(g:List (List Int)):flat (g.map b6)=g.map b6:=by
 induction g with
 | nil=>rfl
 | cons u g ih=>simp[flat] at ih ⊢;simp[D.cells,b6];exact ih
theorem aEq(g:List (List Int)):List.flatMap D.cells (g.map b6)=g.map b6:=aLG g
attribute [local go_sem] aEq
theorem y0(rs t:List Int)(a:Nat):(dD rs t a).length=(arS rs (t.getD a default)).toNat:=eM _ _ _ _
theorem aAN(rs t:List Int)(a j:Nat)(h:j<(arS rs (t.getD a default)).toNat):(dD rs t a).getD j default=dQ rs t (a+1) j:=wA _ _ _ _ _ h
end
section
set_option maxHeartbeats 1000000
theorem tU{x y:Int}(hx:x<0)(hy:y<0)(h:vIx x=vIx y):x=y:=by unfold vIx at h;omega
theorem aP1{rs t:List Int}(h:XT rs t){a:Nat}(ha:a<t.length):t.drop a=oZ rs t a++t.drop (d7 rs (bI t) a).toNat:=by
 have he:=fN h.1 (a:=a) (by rw[eJ];exact ha)
 rw[eJ] at he
 unfold oZ
 conv=>lhs;rw[←List.take_append_drop (d7 rs (bI t) a).toNat t]
 rw[List.drop_append_of_le_length (by simp;omega)]
theorem aTK{rs t:List Int}(h:XT rs t):∀j≤(dD rs (bI t) 0).length,t.drop 1=((List.range j).map λk=>oZ rs t ((dD rs (bI t) 0).getD k default)).flatten++t.drop (dQ rs (bI t) 1 j):=by
 intro j
 induction j with
 | zero=>intro _;simp[dQ]
 | succ j ih =>
  intro hj
  have hl:=h.len
  have hn:j<(arS rs ((bI t).getD 0 default)).toNat:=by rw[y0] at hj;omega
  have hlt:=nJ h.1 (a:=0) (by rw[eJ];omega) hn
  rw[Nat.zero_add,eJ] at hlt
  rw[List.range_succ,List.map_append,List.flatten_append,ih (by omega),List.append_assoc]
  congr 1
  simp only[List.map_cons,List.map_nil,List.flatten_cons,List.flatten_nil,List.append_nil]
  rw[aAN rs (bI t) 0 j hn,Nat.zero_add]
  exact aP1 h hlt.2
theorem aRG(rs a b:List Int):(dS rs a b).map (·.1)=(List.range (dD rs (bI a) 0).length).map λk=>oZ rs a ((dD rs (bI a) 0).getD k default):=by simp[dS]
theorem aR9(rs a b:List Int):(dS rs a b).map (·.2)=(List.range (dD rs (bI a) 0).length).map λk=>oZ rs b ((dD rs (bI b) 0).getD k default):=by simp[dS]
end
section
attribute [local irreducible] SW bC bE dE bU FC dO
theorem aHs{B:Base}{R:LS->Prop}{k:List VItem}{L:LS}(rid t s:Nat)(tk:Tk){id n:Nat}{cs:List D}(xs:List D){ops:Array Oper}{dr:Bool}(ht:Lg.look L.env t=some (.ms id n))(hb:Lg.look L.boxes id=some cs)(hx:cs=flat xs)(hn:n=xs.length)
  (hu:∀x∈xs,x.cells.length=s) (hk:∀d∈cs,d.memOk=true) (htk:tk=.any∨tk=.nn) (hh:SW S B R (.code (.region rid ops dr)::k) {L with env:=eK L.env t (.sl tk xs),boxes:=gJ id L.boxes}):SW S B R (.code (.region rid ops dr)::k) L :=
 kQ t s tk xs ht hb hx hn hu hk htk hh
def awF(n:Int):Int:=if n<0 then n-24 else n
def nI(t:List Int):List Int:=t.map awF
def uY(f:Int->Int)(t:List Int)(i:Nat):List Int:=(t.take i).map f++t.drop i
theorem aIW(f:Int->Int)(t:List Int)(i:Nat):(uY f t i).length=t.length:=by unfold uY;simp;omega
theorem aWY(f:Int->Int)(t:List Int):uY f t 0=t:=rfl
theorem aKp(f:Int->Int)(t:List Int){i:Nat}(h:i<t.length):(uY f t i).getD i default=t.getD i default:=by
 unfold uY
 simp only[zD]
 rw[zM (by rw[zC,List.length_take];omega),zC,List.length_take,List.getElem?_drop,show min i t.length=i by omega,Nat.sub_self,Nat.add_zero]
theorem aFh(f:Int->Int)(t:List Int){i:Nat}(h:i<t.length):uY f t (i+1)=(uY f t i).set i (f (t.getD i default)):=by
 unfold uY
 rw[List.take_succ_eq_append_getElem h,List.map_append,List.drop_eq_getElem_cons h,List.set_append,if_neg (by rw[zC,List.length_take];omega),zC,List.length_take,show min i t.length=i by omega,Nat.sub_self,List.set_cons_zero,List.append_assoc]
 simp[List.getD,h]
theorem aQc(f:Int->Int)(t:List Int){i:Nat}(h:i<t.length)(hn:f (t.getD i default)=t.getD i default):uY f t (i+1)=uY f t i:=by
 rw[aFh f t h,hn,←aKp f t h]
 have hl:i<(uY f t i).length:=by rw[aIW];exact h
 rw[zD,zB hl,Option.getD_some,List.set_getElem_self]
theorem aSW(f:Int->Int)(t:List Int):uY f t t.length=t.map f:=by unfold uY;simp
theorem aHy(tk:Tk)(xs:List Int)(hl:xs.length≤17592186044416):FC S 78 [] [] [] [.sl tk (xs.map (.int .i64))] (.sl (.own 0 2 1) (xs.map (.int .i64))) [] [0]:=by
 refine FC.args (args':=[.sl .any (xs.map (.int .i64))]) ?_ (by simp only[go_sem])
 refine oY Tryz.func78 rfl (by kernel_rfl) (by simp[Tryz.f78]) λB=>?_
 simp only[Tryz.ntmps78,aS,aZ,Nat.reduceAdd]
 refine bZ 0 rfl λhb0=>?_
 simp only[D.bnd,zC] at hb0
 refine aCS 0 rfl (λhx=>?_) ?_<;>simp only[go_sem]
 ·have hx:xs=[]:=by simpa using hx
  subst hx
  repeat' first|(refine dW 2 5000 2 1 rfl (.inl rfl) rfl ?_;simp only[go_sem])|apply aE|refine aI 0 aLk λK hK=>?_|((first|apply aD|refine aA (aO ?_)|apply aA);simp(disch:=apply aB;omega)only[go_sem,Tryz.results78])|(apply hK.nil;clear hK K;simp only[go_sem])|((first|refine aF rfl ?_ ?_)<;>intro h<;>try simp(disch:=apply aB;omega)only[go_sem] at h)|fail
  exact mU rfl (by simp)
 ·repeat' first|apply aE|apply aJ|refine aI 0 aLk λK hK=>?_|((first|apply aD|refine aA (aO ?_)|apply aA);simp(disch:=apply aB;omega)only[go_sem,Tryz.results78])|(apply hK.nil;clear hK K;simp only[go_sem])|((first|refine aF rfl ?_ ?_)<;>intro h<;>try simp(disch:=apply aB;omega)only[go_sem] at h)|(with_reducible refine And.intro (by first|omega|(simp only[lens];omega)) ?_)|fail
  exact mU rfl (by simp)
def aIc:List (Nat×List Nat):=[(0,[0]),(1,[3]),(2,[3,8,9,10]),(3,[3,8,9,10,11]),(4,[3,4,5,8,9,10]),(5,[3,4,5,8,9,10,16]),(6,[3,8,9,10]),(7,[3,8,9,10]),(8,[2])]
attribute [go_sem] aIc
theorem aVx(t:List Int)(h1:1≤t.length/\t.length≤1000)(ht:∀x∈t,-24≤x):FC S 118 [] [] [] [.sl .any (t.map (.int .i64))] (.sl .any ((nI t).map (.int .i64))) [] []:=by
 have hne:t≠[]:=by rintro rfl;simp at h1
 refine aP Tryz.func118 rfl (by kernel_rfl) (by simp[Tryz.f118]) λB=>?_
 simp only[Tryz.ntmps118,aS,aZ,Nat.reduceAdd]
 repeat' first|apply aE|apply aG|refine aI 0 aIc λK hK=>?_|((first|apply aD|refine aA (aO ?_)|apply aA);simp(disch:=apply aB;omega)only[go_sem,Tryz.results118])|(apply hK.nil;clear hK K;simp only[go_sem])|(refine hK.callT rfl rfl rfl (aHy .any t (by omega)) ⟨⟨by simp only[Nat.reduceLT],by simp,by simp[Lg.look]⟩,by assumption⟩ ?_;simp(disch:=apply aB;omega)only[go_sem])|fail
 refine bG (ι:=Nat) (λi=>[(10,.int .i64 i)]) (λi=>[(7,(uY awF t i).map (.int .i64))]) (λ_=>[]) (λi=>i≤t.length) (λi=>t.length-i) 0 (by rw[aWY];(refine aC rfl rfl ?_ ?_ ?_ ?_<;>simp(disch:=apply aB;omega)only[go_sem]<;>(try omega));all_goals first|rfl|exact⟨rfl,rfl⟩|trace_state) (by omega) (λi hi=>?_)
 simp only[go_sem]
 have hpl:=aIW awF t i
 have hpg:=@aKp awF t i
 have hpn:=@aFh awF t i
 have hps:=@aQc awF t i
 by_cases hil:i<t.length
 ·have hpg:=hpg hil
  have hx:=ht _ (bA t i hil)
  by_cases hv:t.getD i default<0
  ·have hf:awF (t.getD i default)=t.getD i default-24:=if_pos hv
   repeat' first|((exfalso;omega))|apply aE|apply aG|apply aM|apply aJ|refine aI 0 aIc λK hK=>?_|((first|apply aD|refine aA (aO ?_)|apply aA);simp(disch:=apply aB;omega)only[go_sem,Tryz.results118])|(apply hK.nil;clear hK K;simp only[go_sem])|((first|refine aF rfl ?_ ?_)<;>intro h<;>try simp(disch:=apply aB;omega)only[go_sem] at h)|apply aL|(with_reducible refine And.intro (by first|omega|(simp only[lens];omega)) ?_)|fail
   all_goals exact⟨i+1,(by rw[hpn hil,hf,←hpg];(refine aC rfl rfl ?_ ?_ ?_ ?_<;>simp(disch:=apply aB;omega)only[go_sem]<;>(try omega));all_goals first|rfl|exact⟨rfl,by omega⟩|omega|trace_state),by omega,by omega⟩
  ·have hf:awF (t.getD i default)=t.getD i default:=if_neg hv
   repeat' first|((exfalso;omega))|apply aE|apply aG|apply aM|apply aJ|refine aI 0 aIc λK hK=>?_|((first|apply aD|refine aA (aO ?_)|apply aA);simp(disch:=apply aB;omega)only[go_sem,Tryz.results118])|(apply hK.nil;clear hK K;simp only[go_sem])|((first|refine aF rfl ?_ ?_)<;>intro h<;>try simp(disch:=apply aB;omega)only[go_sem] at h)|apply aL|(with_reducible refine And.intro (by first|omega|(simp only[lens];omega)) ?_)|fail
   all_goals exact⟨i+1,(by rw[hps hil hf];(refine aC rfl rfl ?_ ?_ ?_ ?_<;>simp(disch:=apply aB;omega)only[go_sem]<;>(try omega));all_goals first|rfl|exact⟨rfl,by omega⟩|omega|trace_state),by omega,by omega⟩
 ·repeat' first|((exfalso;omega))|((refine aHs 8 3 1 .any ((uY awF t i).map (.int .i64)) rfl rfl (cB _).symm (by rw[zC,hpl]) (eZ λ_=>rfl) (dU _) (.inl rfl) ?_;simp only[go_sem]))|apply aE|refine aI 0 aIc λK hK=>?_|((first|apply aD|refine aA (aO ?_)|apply aA);simp(disch:=apply aB;omega)only[go_sem,Tryz.results118])|(apply hK.nil;clear hK K;simp only[go_sem])|((first|refine aF rfl ?_ ?_)<;>intro h<;>try simp(disch:=apply aB;omega)only[go_sem] at h)|refine aT rfl ?_|fail
  all_goals (rw[show i=t.length by omega,aSW];rfl)
end
section
theorem aUx{rs t:List Int}(h:aX rs t):bI t=t:=by
 unfold bI
 conv=>rhs;rw[←List.map_id t]
 exact List.map_congr_left λx hx=>by have:=h.ge x hx;unfold phi;rw[if_neg (by omega)];rfl
theorem XT.of{rs t:List Int}(h:aX rs t):XT rs t:=⟨by rw[aUx h];exact h,λx hx=>by have:=h.ge x hx;omega⟩
theorem aXL{n:Int}(h:-24≤n):phi (awF n)=n:=by unfold phi awF;split<;>split<;>omega
theorem aPH{rs t:List Int}(h:aX rs t):bI (nI t)=t:=by
 unfold bI nI
 rw[List.map_map]
 conv=>rhs;rw[←List.map_id t]
 exact List.map_congr_left λx hx=>aXL (h.ge x hx)
theorem XT.away{rs t:List Int}(h:aX rs t):XT rs (nI t):=⟨by rw[aPH h];exact h,λx hx=>by
 obtain⟨y,hy,rfl⟩:=zJ.1 hx
 have:=h.ge y hy
 unfold awF;split<;>omega⟩
def b0:Bds:=List.replicate 48 []
theorem aW5(i:Nat):b0.getD i default=[]:=by
 unfold b0
 rw[zD,List.getElem?_replicate]
 split<;>rfl
theorem aKu(rs:List Int):BOK rs b0:=⟨by simp[b0],λx hx=>.inl (List.eq_of_mem_replicate hx)⟩
def ap(σ:Int->List Int)(t:List Int):List Int:=t.flatMap λx=>if x<0 then σ x else [x]
theorem aXE(σ:Int->List Int):ap σ []=[]:=rfl
theorem pS(σ:Int->List Int)(x:Int)(t:List Int):ap σ (x::t)=(if x<0 then σ x else [x])++ap σ t:=rfl
theorem aDS(σ:Int->List Int):∀xs:List (List Int),ap σ xs.flatten=(xs.map (ap σ)).flatten
 | []=>rfl
 | x::xs=>by
  have:=aDS σ xs
  simp only[ap,List.flatten_cons,List.flatMap_append,List.map_cons] at this ⊢
  rw[this]
def GS(rs:List Int)(σ:Int->List Int):Prop:=∀x,x<0->Fl rs 1 (σ x)
def Sat(σ:Int->List Int)(β:Bds):Prop:=∀i:Nat,β.getD i default≠[]->σ (-1-(i:Int))=ap σ (β.getD i default)
theorem aOx{x:Int}(h:x<0)(h8:-48≤x):-24≤phi x/\phi x≤-1:=by unfold phi;split<;>omega
theorem aK3{rs:List Int}{σ:Int->List Int}(hσ:GS rs σ):∀(t:List Int) (k:Nat),Fl rs k (bI t)->(∀x∈t,-48≤x)->Fl rs k (ap σ t)
 | [],k,h,_=>h
 | x::t,k,h,h8=>by
  have e:bI (x::t)=phi x::bI t:=rfl
  rw[e] at h
  cases h with
  | @cons _ k' _ h0 r =>
   have hx8:=h8 x zH
   have ht8:∀y∈t,-48≤y:=λy hy=>h8 y (zG _ hy)
   rw[pS]
   by_cases hx:x<0
   ·rw[if_pos hx]
    rw[iX (aOx hx hx8)] at r
    have:=(hσ x hx).app (aK3 hσ t _ r ht8)
    rwa [Int.toNat_zero,Nat.add_zero,Nat.add_comm] at this
   ·rw[if_neg hx]
    rw[aBK (by omega)] at h0 r
    exact .cons h0 (aK3 hσ t _ r ht8)
theorem aNX{rs:List Int}{σ:Int->List Int}(hσ:GS rs σ){t:List Int}(h:XT rs t):Fl rs 1 (ap σ t):=aK3 hσ t 1 (sL h.1) h.2
theorem aMx{rs:List Int}{σ:Int->List Int}(hσ:GS rs σ){t:List Int}(h:XT rs t):1≤(ap σ t).length:=(aNX hσ h).len
theorem aGK{rs t:List Int}(h:XT rs t):∃l,t=hd t::l/\0≤arS rs (phi (hd t))/\Fl rs (arS rs (phi (hd t))).toNat (bI l):=by
 have hl:=h.len
 cases t with
 | nil=>simp at hl
 | cons x l =>
  refine⟨l,rfl,?_⟩
  have h1:=sL h.1
  have e:bI (x::l)=phi x::bI l:=rfl
  rw[e] at h1
  cases h1 with
  | @cons _ k' _ h0 r =>
   rw[Nat.zero_add] at r
   exact⟨h0,r⟩
theorem m9{rs t:List Int}(h:XT rs t)(hn:hd t<0):t=[hd t]:=by
 obtain⟨l,e,h0,h1⟩:=aGK h
 have h8:=(h.get (a:=0) (by have:=h.len;omega)).1
 rw[iX (aOx hn h8)] at h1
 have h2:=h1.zero
 have h3:l=[]:=by
  cases l with
  | nil=>rfl
  | cons y l=>simp[bI] at h2
 rw[h3] at e
 exact e
theorem aCH{σ:Int->List Int}{x:Int}(h:x<0):ap σ [x]=σ x:=by
 rw[pS,if_pos h,aXE,List.append_nil]
def f0(rs a:List Int):List (List Int):=(List.range (dD rs (bI a) 0).length).map λk=>oZ rs a ((dD rs (bI a) 0).getD k default)
theorem aCp{rs t:List Int}(h:XT rs t):t=hd t::(f0 rs t).flatten:=by
  have h1:=aTK h _ (zQ _)
  obtain⟨l,e,h0,h2⟩:=aGK h
  have hl:=h.len
  have e0:bI t=[phi (hd t)]++(bI l++[]):=by
    have:bI t=bI (hd t::l):=congrArg bI e
    rw[this];simp[bI]
  have hn:(dD rs (bI t) 0).length=(arS rs (phi (hd t))).toNat:=by
    unfold dD
    rw[eM,lB t 0 (by omega)]
    rfl
  obtain⟨l1,l2,e1,h3,h4,h5⟩:=Fl.cut [phi (hd t)] [] _ _ _ h2 (zQ _)
  rw[Nat.sub_self] at h4
  have e2:=h4.zero
  rw[e2,List.append_nil] at e1
  have h6:dQ rs (bI t) 1 (dD rs (bI t) 0).length=t.length:=by
    rw[hn,e0]
    have h5':=h5
    simp only[List.length_cons,List.length_nil,Nat.zero_add] at h5'
    rw[h5',←e1,←eJ t,e0]
    simp
  rw[h6,List.drop_length,List.append_nil] at h1
  have e3:t=hd t::t.drop 1:=by
    conv=>lhs;rw[e]
    rw [show t.drop 1 = l by conv => lhs; rw [e]
                             rfl]
  conv=>lhs;rw[e3,h1]
  rfl
theorem l4{rs a:List Int}(h:XT rs a):∀x∈f0 rs a,XT rs x:=λx hx=>by
 simp only[f0,zJ,List.mem_range] at hx
 obtain⟨k,hk,rfl⟩:=hx
 exact pT h (iK h hk)
theorem aBm{rs:List Int}:∀(xs ys:List (List Int)),xs.length=ys.length->(∀x∈xs,Fl rs 1 x)->(∀y∈ys,Fl rs 1 y)->xs.flatten=ys.flatten->xs=ys
 | [],[],_,_,_,_=>rfl
 | x::xs,y::ys,hl,hx,hy,e=>by
  obtain⟨e1,e2⟩:=(hx x zH).uniq (hy y zH) e
  rw[e1,aBm xs ys (by simpa using hl) (λz hz=>hx z (zG _ hz)) (λz hz=>hy z (zG _ hz)) e2]
 | [],_::_,hl,_,_,_=>by simp at hl
 | _::_,[],hl,_,_,_=>by simp at hl
theorem pF{rs:List Int}{σ:Int->List Int}{t:List Int}(h:XT rs t)(h0:0≤hd t):ap σ t=hd t::((f0 rs t).map (ap σ)).flatten:=by
 conv=>lhs;rw[aCp h]
 rw[pS,if_neg (by omega),aDS]
 rfl
theorem xF{α β:Type}(f:α->β):∀ps:List (α×α),(ps.map (·.1)).map f=(ps.map (·.2)).map f↔∀p∈ps,f p.1=f p.2
 | []=>by simp
 | p::ps=>by
  simp only[List.map_cons,List.cons.injEq,zO,forall_eq_or_imp,xF f ps]
theorem lY(rs a b:List Int):(dS rs a b).map (·.1)=f0 rs a:=aRG rs a b
theorem tG{rs a b:List Int}(hA:XT rs a)(hB:XT rs b)(he:hd a=hd b):(dS rs a b).map (·.2)=f0 rs b:=by
 rw[aR9,←sG hA hB he];rfl
theorem aNC{rs a b:List Int}{σ:Int->List Int}(hσ:GS rs σ)(hA:XT rs a)(hB:XT rs b)(he:hd a=hd b)(h0:0≤hd a):ap σ a=ap σ b↔∀p∈dS rs a b,ap σ p.1=ap σ p.2:=by
 rw[←xF (ap σ),lY,tG hA hB he,pF hA h0,pF hB (by omega),he]
 constructor
 ·intro e
  have e:=(List.cons.inj e).2
  refine aBm (rs:=rs) _ _ ?_ ?_ ?_ e
  ·rw[zC,zC,←lY rs a b,←tG hA hB he,zC,zC]
  ·intro x hx
   obtain⟨y,hy,rfl⟩:=zJ.1 hx
   exact aNX hσ (l4 hA y hy)
  ·intro x hx
   obtain⟨y,hy,rfl⟩:=zJ.1 hx
   exact aNX hσ (l4 hB y hy)
 ·intro e;rw[e]
theorem aFq{rs a:List Int}{σ:Int->List Int}(hA:XT rs a)(h0:0≤hd a):(((f0 rs a).map (ap σ)).map List.length).sum+1=(ap σ a).length:=by
 rw[pF hA h0,List.length_cons,List.length_flatten]
def Edge(β:Bds)(i j:Nat):Prop:=∃x∈β.getD i default,x<0/\vIx x=j
inductive Rch (β:Bds):Nat->Nat->Prop
 | refl (i:Nat):Rch β i i
 | step {i j k:Nat} (h:Edge β i j) (r:Rch β j k):Rch β i k
theorem Rch.trans{β:Bds}{i j k:Nat}(h:Rch β i j)(h':Rch β j k):Rch β i k:=by
 induction h with
 | refl=>exact h'
 | step e _ ih=>exact .step e (ih h')
def Acy(β:Bds):Prop:=∀i j,Edge β i j->¬Rch β j i
theorem aE3{p q:Nat->Bool}(h:∀x,p x=true->q x=true):∀l:List Nat,(∃x∈l,q x=true/\p x=false)->(l.filter p).length<(l.filter q).length
 | [],⟨x,hx,_⟩=>by cases hx
 | y::l,⟨x,hx,h1,h2⟩=>by
  have hle:∀l:List Nat,(l.filter p).length≤(l.filter q).length:=λl=>by
   induction l with
   | nil=>exact zQ _
   | cons z l ih =>
    by_cases hz:p z=true
    ·rw[List.filter_cons_of_pos hz,List.filter_cons_of_pos (h z hz),List.length_cons,List.length_cons];omega
    ·rw[List.filter_cons_of_neg hz]
     by_cases hz':q z=true
     ·rw[List.filter_cons_of_pos hz',List.length_cons];omega
     ·rw[List.filter_cons_of_neg hz'];exact ih
  rcases zO.1 hx with rfl|hx
  ·rw[List.filter_cons_of_pos h1,List.filter_cons_of_neg (by rw[h2];simp),List.length_cons]
   have:=hle l;omega
  ·have ih:=aE3 h l ⟨x,hx,h1,h2⟩
   by_cases hz:p y=true
   ·rw[List.filter_cons_of_pos hz,List.filter_cons_of_pos (h y hz),List.length_cons,List.length_cons];omega
   ·rw[List.filter_cons_of_neg hz]
    by_cases hz':q y=true
    ·rw[List.filter_cons_of_pos hz',List.length_cons];omega
    ·rw[List.filter_cons_of_neg hz'];exact ih
theorem aVr{rs:List Int}{β:Bds}(hβ:BOK rs β){i j:Nat}(h:Edge β i j):i<48:=by
 obtain⟨x,hx,_⟩:=h
 by_cases hl:i<β.length
 ·rw[←hβ.1];exact hl
 ·rw[zD,List.getElem?_eq_none (by omega)] at hx
  cases hx
theorem sD{rs:List Int}{β:Bds}(hβ:BOK rs β)(hA:Acy β):∃r:Nat->Nat,(∀i j,Edge β i j->r j<r i)/\∀i,r i≤48:=by
 classical
 refine⟨λi=>((List.range 48).filter λk=>decide (Rch β i k)).length,λi j he=>?_,λi=>?_⟩
 ·refine aE3 (λk hk=>?_) _ ⟨i,List.mem_range.2 (aVr hβ he),?_,?_⟩
  ·exact decide_eq_true (.step he (of_decide_eq_true hk))
  ·exact decide_eq_true (.refl i)
  ·exact decide_eq_false (hA i j he)
 ·exact Nat.le_trans (List.length_filter_le _ _) (by simp)
def itS(β:Bds):Nat->Int->List Int
 | 0,_=>[-1]
 | n+1,x=>if β.getD (vIx x) default=[] then [-1] else ap (itS β n) (β.getD (vIx x) default)
theorem aUi(rs:List Int):Fl rs 1 [-1]:=.cons (by rw[iX (by omega)];omega) (by rw[iX (by omega)];exact .nil)
theorem aTk{rs:List Int}{β:Bds}(hβ:BOK rs β):∀n,GS rs (itS β n)
 | 0=>λx _=>aUi rs
 | n+1=>λx hx=>by
  unfold itS
  split
  ·exact aUi rs
  ·rename_i h
   exact aNX (aTk hβ n) (hβ.get h)
theorem aIP{σ τ:Int->List Int}:∀ {t:List Int},(∀x∈t,x<0->σ x=τ x)->ap σ t=ap τ t
 | [],_=>rfl
 | x::t,h=>by
  rw[pS,pS,aIP λy hy=>h y (zG _ hy)]
  by_cases hx:x<0
  ·rw[if_pos hx,if_pos hx,h x zH hx]
  ·rw[if_neg hx,if_neg hx]
theorem aMT{rs:List Int}{β:Bds}(hβ:BOK rs β)(hA:Acy β):∃σ,GS rs σ/\Sat σ β:=by
 obtain⟨r,hr,h48⟩:=sD hβ hA
 have st:∀n x,x<0->r (vIx x)<n->itS β n x=itS β (n+1) x:=by
  intro n
  induction n with
  | zero=>intro x _ h;omega
  | succ n ih =>
   intro x hx h
   show (if β.getD (vIx x) default=[] then [-1] else ap (itS β n) (β.getD (vIx x) default))=if β.getD (vIx x) default=[] then [-1] else ap (itS β (n+1)) (β.getD (vIx x) default)
   split
   ·rfl
   ·exact aIP λy hy h0=>ih y h0 (by have:=hr (vIx x) (vIx y) ⟨y,hy,h0,rfl⟩;omega)
 refine⟨itS β 49,aTk hβ 49,λi hi=>?_⟩
 have hv:vIx (-1-(i:Int))=i:=by unfold vIx;omega
 rw[st 49 _ (by omega) (by rw[hv];have:=h48 i;omega)]
 show (if β.getD (vIx (-1-(i:Int))) default=[] then [-1] else ap (itS β 49) (β.getD (vIx (-1-(i:Int))) default))=_
 rw[hv,if_neg hi]
theorem aWJ{σ:Int->List Int}{β:Bds}(h:Sat σ β){x:Int}(hx:x<0)(hb:β.getD (vIx x) default≠[]):σ x=ap σ (β.getD (vIx x) default):=by
 have:=h (vIx x) hb
 rwa [show -1-((vIx x:Nat):Int)=x by unfold vIx;omega] at this
theorem wO{rs:List Int}{β:Bds}(hβ:BOK rs β){r:Nat->Nat}(hr:∀i j,Edge β i j->r j<r i):∀(g:Nat) (t:List Int),XT rs t->(hd t<0->r (vIx (hd t))<g)->∃u,dG β (g+1) t=some u/\XT rs u/\(hd u<0->β.getD (vIx (hd u)) default=[])/\(∀σ,Sat σ β->ap σ u=ap σ t)/\∀i,(∃x∈u,x<0/\Rch β (vIx x) i)->∃x∈t,x<0/\Rch β (vIx x) i
 | g,t,hT,hg=>by
  by_cases hc:hd t<0/\β.getD (vIx (hd t)) default≠[]
  ·obtain⟨g',rfl⟩:∃g',g=g'+1:=⟨g-1,by have:=hg hc.1;omega⟩
   have hb:=hβ.get hc.2
   have hlb:=hb.len
   have hmem:hd (β.getD (vIx (hd t)) default)∈β.getD (vIx (hd t)) default:=bA _ 0 (by omega)
   obtain⟨u,h1,h2,h3,h4,h5⟩:=wO hβ hr g' _ hb (λh0=>by
    have:=hr (vIx (hd t)) _ ⟨_,hmem,h0,rfl⟩
    have:=hg hc.1
    omega)
   have ht:t=[hd t]:=m9 hT hc.1
   refine⟨u,?_,h2,h3,λσ hs=>?_,λi hi=>?_⟩
   ·rw[dG];exact(if_pos hc).trans h1
   ·rw[h4 σ hs,←aWJ hs hc.1 hc.2,←aCH (σ:=σ) hc.1,←ht]
   ·obtain⟨x,hx,h0,hxr⟩:=h5 i hi
    exact⟨hd t,by rw[ht];exact zN.2 (by simp[hd]),hc.1,.step ⟨x,hx,h0,rfl⟩ hxr⟩
  ·refine⟨t,?_,hT,λh0=>?_,λ_ _=>rfl,λi h=>h⟩
   ·rw[dG];exact if_neg hc
   ·exact Classical.byContradiction λhn=>hc ⟨h0,hn⟩
def Sn(s:List Bool)(k:Nat):Prop:=s.getD k default=true
theorem aHi{s:List Bool}{i k:Nat}(hi:i<s.length):Sn (s.set i true) k↔i=k∨Sn s k:=by
 unfold Sn
 by_cases e:i=k
 ·subst e
  simp[zD,hi]
 ·simp only[zD,List.getElem?_set_ne e]
  simp[e]
def aOy(β:Bds)(n:Int)(t:List Int)(s:List Bool)(q:Bool×List Bool):Prop :=
 q.2.length=48/\(q.1=true->∃x∈t,x<0/\Rch β (vIx x) (vIx n))/\(q.1=false->(∀k,Sn s k->Sn q.2 k)/\(∀x∈t,x<0->x≠n/\Sn q.2 (vIx x))/\∀k,Sn q.2 k->¬Sn s k->∀y∈β.getD k default,y<0->y≠n/\Sn q.2 (vIx y))
theorem aBT{x:Int}(h:-48≤x)(h0:x<0):vIx x<48:=by unfold vIx;omega
theorem x4{β:Bds}{n:Int}(hn:n<0){rec:List Int->List Bool->Option (Bool×List Bool)}:∀(t:List Int) (s:List Bool),(∀x∈t,x<0->β.getD (vIx x) default≠[]->∀s:List Bool,s.length=48->∃q,rec (β.getD (vIx x) default) s=some q/\aOy β n (β.getD (vIx x) default) s q)->(∀x∈t,-48≤x)->s.length=48->∃q,aDM β n rec t s=some q/\aOy β n t s q
 | [],s,_,_,hl=>⟨(false,s),rfl,hl,λh=>(by cases h),λ_=>⟨λ_ h=>h,λx hx=>(by cases hx),λk h1 h2=>absurd h1 h2⟩⟩
 | m::r,s,hrec,h8,hl=>by
  have hrec':∀x∈r,x<0->β.getD (vIx x) default≠[]->∀s:List Bool,s.length=48->∃q,rec (β.getD (vIx x) default) s=some q/\aOy β n (β.getD (vIx x) default) s q:=λx hx=>hrec x (zG _ hx)
  have h8':∀x∈r,-48≤x:=λx hx=>h8 x (zG _ hx)
  have hm8:=h8 m zH
  unfold aDM
  by_cases e:m=n
  ·rw[if_pos e]
   exact⟨_,rfl,hl,λ_=>⟨m,zH,by omega,by rw[e];exact .refl _⟩,λh=>by cases h⟩
  rw[if_neg e]
  by_cases h0:0≤m∨s.getD (vIx m) default=true
  ·rw[if_pos h0]
   obtain⟨q,h1,h2,h3,h4⟩:=x4 hn r s hrec' h8' hl
   refine⟨q,h1,h2,λh=>?_,λh=>?_⟩
   ·obtain⟨x,hx,hx0,hr⟩:=h3 h
    exact⟨x,zG _ hx,hx0,hr⟩
   ·obtain⟨k1,k2,k3⟩:=h4 h
    refine⟨k1,λx hx hx0=>?_,k3⟩
    rcases zO.1 hx with rfl|hx
    ·exact⟨e,k1 _ (h0.resolve_left (by omega))⟩
    ·exact k2 x hx hx0
  rw[if_neg h0]
  have hm0:m<0:=by omega
  have hns:¬Sn s (vIx m):=λh=>h0 (.inr h)
  have hlt:=aBT hm8 hm0
  have hset:=@aHi s (vIx m)
  by_cases hb:β.getD (vIx m) default=[]
  ·rw[if_pos hb]
   obtain⟨q,h1,h2,h3,h4⟩:=x4 hn r (s.set (vIx m) true) hrec' h8' (by rw[List.length_set];exact hl)
   refine⟨q,h1,h2,λh=>?_,λh=>?_⟩
   ·obtain⟨x,hx,hx0,hr⟩:=h3 h
    exact⟨x,zG _ hx,hx0,hr⟩
   ·obtain⟨k1,k2,k3⟩:=h4 h
    refine⟨λk hk=>k1 k ((hset (by omega)).2 (.inr hk)),λx hx hx0=>?_,λk hk hk' y hy hy0=>?_⟩
    ·rcases zO.1 hx with rfl|hx
     ·exact⟨e,k1 _ ((hset (by omega)).2 (.inl rfl))⟩
     ·exact k2 x hx hx0
    ·by_cases ek:vIx m=k
     ·subst ek;rw[hb] at hy;cases hy
     ·exact k3 k hk (λh=>hk' (((hset (by omega)).1 h).resolve_left ek)) y hy hy0
  rw[if_neg hb]
  obtain⟨q1,g1,g2,g3,g4⟩:=hrec m zH hm0 hb (s.set (vIx m) true) (by rw[List.length_set];exact hl)
  rw[g1]
  obtain⟨b1,s2⟩:=q1
  cases b1 with
  | true =>
   obtain⟨y,hy,hy0,hr⟩:=g3 rfl
   exact⟨_,rfl,g2,λ_=>⟨m,zH,hm0,.step ⟨y,hy,hy0,rfl⟩ hr⟩,λh=>by cases h⟩
  | false =>
   obtain⟨a1,a2,a3⟩:=g4 rfl
   obtain⟨q,h1,h2,h3,h4⟩:=x4 hn r s2 hrec' h8' g2
   refine⟨q,h1,h2,λh=>?_,λh=>?_⟩
   ·obtain⟨x,hx,hx0,hr⟩:=h3 h
    exact⟨x,zG _ hx,hx0,hr⟩
   ·obtain⟨k1,k2,k3⟩:=h4 h
    refine⟨λk hk=>k1 k (a1 k ((hset (by omega)).2 (.inr hk))),λx hx hx0=>?_,λk hk hk' y hy hy0=>?_⟩
    ·rcases zO.1 hx with rfl|hx
     ·exact⟨e,k1 _ (a1 _ ((hset (by omega)).2 (.inl rfl)))⟩
     ·exact k2 x hx hx0
    ·by_cases h5:Sn s2 k
     ·by_cases ek:vIx m=k
      ·subst ek
       have:=a2 y hy hy0
       exact⟨this.1,k1 _ this.2⟩
      ·have:=a3 k h5 (λh=>hk' (((hset (by omega)).1 h).resolve_left ek)) y hy hy0
       exact⟨this.1,k1 _ this.2⟩
     ·exact k3 k hk h5 y hy hy0
theorem aHX{rs:List Int}{β:Bds}(hβ:BOK rs β){n:Int}(hn:n<0){r:Nat->Nat}(hr:∀i j,Edge β i j->r j<r i):∀(f:Nat) (t:List Int) (s:List Bool),(∀x∈t,x<0->β.getD (vIx x) default≠[]->r (vIx x)<f)->(∀x∈t,-48≤x)->s.length=48->∃q,tX β n (f+1) t s=some q/\aOy β n t s q
 | f,t,s,hf,h8,hl=>by
  refine x4 hn t s (λx hx h0 hb s hs=>?_) h8 hl
  have:=hf x hx h0 hb
  obtain⟨f',rfl⟩:∃f',f=f'+1:=⟨f-1,by omega⟩
  exact aHX hβ hn hr f' _ s (λy hy hy0 _=>by have:=hr (vIx x) (vIx y) ⟨y,hy,hy0,rfl⟩;omega) (hβ.get hb).2 hs
def lI(β:Bds)(n:Int)(t:List Int):Prop:=∃x∈t,x<0/\Rch β (vIx x) (vIx n)
theorem aSB{rs:List Int}{β:Bds}(hβ:BOK rs β)(hA:Acy β){n:Int}(hn:n<0){t:List Int}(hT:∀x∈t,-48≤x):∃q,tX β n 60 t (List.replicate 48 false)=some q/\(q.1=true↔lI β n t):=by
 obtain⟨r,hr,h48⟩:=sD hβ hA
 obtain⟨q,h1,h2,h3,h4⟩:=aHX hβ hn hr 59 t (List.replicate 48 false) (λx _ _ _=>by have:=h48 (vIx x);omega) hT (by simp)
 refine⟨q,h1,h3,λ⟨x,hx,hx0,hrc⟩=>?_⟩
 cases hq:q.1 with
 | true=>rfl
 | false =>
  exfalso
  obtain⟨k1,k2,k3⟩:=h4 hq
  have hno:∀k,¬Sn (List.replicate 48 false) k:=λk hk=>by
   unfold Sn at hk
   rw[zD,List.getElem?_replicate] at hk
   split at hk<;>cases hk
  have key:∀i j,Rch β i j->Sn q.2 i->i≠vIx n->j≠vIx n:=by
   intro i j h
   induction h with
   | refl i=>exact λ_ h=>h
   | step he _ ih =>
    intro hs _
    obtain⟨y,hy,hy0,rfl⟩:=he
    have:=k3 _ hs (hno _) y hy hy0
    exact ih this.2 λe=>this.1 (tU hy0 hn e)
  have:=k2 x hx hx0
  exact key _ _ hrc this.2 (λe=>this.1 (tU hx0 hn e)) rfl
def cnt(β:Bds):Nat:=(β.filter λx=>x.isEmpty).length
theorem aHx:∀(β:Bds) (i:Nat) (y:List Int),i<β.length->β.getD i default=[]->y≠[]->cnt (β.set i y)+1=cnt β
 | [],i,y,h,_,_=>by simp at h
 | x::β,0,y,_,h,hy=>by
  have:x=[]:=h
  subst this
  cases y with
  | nil=>exact absurd rfl hy
  | cons a b=>simp[cnt]
 | x::β,i+1,y,h,h1,hy=>by
  have:=aHx β i y (by simpa using h) h1 hy
  simp only[cnt,List.set_cons_succ,List.filter_cons] at this ⊢
  split<;>simp_all<;>omega
theorem rB{β:Bds}{i:Nat}(hi:i<β.length)(y:List Int)(k:Nat):(β.set i y).getD k default=if i=k then y else β.getD k default:=by
 by_cases e:i=k
 ·subst e;simp[zD,hi]
 ·simp only[zD,List.getElem?_set_ne e,if_neg e]
theorem aVV{β:Bds}{i:Nat}(hi:i<β.length)(hb:β.getD i default=[]){y:List Int}{a b:Nat}(h:Rch (β.set i y) a b):Rch β a b∨(Rch β a i/\∃z∈y,z<0/\Rch β (vIx z) b):=by
 induction h with
 | refl a=>exact .inl (.refl a)
 | @step a c b he hr ih =>
  obtain⟨x,hx,hx0,rfl⟩:=he
  rw[rB hi] at hx
  by_cases e:i=a
  ·subst e
   rw[if_pos rfl] at hx
   rcases ih with ih|⟨ih,hz⟩
   ·exact .inr ⟨.refl _,x,hx,hx0,ih⟩
   ·exact .inr ⟨.refl _,hz⟩
  ·rw[if_neg e] at hx
   have he:Edge β a (vIx x):=⟨x,hx,hx0,rfl⟩
   rcases ih with ih|⟨ih,hz⟩
   ·exact .inl (.step he ih)
   ·exact .inr ⟨.step he ih,hz⟩
theorem aJ8{β:Bds}(hA:Acy β){x:Int}(hi:vIx x<β.length)(hb:β.getD (vIx x) default=[]){y:List Int}(ho:¬lI β x y):Acy (β.set (vIx x) y):=by
 intro i j he hr
 have hr:=aVV hi hb hr
 obtain⟨z,hz,hz0,rfl⟩:=he
 rw[rB hi] at hz
 by_cases e:vIx x=i
 ·subst e
  rw[if_pos rfl] at hz
  rcases hr with hr|⟨hr,_⟩
  ·exact ho ⟨z,hz,hz0,hr⟩
  ·exact ho ⟨z,hz,hz0,hr⟩
 ·rw[if_neg e] at hz
  have he:Edge β i (vIx z):=⟨z,hz,hz0,rfl⟩
  rcases hr with hr|⟨hr,w,hw,hw0,hr2⟩
  ·exact hA _ _ he hr
  ·exact ho ⟨w,hw,hw0,hr2.trans (.step he hr)⟩
theorem aJw{β:Bds}{x:Int}(hx:x<0)(hi:vIx x<β.length)(hb:β.getD (vIx x) default=[]){y:List Int}(hy:y≠[])(σ:Int->List Int):Sat σ (β.set (vIx x) y)↔Sat σ β/\σ x=ap σ y:=by
 have hv:-1-((vIx x:Nat):Int)=x:=by unfold vIx;omega
 constructor
 ·intro h
  constructor
  ·intro i hne
   have:=h i
   rw[rB hi] at this
   by_cases e:vIx x=i
   ·subst e;exact absurd hb hne
   ·rw[if_neg e] at this;exact this hne
  ·have:=h (vIx x)
   rw[rB hi,if_pos rfl,hv] at this
   exact this hy
 ·intro ⟨h1,h2⟩ i hne
  rw[rB hi] at hne ⊢
  by_cases e:vIx x=i
  ·subst e;rw[if_pos rfl,hv];exact h2
  ·rw[if_neg e] at hne ⊢;exact h1 i hne
theorem aNf{σ:Int->List Int}{z:Int}(hz:z<0):∀ {t:List Int},z∈t->(σ z).length≤(ap σ t).length
 | x::t,h=>by
  rw[pS,zK]
  rcases zO.1 h with rfl|h
  ·rw[if_pos hz];omega
  ·have:=aNf (σ:=σ) hz h;omega
theorem aS3{β:Bds}{σ:Int->List Int}(hs:Sat σ β){i j:Nat}(h:Rch β i j):(σ (-1-(j:Int))).length≤(σ (-1-(i:Int))).length:=by
 induction h with
 | refl=>exact zQ _
 | @step i j k he _ ih =>
  obtain⟨z,hz,hz0,rfl⟩:=he
  have hne:β.getD i default≠[]:=λe=>by rw[e] at hz;cases hz
  rw[hs i hne]
  have:=aNf (σ:=σ) hz0 hz
  rw[show -1-((vIx z:Nat):Int)=z by unfold vIx;omega] at ih
  omega
theorem aJ6{rs:List Int}{β:Bds}{x:Int}(hx:x<0){y:List Int}(hY:XT rs y)(h0:0≤hd y)(ho:lI β x y)(σ:Int->List Int)(hs:Sat σ β):σ x≠ap σ y:=by
 intro e
 obtain⟨z,hz,hz0,hr⟩:=ho
 have h1:=aS3 hs hr
 rw[show -1-((vIx z:Nat):Int)=z by unfold vIx;omega,show -1-((vIx x:Nat):Int)=x by unfold vIx;omega] at h1
 obtain⟨l,el,_⟩:=aGK hY
 have hzl:z∈l:=by
  rw[el] at hz
  rcases zO.1 hz with h|h
  ·omega
  ·exact h
 have h2:=aNf (σ:=σ) hz0 hzl
 have h3:(ap σ y).length=(ap σ l).length+1:=by
  conv=>lhs;rw[el]
  rw[pS,if_neg (by omega)]
  simp only[zK,List.length_singleton];omega
 rw[e] at h1
 omega
def Good(rs:List Int)(β:Bds)(P:(Int->List Int)->Prop):Option Bds->Prop
 | none=>∀σ,GS rs σ->Sat σ β->¬P σ
 | some β'=>BOK rs β'/\Acy β'/\(β'=β∨cnt β'<cnt β)/\∀σ,GS rs σ->(Sat σ β'↔Sat σ β/\P σ)
theorem Good.congr{rs:List Int}{β:Bds}{P Q:(Int->List Int)->Prop}{r:Option Bds}(h:Good rs β P r)(he:∀σ,GS rs σ->Sat σ β->(P σ↔Q σ)):Good rs β Q r:=by
 cases r with
 | none=>exact λσ h1 h2 h3=>h σ h1 h2 ((he σ h1 h2).2 h3)
 | some β' =>
  obtain⟨h1,h2,h3,h4⟩:=h
  exact⟨h1,h2,h3,λσ hσ=>(h4 σ hσ).trans ⟨λ⟨a,b⟩=>⟨a,(he σ hσ a).1 b⟩,λ⟨a,b⟩=>⟨a,(he σ hσ a).2 b⟩⟩⟩
theorem aFL{rs:List Int}{β:Bds}(hβ:BOK rs β)(hA:Acy β){x y:List Int}(hX:XT rs x)(hY:XT rs y)(hx:hd x<0)(hbx:β.getD (vIx (hd x)) default=[])(hby:hd y<0->β.getD (vIx (hd y)) default=[])(hne:hd y<0->hd y≠hd x) :
  ∃r,aFE 60 β x y=some r/\Good rs β (λσ=>σ (hd x)=ap σ y) r:=by
 have hx8:=(hX.get (a:=0) (by have:=hX.len;omega)).1
 have hlt:=aBT hx8 hx
 have hl:vIx (hd x)<β.length:=by rw[hβ.1];exact hlt
 have good:¬lI β (hd x) y->Good rs β (λσ=>σ (hd x)=ap σ y) (some (β.set (vIx (hd x)) y)):=λho =>
  ⟨hβ.set _ hY,aJ8 hA hl hbx ho,.inr (by have:=aHx β _ y hl hbx hY.ne;omega),λσ _=>aJw hx hl hbx hY.ne σ⟩
 unfold aFE
 by_cases h0:0≤hd y
 ·rw[if_pos h0]
  obtain⟨q,h1,h2⟩:=aSB hβ hA hx hY.2
  rw[h1]
  obtain⟨b,s⟩:=q
  cases b with
  | true=>exact⟨_,rfl,λσ _ hs=>aJ6 hx hY h0 (h2.1 rfl) σ hs⟩
  | false=>exact⟨_,rfl,good λho=>by have:=h2.2 ho;cases this⟩
 ·rw[if_neg h0]
  refine⟨_,rfl,good λ⟨z,hz,hz0,hr⟩=>?_⟩
  have ey:=m9 hY (by omega)
  rw[ey] at hz
  obtain rfl:=zN.1 hz
  generalize ei:vIx (hd y)=i at hr
  generalize ej:vIx (hd x)=j at hr
  cases hr with
  | refl=>exact hne hz0 (tU hz0 hx (ei.trans ej.symm))
  | step he _ =>
   obtain⟨w,hw,_⟩:=he
   rw[←ei,hby hz0] at hw
   cases hw
theorem aDv{rec rec':Bds->List Int->List Int->Option (Option Bds)}(h:∀β a b r,rec β a b=some r->rec' β a b=some r):∀(ps:List (List Int×List Int)) (β:Bds) (r:Option Bds),eqL rec ps β=some r->eqL rec' ps β=some r
 | [],_,_,e=>e
 | p::ps,β,r,e=>by
  unfold eqL at e ⊢
  split at e
  ·cases e
  ·rename_i hq;rw[h _ _ _ _ hq];exact e
  ·rename_i β' hq;rw[h _ _ _ _ hq];exact aDv h ps β' r e
theorem aIm{rs:List Int}{g:Nat}:∀(f:Nat) (β:Bds) (a b:List Int) (r:Option Bds),eqM rs g f β a b=some r->eqM rs g (f+1) β a b=some r
 | 0,_,_,_,_,e=>by cases e
 | f+1,β,a,b,r,e=>by
  unfold eqM at e ⊢
  split at e
  ·rename_i a1 b1 h1 h2
   unfold eqB at e ⊢
   split at e
   ·rename_i c;rw[if_pos c];exact e
   ·rename_i c;rw[if_neg c]
    split at e
    ·rename_i c;rw[if_pos c];exact e
    ·rename_i c;rw[if_neg c]
     split at e
     ·rename_i c;rw[if_pos c];exact e
     ·rename_i c;rw[if_neg c]
      split at e
      ·rename_i c;rw[if_pos c];exact e
      ·rename_i c;rw[if_neg c]
       exact aDv (λβ a b r=>aIm f β a b r) _ _ _ e
  ·cases e
theorem aMk{rs:List Int}{g:Nat}{f:Nat}{β:Bds}{a b:List Int}{r:Option Bds}(h:eqM rs g f β a b=some r):∀d,eqM rs g (f+d) β a b=some r
 | 0=>h
 | d+1=>aIm _ _ _ _ _ (aMk h d)
theorem aWN{rs:List Int}{g:Nat}{f:Nat}{β:Bds}{ps:List (List Int×List Int)}{r:Option Bds}(h:eqL (eqM rs g f) ps β=some r)(d:Nat):eqL (eqM rs g (f+d)) ps β=some r :=
 aDv (λβ a b r h=>aMk h d) ps β r h
def j9(σ:Int->List Int)(ps:List (List Int×List Int)):Prop:=∀p∈ps,ap σ p.1=ap σ p.2
theorem aO3{rs:List Int}{β β1:Bds}{P Q:(Int->List Int)->Prop}(h1:Good rs β P (some β1)){r:Option Bds}(h2:Good rs β1 Q r):Good rs β (λσ=>P σ/\Q σ) r:=by
 obtain⟨a1,a2,a3,a4⟩:=h1
 cases r with
 | none=>exact λσ hσ hs ⟨hp,hq⟩=>h2 σ hσ ((a4 σ hσ).2 ⟨hs,hp⟩) hq
 | some β2 =>
  obtain⟨b1,b2,b3,b4⟩:=h2
  refine⟨b1,b2,?_,λσ hσ=>?_⟩
  ·rcases b3 with b3|b3
   ·rw[b3];exact a3
   ·rcases a3 with a3|a3
    ·rw[a3] at b3;exact .inr b3
    ·exact .inr (by omega)
  ·rw[b4 σ hσ,a4 σ hσ,and_assoc]
theorem aOj{rs:List Int}(I:Bds->Prop)(hI:∀β β',I β->BOK rs β->Acy β->(β'=β∨cnt β'<cnt β)->I β'):∀(ps:List (List Int×List Int)),
  (∀p∈ps,∀β,I β->BOK rs β->Acy β->∃f r,eqM rs 60 f β p.1 p.2=some r/\Good rs β (λσ=>ap σ p.1=ap σ p.2) r)->∀β,I β->BOK rs β->Acy β->∃f r,eqL (eqM rs 60 f) ps β=some r/\Good rs β (λσ=>j9 σ ps) r
 | [],_,β,_,hβ,hA=>⟨0,some β,rfl,hβ,hA,.inl rfl,λσ _=>⟨λh=>⟨h,λp hp=>by cases hp⟩,λh=>h.1⟩⟩
 | p::ps,h,β,hi,hβ,hA=>by
  obtain⟨f1,r1,e1,g1⟩:=h p zH β hi hβ hA
  cases r1 with
  | none =>
   refine⟨f1,none,?_,λσ h1 h2 h3=>g1 σ h1 h2 (h3 p zH)⟩
   unfold eqL;rw[e1]
  | some β1 =>
   obtain⟨f2,r2,e2,g2⟩:=aOj I hI ps (λq hq=>h q (zG _ hq)) β1 (hI β β1 hi hβ hA g1.2.2.1) g1.1 g1.2.1
   refine⟨f1+f2,r2,?_,(aO3 g1 g2).congr λσ _ _=>?_⟩
   ·unfold eqL
    rw[aMk e1 f2]
    have:=aWN e2 f1
    rwa [Nat.add_comm] at this
   ·simp only[j9,zO,forall_eq_or_imp]
theorem aUY{rs:List Int}{β:Bds}(hβ:BOK rs β)(hA:Acy β){a b a1 b1:List Int}(hra:dG β 60 a=some a1)(hrb:dG β 60 b=some b1)(hA1:XT rs a1)(hB1:XT rs b1)
  (ha:hd a1<0->β.getD (vIx (hd a1)) default=[]) (hb:hd b1<0->β.getD (vIx (hd b1)) default=[]) (hrec:hd a1=hd b1->0≤hd a1->∃f r,eqL (eqM rs 60 f) (dS rs a1 b1) β=some r/\Good rs β (λσ=>j9 σ (dS rs a1 b1)) r) :
  ∃f r,eqM rs 60 f β a b=some r/\Good rs β (λσ=>ap σ a1=ap σ b1) r:=by
 have e:∀f,eqM rs 60 (f+1) β a b=eqB rs 60 (eqM rs 60 f) β a1 b1:=λf=>by
  show (match dG β 60 a,dG β 60 b with|some a1,some b1=>eqB rs 60 (eqM rs 60 f) β a1 b1|_,_=>none)=_
  rw[hra,hrb]
 by_cases c1:hd a1=hd b1/\hd a1<0
 ·refine⟨1,some β,?_,hβ,hA,.inl rfl,λσ _=>⟨λh=>⟨h,?_⟩,λh=>h.1⟩⟩
  ·rw[e];unfold eqB;rw[if_pos c1]
  ·rw[m9 hA1 c1.2,m9 hB1 (by omega),c1.1]
 by_cases c2:hd b1<0/\(0≤hd a1∨hd b1<hd a1)
 ·obtain⟨r,h1,h2⟩:=aFL hβ hA hB1 hA1 c2.1 (hb c2.1) ha (λh e=>c1 ⟨e,h⟩)
  refine⟨1,r,?_,h2.congr λσ _ _=>?_⟩
  ·rw[e];unfold eqB;rw[if_neg c1,if_pos c2];exact h1
  ·conv=>rhs;rw[m9 hB1 c2.1]
   rw[aCH (σ:=σ) c2.1]
   exact eq_comm
 by_cases c3:hd a1<0
 ·obtain⟨r,h1,h2⟩:=aFL hβ hA hA1 hB1 c3 (ha c3) hb (λh e=>c1 ⟨e.symm,c3⟩)
  refine⟨1,r,?_,h2.congr λσ _ _=>?_⟩
  ·rw[e];unfold eqB;rw[if_neg c1,if_neg c2,if_pos c3];exact h1
  ·conv=>rhs;rw[m9 hA1 c3]
   rw[aCH (σ:=σ) c3]
 by_cases c4:hd a1=hd b1
 ·obtain⟨f,r,h1,h2⟩:=hrec c4 (by omega)
  refine⟨f+1,r,?_,h2.congr λσ hσ _=>(aNC hσ hA1 hB1 c4 (by omega)).symm⟩
  rw[e];unfold eqB;rw[if_neg c1,if_neg c2,if_neg c3,if_neg (by omega)];exact h1
 ·refine⟨1,none,?_,λσ _ _ h=>?_⟩
  ·rw[e];unfold eqB;rw[if_neg c1,if_neg c2,if_neg c3,if_pos c4]
  ·have h0:0≤hd b1:=by
    by_cases h:hd b1<0
    ·exact absurd ⟨h,.inl (by omega)⟩ c2
    ·omega
   have h:ap σ a1=ap σ b1:=h
   rw[pF hA1 (by omega),pF hB1 h0] at h
   exact c4 (List.cons.inj h).1
theorem aRd{rs a:List Int}{σ:Int->List Int}(hA:XT rs a)(h0:0≤hd a):∀x∈f0 rs a,(ap σ x).length+1≤(ap σ a).length:=λx hx=>by
 have h1:=aFq (σ:=σ) hA h0
 have h2:(ap σ x).length≤(((f0 rs a).map (ap σ)).map List.length).sum:=by
  have:∀(l:List Nat) (n:Nat),n∈l->n≤l.sum:=λl n h=>by
   induction l with
   | nil=>cases h
   | cons m l ih =>
    rw[List.sum_cons]
    rcases zO.1 h with rfl|h
    ·omega
    ·have:=ih h;omega
  exact this _ _ (zJ.2 ⟨_,zJ.2 ⟨x,hx,rfl⟩,rfl⟩)
 omega
theorem aR8(rs:List Int):∀(c:Nat) (β:Bds),cnt β<c->BOK rs β->Acy β->∀a b,XT rs a->XT rs b->∃f r,eqM rs 60 f β a b=some r/\Good rs β (λσ=>ap σ a=ap σ b) r
 | 0,β,h,_,_,_,_,_,_=>by omega
 | c+1,β,h,hβ,hA,a,b,hTa,hTb=>by
  obtain⟨σ,hσ,hsat⟩:=aMT hβ hA
  obtain⟨r,hr,h48⟩:=sD hβ hA
  have main:∀(m:Nat) (a b:List Int),(ap σ a).length≤m->XT rs a->XT rs b->∃f r,eqM rs 60 f β a b=some r/\Good rs β (λσ=>ap σ a=ap σ b) r:=by
   intro m
   induction m with
   | zero=>intro a b hm ha _;have:=aMx hσ ha;omega
   | succ m ih =>
    intro a b hm ha hb
    obtain⟨a1,u1,u2,u3,u4,_⟩:=wO hβ hr 59 a ha (λ_=>by have:=h48 (vIx (hd a));omega)
    obtain⟨b1,v1,v2,v3,v4,_⟩:=wO hβ hr 59 b hb (λ_=>by have:=h48 (vIx (hd b));omega)
    obtain⟨f,q,k1,k2⟩:=aUY hβ hA u1 v1 u2 v2 u3 v3 (λhe h0=>by
     refine aOj (λβ'=>β'=β∨cnt β'<c) (λβ1 β2 h1 _ _ h2=>?_) _ (λp hp β1 hi hβ1 hA1=>?_) β (.inl rfl) hβ hA
     ·rcases h1 with rfl|h1
      ·rcases h2 with rfl|h2
       ·exact .inl rfl
       ·exact .inr (by omega)
      ·rcases h2 with rfl|h2
       ·exact .inr h1
       ·exact .inr (by omega)
     ·have hp1:p.1∈f0 rs a1:=by rw[←lY rs a1 b1];exact zJ.2 ⟨p,hp,rfl⟩
      have hp2:p.2∈f0 rs b1:=by rw[←tG u2 v2 he];exact zJ.2 ⟨p,hp,rfl⟩
      rcases hi with rfl|hi
      ·have h1:=aRd (σ:=σ) u2 h0 _ hp1
       rw[u4 σ hsat] at h1
       exact ih _ _ (by omega) (l4 u2 _ hp1) (l4 v2 _ hp2)
      ·exact aR8 rs c β1 hi hβ1 hA1 _ _ (l4 u2 _ hp1) (l4 v2 _ hp2))
    exact⟨f,q,k1,k2.congr λτ _ hs=>by rw[u4 τ hs,v4 τ hs]⟩
  exact main _ a b (zQ _) hTa hTb
def nA(rs:List Int)(β:Bds)(P:(Int->List Int)->Prop):Prop:=∃σ,GS rs σ/\Sat σ β/\P σ
theorem aP9{rs:List Int}{β:Bds}{P:(Int->List Int)->Prop}{r:Option Bds}(h:Good rs β P r):r.isSome=true↔nA rs β P:=by
 cases r with
 | none=>exact Iff.intro (λh=>by cases h) (λ⟨σ,h1,h2,h3⟩=>absurd h3 (h σ h1 h2))
 | some β' =>
  refine⟨λ_=>?_,λ_=>rfl⟩
  obtain⟨h1,h2,_,h4⟩:=h
  obtain⟨σ,hσ,hs⟩:=aMT h1 h2
  have:=(h4 σ hσ).1 hs
  exact⟨σ,hσ,this.1,this.2⟩
theorem aTJ{rs:List Int}{β:Bds}(hβ:BOK rs β)(hA:Acy β){a b:List Int}(ha:XT rs a)(hb:XT rs b):∃f r,eqM rs 60 f β a b=some r/\(r.isSome=true↔nA rs β λσ=>ap σ a=ap σ b):=by
 obtain⟨f,r,h1,h2⟩:=aR8 rs (cnt β+1) β (by omega) hβ hA a b ha hb
 exact⟨f,r,h1,aP9 h2⟩
end
end Go.Proofs.YtpennhjjnlkbiaaGreat
