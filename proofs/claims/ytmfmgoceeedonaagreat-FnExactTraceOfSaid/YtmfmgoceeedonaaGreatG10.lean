/-
  A17l, A17m, K6, K9, K7, K8, Q2i, one behind the other.
-/
import Derived.Test.YtmfmgoceeedonaaGreatG9
import Derived.Test.YtmfmgoceeedonaaGreatG6
import Derived.Test.YtmfmgoceeedonaaGreatG7
import Derived.Test.YtmfmgoceeedonaaGreatG8
namespace Go.Proofs.YtmfmgoceeedonaaGreat
open Go Go.Lg
set_option linter.unusedSimpArgs false
set_option linter.unusedVariables false
set_option maxHeartbeats 4000000
section
attribute [local irreducible] SW bA bC dM bZ FC dX toF d7 iC fZ sumF b5
theorem aSf{rs:List Int}{ps:List PolyT}{s t:List Int}:(aTU rs ps s t).1=tst (o9 rs ps s t):=by
 unfold aTU o9;split
 ·rename_i h;by_cases hm:xJ (b5 rs ps 60 s).1 (b5 rs ps 60 t).1
  ·rw[vI hm];exact lY ⟨λe=>⟨h,hm,e⟩,λe=>e.2.2⟩
  ·rw[aBb hm,bV λe=>hm e.2.1]
 ·rename_i h;rw[bV λe=>h e.1]
theorem xD(x:SystemT)(ps:List PolyT)(hx:b9 x)(hQ:aFR x.sig ps):FC S 68 [] [] [] [bR x,.sl .any (ps.map bP),.bool false] (.bool (tst (∀j<x.rules.length,o9 x.sig ps (x.rules.getD j default).r (x.rules.getD j default).l))) [] []:=by
 have h12:=hx.1.2;refine fcb Tryz.func68 λB=>?_;repeat' first|apply aG|refine aE 0 aWk λK hK=>?_|refine aB ?_|(refine hK.n0 ?_;clear hK K)|apply tTT
 refine aV (ι:=Nat) (λi=>[(14,.int .i64 i)]) (λ_=>[]) (λi=>i≤x.rules.length/\(∀j<i,o9 x.sig ps (x.rules.getD j default).r (x.rules.getD j default).l)) (λi=>x.rules.length-i) 0 cvA ⟨by omega,?_⟩ (λi ⟨hi,hj⟩=>?_);rotate_left
 simp only[go_sem];by_cases hil:i<x.rules.length
 ·have hr:=hx.2 i hil;have c:=aDa x.sig ps (x.rules.getD i default).r (x.rules.getD i default).l hQ hr.1.2.1 hr.1.1;rw[aSf] at c;repeat' first|exact h.elim|(exfalso;omega)|apply aG|refine aE 0 aWk λK hK=>?_|refine aB ?_|refine aC ?_|(refine hK.n0 ?_;clear hK K)|refine aZ (λh=>?_) λh=>?_|refine aA rfl (λh=>?_) λh=>?_|apply aF|refine hK.c1 rfl rfl rfl (c) ?_|with_reducible refine aH ?_|apply tTT
  ·exact λhall=>absurd (hall i hil) (by assumption)
  ·exact⟨i+1,cvA,⟨by omega,bJ hj (by assumption)⟩,by omega⟩
 ·repeat' first|exact h.elim|(exfalso;omega)|apply aG|refine aE 0 aWk λK hK=>?_|refine aB ?_|refine aC ?_|(refine hK.n0 ?_;clear hK K)|refine aA rfl (λh=>?_) λh=>?_|refine aJ rfl ?_|apply tTT
  exact λj hj'=>hj j (by omega)
 ·intro j hj';omega
def aLq:List (Nat×List Nat):=[(0,[1,2,3,4]),(1,[1,2,3,4,23]),(2,[8,9]),(3,[1,2,3,4,10]),(4,[1,3,4,10,24,25,26]),(5,[1,3,4,10,24,25,26,27]),(6,[1,3,4,10,12,24,25,26]),(7,[1,3,4,10,12,13,14,24,25,26]),(8,[1,3,4,10,12,14,24,25,26,42]),(9,[8,9]),(10,[1,3,4,10,12,24,25,26,43]),(11,[1,3,4,10,24,25,26]),(12,[1,3,4,10,24,25,26]),(13,[8,9])]
attribute [go_sem] aLq Tryz.results30 Tryz.ntmps30
theorem xL(p:List Nat)(hp:p≠[])(x:SystemT)(P:List DepPairT)(set:List Int)(ps:List PolyT)(hA:mD x (ps.take x.sig.length))(hM:fU x.sig ps)(hP:∀p∈P,kS x.sig p)(hS:gA set P.length)(hl:P.length≤64):FC S 30 [] [] [] [bR x,.sl .any (P.map bN),.sl .any (set.map (.int .i64)),.sl .any (ps.map bP)] (.tup [dL p (wR x.sig P set ps).1,.bool (wR x.sig P set ps).2]) [] []:=by
 have hsl:=l5 hS;have hm:=hM.1;have hat:∀i<set.length,(0≤set.getD i default/\set.getD i default<P.length)/\kS x.sig (P.getD (set.getD i default).toNat default):=λi hi=>by
  have h:=(hS i hi).1;exact⟨h,hP _ (aX P _ (by omega))⟩
 refine fcb Tryz.func30 λB=>?_;repeat' first|exact h.elim|(exact absurd hA.2 (by assumption))|apply aG|refine aE 0 aLq λK hK=>?_|refine aU aLq (by kernel_rfl) λK hK=>?_|refine aB ?_|refine aQ ?_|(refine hK.n0 ?_;clear hK K)|refine aA rfl (λh=>?_) λh=>?_|refine hK.c1 rfl rfl rfl (xD x (ps.take x.sig.length) hA.1.1 hA.1.2.ps) ?_|with_reducible refine aH ?_|apply tTT
 refine eF 10 48000 2 1 rfl (.inl rfl) rfl ?_;simp only[go_sem];refine bG (ι:=Nat) (λi=>[(26,.int .i64 i),(10,.sl (.own 48000 2 1) ((wL x.sig P set ps i).map (.int .i64)))]) (λ_=>[]) (λ_=>[48000]) (λi=>i≤set.length/\∀j<i,aCS x.sig ps (P.getD (set.getD j default).toNat default)) (λi=>set.length-i) 0 cvB ⟨by omega,λj hj=>absurd hj (by omega)⟩ (λi hi=>?_);obtain⟨hi,hj⟩:=hi;simp only[go_sem];have hwl:=aJi x.sig P set ps i;by_cases hil:i<set.length
 ·have hq:=hat i hil;have h1:=hq.1;repeat' first|exact h.elim|(exfalso;omega)|apply aG|refine aE 0 aLq λK hK=>?_|refine aU aLq (by kernel_rfl) λK hK=>?_|refine aB ?_|refine aQ ?_|refine aC ?_|(refine hK.n0 ?_;clear hK K)|refine aA rfl (λh=>?_) λh=>?_|apply aF|refine hK.c1 rfl rfl rfl (aFC x.sig ps (P.getD (set.getD i default).toNat default) hM hq.2) ?_|with_reducible refine aH ?_|apply tTT
  ·rw[aUP λe=>h (e i hil)];first|exact⟨rfl,rfl⟩|exact⟨eB _,rfl⟩|(refine⟨?_,rfl⟩;simp[le0])
  ·exact⟨i+1,(by(refine aD rfl rfl ?_ ?_ ?_ ?_<;>simp(disch:=apply aR;omega)only[go_sem]<;>(try omega));rw[aJl (by assumption)];exact⟨rfl,by omega⟩),⟨by omega,bJ hj (by assumption)⟩,by omega⟩
  ·exact⟨i+1,(by(refine aD rfl rfl ?_ ?_ ?_ ?_<;>simp(disch:=apply aR;omega)only[go_sem]<;>(try omega));rw[aO9 (by assumption)];exact⟨rfl,by omega⟩),⟨by omega,bJ hj (by assumption)⟩,by omega⟩
 ·repeat' first|exact h.elim|(exfalso;omega)|(refine xY 10 p (k:=48000) rfl (by simp) hp ?_;simp only[go_sem])|apply aG|refine aE 0 aLq λK hK=>?_|refine aB ?_|refine aC ?_|(refine hK.n0 ?_;clear hK K)|refine aA rfl (λh=>?_) λh=>?_|refine aJ rfl ?_|apply tTT
  rw[aDQ λj hj'=>hj j (by omega),show i=set.length by omega];exact⟨rfl,rfl⟩
theorem aNV(x:SystemT)(P:List DepPairT)(set:List Int)(ps:List PolyT)(p:List Nat)(hx:b9 x)(hA:¬mD x (ps.take x.sig.length))(hM:fU x.sig ps):FC S 30 [] [] [] [bR x,.sl .any (P.map bN),.sl .any (set.map (.int .i64)),.sl .any (ps.map bP)] (.tup [dL p [],.bool false]) [] []:=by
 have hm:=hM.1;refine fcb Tryz.func30 λB=>?_;repeat' first|exact h.elim|(exact absurd ⟨⟨hx,hM.2.1⟩,by assumption⟩ hA)|apply aG|refine aE 0 aLq λK hK=>?_|refine aU aLq (by kernel_rfl) λK hK=>?_|refine aB ?_|refine aQ ?_|refine aC ?_|(refine hK.n0 ?_;clear hK K)|refine aA rfl (λh=>?_) λh=>?_|refine hK.c1 rfl rfl rfl (xD x (ps.take x.sig.length) hx hM.2.1.ps) ?_|with_reducible refine aH ?_|apply tTT
def uD(l:List Nat)(r:RuleT):D:=.agg [.sl (.lab l) (r.l.map (.int .i64)),.sl (.lab l) (r.r.map (.int .i64))]
def mH(l:List Nat)(x:SystemT):D:=.agg [.sl (.lab l) (x.sig.map (.int .i64)),.sl (.lab l) (x.rules.map (uD l))]
def rL(l:List Nat)(p:DepPairT):D:=.agg [.sl (.lab l) (p.l.map (.int .i64)),.sl (.lab l) (p.r.map (.int .i64)),.int .i64 p.rule,.int .i64 p.at_]
attribute [go_sem] uD mH rL
theorem aWJ(l:List Nat)(r:RuleT):(fO r).lb l=uD l r:=by simp only[fO,uD,D.lbL,D.lb,mP]
theorem aOi(l:List Nat)(r:DepPairT):(bN r).lb l=rL l r:=by simp only[bN,rL,D.lbL,D.lb,mP]
theorem aBu(l:List Nat)(x:SystemT):(bR x).lb l=mH l x:=by simp only[bR,mH,D.lbL,D.lb,mP,pL,aWJ]
theorem lV(xs:List Int):D.okLbL (xs.map (.int .i64))=true:=jY (λ_=>rfl) xs
theorem aQQ(r:RuleT):(fO r).okLb=true:=by simp[fO,D.okLb,D.okLbL,lV]
theorem aFF(r:DepPairT):(bN r).okLb=true:=by simp[bN,D.okLb,D.okLbL,lV]
theorem tZ(x:SystemT):(bR x).okLb=true:=by simp[bR,D.okLb,D.okLbL,lV,jY aQQ]
theorem wO(l:List Nat)(x:SystemT):D.le (mH l x) (bR x):=aBu l x ▸ aYl l (tZ x)
theorem y7(l:List Nat)(P:List DepPairT):D.le (.sl (.lab l) (P.map (rL l))) (.sl .any (P.map bN)):=by
 have h:=aYl l (d:=.sl .any (P.map bN)) (by simp[D.okLb,jY aFF]);simpa only[D.lb,pL,aOi] using h
theorem aAh(l:List Nat)(rs:List Int):D.le (.agg [.sl (.lab l) (rs.map (.int .i64))]) (.agg [.sl .any (rs.map (.int .i64))]):=by
 rw[t7];exact⟨.any,trivial⟩
theorem gG(q tk:List Nat)(xs:List Int):D.safePL q tk (xs.map (.int .i64))=true:=lT (λ_=>rfl) xs
theorem aGJ{q l tk:List Nat}(h:l≠q)(r:RuleT):(uD l r).safeP q tk=true:=by simp[uD,D.safeP,D.safePL,gG,h]
theorem aL8{q l tk:List Nat}(h:l≠q)(r:DepPairT):(rL l r).safeP q tk=true:=by simp[rL,D.safeP,D.safePL,gG,h]
def tI(hs:List Int)(i:Nat):Int:=min (g6 hs i) 20001
theorem aYA{hs:List Int}(hh:∀h∈hs,0≤h/\h≤1){i:Nat}(hi:i≤hs.length):(1≤tI hs i/\tI hs i≤20001)/\(tI hs i≤20000↔g6 hs i≤20000):=by
 have:=nR hh i hi;unfold tI;rw[Int.min_def];split<;>omega
theorem aWA{hs:List Int}(hh:∀h∈hs,0≤h/\h≤1){i:Nat}(hi:i<hs.length):min (tI hs i*(hs.getD i default+1)) 20001=tI hs (i+1):=by
 have h0:=nR hh i (by omega);have hd:=hh _ (aX hs i hi);have e:g6 hs (i+1)=g6 hs i*(hs.getD i default+1):=rfl;unfold tI;rw[e];rcases (show hs.getD i default=0∨hs.getD i default=1 by omega) with e1|e1<;>rw[e1]<;>simp only[Int.min_def]<;>repeat' split
 all_goals omega
theorem nG(k:IntKind)(xs:List Int):D.idsL (xs.map (.int k))=[]:=by
 induction xs with
 | nil=>rfl
 | cons x r ih=>simp[D.idsL,D.ids,ih]
theorem aBY(k:IntKind)(xs:List Int):D.tksL (xs.map (.int k))=[]:=by
 induction xs with
 | nil=>rfl
 | cons x r ih=>simp[D.tksL,D.tks,ih]
theorem aBn(p:Nat->Bool)(k:IntKind)(xs:List Int):(xs.map (.int k)).all (D.puOk p)=true:=by
 rw[List.all_map];exact List.all_eq_true.2 λ_ _=>rfl
theorem aGN(o:Nat)(k:IntKind)(xs:List Int):D.shTL o (xs.map (.int k))=xs.map (.int k):=by
 induction xs with
 | nil=>rfl
 | cons x r ih=>simp[D.shTL,D.shT,ih]
end
section
attribute [local irreducible] SW bA bC dM bZ FC dX toF d7 iC
attribute [local go_sem] nG PL
def aAK:List (Nat×List Nat):=[(0,[1,2]),(1,[1,2,6,7]),(2,[1,2,6,28]),(3,[4,5]),(4,[1,2,8]),(5,[1,2,8,9]),(6,[1,2,8,9,10]),(7,[1,2,8,9,10,39]),(9,[1,2,8,9,10,44]),(10,[1,2,8,9,10,51]),(11,[4,5]),(12,[1,2,8,9,10]),(13,[1,2,8,9,10]),(8,[1,2,8,9,10]),(14,[1,2,9,11]),(15,[1,2,9,59]),(16,[1,2,9,12,13]),(17,[1,2,9,72]),(18,[4,5]),(19,[1,2,9,11]),(20,[1,2,9,11,14]),(21,[1,2,9,11,14,82]),(23,[1,2,9,11,14,103]),(24,[1,2,9,14]),(25,[1,2,9,11,14]),(26,[1,2,9,11,14,114]),(27,[1,2,9,11,14]),(22,[1,2,9,11,14]),(28,[4,5])]
attribute [go_sem] aAK Tryz.results49 Tryz.ntmps49
theorem yV(x:SystemT)(set:List Int):FCO S [1] 49 [mH [1] x,.sl (.lab [1]) (set.map (.int .i64))] (.tup [.sl .any ((yI x set).1.map (.int .i64)),.bool (yI x set).2]) []:=by
  have cP:=(jO x).args (args:=[mH [1] x]) ⟨wO _ _,trivial⟩;rcases Classical.em (oD x set) with hW|hW
  · rw[aEP hW];obtain⟨hx,hS⟩:=hW;have hPj:∀l,sV x.sig l->aL1 x set l=jR x.sig (bI x) set l:=λl h=>aBe ⟨⟨hx,hS⟩,h⟩;rw[fW hx] at cP;have h12:=hx.1.1.2;have hsg:=hx.1.1.1;have hs8:=hsg.1.2;have h64:(bI x).length≤64:=hx.2;have hP:=mG hx;generalize hA:bI x=P at *;have hfb:=@xZ x.sig P set;have hfo:=@aBV x.sig P set;generalize g9 x.sig P set=o at *;have hmem:=λf=>aIL P set f set.length;have cH:=(aCP x.sig P set hP hS h64).args (args:=[.sl .any (P.map bN),.sl (.lab [1]) (set.map (.int .i64))]) ⟨.refl _,.any,trivial⟩;have cS:=(jF set P.length (by omega)).args (args:=[.sl (.lab [1]) (set.map (.int .i64)),.int .i64 P.length]) ⟨.any,.refl _,trivial⟩;generalize hH:gB P set set.length=H at *;generalize hdL P set set.length=hd0 at *;refine aVi Tryz.func49 λB hOld=>?_;repeat' first|exact h.elim|(exact absurd hS (by assumption))|apply aG|refine aE 0 aAK λK hK=>?_|refine aB ?_|(refine hK.n0 ?_;clear hK K)|refine aA rfl (λh=>?_) λh=>?_|refine hK.c1 rfl rfl rfl (cP) ?_|refine hK.c1 rfl rfl rfl (cS) ?_|refine hK.c1 rfl rfl rfl (cH) ?_|apply tTT
    refine eF 9 56000 2 1 rfl (.inr rfl) rfl ?_;simp only[go_sem];refine bG (ι:=Nat) (λf=>[(10,.int .i64 f),(9,.sl (.own 56000 2 1) ((aFd x.sig H f).map (.int .i64)))]) (λ_=>[]) (λ_=>[56000]) (λf=>f≤x.sig.length/\¬aKP x.sig H f) (λf=>x.sig.length-f) 0 cvB ⟨by omega,λ⟨i,hi,_⟩=>absurd hi (Nat.not_lt_zero _)⟩ (λf hf=>?_);obtain⟨hf,hnb⟩:=hf;simp only[go_sem];have hll:=aSW x.sig H f;by_cases hfl:f<x.sig.length
    · have hmf:=hmem f;repeat' first|exact h.elim|(refine kL 59000 56000 rfl rfl ?_;simp only[go_sem])|(exfalso;omega)|apply aG|refine aE 0 aAK λK hK=>?_|refine aB ?_|refine aC ?_|(refine hK.n0 ?_;clear hK K)|refine aA rfl (λh=>?_) λh=>?_|apply aF|refine hK.c1 rfl rfl rfl (iI _ _ _) ?_|with_reducible refine aH ?_|apply tTT
      · rw[hfb ⟨f,hfl,hmf.1 (by assumption),by assumption⟩];exact⟨rfl,rfl⟩
      · have hHf:H f:=hmf.1 (by assumption);have hz:¬x.sig.getD f default=0:=by assumption
        exact⟨f+1,(by(refine aD rfl rfl ?_ ?_ ?_ ?_<;>simp(disch:=apply aR;omega)only[go_sem]<;>(try omega));rw[aFO hHf];exact⟨rfl,by omega⟩),⟨by omega,λ⟨i,hi,h1,h2⟩=>by
          rcases Nat.lt_or_ge i f with h3|h3
          · exact hnb ⟨i,h3,h1,h2⟩
          · obtain rfl:i=f:=by omega
            exact hz h2⟩,by omega⟩
      · have hHf:¬H f:=λe=>absurd (hmf.2 e) (by assumption);exact⟨f+1,(by(refine aD rfl rfl ?_ ?_ ?_ ?_<;>simp(disch:=apply aR;omega)only[go_sem]<;>(try omega));rw[aIe hHf];exact⟨rfl,by omega⟩),⟨by omega,λ⟨i,hi,h1,h2⟩=>by
          rcases Nat.lt_or_ge i f with h3|h3
          · exact hnb ⟨i,h3,h1,h2⟩
          · obtain rfl:i=f:=by omega
            exact hHf h1⟩,by omega⟩
    · obtain rfl:f=x.sig.length:=by omega
      have ho:=hfo hnb;rw[aU9];have hok:=aNw hsg hnb;have hseq:=pP hok;have hdig:=kE hok;have hbl:=aDx x.sig H;obtain⟨Lw,hLw⟩:∃Lw,lF (bsP x.sig H)=Lw:=⟨_,rfl⟩;have hLl:Lw.length=x.sig.length:=by rw[←hLw,aAo,hbl]
      have hne0:Lw≠[]:=by
        intro e;rw[e] at hLl;simp only[List.length_nil] at hLl;have:=hsg.1.1;omega
      rw[hLw];have hst:Lw=(iO (bsP x.sig H)).headD Lw/\true=!(iO (bsP x.sig H)).isEmpty:=by
        obtain⟨r1,hr1⟩:=hseq.2;rw[hr1,List.headD_cons,hLw];exact⟨rfl,rfl⟩
      repeat' first|exact h.elim|(exfalso;omega)|apply aG|refine aE 0 aAK λK hK=>?_|refine aB ?_|(refine hK.n0 ?_;clear hK K)|refine aA rfl (λh=>?_) λh=>?_|refine aJ rfl ?_|apply tTT
      refine aUf 9 [2] (k:=56000) rfl (by simp) (by simp) hne0 ?_;simp only[go_sem];refine aV (ι:=List (List Int)) (λp=>[(9,PL [2] (p.headD Lw)),(11,.bool (!p.isEmpty))]) (λp=>[]) (λp=>(aA4 (bsP x.sig H) p/\∀c∈p,pB (bsP x.sig H) c)/\gI (QJ x.sig P set) p=o) (λp=>p.length) (iO (bsP x.sig H)) (by(refine aD rfl rfl ?_ ?_ ?_ ?_<;>simp(disch:=apply aR;omega)only[go_sem]<;>(try omega));all_goals first|(rw[←hst.1];exact⟨eB _,hst.2⟩)|exact λ_ h=>h) ?_ (λp hp=>?_);rotate_left
      simp only[go_sem]
      · obtain⟨⟨hq1,hq2⟩,hq3⟩:=hp;cases p with
        | nil =>
          obtain rfl:none=o:=hq3;simp only[List.isEmpty_nil,Bool.not_true];repeat' first|exact h.elim|apply aG|refine aE 0 aAK λK hK=>?_|refine aB ?_|refine aC ?_|(refine hK.n0 ?_;clear hK K)|refine aA rfl (λh=>?_) λh=>?_|refine aJ rfl ?_|apply tTT
          exact⟨rfl,rfl⟩
        | cons a r =>
          have ha:=hq2 a zH;have hal:a.length=(bsP x.sig H).length:=kG ha;have hal2:a.length=x.sig.length:=by rw[hal,hbl]
          obtain⟨hn1,hn2⟩:=tH hq1;rw[hLw] at hn1;have hpj:=vV hsg ha;have hne:a≠[]:=by
            intro e;rw[e] at hal2;simp only[List.length_nil] at hal2;have:=hsg.1.1;omega
          have hnl:(r.headD Lw).length=a.length:=by
            have:=(pZ (bs:=bsP x.sig H) (xs:=a) hal).1;rw[hn1] at this;rw[this,hal]
          have hnn:r.headD Lw≠[]:=by intro e;rw[e] at hnl;simp only[List.length_nil] at hnl;have:=hsg.1.1;omega
          simp only[List.headD_cons,List.isEmpty_cons,Bool.not_false];have cJ:=(nS x set a).args (args:=[mH [1] x,.sl (.lab [1]) (set.map (.int .i64)),PL [2] a]) ⟨wO _ _,.any,aPS,trivial⟩;rw[hPj a hpj] at cJ;have hnx:¬QJ x.sig P set a->gI (QJ x.sig P set) r=o:=λh=>by rw[←hq3,jK h]
          have hyx:QJ x.sig P set a->o=some a:=λh=>by rw[←hq3,j7 h]
          have hs2:∀tk,(D.sl (.lab [1]) (set.map (.int .i64))).safeP [2] tk=true:=λtk=>by simp[D.safeP,gG]
          have hs4:∀tk,D.safePL [2] tk [.sl (.lab [1]) (x.sig.map (.int .i64)),.sl (.lab [1]) (x.rules.map (uD [1]))]=true:=λtk=>by simp[D.safePL,D.safeP,gG,lT (aGJ (q:=[2]) (l:=[1]) (tk:=tk) (by simp))]
          repeat' first|exact h.elim|(refine aPQ 4 (d:=PL [2] a) rfl aPS ?_;simp only[go_sem])|(refine vT 19 [1] [2] hOld (by simp) (by simp) 9 500 rfl hne (by simp) [(1,.sl (.lab [1]) (set.map (.int .i64))),(2,.box 2 0)] [(2,[.sl (.lab [1]) (x.sig.map (.int .i64)),.sl (.lab [1]) (x.rules.map (uD [1]))])] (List.forall_mem_cons.2 ⟨⟨rfl,hs2 _,by simp[D.ids]⟩,List.forall_mem_cons.2 ⟨⟨rfl,rfl,by simp[D.ids]⟩,λq hq=>by cases hq⟩⟩) (List.forall_mem_cons.2 ⟨⟨by simp,rfl,hs4 _,by simp[D.idsL,D.ids]⟩,λq hq=>by cases hq⟩) ?_;simp only[go_sem])|apply aG|refine aE 0 aAK λK hK=>?_|refine aB ?_|refine aC ?_|(refine hK.n0 ?_;clear hK K)|refine aZ (λh=>?_) λh=>?_|refine aA rfl (λh=>?_) λh=>?_|refine hK.c1 rfl rfl rfl (cJ) ?_|apply tTT
          · rw[hyx ⟨by assumption,by assumption⟩];exact⟨rfl,rfl⟩
          all_goals
            have hQ:¬QJ x.sig P set a:=λe=>by
              have e1:=e.1;have e2:=e.2;first
                | omega
                | (have h2 : (jR x.sig P set a).2 = false := by assumption
                   rw[h2] at e1;cases e1)
            have hor:=hnx hQ;clear hnx hyx;refine aV (ι:=Nat×Bool) (λp=>[(14,.int .i64 (p.1-1:Int)),(11,.bool p.2)]) (λp=>[(500,(if p.2=true then r.headD Lw else stD (bsP x.sig H) a p.1).map (.int .i64))]) (λp=>p.1≤a.length/\(p.2=false->tG (bsP x.sig H) a p.1)/\(p.2=true->r.isEmpty=false)) (λp=>p.1) (a.length,false) (by(refine aD rfl rfl ?_ ?_ ?_ ?_<;>simp(disch:=apply aR;omega)only[go_sem]<;>(try omega));all_goals first|(rw[aIw hal];done)|exact λ_ h=>h) ?_ (λp hp=>?_);rotate_left
            simp only[go_sem]
            · obtain⟨p,b⟩:=p;obtain⟨hp1,hp2,hp3⟩:=hp;dsimp only at hp1 hp2 hp3 ⊢;have hgo:(p=0/\b=false->r.isEmpty=true/\stD (bsP x.sig H) a 0=r.headD Lw):=λ⟨h1,h2⟩=>by
                subst h1;have e:=aNX hal (hp2 h2);rw[hn1] at e;exact⟨by simpa using (Prod.mk.inj e).2,(Prod.mk.inj e).1.symm⟩
              cases b with
              | true =>
                have hre:=hp3 rfl;simp only[if_true];repeat' first|exact h.elim|(refine rB [2] (by simp) 9 500 (n:=a.length) (ys:=r.headD Lw) rfl rfl hnl.symm hnn (by simp) ?_;simp only[go_sem])|apply aG|refine aE 0 aAK λK hK=>?_|refine aB ?_|(refine hK.n0 ?_;clear hK K)|refine aZ (λh=>?_) λh=>?_|refine aA rfl (λh=>?_) λh=>?_|refine aJ rfl ?_|apply aF|apply tTT
                all_goals exact⟨r,(by(refine aD rfl rfl ?_ ?_ ?_ ?_<;>simp(disch:=apply aR;omega)only[go_sem]<;>(try omega));all_goals first|exact λ_ h=>h|exact⟨eB _,by simp[hre]⟩|exact eB _|(simp[hre];done)),⟨⟨hn2,λd hd=>hq2 d (zG _ hd)⟩,hor⟩,by simp⟩
              | false =>
                simp only[Bool.false_eq_true,if_false];cases p with
                | zero =>
                  obtain⟨hre,hz⟩:=hgo ⟨rfl,rfl⟩;rw[hz];repeat' first|exact h.elim|(exfalso;omega)|(refine rB [2] (by simp) 9 500 (n:=a.length) (ys:=r.headD Lw) rfl rfl hnl.symm hnn (by simp) ?_;simp only[go_sem])|apply aG|refine aE 0 aAK λK hK=>?_|refine aB ?_|(refine hK.n0 ?_;clear hK K)|refine aZ (λh=>?_) λh=>?_|refine aA rfl (λh=>?_) λh=>?_|refine aJ rfl ?_|apply aF|apply tTT
                  all_goals exact⟨r,(by(refine aD rfl rfl ?_ ?_ ?_ ?_<;>simp(disch:=apply aR;omega)only[go_sem]<;>(try omega));all_goals first|exact λ_ h=>h|exact⟨eB _,by simp[hre]⟩|exact eB _|(simp[hre];done)),⟨⟨hn2,λd hd=>hq2 d (zG _ hd)⟩,hor⟩,by simp⟩
                | succ k =>
                  have hk:k<a.length:=by omega
                  have hkn:k<x.sig.length:=by omega
                  have hlen:=aHU hal hp1;have hg:=aH3 hal hk;have hbk:(bsP x.sig H).getD k default=aIt x.sig H k:=aSG hkn;have hdk:=aJF ha k (by rw[hbl];exact hkn);rw[hbk] at hdk;have hnv:=hp2 rfl;have hark:=hsg.2 k hkn;have hi:((k+1:Nat):Int)-1=(k:Int):=by omega
                  rw[hi];by_cases hHk:H k
                  · rw[pY hHk] at hdk hbk;have hd0:0≤a.getD k default/\a.getD k default≤x.sig.getD k default-1:=hdk;have hy:=@aM7 (bsP x.sig H) a hal k hk hnv;have hno:=@aO2 (bsP x.sig H) a hal k hk hnv;rw[hbk] at hy hno;dsimp only at hy hno;rw[←hg] at hd0 hy hno;repeat' first|exact h.elim|(exfalso;omega)|apply aG|refine aE 0 aAK λK hK=>?_|refine aU aAK (by kernel_rfl) λK hK=>?_|refine aB ?_|refine aQ ?_|(refine hK.n0 ?_;clear hK K)|refine bH (λh=>?_) λh=>?_|refine aA rfl (λh=>?_) λh=>?_|apply aF|with_reducible refine aH ?_|apply tTT
                    · have e:=hy h;rw[hn1] at e;exact⟨(k,true),(by(refine aD rfl rfl ?_ ?_ ?_ ?_<;>simp(disch:=apply aR;omega)only[go_sem]<;>(try omega));all_goals first|exact λ_ h=>h|(rw[←(Prod.mk.inj e).1];done)|(exact⟨rfl,(Prod.mk.inj e).1.symm⟩)),⟨by omega,λh=>(by cases h),λ_=>by simpa using (Prod.mk.inj e).2⟩,by dsimp only;omega⟩
                    · obtain⟨n1,n2⟩:=hno (by omega);exact⟨(k,false),(by(refine aD rfl rfl ?_ ?_ ?_ ?_<;>simp(disch:=apply aR;omega)only[go_sem]<;>(try omega));all_goals first|exact λ_ h=>h|(rw[←n2];done)|(exact⟨rfl,n2⟩)),⟨by omega,λ_=>n1,λh=>by cases h⟩,by dsimp only;omega⟩
                  · rw[aA8 hHk] at hdk hbk;have hd0:-1≤a.getD k default/\a.getD k default≤-1:=hdk;have hno:=(@aO2 (bsP x.sig H) a hal k hk hnv (by rw[hbk];dsimp only;omega));rw[hbk] at hno;dsimp only at hno;rw[←hg] at hd0;have hself:stD (bsP x.sig H) a (k+1)=stD (bsP x.sig H) a k:=by
                      rw[←hno.2];have hm1:(stD (bsP x.sig H) a (k+1)).getD k default=-1:=by omega
                      have hlt:k<(stD (bsP x.sig H) a (k+1)).length:=by omega
                      rw[zD,zB hlt,Option.getD_some] at hm1;rw[←hm1,List.set_getElem_self]
                    repeat' first|exact h.elim|(exfalso;omega)|apply aG|refine aE 0 aAK λK hK=>?_|refine aU aAK (by kernel_rfl) λK hK=>?_|refine aB ?_|refine aQ ?_|(refine hK.n0 ?_;clear hK K)|refine bH (λh=>?_) λh=>?_|refine aA rfl (λh=>?_) λh=>?_|apply aF|with_reducible refine aH ?_|apply tTT
                    exact⟨(k,false),(by(refine aD rfl rfl ?_ ?_ ?_ ?_<;>simp(disch:=apply aR;omega)only[go_sem]<;>(try omega));all_goals first|exact λ_ h=>h|(rw[←hself];done)|(exact⟨rfl,hself⟩)),⟨by omega,λ_=>hno.1,λh=>by cases h⟩,by dsimp only;omega⟩
            · exact⟨zQ _,λ_=>aDL hal,λh=>by cases h⟩
      · exact⟨⟨hseq.1,hdig⟩,ho.symm⟩
  · rw[aQy hW];rcases Classical.em (gK x) with hx|hx
    · rw[fW hx] at cP;have h64:(bI x).length≤64:=hx.2;have cS:=(jF set (bI x).length (by omega)).args (args:=[.sl (.lab [1]) (set.map (.int .i64)),.int .i64 (bI x).length]) ⟨.any,.refl _,trivial⟩;refine aVi Tryz.func49 λB hOld=>?_;repeat' first|exact h.elim|(exact absurd (show oD x set from⟨hx,by assumption⟩) hW)|apply aG|refine aE 0 aAK λK hK=>?_|refine aB ?_|refine aC ?_|(refine hK.n0 ?_;clear hK K)|refine aA rfl (λh=>?_) λh=>?_|refine hK.c1 rfl rfl rfl (cP) ?_|refine hK.c1 rfl rfl rfl (cS) ?_|apply tTT
      all_goals exact⟨rfl,rfl⟩
    · rw[jG hx] at cP;refine aVi Tryz.func49 λB hOld=>?_;repeat' first|exact h.elim|apply aG|refine aE 0 aAK λK hK=>?_|refine aB ?_|refine aC ?_|(refine hK.n0 ?_;clear hK K)|refine aA rfl (λh=>?_) λh=>?_|refine hK.skp rfl rfl ?_|refine hK.c1 rfl rfl rfl (cP) ?_|apply tTT
      all_goals exact⟨rfl,rfl⟩
end
section
attribute [local irreducible] SW bA bC dM bZ FC dX toF d7 iC fZ sumF b5
theorem aWb(p:List Nat)(A B:List PolyT)(n:Nat)(hA:A.length=n)(hB:B.length=n):upR (λi y=>lN (p++[0+i]) y) A n++upR (λi y=>lN (p++[n+i]) y) B n=gU (λi y=>lN (p++[i]) y) (A++B):=by
 refine List.ext_getElem (by rw[zK,lR,lR,iS,zK,hA,hB]) λj h1 h2=>?_;simp only[upR,gU,List.getElem_append,zC,List.length_range,List.getElem_map,List.getElem_range];split
 ·rename_i h;rw[Nat.zero_add];congr 1
  rw[zD,zD,zL (by omega)]
 ·rename_i h;rw[show n+(j-n)=j by omega];congr 1
  rw[zD,zD,zM (by omega),hA]
attribute [local go_sem] nG aGN PL
def y9:List (Nat×List Nat):=[(0,[1,2,3]),(1,[1,2,3,8]),(2,[1,2,3,8,29,30,31]),(3,[1,2,3,8,29,30,31,32]),(4,[1,2,3,8,10,29,30,31]),(5,[1,2,3,8,29,30,31]),(6,[1,2,3,8,29,30,31]),(7,[1,2,3,8,45,46,47]),(8,[1,2,3,8,45,46,47,48]),(9,[1,2,3,8,11,12,45,46,47]),(10,[1,2,3,8,11,12,45,46,47]),(11,[1,2,3,8,11,12,13,45,46,47]),(12,[1,2,3,8,11,13,45,46,47,55]),(13,[1,2,3,8,11,13,45,46,47]),(14,[1,2,3,8,45,46,47]),(15,[1,2,3,8,45,46,47]),(16,[1,2,3,8,14]),(17,[1,2,3,8,14,67,68,69]),(18,[1,2,3,8,14,67,68,69,70]),(19,[1,2,3,8,14,16,67,68,69]),(20,[1,2,3,8,14,67,68,69]),(21,[1,2,3,8,14,67,68,69]),(22,[1,2,3,8,79]),(23,[6,7]),(24,[1,2,3,8,17]),(25,[1,2,3,8,17,18]),(26,[1,2,3,8,17,18,19]),(27,[1,2,3,8,17,18,85]),(29,[1,2,3,8,17,18,20,21]),(30,[1,2,3,8,17,18,20,22]),(31,[1,2,3,8,17,18,24]),(32,[1,2,3,8,17,18,24,25,26]),(33,[1,2,3,8,17,18,24,120]),(34,[6,7]),(28,[1,2,3,8,17,18,19]),(35,[6,7])]
attribute [go_sem] y9 Tryz.results29 Tryz.ntmps29
theorem aDo(a0:Nat)(r0:List Nat)(x:SystemT)(P:List DepPairT)(set:List Int)(hx:b9 x)(hP:∀p∈P,kS x.sig p)(hS:gA set P.length)(h64:P.length≤64):FCO S [a0+1] 29 [mH [a0+1] x,.sl (.lab [a0+1]) (P.map (rL [a0+1])),.sl (.lab [a0+1]) (set.map (.int .i64))] (.tup [kB (a0::r0) (aDk x.sig (iN x P set)).1,.bool (aDk x.sig (iN x P set)).2]) []:=by
 have hsg:=hx.1.1;have h12:=hx.1.2;have hs8:=hsg.1.2;have hsl:=l5 hS;have hat:=tQ hsg x.sig.length (zQ _);have hat1:1≤atN x.sig x.sig.length:=by
  have h1:=qL x.sig (show 1≤x.sig.length from hsg.1.1);have h2:atN x.sig 1=0+(x.sig.getD 0 default).toNat+1:=rfl;omega
 have cH:=(aLd x.sig P set hs8 hP hS h64).args (args:=[.agg [.sl (.lab [a0+1]) (x.sig.map (.int .i64))],.sl (.lab [a0+1]) (P.map (rL [a0+1])),.sl (.lab [a0+1]) (set.map (.int .i64))]) ⟨aAh _ _,y7 _ _,.any,trivial⟩;have hT0:iP x.sig (gB P set set.length)=gC x.sig x.sig.length++f0 x.sig (gB P set set.length) x.sig.length:=rfl;have hbg:=λf=>@aGM P set x.sig.length set.length f;have hbl:=aBW P set x.sig.length set.length;generalize mZ P set x.sig.length set.length=hB at *;have hfm:=@yL x P set;have hfn:=@aCn x P set;generalize iN x P set=o at *;generalize hH:gB P set set.length=H at *;have hdl:=tU x.sig H;have htl:=aFg x.sig H;refine aVi Tryz.func29 λB hOld=>?_;repeat' first|apply aG|refine aE 0 y9 λK hK=>?_|refine aB ?_|(refine hK.n0 ?_;clear hK K)|apply tTT
 refine eF 8 40000 2 1 rfl (.inl rfl) rfl ?_;simp only[go_sem];repeat' first|exact h.elim|apply aG|refine aE 0 y9 λK hK=>?_|refine λ(K:KT) (hK:KOk S 0 _ _ _ K)=>?_|refine aB ?_|refine aC ?_|refine gL ?_|(refine hK.n0 ?_;clear hK K)|refine aZ (λh=>?_) λh=>?_|refine aA rfl (λh=>?_) λh=>?_|refine hK.skp rfl rfl ?_|refine aJ rfl ?_|apply aF|(refine hK.fork rfl rfl rfl ?_ ?_<;>intro h<;>try simp(disch:=apply aR;omega)only[go_sem] at h)|with_reducible refine aH ?_|((with_reducible refine And.intro ?_ ?_);· first|(intro x hx;subst hx;rfl)|exact wK λ_ _=>rfl|exact mapR_mem λ_ _=>rfl|(intro x;refine And.intro ?_ ?_<;>(intros;subst_vars;rfl)))|apply tTT
 refine bG (ι:=Nat) (λf=>[(31,.int .i64 f),(8,.sl (.own 40000 2 1) ((gC x.sig f).map (.int .i64)))]) (λ_=>[]) (λ_=>[40000]) (λf=>f≤x.sig.length) (λf=>x.sig.length-f) 0 cvB (by omega) (λf hf=>?_);simp only[go_sem];have hla:=j1 x.sig f;have hal:=tQ hsg f hf;by_cases hfl:f<x.sig.length
 ·have har:=hsg.2 f hfl;obtain⟨n,hn⟩:∃n:Nat,x.sig.getD f default=n:=⟨_,(Int.toNat_of_nonneg har.1).symm⟩;have hhA:gC x.sig (f+1)=gC x.sig f++List.replicate (n+1) 1:=by rw[gC,hn];rfl
  have c:=q9 1 (n+1) (by omega);rw[show ((n+1:Nat):Int)=x.sig.getD f default+1 by omega] at c;have hrl:(List.replicate (n+1) (1:Int)).length=n+1:=List.length_replicate;repeat' first|exact h.elim|(exfalso;omega)|apply aG|refine aE 0 y9 λK hK=>?_|refine aB ?_|(refine hK.n0 ?_;clear hK K)|refine aA rfl (λh=>?_) λh=>?_|apply aF|refine hK.c1 rfl rfl rfl (c) ?_|with_reducible refine aH ?_|apply tTT
  exact⟨f+1,(by(refine aD rfl rfl ?_ ?_ ?_ ?_<;>simp(disch:=apply aR;omega)only[go_sem]<;>(try omega));rw[hhA];exact⟨rfl,by omega⟩),by omega,by omega⟩
 ·obtain rfl:f=x.sig.length:=by omega
  repeat' first|exact h.elim|(exfalso;omega)|apply aG|refine aE 0 y9 λK hK=>?_|refine aB ?_|(refine hK.n0 ?_;clear hK K)|refine aA rfl (λh=>?_) λh=>?_|refine aJ rfl ?_|refine hK.c1 rfl rfl rfl (cH) ?_|apply tTT
  refine bG (ι:=Nat) (λf=>[(47,.int .i64 f),(8,.sl (.own 40000 2 1) ((gC x.sig x.sig.length++f0 x.sig H f).map (.int .i64)))]) (λ_=>[]) (λ_=>[40000]) (λf=>f≤x.sig.length) (λf=>x.sig.length-f) 0 (by(refine aD rfl rfl ?_ ?_ ?_ ?_<;>simp(disch:=apply aR;omega)only[go_sem]<;>(try omega));all_goals first|rfl|(simp[f0];done)|exact⟨by simp[f0],rfl⟩) (by omega) (λf hf=>?_);simp only[go_sem];have hlb:=nP x.sig H f;have hbl2:=tQ hsg f hf;by_cases hfl:f<x.sig.length
  ·have har:=hsg.2 f hfl;obtain⟨n,hn⟩:∃n:Nat,x.sig.getD f default=n:=⟨_,(Int.toNat_of_nonneg har.1).symm⟩;have hhB:f0 x.sig H (f+1)=f0 x.sig H f++0::List.replicate n (aDe H f):=by rw[f0,hn];rfl
   have hl0:(gC x.sig x.sig.length++f0 x.sig H f).length≤4*x.sig.length+4*f:=by simp;omega
   have hbf:=hbg f hfl;by_cases hHf:H f
   ·rw[b8 hHf] at hbf;rw[aEq hHf] at hhB;have c:=q9 1 n (by omega);rw[←hn] at c;have hrl:(List.replicate n (1:Int)).length=n:=List.length_replicate;generalize hZ:gC x.sig x.sig.length++f0 x.sig H f=Z at hl0 ⊢;have hz1:(Z++[0]).length=Z.length+1:=by simp
    repeat' first|exact h.elim|(simp only[hbf];simp only[go_sem])|(refine kL 55000 40000 rfl rfl ?_;simp only[go_sem])|(refine kL 66000 40000 rfl rfl ?_;simp only[go_sem])|(exfalso;omega)|(refine And.intro (λy=>⟨λz _ e=>(by subst e;rfl),λe=>(by subst e;rfl)⟩) ?_)|apply aG|refine aE 0 y9 λK hK=>?_|refine aB ?_|(refine hK.n0 ?_;clear hK K)|refine aA rfl (λh=>?_) λh=>?_|apply aF|refine hK.c1 rfl rfl rfl (c) ?_|with_reducible refine aH ?_|apply tTT
    exact⟨f+1,(by(refine aD rfl rfl ?_ ?_ ?_ ?_<;>simp(disch:=apply aR;omega)only[go_sem]<;>(try omega));rw[hhB,←hZ,List.append_assoc,List.append_assoc];exact⟨rfl,by omega⟩),by omega,by omega⟩
   ·rw[bV hHf] at hbf;rw[aI0 hHf] at hhB;have c:=q9 0 n (by omega);rw[←hn] at c;have hrl:(List.replicate n (0:Int)).length=n:=List.length_replicate;generalize hZ:gC x.sig x.sig.length++f0 x.sig H f=Z at hl0 ⊢;have hz1:(Z++[0]).length=Z.length+1:=by simp
    repeat' first|exact h.elim|(simp only[hbf];simp only[go_sem])|(refine kL 55000 40000 rfl rfl ?_;simp only[go_sem])|(refine kL 66000 40000 rfl rfl ?_;simp only[go_sem])|(exfalso;omega)|(refine And.intro (λy=>⟨λz _ e=>(by subst e;rfl),λe=>(by subst e;rfl)⟩) ?_)|apply aG|refine aE 0 y9 λK hK=>?_|refine aB ?_|(refine hK.n0 ?_;clear hK K)|refine aA rfl (λh=>?_) λh=>?_|apply aF|refine hK.c1 rfl rfl rfl (c) ?_|with_reducible refine aH ?_|apply tTT
    exact⟨f+1,(by(refine aD rfl rfl ?_ ?_ ?_ ?_<;>simp(disch:=apply aR;omega)only[go_sem]<;>(try omega));rw[hhB,←hZ,List.append_assoc,List.append_assoc];exact⟨rfl,by omega⟩),by omega,by omega⟩
  ·obtain rfl:f=x.sig.length:=by omega
   have hTe:gC x.sig x.sig.length++f0 x.sig H x.sig.length=iP x.sig H:=rfl;rw[hTe];generalize iP x.sig H=T at *;repeat' first|exact h.elim|(exfalso;omega)|apply aG|refine aE 0 y9 λK hK=>?_|refine aB ?_|(refine hK.n0 ?_;clear hK K)|refine aA rfl (λh=>?_) λh=>?_|refine aJ rfl ?_|apply tTT
   refine aV (ι:=Nat) (λp=>[(14,.int .i64 (tI T p)),(69,.int .i64 p)]) (λp=>[]) (λp=>p≤T.length) (λp=>T.length-p) 0 cvB ?_ (λp hp=>?_);rotate_left
   simp only[go_sem]
   ·have htb:=aYA hdl hp;by_cases hpl:p<T.length
    ·have hd1:=hdl _ (aX T p hpl);repeat' first|exact h.elim|(exfalso;omega)|apply aG|refine aE 0 y9 λK hK=>?_|refine aB ?_|(refine hK.n0 ?_;clear hK K)|refine aA rfl (λh=>?_) λh=>?_|apply aF|refine hK.c1 rfl rfl rfl (aVW (tI T p) (T.getD p default+1) htb.1 (by omega)) ?_|with_reducible refine aH ?_|apply tTT
     exact⟨p+1,(by(refine aD rfl rfl ?_ ?_ ?_ ?_<;>simp(disch:=apply aR;omega)only[go_sem]<;>(try omega));rw[aWA hdl hpl];exact⟨rfl,by omega⟩),by omega,by omega⟩
    ·obtain rfl:p=T.length:=by omega
     by_cases hpr:g6 T T.length≤20000
     ·have ho:=hfm hpr;have cL:=aAF [a0+3] (by simp) 0 T.length (by omega) (by omega);obtain⟨Lw,hLw⟩:∃Lw,lF (upD T)=Lw:=⟨_,rfl⟩;have hLl:Lw.length=T.length:=by rw[←hLw,aAo,kN]
      rw[←aDu,hLw] at cL;have hne0:Lw≠[]:=by intro e;rw[e] at hLl;simp only[List.length_nil] at hLl;omega
      repeat' first|exact h.elim|(exfalso;omega)|(refine rB [a0+2] (by simp) 18 84 (ys:=Lw) rfl (by simp[Lg.look]) rfl hne0 (by simp) ?_;simp only[go_sem])|apply aG|refine aE 0 y9 λK hK=>?_|refine aB ?_|(refine hK.n0 ?_;clear hK K)|refine aA rfl (λh=>?_) λh=>?_|refine aJ rfl ?_|refine hK.c1 rfl rfl rfl (cL) ?_|refine hK.cT rfl rfl rfl (sG _ Lw (by omega)) ?_|apply tTT
      have hok:=yM hdl;have hseq:=pP hok;have hdig:=kE hok;have hst:Lw=(iO (upD T)).headD Lw/\true=!(iO (upD T)).isEmpty:=by
       obtain⟨r1,hr1⟩:=hseq.2;rw[hr1,List.headD_cons,hLw];exact⟨rfl,rfl⟩
      refine aV (ι:=List (List Int)) (λp=>[(18,PL [a0+2] (p.headD Lw)),(19,.bool (!p.isEmpty))]) (λp=>[]) (λp=>(aA4 (upD T) p/\∀c∈p,pB (upD T) c)/\gI (QM x P set) p=o) (λp=>p.length) (iO (upD T)) (by(refine aD rfl rfl ?_ ?_ ?_ ?_<;>simp(disch:=apply aR;omega)only[go_sem]<;>(try omega));(rw[←hst.1];exact⟨eB _,hst.2⟩)) ?_ (λp hp=>?_);rotate_left
      simp only[go_sem]
      ·obtain⟨⟨hq1,hq2⟩,hq3⟩:=hp;cases p with
       | nil =>
        obtain rfl:none=o:=hq3;simp only[List.isEmpty_nil,Bool.not_true];repeat' first|exact h.elim|apply aG|refine aE 0 y9 λK hK=>?_|refine aB ?_|refine aC ?_|(refine hK.n0 ?_;clear hK K)|refine aA rfl (λh=>?_) λh=>?_|refine aJ rfl ?_|apply tTT
        refine⟨?_,rfl⟩;simp[aDk,gU,le0]
       | cons a r =>
        have ha:=hq2 a zH;have hal:a.length=T.length:=by rw[kG ha,kN]
        have hab:=aAB hdl ha;obtain⟨hn1,hn2⟩:=tH hq1;rw[hLw] at hn1;have hne:a≠[]:=by intro e;rw[e] at hal;simp only[List.length_nil] at hal;omega
        have hnl:(r.headD Lw).length=a.length:=by
         have:=(pZ (bs:=upD T) (xs:=a) (by rw[hal,kN])).1;rw[hn1] at this;rw[this,kN,hal]
        have hnn:r.headD Lw≠[]:=by intro e;rw[e] at hnl;simp only[List.length_nil] at hnl;omega
        simp only[List.headD_cons,List.isEmpty_cons,Bool.not_false];obtain⟨hpA,hpB⟩:=aI1 (H:=H) hsg (by rw[show iP x.sig H=T from hT0.symm];exact ha);obtain⟨hM,htk⟩:=aCj hpA hpB;obtain⟨U1,hU1⟩:∃U,U=upR (λi y=>lN (a0::r0++[0+i]) y) (iE x.sig a) x.sig.length:=⟨_,rfl⟩;obtain⟨U2,hU2⟩:∃U,U=upR (λi y=>lN (a0::r0++[x.sig.length+i]) y) (iE x.sig (a.drop (atN x.sig x.sig.length))) x.sig.length:=⟨_,rfl⟩;have c1:=aEy (a0::r0) (by simp) 0 x.sig a hsg (by omega) (by omega);rw[←hU1] at c1;have c1:=c1.args (args:=[.agg [.sl (.lab [a0+1]) (x.sig.map (.int .i64))],PL [a0+2] a]) ⟨aAh _ _,aPS,trivial⟩;have c2:=aEy (a0::r0) (by simp) x.sig.length x.sig (a.drop (atN x.sig x.sig.length)) hsg (by rw[List.length_drop];omega) (by rw[List.length_drop];omega);rw[←hU2] at c2;have c2:=c2.args (args:=[.agg [.sl (.lab [a0+1]) (x.sig.map (.int .i64))],.sl .any ((a.drop (atN x.sig x.sig.length)).map (.int .i64))]) ⟨aAh _ _,.refl _,trivial⟩;have hU:U1++U2=gU (λi y=>lN (a0::r0++[i]) y) (lH x.sig a):=by rw[hU1,hU2];exact aWb _ _ _ _ hpA.1.2 hpB.1.2
        have hUl:U1.length=x.sig.length/\U2.length=x.sig.length:=by rw[hU1,hU2];exact⟨lR _ _ _,lR _ _ _⟩
        have hU1c:∀d∈U1,d.cells.length=2:=by rw[hU1];exact wK λ_ _=>rfl
        have hU2c:∀d∈U2,d.cells.length=2:=by rw[hU2];exact wK λ_ _=>rfl
        have cC:=aFD 500 (upD T) a (by rw[hal,kN]) hne (by omega) (λz hz=>by have:=hab z hz;omega);rw[hn1,hLw,show (upD T).map (·.2)=T by simp[upD,Function.comp_def]] at cC;have cC:=cC.args (args:=[.ms 500 a.length,.sl (.lab [a0+3]) (Lw.map (.int .i64)),.sl (.own 40000 2 1) (T.map (.int .i64))]) ⟨.refl _,.any,.any,trivial⟩;have hnx:¬QM x P set a->gI (QM x P set) r=o:=λh=>by rw[←hq3,jK h]
        have hyx:QM x P set a->o=some a:=λh=>by rw[←hq3,j7 h]
        have hs1:∀tk,(D.sl (.lab [a0+1]) (P.map (rL [a0+1]))).safeP [a0+2] tk=true:=λtk=>by simp[D.safeP,lT (aL8 (q:=[a0+2]) (l:=[a0+1]) (tk:=tk) (by simp))]
        have hs2:∀tk,(D.sl (.lab [a0+1]) (set.map (.int .i64))).safeP [a0+2] tk=true:=λtk=>by simp[D.safeP,gG]
        have hs3:∀tk,(D.sl (.lab [a0+3]) (Lw.map (.int .i64))).safeP [a0+2] tk=true:=λtk=>by simp only[D.safeP,gG];simp
        have hs4:∀tk,D.safePL [a0+2] tk [.sl (.lab [a0+1]) (x.sig.map (.int .i64)),.sl (.lab [a0+1]) (x.rules.map (uD [a0+1]))]=true:=λtk=>by simp[D.safePL,D.safeP,gG,lT (aGJ (q:=[a0+2]) (l:=[a0+1]) (tk:=tk) (by simp))]
        by_cases hA:mD x (iE x.sig a)
        ·have cW:=(xL [a0+4] (by simp) x P set (lH x.sig a) (by unfold lH;rw[htk];exact hA) hM hP hS h64).args (args:=[mH [a0+1] x,.sl (.lab [a0+1]) (P.map (rL [a0+1])),.sl (.lab [a0+1]) (set.map (.int .i64)),.sl (.own 107000 108 2) (U1++U2)]) ⟨wO _ _,y7 _ _,.any,by rw[hU];exact aAC _ λj x=>vS _ _,trivial⟩;repeat' first|exact h.elim|(refine hK.callB rfl rfl rfl (cC) (by refine⟨⟨?_,?_,?_,?_,?_⟩,⟨?_,?_,?_,?_,?_⟩,?_⟩<;>simp[LS.getBox,Lg.look,D.ids,D.idsL,nG,LS.clean,D.puOk,D.pu,D.pu1,D.tks,D.tksL,dR,aBY,aBn]) ?_;simp(disch:=apply aR;omega)only[go_sem])|(refine xY 6 (a0::r0) (k:=107000) rfl (by simp) (by simp) ?_;simp only[go_sem])|(refine rB [a0+2] (by simp) 18 500 (n:=a.length) (ys:=r.headD Lw) rfl rfl hnl.symm hnn (by simp) ?_;simp only[go_sem])|(refine⟨List.mem_filter.2 ⟨by simp,by simp⟩,hU1c,hU2c,by omega,by omega,?_⟩)|(refine vT 28 [a0+1] [a0+2] hOld (by simp) (by simp) 18 500 rfl hne (by simp) [(1,.sl (.lab [a0+1]) (P.map (rL [a0+1]))),(2,.sl (.lab [a0+1]) (set.map (.int .i64))),(3,.box 3 0),(8,.sl (.own 40000 2 1) (T.map (.int .i64))),(17,.sl (.lab [a0+3]) (Lw.map (.int .i64)))] [(3,[.sl (.lab [a0+1]) (x.sig.map (.int .i64)),.sl (.lab [a0+1]) (x.rules.map (uD [a0+1]))])] (List.forall_mem_cons.2 ⟨⟨rfl,hs1 _,by simp[D.ids]⟩,List.forall_mem_cons.2 ⟨⟨rfl,hs2 _,by simp[D.ids]⟩,List.forall_mem_cons.2 ⟨⟨rfl,rfl,by simp[D.ids]⟩,List.forall_mem_cons.2 ⟨⟨rfl,by simp[D.safeP,gG],by simp[D.ids]⟩,List.forall_mem_cons.2 ⟨⟨rfl,hs3 _,by simp[D.ids]⟩,λq hq=>by cases hq⟩⟩⟩⟩⟩) (List.forall_mem_cons.2 ⟨⟨by simp,rfl,hs4 _,by simp[D.idsL,D.ids]⟩,λq hq=>by cases hq⟩) ?_;simp only[go_sem])|apply aG|refine aE 0 y9 λK hK=>?_|refine aB ?_|refine aC ?_|(refine hK.n0 ?_;clear hK K)|refine aZ (λh=>?_) λh=>?_|refine aA rfl (λh=>?_) λh=>?_|apply aF|refine hK.cB rfl rfl rfl (c1) ?_|refine hK.cB rfl rfl rfl (c2) ?_|refine hK.c1 rfl rfl rfl (cW) ?_|apply tTT
         ·rw[hyx ⟨hA,aB2.2 ⟨by assumption,by assumption⟩⟩];exact⟨hU,rfl⟩
         ·have hQ:¬QM x P set a:=λe=>by have:=(aB2.1 e.2).2;omega
          exact⟨r,(by(refine aD rfl rfl ?_ ?_ ?_ ?_<;>simp(disch:=apply aR;omega)only[go_sem]<;>(try omega));first|exact eB _|exact .refl _|(simp;done)|exact⟨eB _,by simp⟩|trace_state),⟨⟨hn2,λd hd=>hq2 d (zG _ hd)⟩,hnx hQ⟩,by simp⟩
         ·have hQ:¬QM x P set a:=λe=>by
           have h1:=(aB2.1 e.2).1;have h2:(wR x.sig P set (lH x.sig a)).2=false:=by assumption
           rw[h1] at h2;cases h2
          exact⟨r,(by(refine aD rfl rfl ?_ ?_ ?_ ?_<;>simp(disch:=apply aR;omega)only[go_sem]<;>(try omega));first|exact eB _|exact .refl _|(simp;done)|exact⟨eB _,by simp⟩|trace_state),⟨⟨hn2,λd hd=>hq2 d (zG _ hd)⟩,hnx hQ⟩,by simp⟩
        ·have hQ:¬QM x P set a:=λe=>hA e.1;have cW:=(aNV x P set (lH x.sig a) [a0+4] hx (by unfold lH;rw[htk];exact hA) hM).args (args:=[mH [a0+1] x,.sl (.lab [a0+1]) (P.map (rL [a0+1])),.sl (.lab [a0+1]) (set.map (.int .i64)),.sl (.own 107000 108 2) (U1++U2)]) ⟨wO _ _,y7 _ _,.any,by rw[hU];exact aAC _ λj x=>vS _ _,trivial⟩;repeat' first|exact h.elim|(refine hK.callB rfl rfl rfl (cC) (by refine⟨⟨?_,?_,?_,?_,?_⟩,⟨?_,?_,?_,?_,?_⟩,?_⟩<;>simp[LS.getBox,Lg.look,D.ids,D.idsL,nG,LS.clean,D.puOk,D.pu,D.pu1,D.tks,D.tksL,dR,aBY,aBn]) ?_;simp(disch:=apply aR;omega)only[go_sem])|(refine rB [a0+2] (by simp) 18 500 (n:=a.length) (ys:=r.headD Lw) rfl rfl hnl.symm hnn (by simp) ?_;simp only[go_sem])|(refine⟨List.mem_filter.2 ⟨by simp,by simp⟩,hU1c,hU2c,by omega,by omega,?_⟩)|(refine vT 28 [a0+1] [a0+2] hOld (by simp) (by simp) 18 500 rfl hne (by simp) [(1,.sl (.lab [a0+1]) (P.map (rL [a0+1]))),(2,.sl (.lab [a0+1]) (set.map (.int .i64))),(3,.box 3 0),(8,.sl (.own 40000 2 1) (T.map (.int .i64))),(17,.sl (.lab [a0+3]) (Lw.map (.int .i64)))] [(3,[.sl (.lab [a0+1]) (x.sig.map (.int .i64)),.sl (.lab [a0+1]) (x.rules.map (uD [a0+1]))])] (List.forall_mem_cons.2 ⟨⟨rfl,hs1 _,by simp[D.ids]⟩,List.forall_mem_cons.2 ⟨⟨rfl,hs2 _,by simp[D.ids]⟩,List.forall_mem_cons.2 ⟨⟨rfl,rfl,by simp[D.ids]⟩,List.forall_mem_cons.2 ⟨⟨rfl,by simp[D.safeP,gG],by simp[D.ids]⟩,List.forall_mem_cons.2 ⟨⟨rfl,hs3 _,by simp[D.ids]⟩,λq hq=>by cases hq⟩⟩⟩⟩⟩) (List.forall_mem_cons.2 ⟨⟨by simp,rfl,hs4 _,by simp[D.idsL,D.ids]⟩,λq hq=>by cases hq⟩) ?_;simp only[go_sem])|apply aG|refine aE 0 y9 λK hK=>?_|refine aB ?_|(refine hK.n0 ?_;clear hK K)|refine aA rfl (λh=>?_) λh=>?_|apply aF|refine hK.cB rfl rfl rfl (c1) ?_|refine hK.cB rfl rfl rfl (c2) ?_|refine hK.c1 rfl rfl rfl (cW) ?_|apply tTT
         exact⟨r,(by(refine aD rfl rfl ?_ ?_ ?_ ?_<;>simp(disch:=apply aR;omega)only[go_sem]<;>(try omega));first|exact eB _|exact .refl _|(simp;done)|exact⟨eB _,by simp⟩|trace_state),⟨⟨hn2,λd hd=>hq2 d (zG _ hd)⟩,hnx hQ⟩,by simp⟩
      ·exact⟨⟨hseq.1,hdig⟩,ho.symm⟩
     ·have ho:=hfn hpr;subst ho;repeat' first|exact h.elim|(exfalso;omega)|apply aG|refine aE 0 y9 λK hK=>?_|refine aB ?_|refine aC ?_|(refine hK.n0 ?_;clear hK K)|refine aA rfl (λh=>?_) λh=>?_|refine aJ rfl ?_|apply tTT
      refine⟨?_,rfl⟩;simp[aDk,gU,le0]
   ·exact Nat.zero_le _
end
section
attribute [local irreducible] SW bA bC dM bZ FC dX toF d7 iC fZ sumF b5
theorem aPi{l:List Nat}:∀ {ds:List D},(∀d∈ds,d.noL l=true)->D.noLL l ds=true
 | [],_=>rfl
 | d::r,h=>by simp only[D.noLL,h d zH,aPi λe he=>h e (zG _ he),Bool.and_self]
theorem aVx{l p:List Nat}(h:p++[1]≠l)(y:PolyT):(lN p y).noL l=true:=by
 have h1:D.noLL l (y.coef.map (D.int .i64))=true:=aAT (λ_=>rfl) _;have h2:(p++[1] != l)=true:=by simpa using h
 simp only[lN,dL,D.noL,D.noLL,h1,h2,Bool.and_self]
theorem aD1(p:List Nat)(hp:p≠[])(x:SystemT)(P:List DepPairT)(set:List Int)(hx:b9 x)(hP:∀p∈P,kS x.sig p)(hS:gA set P.length)(h64:P.length≤64):FC S 29 [] [] [] [bR x,.sl .any (P.map bN),.sl .any (set.map (.int .i64))] (.tup [kB p (aDk x.sig (iN x P set)).1,.bool (aDk x.sig (iN x P set)).2]) [] []:=by
 obtain⟨a0,r0,rfl⟩:∃a r,p=a::r:=by
  cases p with
  | nil=>exact absurd rfl hp
  | cons a r=>exact⟨a,r,rfl⟩
 refine aI6 [a0+1] (by simp) ?_ ?_ ?_
 ·simp[D.okLbL,tZ,D.okLb,jY aFF,lV]
 ·simp only[kB,D.noL,D.noLL,Bool.and_true,Bool.and_eq_true,bne_iff_ne,ne_eq];exact⟨by simp,aPi λd hd=>by
   obtain⟨j,_,rfl⟩:=zJ.1 hd;exact aVx (by simp) _⟩
 ·simp only[D.lbL,aBu,D.lb,pL,aOi,mP];exact aDo a0 r0 x P set hx hP hS h64
def aBP:List (Nat×List Nat):=[(0,[1,2,3,4]),(1,[1,2,3,4,10]),(2,[1,3,4,10,15,16,17]),(3,[1,3,4,10,15,16,17,18]),(4,[1,3,4,10,12,15,16,17]),(5,[1,3,4,10,12,13,14,15,16,17]),(6,[1,3,4,10,12,13,14,15,16,17,49]),(7,[8,9]),(8,[1,3,4,10,12,15,16,17,53]),(9,[1,3,4,10,15,16,17]),(10,[1,3,4,10,15,16,17]),(11,[8,9])]
attribute [go_sem] aBP Tryz.results28 Tryz.ntmps28
theorem aDY(p:List Nat)(hp:p≠[])(rs:List Int)(P:List DepPairT)(set proj:List Int)(hj:sV rs proj)(hP:∀p∈P,kS rs p)(hS:gA set P.length)(hl:P.length≤64):FC S 28 [] [] [] [.agg [.sl .any (rs.map (.int .i64))],.sl .any (P.map bN),.sl .any (set.map (.int .i64)),.sl .any (proj.map (.int .i64))] (.tup [dL p (jR rs P set proj).1,.bool (jR rs P set proj).2]) [] []:=by
 have hsl:=l5 hS;have hat:∀i<set.length,(0≤set.getD i default/\set.getD i default<P.length)/\kS rs (P.getD (set.getD i default).toNat default):=λi hi=>by
  have h:=(hS i hi).1;exact⟨h,hP _ (aX P _ (by omega))⟩
 refine fcb Tryz.func28 λB=>?_;repeat' first|apply aG|refine aE 0 aBP λK hK=>?_|refine aB ?_|(refine hK.n0 ?_;clear hK K)|apply tTT
 refine eF 10 58000 2 1 rfl (.inl rfl) rfl ?_;simp only[go_sem];repeat' first|exact h.elim|apply aG|refine aE 0 aBP λK hK=>?_|refine λ(K:KT) (hK:KOk S 0 _ _ _ K)=>?_|refine aU aBP (by kernel_rfl) λK hK=>?_|refine aB ?_|refine aQ ?_|refine aC ?_|refine gL ?_|(refine hK.n0 ?_;clear hK K)|refine aZ (λh=>?_) λh=>?_|refine bH (λh=>?_) λh=>?_|refine aA rfl (λh=>?_) λh=>?_|refine hK.skp rfl rfl ?_|refine aJ rfl ?_|apply aF|(refine hK.fork rfl rfl rfl ?_ ?_<;>intro h<;>try simp(disch:=apply aR;omega)only[go_sem] at h)|with_reducible refine aH ?_|((with_reducible refine And.intro ?_ ?_);· first|(intro x hx;subst hx;rfl)|exact wK λ_ _=>rfl|exact mapR_mem λ_ _=>rfl|(intro x;refine And.intro ?_ ?_<;>(intros;subst_vars;rfl)))|apply tTT
 refine bG (ι:=Nat) (λi=>[(17,.int .i64 i),(10,.sl (.own 58000 2 1) ((jL rs P set proj i).map (.int .i64)))]) (λ_=>[]) (λ_=>[58000]) (λi=>i≤set.length/\∀j<i,pO rs proj (P.getD (set.getD j default).toNat default)) (λi=>set.length-i) 0 cvB ⟨by omega,λj hj=>absurd hj (by omega)⟩ (λi hi=>?_);obtain⟨hi,hk⟩:=hi;simp only[go_sem];have hwl:=aJw rs P set proj i;by_cases hil:i<set.length
 ·have hq:=hat i hil;have h1:=hq.1;have ha:=vO hq.2 hj;have hmo:=aVE hq.2 hj;obtain⟨q,hq'⟩:∃q,P.getD (set.getD i default).toNat default=q:=⟨_,rfl⟩;rw[hq'] at hq ha hmo;have c1:=aA0 rs proj q.l hj hq.2.1.1 hq.2.2.1;have c2:=aA0 rs proj q.r hj hq.2.1.2 hq.2.2.2;have hY:tY rs proj q->jL rs P set proj (i+1)=jL rs P set proj i++[set.getD i default]:=λh=>aIY (by rw[hq'];exact h);have hN:¬tY rs proj q->jL rs P set proj (i+1)=jL rs P set proj i:=λh=>aPr (by rw[hq'];exact h);have hM:¬pO rs proj q->jR rs P set proj=([],false):=λh=>aP5 λe=>h (by have:=e i hil;rwa [hq'] at this);have hKJ:pO rs proj q->∀j<i+1,pO rs proj (P.getD (set.getD j default).toNat default):=λh=>bJ hk (by rw[hq'];exact h);rw[hmo] at hM hKJ;unfold tY at hY hN;clear hmo;generalize jX rs proj q.l=a at *;generalize jX rs proj q.r=b at *;rw[←hq'] at c1 c2;rcases Classical.em (a=[]) with ea|ea
  ·rw[hM λh=>h.1.1 ea];subst ea;rw[show sZ []=D.sl .nil [] from by simp[sZ,tkN]] at c1;rcases Classical.em (b=[]) with eb|eb
   ·subst eb;rw[show sZ []=D.sl .nil [] from by simp[sZ,tkN]] at c2;repeat' first|exact h.elim|(exfalso;omega)|apply aG|refine aE 0 aBP λK hK=>?_|refine aU aBP (by kernel_rfl) λK hK=>?_|refine aB ?_|refine aQ ?_|refine aC ?_|(refine hK.n0 ?_;clear hK K)|refine aA rfl (λh=>?_) λh=>?_|refine hK.skp rfl rfl ?_|refine hK.c1 rfl rfl rfl (c1) ?_|refine hK.c1 rfl rfl rfl (c2) ?_|with_reducible refine aH ?_|apply tTT
    all_goals first|exact⟨rfl,rfl⟩|exact⟨eB _,rfl⟩|(refine⟨?_,rfl⟩;simp[le0])
   ·rw[show sZ b=D.sl .any (b.map (.int .i64)) from by simp only[sZ,tkN,if_neg eb]] at c2;repeat' first|exact h.elim|(exfalso;omega)|apply aG|refine aE 0 aBP λK hK=>?_|refine aU aBP (by kernel_rfl) λK hK=>?_|refine aB ?_|refine aQ ?_|refine aC ?_|(refine hK.n0 ?_;clear hK K)|refine aA rfl (λh=>?_) λh=>?_|refine hK.skp rfl rfl ?_|refine hK.c1 rfl rfl rfl (c1) ?_|refine hK.c1 rfl rfl rfl (c2) ?_|with_reducible refine aH ?_|apply tTT
    all_goals first|exact⟨rfl,rfl⟩|exact⟨eB _,rfl⟩|(refine⟨?_,rfl⟩;simp[le0])
  have hal:a.map (D.int .i64)≠[]:=by simpa using ea
  rw[show sZ a=D.sl .any (a.map (.int .i64)) from by simp only[sZ,tkN,if_neg ea]] at c1;rcases Classical.em (b=[]) with eb|eb
  ·rw[hM λh=>h.1.2 eb];subst eb;rw[show sZ []=D.sl .nil [] from by simp[sZ,tkN]] at c2;repeat' first|exact h.elim|(exfalso;omega)|apply aG|refine aE 0 aBP λK hK=>?_|refine aU aBP (by kernel_rfl) λK hK=>?_|refine aB ?_|refine aQ ?_|refine aC ?_|(refine hK.n0 ?_;clear hK K)|refine aA rfl (λh=>?_) λh=>?_|refine hK.skp rfl rfl ?_|refine hK.c1 rfl rfl rfl (c1) ?_|refine hK.c1 rfl rfl rfl (c2) ?_|with_reducible refine aH ?_|apply tTT
   all_goals first|exact⟨rfl,rfl⟩|exact⟨eB _,rfl⟩|(refine⟨?_,rfl⟩;simp[le0])
  have hbl:b.map (D.int .i64)≠[]:=by simpa using eb
  rw[show sZ b=D.sl .any (b.map (.int .i64)) from by simp only[sZ,tkN,if_neg eb]] at c2;have cL0:=aNP rs a b (ha.1 ea);have cL1:=aCe rs a b (ha.1 ea);repeat' first|exact h.elim|(exfalso;omega)|apply aG|refine aE 0 aBP λK hK=>?_|refine aU aBP (by kernel_rfl) λK hK=>?_|refine aB ?_|refine aQ ?_|refine aC ?_|(refine hK.n0 ?_;clear hK K)|refine aA rfl (λh=>?_) λh=>?_|apply aF|refine hK.c1 rfl rfl rfl (c1) ?_|refine hK.c1 rfl rfl rfl (c2) ?_|refine hK.c1 rfl rfl rfl (cL0) ?_|refine hK.c1 rfl rfl rfl (cL1) ?_|with_reducible refine aH ?_|apply tTT
  all_goals first
   | (rw[hM λh=>absurd h.2 (by assumption)];first|exact⟨rfl,rfl⟩|exact⟨eB _,rfl⟩|(refine⟨?_,rfl⟩;simp[le0];done))
   | exact⟨i+1,(by(refine aD rfl rfl ?_ ?_ ?_ ?_<;>simp(disch:=apply aR;omega)only[go_sem]<;>(try omega));rw[hY ⟨⟨ea,eb⟩,by assumption⟩];exact⟨rfl,by omega⟩),⟨by omega,hKJ ⟨⟨ea,eb⟩,by assumption⟩⟩,by omega⟩
   | exact⟨i+1,(by(refine aD rfl rfl ?_ ?_ ?_ ?_<;>simp(disch:=apply aR;omega)only[go_sem]<;>(try omega));rw[hN λh=>absurd h.2 (by assumption)];exact⟨rfl,by omega⟩),⟨by omega,hKJ ⟨⟨ea,eb⟩,by assumption⟩⟩,by omega⟩
   | trace_state
 ·repeat' first|exact h.elim|(exfalso;omega)|(refine xY 10 p (k:=58000) rfl (by simp) hp ?_;simp only[go_sem])|apply aG|refine aE 0 aBP λK hK=>?_|refine aB ?_|refine aC ?_|(refine hK.n0 ?_;clear hK K)|refine aA rfl (λh=>?_) λh=>?_|refine aJ rfl ?_|apply tTT
  rw[aH6 λj hj'=>hk j (by omega),show i=set.length by omega];exact⟨rfl,rfl⟩
end
end Go.Proofs.YtmfmgoceeedonaaGreat
