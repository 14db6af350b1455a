/-
  K7, K8, Q2i, K10, A06d, one behind the other.
-/
import Derived.Test.YtpennhjjnlkbiaaGreatG12
import Derived.Test.YtpennhjjnlkbiaaGreatG10
import Derived.Test.YtpennhjjnlkbiaaGreatG1
namespace Go.Proofs.YtpennhjjnlkbiaaGreat
open Go Go.Lg
set_option linter.unusedSimpArgs false
set_option linter.unusedVariables false
set_option maxHeartbeats 4000000
section
attribute [local irreducible] SW bC bE dE bU FC dO toF dP fV fD sumF bR
theorem aUV(p:List Nat)(A B:List PolyT)(n:Nat)(hA:A.length=n)(hB:B.length=n):upR (λi y=>m4 (p++[0+i]) y) A n++upR (λi y=>m4 (p++[n+i]) y) B n=lE (λi y=>m4 (p++[i]) y) (A++B):=by
 refine List.ext_getElem (by rw[zK,kH,kH,jP,zK,hA,hB]) λj h1 h2=>?_
 simp only[upR,lE,List.getElem_append,zC,List.length_range,List.getElem_map,List.getElem_range]
 split
 ·rename_i h
  rw[Nat.zero_add]
  congr 1
  rw[zD,zD,zL (by omega)]
 ·rename_i h
  rw[show n+(j-n)=j by omega]
  congr 1
  rw[zD,zD,zM (by omega),hA]
attribute [local go_sem] l8 aFn PL
def xM:List (Nat×List Nat):=[(0,[1,2,3]),(1,[1,2,3,8]),(2,[1,2,3,8,29,30,31]),(3,[1,2,3,8,29,30,31,32]),(4,[1,2,3,8,10,29,30,31]),(5,[1,2,3,8,29,30,31]),(6,[1,2,3,8,29,30,31]),(7,[1,2,3,8,45,46,47]),(8,[1,2,3,8,45,46,47,48]),(9,[1,2,3,8,11,12,45,46,47]),(10,[1,2,3,8,11,12,45,46,47]),(11,[1,2,3,8,11,12,13,45,46,47]),(12,[1,2,3,8,11,13,45,46,47,55]),(13,[1,2,3,8,11,13,45,46,47]),(14,[1,2,3,8,45,46,47]),(15,[1,2,3,8,45,46,47]),(16,[1,2,3,8,14]),(17,[1,2,3,8,14,67,68,69]),(18,[1,2,3,8,14,67,68,69,70]),(19,[1,2,3,8,14,16,67,68,69]),(20,[1,2,3,8,14,67,68,69]),(21,[1,2,3,8,14,67,68,69]),(22,[1,2,3,8,79]),(23,[6,7]),(24,[1,2,3,8,17]),(25,[1,2,3,8,17,18]),(26,[1,2,3,8,17,18,19]),(27,[1,2,3,8,17,18,85]),(29,[1,2,3,8,17,18,20,21]),(30,[1,2,3,8,17,18,20,22]),(31,[1,2,3,8,17,18,24]),(32,[1,2,3,8,17,18,24,25,26]),(33,[1,2,3,8,17,18,24,120]),(34,[6,7]),(28,[1,2,3,8,17,18,19]),(35,[6,7])]
attribute [go_sem] xM
theorem aBx(a0:Nat)(r0:List Nat)(x:SystemT)(P:List DepPairT)(set:List Int)(hx:b7 x)(hP:∀p∈P,jN x.sig p)(hS:fI set P.length)(h64:P.length≤64):FCO S [a0+1] 40 [kV [a0+1] x,.sl (.lab [a0+1]) (P.map (o6 [a0+1])),.sl (.lab [a0+1]) (set.map (.int .i64))] (.tup [yQ (a0::r0) (aBo x.sig (gY x P set)).1,.bool (aBo x.sig (gY x P set)).2]) []:=by
 have hsg:=hx.1.1
 have h12:=hx.1.2
 have hs8:=hsg.1.2
 have hsl:=lO hS
 have hat:=qM hsg x.sig.length (zQ _)
 have hat1:1≤atN x.sig x.sig.length:=by
  have h1:=oW x.sig (show 1≤x.sig.length from hsg.1.1)
  have h2:atN x.sig 1=0+(x.sig.getD 0 default).toNat+1:=rfl
  omega
 have cH:=(aJx x.sig P set hs8 hP hS h64).args (args:=[.agg [.sl (.lab [a0+1]) (x.sig.map (.int .i64))],.sl (.lab [a0+1]) (P.map (o6 [a0+1])),.sl (.lab [a0+1]) (set.map (.int .i64))]) ⟨vZ _ _,xO _ _,.any,trivial⟩
 have hT0:gP x.sig (fC P set set.length)=fF x.sig x.sig.length++fB x.sig (fC P set set.length) x.sig.length:=rfl
 have hbg:=λf=>@aE4 P set x.sig.length set.length f
 have hbl:=yT P set x.sig.length set.length
 generalize lR P set x.sig.length set.length=hB at *
 have hfm:=@uL x P set
 have hfn:=@aAk x P set
 generalize gY x P set=o at *
 generalize hH:fC P set set.length=H at *
 have hdl:=wN x.sig H
 have htl:=aCN x.sig H
 refine rH Tryz.func40 rfl (by kernel_rfl) (by simp[Tryz.f40]) λB hOld=>?_
 simp only[Tryz.ntmps40,aS,aZ,Nat.reduceAdd]
 repeat' first|apply aE|apply aG|refine aI 0 xM λK hK=>?_|((first|apply aD|refine aA (aO ?_)|apply aA);simp(disch:=apply aB;omega)only[go_sem,Tryz.results40])|(apply hK.nil;clear hK K;simp only[go_sem])|fail
 refine dW 8 40000 2 1 rfl (.inl rfl) rfl ?_
 simp only[go_sem]
 repeat' first|apply aE|apply aG|apply aM|apply aJ|refine aI 0 xM λK hK=>?_|refine λ(K:KT) (hK:KOk S 0 _ _ _ K)=>?_|((first|apply aD|refine aA (aO ?_)|apply aA);simp(disch:=apply aB;omega)only[go_sem,Tryz.results40])|(apply hK.nil;clear hK K;simp only[go_sem])|((first|refine aH rfl rfl rfl rfl rfl ?_ ?_|refine aF rfl ?_ ?_)<;>intro h<;>try simp(disch:=apply aB;omega)only[go_sem] at h)|refine hK.skp rfl rfl ?_|refine aT rfl ?_|apply aL|(refine hK.fork rfl rfl rfl ?_ ?_<;>intro h<;>try simp(disch:=apply aB;omega)only[go_sem] at h)|(with_reducible refine And.intro (by first|omega|(simp only[lens];omega)) ?_)|((with_reducible refine And.intro ?_ ?_);· first|(intro x hx;subst hx;rfl)|exact sU λ_ _=>rfl|exact mapR_mem λ_ _=>rfl|(intro x;refine And.intro ?_ ?_<;>(intros;subst_vars;rfl)))|fail
 refine bG (ι:=Nat) (λf=>[(31,.int .i64 f),(8,.sl (.own 40000 2 1) ((fF x.sig f).map (.int .i64)))]) (λ_=>[]) (λ_=>[40000]) (λf=>f≤x.sig.length) (λf=>x.sig.length-f) 0 (by(refine aC rfl rfl ?_ ?_ ?_ ?_<;>simp(disch:=apply aB;omega)only[go_sem]<;>(try omega));all_goals exact⟨rfl,rfl⟩) (by omega) (λf hf=>?_)
 simp only[go_sem]
 have hla:=i9 x.sig f
 have hal:=qM hsg f hf
 by_cases hfl:f<x.sig.length
 ·have har:=hsg.2 f hfl
  obtain⟨n,hn⟩:∃n:Nat,x.sig.getD f default=n:=⟨_,(Int.toNat_of_nonneg har.1).symm⟩
  have hhA:fF x.sig (f+1)=fF x.sig f++List.replicate (n+1) 1:=by rw[fF,hn];rfl
  have c:=pJ 1 (n+1) (by omega)
  rw[show ((n+1:Nat):Int)=x.sig.getD f default+1 by omega] at c
  have hrl:(List.replicate (n+1) (1:Int)).length=n+1:=List.length_replicate
  repeat' first|((exfalso;omega))|apply aE|apply aG|apply aM|apply aJ|refine aI 0 xM λK hK=>?_|((first|apply aD|refine aA (aO ?_)|apply aA);simp(disch:=apply aB;omega)only[go_sem,Tryz.results40])|(apply hK.nil;clear hK K;simp only[go_sem])|((first|refine aH rfl rfl rfl rfl rfl ?_ ?_|refine aF rfl ?_ ?_)<;>intro h<;>try simp(disch:=apply aB;omega)only[go_sem] at h)|apply aL|refine hK.c0 rfl rfl rfl (c) rfl rfl rfl ?_|(with_reducible refine And.intro (by first|omega|(simp only[lens];omega)) ?_)|fail
  exact⟨f+1,(by(refine aC rfl rfl ?_ ?_ ?_ ?_<;>simp(disch:=apply aB;omega)only[go_sem]<;>(try omega));rw[hhA];exact⟨rfl,by omega⟩),by omega,by omega⟩
 ·obtain rfl:f=x.sig.length:=by omega
  repeat' first|((exfalso;omega))|apply aE|apply aG|refine aI 0 xM λK hK=>?_|((first|apply aD|refine aA (aO ?_)|apply aA);simp(disch:=apply aB;omega)only[go_sem,Tryz.results40])|(apply hK.nil;clear hK K;simp only[go_sem])|((first|refine aH rfl rfl rfl rfl rfl ?_ ?_|refine aF rfl ?_ ?_)<;>intro h<;>try simp(disch:=apply aB;omega)only[go_sem] at h)|refine aT rfl ?_|refine hK.c0 rfl rfl rfl (cH) rfl rfl rfl ?_|fail
  refine bG (ι:=Nat) (λf=>[(47,.int .i64 f),(8,.sl (.own 40000 2 1) ((fF x.sig x.sig.length++fB x.sig H f).map (.int .i64)))]) (λ_=>[]) (λ_=>[40000]) (λf=>f≤x.sig.length) (λf=>x.sig.length-f) 0 (by(refine aC rfl rfl ?_ ?_ ?_ ?_<;>simp(disch:=apply aB;omega)only[go_sem]<;>(try omega));all_goals first|rfl|(simp[fB];done)|exact⟨by simp[fB],rfl⟩) (by omega) (λf hf=>?_)
  simp only[go_sem]
  have hlb:=lU x.sig H f
  have hbl2:=qM hsg f hf
  by_cases hfl:f<x.sig.length
  ·have har:=hsg.2 f hfl
   obtain⟨n,hn⟩:∃n:Nat,x.sig.getD f default=n:=⟨_,(Int.toNat_of_nonneg har.1).symm⟩
   have hhB:fB x.sig H (f+1)=fB x.sig H f++0::List.replicate n (aBB H f):=by rw[fB,hn];rfl
   have hl0:(fF x.sig x.sig.length++fB x.sig H f).length≤4*x.sig.length+4*f:=by simp;omega
   have hbf:=hbg f hfl
   by_cases hHf:H f
   ·rw[bQ hHf] at hbf
    rw[aCF hHf] at hhB
    have c:=pJ 1 n (by omega)
    rw[←hn] at c
    have hrl:(List.replicate n (1:Int)).length=n:=List.length_replicate
    generalize hZ:fF x.sig x.sig.length++fB x.sig H f=Z at hl0 ⊢
    have hz1:(Z++[0]).length=Z.length+1:=by simp
    repeat' first|((simp only[hbf];simp only[go_sem]))|((refine jJ 55000 40000 rfl rfl ?_;simp only[go_sem]))|((refine jJ 66000 40000 rfl rfl ?_;simp only[go_sem]))|((exfalso;omega))|((refine And.intro (λy=>⟨λz _ e=>(by subst e;rfl),λe=>(by subst e;rfl)⟩) ?_))|apply aE|apply aG|apply aM|apply aJ|refine aI 0 xM λK hK=>?_|((first|apply aD|refine aA (aO ?_)|apply aA);simp(disch:=apply aB;omega)only[go_sem,Tryz.results40])|(apply hK.nil;clear hK K;simp only[go_sem])|((first|refine aH rfl rfl rfl rfl rfl ?_ ?_|refine aF rfl ?_ ?_)<;>intro h<;>try simp(disch:=apply aB;omega)only[go_sem] at h)|apply aL|refine hK.c0 rfl rfl rfl (c) rfl rfl rfl ?_|(with_reducible refine And.intro (by first|omega|(simp only[lens];omega)) ?_)|fail
    exact⟨f+1,(by(refine aC rfl rfl ?_ ?_ ?_ ?_<;>simp(disch:=apply aB;omega)only[go_sem]<;>(try omega));rw[hhB,←hZ,List.append_assoc,List.append_assoc];exact⟨rfl,by omega⟩),by omega,by omega⟩
   ·rw[bH hHf] at hbf
    rw[aGD hHf] at hhB
    have c:=pJ 0 n (by omega)
    rw[←hn] at c
    have hrl:(List.replicate n (0:Int)).length=n:=List.length_replicate
    generalize hZ:fF x.sig x.sig.length++fB x.sig H f=Z at hl0 ⊢
    have hz1:(Z++[0]).length=Z.length+1:=by simp
    repeat' first|((simp only[hbf];simp only[go_sem]))|((refine jJ 55000 40000 rfl rfl ?_;simp only[go_sem]))|((refine jJ 66000 40000 rfl rfl ?_;simp only[go_sem]))|((exfalso;omega))|((refine And.intro (λy=>⟨λz _ e=>(by subst e;rfl),λe=>(by subst e;rfl)⟩) ?_))|apply aE|apply aG|apply aM|apply aJ|refine aI 0 xM λK hK=>?_|((first|apply aD|refine aA (aO ?_)|apply aA);simp(disch:=apply aB;omega)only[go_sem,Tryz.results40])|(apply hK.nil;clear hK K;simp only[go_sem])|((first|refine aH rfl rfl rfl rfl rfl ?_ ?_|refine aF rfl ?_ ?_)<;>intro h<;>try simp(disch:=apply aB;omega)only[go_sem] at h)|apply aL|refine hK.c0 rfl rfl rfl (c) rfl rfl rfl ?_|(with_reducible refine And.intro (by first|omega|(simp only[lens];omega)) ?_)|fail
    exact⟨f+1,(by(refine aC rfl rfl ?_ ?_ ?_ ?_<;>simp(disch:=apply aB;omega)only[go_sem]<;>(try omega));rw[hhB,←hZ,List.append_assoc,List.append_assoc];exact⟨rfl,by omega⟩),by omega,by omega⟩
  ·obtain rfl:f=x.sig.length:=by omega
   have hTe:fF x.sig x.sig.length++fB x.sig H x.sig.length=gP x.sig H:=rfl
   rw[hTe]
   generalize gP x.sig H=T at *
   repeat' first|((exfalso;omega))|apply aE|apply aG|refine aI 0 xM λK hK=>?_|((first|apply aD|refine aA (aO ?_)|apply aA);simp(disch:=apply aB;omega)only[go_sem,Tryz.results40])|(apply hK.nil;clear hK K;simp only[go_sem])|((first|refine aH rfl rfl rfl rfl rfl ?_ ?_|refine aF rfl ?_ ?_)<;>intro h<;>try simp(disch:=apply aB;omega)only[go_sem] at h)|refine aT rfl ?_|fail
   refine bB (ι:=Nat) (λp=>[(14,.int .i64 (tI T p)),(69,.int .i64 p)]) (λp=>[]) (λp=>p≤T.length) (λp=>T.length-p) 0 (by(refine aC rfl rfl ?_ ?_ ?_ ?_<;>simp(disch:=apply aB;omega)only[go_sem]<;>(try omega));exact⟨rfl,rfl⟩) ?_ (λp hp=>?_)
   rotate_left
   simp only[go_sem]
   ·have htb:=aWH hdl hp
    by_cases hpl:p<T.length
    ·have hd1:=hdl _ (bA T p hpl)
     repeat' first|((exfalso;omega))|apply aE|apply aG|apply aM|apply aJ|refine aI 0 xM λK hK=>?_|((first|apply aD|refine aA (aO ?_)|apply aA);simp(disch:=apply aB;omega)only[go_sem,Tryz.results40])|(apply hK.nil;clear hK K;simp only[go_sem])|((first|refine aH rfl rfl rfl rfl rfl ?_ ?_|refine aF rfl ?_ ?_)<;>intro h<;>try simp(disch:=apply aB;omega)only[go_sem] at h)|apply aL|refine hK.c0 rfl rfl rfl (aSn (tI T p) (T.getD p default+1) htb.1 (by omega)) rfl rfl rfl ?_|(with_reducible refine And.intro (by first|omega|(simp only[lens];omega)) ?_)|fail
     exact⟨p+1,(by(refine aC rfl rfl ?_ ?_ ?_ ?_<;>simp(disch:=apply aB;omega)only[go_sem]<;>(try omega));rw[aVu hdl hpl];exact⟨rfl,by omega⟩),by omega,by omega⟩
    ·obtain rfl:p=T.length:=by omega
     by_cases hpr:fQ T T.length≤20000
     ·have ho:=hfm hpr
      have cL:=wI [a0+3] (by simp) 0 T.length (by omega) (by omega)
      obtain⟨Lw,hLw⟩:∃Lw,jX (upD T)=Lw:=⟨_,rfl⟩
      have hLl:Lw.length=T.length:=by rw[←hLw,wX,jM]
      rw[←aBD,hLw] at cL
      have hne0:Lw≠[]:=by intro e;rw[e] at hLl;simp only[List.length_nil] at hLl;omega
      repeat' first|((exfalso;omega))|((refine o4 [a0+2] (by simp) 18 84 (ys:=Lw) rfl (by simp[Lg.look]) rfl hne0 (by simp) ?_;simp only[go_sem]))|apply aE|apply aG|apply aJ|refine aI 0 xM λK hK=>?_|((first|apply aD|refine aA (aO ?_)|apply aA);simp(disch:=apply aB;omega)only[go_sem,Tryz.results40])|(apply hK.nil;clear hK K;simp only[go_sem])|((first|refine aH rfl rfl rfl rfl rfl ?_ ?_|refine aF rfl ?_ ?_)<;>intro h<;>try simp(disch:=apply aB;omega)only[go_sem] at h)|refine aT rfl ?_|refine hK.c0 rfl rfl rfl (cL) rfl rfl rfl ?_|(refine hK.callT rfl rfl rfl (pW _ Lw (by omega)) ⟨⟨by simp only[Nat.reduceLT],by simp,by simp[Lg.look]⟩,by assumption⟩ ?_;simp(disch:=apply aB;omega)only[go_sem])|fail
      have hok:=aAt hdl
      have hseq:=oS hok
      have hdig:=j1 hok
      have hst:Lw=(gL (upD T)).headD Lw/\true=!(gL (upD T)).isEmpty:=by
       obtain⟨r1,hr1⟩:=hseq.2
       rw[hr1,List.headD_cons,hLw]
       exact⟨rfl,rfl⟩
      refine bB (ι:=List (List Int)) (λp=>[(18,PL [a0+2] (p.headD Lw)),(19,.bool (!p.isEmpty))]) (λp=>[]) (λp=>(wU (upD T) p/\∀c∈p,nS (upD T) c)/\fK (QM x P set) p=o) (λp=>p.length) (gL (upD T)) (by(refine aC rfl rfl ?_ ?_ ?_ ?_<;>simp(disch:=apply aB;omega)only[go_sem]<;>(try omega));(rw[←hst.1];exact⟨dR _,hst.2⟩)) ?_ (λp hp=>?_)
      rotate_left
      simp only[go_sem]
      ·obtain⟨⟨hq1,hq2⟩,hq3⟩:=hp
       cases p with
       | nil =>
        obtain rfl:none=o:=hq3
        simp only[List.isEmpty_nil,Bool.not_true]
        repeat' first|apply aE|refine aI 0 xM λK hK=>?_|((first|apply aD|refine aA (aO ?_)|apply aA);simp(disch:=apply aB;omega)only[go_sem,Tryz.results40])|(apply hK.nil;clear hK K;simp only[go_sem])|((first|refine aH rfl rfl rfl rfl rfl ?_ ?_|refine aF rfl ?_ ?_)<;>intro h<;>try simp(disch:=apply aB;omega)only[go_sem] at h)|refine aT rfl ?_|fail
        refine⟨?_,rfl⟩
        simp[aBo,lE,le0]
       | cons a r =>
        have ha:=hq2 a zH
        have hal:a.length=T.length:=by rw[jB ha,jM]
        have hab:=vX hdl ha
        obtain⟨hn1,hn2⟩:=qH hq1
        rw[hLw] at hn1
        have hne:a≠[]:=by intro e;rw[e] at hal;simp only[List.length_nil] at hal;omega
        have hnl:(r.headD Lw).length=a.length:=by
         have:=(n5 (bs:=upD T) (xs:=a) (by rw[hal,jM])).1
         rw[hn1] at this
         rw[this,jM,hal]
        have hnn:r.headD Lw≠[]:=by intro e;rw[e] at hnl;simp only[List.length_nil] at hnl;omega
        simp only[List.headD_cons,List.isEmpty_cons,Bool.not_false]
        obtain⟨hpA,hpB⟩:=aOp (H:=H) hsg (by rw[show gP x.sig H=T from hT0.symm];exact ha)
        obtain⟨hM,htk⟩:=aAd hpA hpB
        obtain⟨U1,hU1⟩:∃U,U=upR (λi y=>m4 (a0::r0++[0+i]) y) (gB x.sig a) x.sig.length:=⟨_,rfl⟩
        obtain⟨U2,hU2⟩:∃U,U=upR (λi y=>m4 (a0::r0++[x.sig.length+i]) y) (gB x.sig (a.drop (atN x.sig x.sig.length))) x.sig.length:=⟨_,rfl⟩
        have c1:=aBX (a0::r0) (by simp) 0 x.sig a hsg (by omega) (by omega)
        rw[←hU1] at c1
        have c1:=c1.args (args:=[.agg [.sl (.lab [a0+1]) (x.sig.map (.int .i64))],PL [a0+2] a]) ⟨vZ _ _,aNP,trivial⟩
        have c2:=aBX (a0::r0) (by simp) x.sig.length x.sig (a.drop (atN x.sig x.sig.length)) hsg (by rw[List.length_drop];omega) (by rw[List.length_drop];omega)
        rw[←hU2] at c2
        have c2:=c2.args (args:=[.agg [.sl (.lab [a0+1]) (x.sig.map (.int .i64))],.sl .any ((a.drop (atN x.sig x.sig.length)).map (.int .i64))]) ⟨vZ _ _,.refl _,trivial⟩
        have hU:U1++U2=lE (λi y=>m4 (a0::r0++[i]) y) (lT x.sig a):=by rw[hU1,hU2];exact aUV _ _ _ _ hpA.1.2 hpB.1.2
        have hUl:U1.length=x.sig.length/\U2.length=x.sig.length:=by rw[hU1,hU2];exact⟨kH _ _ _,kH _ _ _⟩
        have hU1c:∀d∈U1,d.cells.length=2:=by rw[hU1];exact sU λ_ _=>rfl
        have hU2c:∀d∈U2,d.cells.length=2:=by rw[hU2];exact sU λ_ _=>rfl
        have cC:=aB4 500 (upD T) a (by rw[hal,jM]) hne (by omega) (λz hz=>by have:=hab z hz;omega)
        rw[hn1,hLw,show (upD T).map (·.2)=T by simp[upD,Function.comp_def]] at cC
        have cC:=cC.args (args:=[.ms 500 a.length,.sl (.lab [a0+3]) (Lw.map (.int .i64)),.sl (.own 40000 2 1) (T.map (.int .i64))]) ⟨.refl _,.any,.any,trivial⟩
        have hnx:¬QM x P set a->fK (QM x P set) r=o:=λh=>by rw[←hq3,iN h]
        have hyx:QM x P set a->o=some a:=λh=>by rw[←hq3,iU h]
        have hs1:∀tk,(D.sl (.lab [a0+1]) (P.map (o6 [a0+1]))).safeP [a0+2] tk=true:=λtk=>by simp[D.safeP,kI (aHO (q:=[a0+2]) (l:=[a0+1]) (tk:=tk) (by simp))]
        have hs2:∀tk,(D.sl (.lab [a0+1]) (set.map (.int .i64))).safeP [a0+2] tk=true:=λtk=>by simp[D.safeP,fJ]
        have hs3:∀tk,(D.sl (.lab [a0+3]) (Lw.map (.int .i64))).safeP [a0+2] tk=true:=λtk=>by simp only[D.safeP,fJ];simp
        have hs4:∀tk,D.safePL [a0+2] tk [.sl (.lab [a0+1]) (x.sig.map (.int .i64)),.sl (.lab [a0+1]) (x.rules.map (rS [a0+1]))]=true:=λtk=>by simp[D.safePL,D.safeP,fJ,kI (aFO (q:=[a0+2]) (l:=[a0+1]) (tk:=tk) (by simp))]
        by_cases hA:kU x (gB x.sig a)
        ·have cW:=(uE [a0+4] (by simp) x P set (lT x.sig a) (by unfold lT;rw[htk];exact hA) hM hP hS h64).args (args:=[kV [a0+1] x,.sl (.lab [a0+1]) (P.map (o6 [a0+1])),.sl (.lab [a0+1]) (set.map (.int .i64)),.sl (.own 107000 71 2) (U1++U2)]) ⟨tR _ _,xO _ _,.any,by rw[hU];exact aG6 _ λj x=>aAL _ _,trivial⟩
         repeat' first|((refine hK.callB rfl rfl rfl (cC) (by refine⟨⟨?_,?_,?_,?_,?_⟩,⟨?_,?_,?_,?_,?_⟩,?_⟩<;>simp[LS.getBox,Lg.look,D.ids,D.idsL,l8,LS.clean,D.puOk,D.pu,D.pu1,D.tks,D.tksL,dK,yM,yY]) ?_;simp(disch:=apply aB;omega)only[go_sem]))|((refine yR 6 (a0::r0) (k:=107000) rfl (by simp) (by simp) ?_;simp only[go_sem]))|((refine o4 [a0+2] (by simp) 18 500 (n:=a.length) (ys:=r.headD Lw) rfl rfl hnl.symm hnn (by simp) ?_;simp only[go_sem]))|((refine⟨List.mem_filter.2 ⟨by simp,by simp⟩,hU1c,hU2c,by omega,by omega,?_⟩))|((refine rY 28 [a0+1] [a0+2] hOld (by simp) (by simp) 18 500 rfl hne (by simp) [(1,.sl (.lab [a0+1]) (P.map (o6 [a0+1]))),(2,.sl (.lab [a0+1]) (set.map (.int .i64))),(3,.box 3 0),(8,.sl (.own 40000 2 1) (T.map (.int .i64))),(17,.sl (.lab [a0+3]) (Lw.map (.int .i64)))] [(3,[.sl (.lab [a0+1]) (x.sig.map (.int .i64)),.sl (.lab [a0+1]) (x.rules.map (rS [a0+1]))])] (List.forall_mem_cons.2 ⟨⟨rfl,hs1 _,by simp[D.ids]⟩,List.forall_mem_cons.2 ⟨⟨rfl,hs2 _,by simp[D.ids]⟩,List.forall_mem_cons.2 ⟨⟨rfl,rfl,by simp[D.ids]⟩,List.forall_mem_cons.2 ⟨⟨rfl,by simp[D.safeP,fJ],by simp[D.ids]⟩,List.forall_mem_cons.2 ⟨⟨rfl,hs3 _,by simp[D.ids]⟩,λq hq=>by cases hq⟩⟩⟩⟩⟩) (List.forall_mem_cons.2 ⟨⟨by simp,rfl,hs4 _,by simp[D.idsL,D.ids]⟩,λq hq=>by cases hq⟩) ?_;simp only[go_sem]))|apply aE|apply aG|apply aM|apply aJ|refine aI 0 xM λK hK=>?_|((first|apply aD|refine aA (aO ?_)|apply aA);simp(disch:=apply aB;omega)only[go_sem,Tryz.results40])|(apply hK.nil;clear hK K;simp only[go_sem])|((first|refine aH rfl rfl rfl rfl rfl ?_ ?_|refine aF rfl ?_ ?_)<;>intro h<;>try simp(disch:=apply aB;omega)only[go_sem] at h)|apply aL|(refine hK.callB rfl rfl rfl (c1) ⟨⟨by simp only[Nat.reduceLT],(by first|(simp;all_goals fail)|(simp[LS.getBox,Lg.look];all_goals fail)),by(simp[Lg.look];all_goals fail),by(simp;all_goals fail),by(simp;all_goals fail)⟩,⟨by(simp[D.ids,D.idsL];all_goals fail),by(simp[D.ids,D.idsL];all_goals fail),by(simp[D.tks,D.tksL];all_goals fail),by(simp[D.tks,D.tksL];all_goals fail),by(simp;all_goals fail)⟩,rfl⟩ ?_;simp(disch:=apply aB;omega)only[go_sem])|(refine hK.callB rfl rfl rfl (c2) ⟨⟨by simp only[Nat.reduceLT],(by first|(simp;all_goals fail)|(simp[LS.getBox,Lg.look];all_goals fail)),by(simp[Lg.look];all_goals fail),by(simp;all_goals fail),by(simp;all_goals fail)⟩,⟨by(simp[D.ids,D.idsL];all_goals fail),by(simp[D.ids,D.idsL];all_goals fail),by(simp[D.tks,D.tksL];all_goals fail),by(simp[D.tks,D.tksL];all_goals fail),by(simp;all_goals fail)⟩,rfl⟩ ?_;simp(disch:=apply aB;omega)only[go_sem])|refine hK.c0 rfl rfl rfl (cW) rfl rfl rfl ?_|fail
         ·rw[hyx ⟨hA,aAI.2 ⟨by assumption,by assumption⟩⟩]
          exact⟨hU,rfl⟩
         ·have hQ:¬QM x P set a:=λe=>by have:=(aAI.1 e.2).2;omega
          exact⟨r,(by(refine aC rfl rfl ?_ ?_ ?_ ?_<;>simp(disch:=apply aB;omega)only[go_sem]<;>(try omega));first|exact dR _|exact .refl _|(simp;done)|exact⟨dR _,by simp⟩|trace_state),⟨⟨hn2,λd hd=>hq2 d (zG _ hd)⟩,hnx hQ⟩,by simp⟩
         ·have hQ:¬QM x P set a:=λe=>by
           have h1:=(aAI.1 e.2).1
           have h2:(wR x.sig P set (lT x.sig a)).2=false:=by assumption
           rw[h1] at h2
           cases h2
          exact⟨r,(by(refine aC rfl rfl ?_ ?_ ?_ ?_<;>simp(disch:=apply aB;omega)only[go_sem]<;>(try omega));first|exact dR _|exact .refl _|(simp;done)|exact⟨dR _,by simp⟩|trace_state),⟨⟨hn2,λd hd=>hq2 d (zG _ hd)⟩,hnx hQ⟩,by simp⟩
        ·have hQ:¬QM x P set a:=λe=>hA e.1
         have cW:=(aMu x P set (lT x.sig a) [a0+4] hx (by unfold lT;rw[htk];exact hA) hM).args (args:=[kV [a0+1] x,.sl (.lab [a0+1]) (P.map (o6 [a0+1])),.sl (.lab [a0+1]) (set.map (.int .i64)),.sl (.own 107000 71 2) (U1++U2)]) ⟨tR _ _,xO _ _,.any,by rw[hU];exact aG6 _ λj x=>aAL _ _,trivial⟩
         repeat' first|((refine hK.callB rfl rfl rfl (cC) (by refine⟨⟨?_,?_,?_,?_,?_⟩,⟨?_,?_,?_,?_,?_⟩,?_⟩<;>simp[LS.getBox,Lg.look,D.ids,D.idsL,l8,LS.clean,D.puOk,D.pu,D.pu1,D.tks,D.tksL,dK,yM,yY]) ?_;simp(disch:=apply aB;omega)only[go_sem]))|((refine o4 [a0+2] (by simp) 18 500 (n:=a.length) (ys:=r.headD Lw) rfl rfl hnl.symm hnn (by simp) ?_;simp only[go_sem]))|((refine⟨List.mem_filter.2 ⟨by simp,by simp⟩,hU1c,hU2c,by omega,by omega,?_⟩))|((refine rY 28 [a0+1] [a0+2] hOld (by simp) (by simp) 18 500 rfl hne (by simp) [(1,.sl (.lab [a0+1]) (P.map (o6 [a0+1]))),(2,.sl (.lab [a0+1]) (set.map (.int .i64))),(3,.box 3 0),(8,.sl (.own 40000 2 1) (T.map (.int .i64))),(17,.sl (.lab [a0+3]) (Lw.map (.int .i64)))] [(3,[.sl (.lab [a0+1]) (x.sig.map (.int .i64)),.sl (.lab [a0+1]) (x.rules.map (rS [a0+1]))])] (List.forall_mem_cons.2 ⟨⟨rfl,hs1 _,by simp[D.ids]⟩,List.forall_mem_cons.2 ⟨⟨rfl,hs2 _,by simp[D.ids]⟩,List.forall_mem_cons.2 ⟨⟨rfl,rfl,by simp[D.ids]⟩,List.forall_mem_cons.2 ⟨⟨rfl,by simp[D.safeP,fJ],by simp[D.ids]⟩,List.forall_mem_cons.2 ⟨⟨rfl,hs3 _,by simp[D.ids]⟩,λq hq=>by cases hq⟩⟩⟩⟩⟩) (List.forall_mem_cons.2 ⟨⟨by simp,rfl,hs4 _,by simp[D.idsL,D.ids]⟩,λq hq=>by cases hq⟩) ?_;simp only[go_sem]))|apply aE|apply aG|apply aM|apply aJ|refine aI 0 xM λK hK=>?_|((first|apply aD|refine aA (aO ?_)|apply aA);simp(disch:=apply aB;omega)only[go_sem,Tryz.results40])|(apply hK.nil;clear hK K;simp only[go_sem])|((first|refine aH rfl rfl rfl rfl rfl ?_ ?_|refine aF rfl ?_ ?_)<;>intro h<;>try simp(disch:=apply aB;omega)only[go_sem] at h)|apply aL|(refine hK.callB rfl rfl rfl (c1) ⟨⟨by simp only[Nat.reduceLT],(by first|(simp;all_goals fail)|(simp[LS.getBox,Lg.look];all_goals fail)),by(simp[Lg.look];all_goals fail),by(simp;all_goals fail),by(simp;all_goals fail)⟩,⟨by(simp[D.ids,D.idsL];all_goals fail),by(simp[D.ids,D.idsL];all_goals fail),by(simp[D.tks,D.tksL];all_goals fail),by(simp[D.tks,D.tksL];all_goals fail),by(simp;all_goals fail)⟩,rfl⟩ ?_;simp(disch:=apply aB;omega)only[go_sem])|(refine hK.callB rfl rfl rfl (c2) ⟨⟨by simp only[Nat.reduceLT],(by first|(simp;all_goals fail)|(simp[LS.getBox,Lg.look];all_goals fail)),by(simp[Lg.look];all_goals fail),by(simp;all_goals fail),by(simp;all_goals fail)⟩,⟨by(simp[D.ids,D.idsL];all_goals fail),by(simp[D.ids,D.idsL];all_goals fail),by(simp[D.tks,D.tksL];all_goals fail),by(simp[D.tks,D.tksL];all_goals fail),by(simp;all_goals fail)⟩,rfl⟩ ?_;simp(disch:=apply aB;omega)only[go_sem])|refine hK.c0 rfl rfl rfl (cW) rfl rfl rfl ?_|fail
         exact⟨r,(by(refine aC rfl rfl ?_ ?_ ?_ ?_<;>simp(disch:=apply aB;omega)only[go_sem]<;>(try omega));first|exact dR _|exact .refl _|(simp;done)|exact⟨dR _,by simp⟩|trace_state),⟨⟨hn2,λd hd=>hq2 d (zG _ hd)⟩,hnx hQ⟩,by simp⟩
      ·exact⟨⟨hseq.1,hdig⟩,ho.symm⟩
     ·have ho:=hfn hpr
      subst ho
      repeat' first|((exfalso;omega))|apply aE|refine aI 0 xM λK hK=>?_|((first|apply aD|refine aA (aO ?_)|apply aA);simp(disch:=apply aB;omega)only[go_sem,Tryz.results40])|(apply hK.nil;clear hK K;simp only[go_sem])|((first|refine aH rfl rfl rfl rfl rfl ?_ ?_|refine aF rfl ?_ ?_)<;>intro h<;>try simp(disch:=apply aB;omega)only[go_sem] at h)|refine aT rfl ?_|fail
      refine⟨?_,rfl⟩
      simp[aBo,lE,le0]
   ·exact Nat.zero_le _
end
section
attribute [local irreducible] SW bC bE dE bU FC dO toF dP fV fD sumF bR
theorem aNV{l:List Nat}:∀ {ds:List D},(∀d∈ds,d.noL l=true)->D.noLL l ds=true
 | [],_=>rfl
 | d::r,h=>by simp only[D.noLL,h d zH,aNV λe he=>h e (zG _ he),Bool.and_self]
theorem aSN{l p:List Nat}(h:p++[1]≠l)(y:PolyT):(m4 p y).noL l=true:=by
 have h1:D.noLL l (y.coef.map (D.int .i64))=true:=xI (λ_=>rfl) _
 have h2:(p++[1] != l)=true:=by simpa using h
 simp only[m4,fO,D.noL,D.noLL,h1,h2,Bool.and_self]
theorem aC9(p:List Nat)(hp:p≠[])(x:SystemT)(P:List DepPairT)(set:List Int)(hx:b7 x)(hP:∀p∈P,jN x.sig p)(hS:fI set P.length)(h64:P.length≤64):FC S 40 [] [] [] [bP x,.sl .any (P.map bK),.sl .any (set.map (.int .i64))] (.tup [yQ p (aBo x.sig (gY x P set)).1,.bool (aBo x.sig (gY x P set)).2]) [] []:=by
 obtain⟨a0,r0,rfl⟩:∃a r,p=a::r:=by
  cases p with
  | nil=>exact absurd rfl hp
  | cons a r=>exact⟨a,r,rfl⟩
 refine aHd [a0+1] (by simp) ?_ ?_ ?_
 ·simp[D.okLbL,rT,D.okLb,iV aCq,kA]
 ·simp only[yQ,D.noL,D.noLL,Bool.and_true,Bool.and_eq_true,bne_iff_ne,ne_eq]
  exact⟨by simp,aNV λd hd=>by
   obtain⟨j,_,rfl⟩:=zJ.1 hd
   exact aSN (by simp) _⟩
 ·simp only[D.lbL,aAm,D.lb,oK,aLr,lH]
  exact aBx a0 r0 x P set hx hP hS h64
def y7:List (Nat×List Nat):=[(0,[1,2,3,4]),(1,[1,2,3,4,10]),(2,[1,3,4,10,15,16,17]),(3,[1,3,4,10,15,16,17,18]),(4,[1,3,4,10,12,15,16,17]),(5,[1,3,4,10,12,13,14,15,16,17]),(6,[1,3,4,10,12,13,14,15,16,17,49]),(7,[8,9]),(8,[1,3,4,10,12,15,16,17,53]),(9,[1,3,4,10,15,16,17]),(10,[1,3,4,10,15,16,17]),(11,[8,9])]
attribute [go_sem] y7
theorem aCG(p:List Nat)(hp:p≠[])(rs:List Int)(P:List DepPairT)(set proj:List Int)(hj:p8 rs proj)(hP:∀p∈P,jN rs p)(hS:fI set P.length)(hl:P.length≤64):FC S 56 [] [] [] [.agg [.sl .any (rs.map (.int .i64))],.sl .any (P.map bK),.sl .any (set.map (.int .i64)),.sl .any (proj.map (.int .i64))] (.tup [fO p (jR rs P set proj).1,.bool (jR rs P set proj).2]) [] []:=by
 have hsl:=lO hS
 have hat:∀i<set.length,(0≤set.getD i default/\set.getD i default<P.length)/\jN rs (P.getD (set.getD i default).toNat default):=λi hi=>by
  have h:=(hS i hi).1
  exact⟨h,hP _ (bA P _ (by omega))⟩
 refine aP Tryz.func56 rfl (by kernel_rfl) (by simp[Tryz.f56]) λB=>?_
 simp only[Tryz.ntmps56,aS,aZ,Nat.reduceAdd]
 repeat' first|apply aE|apply aG|refine aI 0 y7 λK hK=>?_|((first|apply aD|apply aK|refine aA (aO ?_)|apply aA);simp(disch:=apply aB;omega)only[go_sem,Tryz.results56])|(apply hK.nil;clear hK K;simp only[go_sem])|fail
 refine dW 10 58000 2 1 rfl (.inl rfl) rfl ?_
 simp only[go_sem]
 repeat' first|apply aE|apply aG|apply aM|apply aJ|refine aI 0 y7 λK hK=>?_|refine λ(K:KT) (hK:KOk S 0 _ _ _ K)=>?_|refine aY y7 (by kernel_rfl) λK hK=>?_|((first|apply aD|apply aK|refine aA (aO ?_)|apply aA);simp(disch:=apply aB;omega)only[go_sem,Tryz.results56])|(apply hK.nil;clear hK K;simp only[go_sem])|((first|refine aH rfl rfl rfl rfl rfl ?_ ?_|refine aN rfl rfl rfl rfl rfl ?_ ?_|refine aF rfl ?_ ?_)<;>intro h<;>try simp(disch:=apply aB;omega)only[go_sem] at h)|refine hK.skp rfl rfl ?_|refine aT rfl ?_|apply aL|(refine hK.fork rfl rfl rfl ?_ ?_<;>intro h<;>try simp(disch:=apply aB;omega)only[go_sem] at h)|(with_reducible refine And.intro (by first|omega|(simp only[lens];omega)) ?_)|((with_reducible refine And.intro ?_ ?_);· first|(intro x hx;subst hx;rfl)|exact sU λ_ _=>rfl|exact mapR_mem λ_ _=>rfl|(intro x;refine And.intro ?_ ?_<;>(intros;subst_vars;rfl)))|fail
 refine bG (ι:=Nat) (λi=>[(17,.int .i64 i),(10,.sl (.own 58000 2 1) ((jL rs P set proj i).map (.int .i64)))]) (λ_=>[]) (λ_=>[58000]) (λi=>i≤set.length/\∀j<i,oH rs proj (P.getD (set.getD j default).toNat default)) (λi=>set.length-i) 0 (by(refine aC rfl rfl ?_ ?_ ?_ ?_<;>simp(disch:=apply aB;omega)only[go_sem]<;>(try omega));all_goals exact⟨rfl,rfl⟩) ⟨by omega,λj hj=>absurd hj (by omega)⟩ (λi hi=>?_)
 obtain⟨hi,hk⟩:=hi
 simp only[go_sem]
 have hwl:=aMc rs P set proj i
 by_cases hil:i<set.length
 ·have hq:=hat i hil
  have h1:=hq.1
  have ha:=tJ hq.2 hj
  have hmo:=aRb hq.2 hj
  obtain⟨q,hq'⟩:∃q,P.getD (set.getD i default).toNat default=q:=⟨_,rfl⟩
  rw[hq'] at hq ha hmo
  have c1:=wS rs proj q.l hj hq.2.1.1 hq.2.2.1
  have c2:=wS rs proj q.r hj hq.2.1.2 hq.2.2.2
  have hY:rL rs proj q->jL rs P set proj (i+1)=jL rs P set proj i++[set.getD i default]:=λh=>aGv (by rw[hq'];exact h)
  have hN:¬rL rs proj q->jL rs P set proj (i+1)=jL rs P set proj i:=λh=>aOb (by rw[hq'];exact h)
  have hM:¬oH rs proj q->jR rs P set proj=([],false):=λh=>aTt λe=>h (by have:=e i hil;rwa [hq'] at this)
  have hK:oH rs proj q->∀j<i+1,oH rs proj (P.getD (set.getD j default).toNat default):=λh=>bJ hk (by rw[hq'];exact h)
  rw[hmo] at hM hK
  unfold rL at hY hN
  clear hmo
  generalize iT rs proj q.l=a at *
  generalize iT rs proj q.r=b at *
  rw[←hq'] at c1 c2
  rcases Classical.em (a=[]) with ea|ea
  ·rw[hM λh=>h.1.1 ea]
   subst ea
   rw[show lM []=D.sl .nil [] from by simp[lM,tkN]] at c1
   rcases Classical.em (b=[]) with eb|eb
   ·subst eb
    rw[show lM []=D.sl .nil [] from by simp[lM,tkN]] at c2
    repeat' first|((exfalso;omega))|apply aE|apply aG|apply aJ|refine aI 0 y7 λK hK=>?_|refine aY y7 (by kernel_rfl) λK hK=>?_|((first|apply aD|apply aK|refine aA (aO ?_)|apply aA);simp(disch:=apply aB;omega)only[go_sem,Tryz.results56])|(apply hK.nil;clear hK K;simp only[go_sem])|((first|refine aH rfl rfl rfl rfl rfl ?_ ?_|refine aN rfl rfl rfl rfl rfl ?_ ?_|refine aF rfl ?_ ?_)<;>intro h<;>try simp(disch:=apply aB;omega)only[go_sem] at h)|refine hK.skp rfl rfl ?_|refine hK.c0 rfl rfl rfl (c1) rfl rfl rfl ?_|refine hK.c0 rfl rfl rfl (c2) rfl rfl rfl ?_|(with_reducible refine And.intro (by first|omega|(simp only[lens];omega)) ?_)|fail
    all_goals first|exact⟨rfl,rfl⟩|exact⟨dR _,rfl⟩|(refine⟨?_,rfl⟩;simp[le0])
   ·rw[show lM b=D.sl .any (b.map (.int .i64)) from by simp only[lM,tkN,if_neg eb]] at c2
    repeat' first|((exfalso;omega))|apply aE|apply aG|apply aJ|refine aI 0 y7 λK hK=>?_|refine aY y7 (by kernel_rfl) λK hK=>?_|((first|apply aD|apply aK|refine aA (aO ?_)|apply aA);simp(disch:=apply aB;omega)only[go_sem,Tryz.results56])|(apply hK.nil;clear hK K;simp only[go_sem])|((first|refine aH rfl rfl rfl rfl rfl ?_ ?_|refine aN rfl rfl rfl rfl rfl ?_ ?_|refine aF rfl ?_ ?_)<;>intro h<;>try simp(disch:=apply aB;omega)only[go_sem] at h)|refine hK.skp rfl rfl ?_|refine hK.c0 rfl rfl rfl (c1) rfl rfl rfl ?_|refine hK.c0 rfl rfl rfl (c2) rfl rfl rfl ?_|(with_reducible refine And.intro (by first|omega|(simp only[lens];omega)) ?_)|fail
    all_goals first|exact⟨rfl,rfl⟩|exact⟨dR _,rfl⟩|(refine⟨?_,rfl⟩;simp[le0])
  have hal:a.map (D.int .i64)≠[]:=by simpa using ea
  rw[show lM a=D.sl .any (a.map (.int .i64)) from by simp only[lM,tkN,if_neg ea]] at c1
  rcases Classical.em (b=[]) with eb|eb
  ·rw[hM λh=>h.1.2 eb]
   subst eb
   rw[show lM []=D.sl .nil [] from by simp[lM,tkN]] at c2
   repeat' first|((exfalso;omega))|apply aE|apply aG|apply aJ|refine aI 0 y7 λK hK=>?_|refine aY y7 (by kernel_rfl) λK hK=>?_|((first|apply aD|apply aK|refine aA (aO ?_)|apply aA);simp(disch:=apply aB;omega)only[go_sem,Tryz.results56])|(apply hK.nil;clear hK K;simp only[go_sem])|((first|refine aH rfl rfl rfl rfl rfl ?_ ?_|refine aN rfl rfl rfl rfl rfl ?_ ?_|refine aF rfl ?_ ?_)<;>intro h<;>try simp(disch:=apply aB;omega)only[go_sem] at h)|refine hK.skp rfl rfl ?_|refine hK.c0 rfl rfl rfl (c1) rfl rfl rfl ?_|refine hK.c0 rfl rfl rfl (c2) rfl rfl rfl ?_|(with_reducible refine And.intro (by first|omega|(simp only[lens];omega)) ?_)|fail
   all_goals first|exact⟨rfl,rfl⟩|exact⟨dR _,rfl⟩|(refine⟨?_,rfl⟩;simp[le0])
  have hbl:b.map (D.int .i64)≠[]:=by simpa using eb
  rw[show lM b=D.sl .any (b.map (.int .i64)) from by simp only[lM,tkN,if_neg eb]] at c2
  have cL0:=aMd rs a b (ha.1 ea)
  have cL1:=yB rs a b (ha.1 ea)
  repeat' first|((exfalso;omega))|apply aE|apply aG|apply aM|apply aJ|refine aI 0 y7 λK hK=>?_|refine aY y7 (by kernel_rfl) λK hK=>?_|((first|apply aD|apply aK|refine aA (aO ?_)|apply aA);simp(disch:=apply aB;omega)only[go_sem,Tryz.results56])|(apply hK.nil;clear hK K;simp only[go_sem])|((first|refine aH rfl rfl rfl rfl rfl ?_ ?_|refine aN rfl rfl rfl rfl rfl ?_ ?_|refine aF rfl ?_ ?_)<;>intro h<;>try simp(disch:=apply aB;omega)only[go_sem] at h)|apply aL|refine hK.c0 rfl rfl rfl (c1) rfl rfl rfl ?_|refine hK.c0 rfl rfl rfl (c2) rfl rfl rfl ?_|refine hK.c0 rfl rfl rfl (cL0) rfl rfl rfl ?_|refine hK.c0 rfl rfl rfl (cL1) rfl rfl rfl ?_|(with_reducible refine And.intro (by first|omega|(simp only[lens];omega)) ?_)|fail
  all_goals first
   | (rw[hM λh=>absurd h.2 (by assumption)];first|exact⟨rfl,rfl⟩|exact⟨dR _,rfl⟩|(refine⟨?_,rfl⟩;simp[le0];done))
   | exact⟨i+1,(by(refine aC rfl rfl ?_ ?_ ?_ ?_<;>simp(disch:=apply aB;omega)only[go_sem]<;>(try omega));rw[hY ⟨⟨ea,eb⟩,by assumption⟩];exact⟨rfl,by omega⟩),⟨by omega,hK ⟨⟨ea,eb⟩,by assumption⟩⟩,by omega⟩
   | exact⟨i+1,(by(refine aC rfl rfl ?_ ?_ ?_ ?_<;>simp(disch:=apply aB;omega)only[go_sem]<;>(try omega));rw[hN λh=>absurd h.2 (by assumption)];exact⟨rfl,by omega⟩),⟨by omega,hK ⟨⟨ea,eb⟩,by assumption⟩⟩,by omega⟩
   | trace_state
 ·repeat' first|((exfalso;omega))|(refine yR 10 p (k:=58000) rfl (by simp) hp ?_;simp only[go_sem])|apply aE|refine aI 0 y7 λK hK=>?_|((first|apply aD|apply aK|refine aA (aO ?_)|apply aA);simp(disch:=apply aB;omega)only[go_sem,Tryz.results56])|(apply hK.nil;clear hK K;simp only[go_sem])|((first|refine aH rfl rfl rfl rfl rfl ?_ ?_|refine aN rfl rfl rfl rfl rfl ?_ ?_|refine aF rfl ?_ ?_)<;>intro h<;>try simp(disch:=apply aB;omega)only[go_sem] at h)|refine aT rfl ?_|fail
  rw[aMi λj hj'=>hk j (by omega),show i=set.length by omega]
  exact⟨rfl,rfl⟩
end
section
attribute [local irreducible] SW bC bE dE bU FC dO toF dP fV fD sumF bR
theorem aAB(x:SystemT)(set:List Int):FC S 85 [] [] [] [bP x,.sl .any (set.map (.int .i64))] (.tup [.sl .any ((vN x set).1.map (.int .i64)),.bool (vN x set).2]) [] []:=by
 refine aHd [1] (by simp) ?_ ?_ ?_
 ·simp[D.okLbL,rT,D.okLb,kA]
 ·have h1:D.noLL [1] ((vN x set).1.map (.int .i64))=true:=xI (λ_=>rfl) _
  simp only[D.noL,D.noLL,h1,Bool.and_self]
 ·simp only[D.lbL,aAm,D.lb,lH]
  exact v6 x set
attribute [local go_sem] l8 aFn PL
def aEp:List (Nat×List Nat):=[(0,[1,2,3]),(1,[1,2,3,8,9]),(2,[1,2,3,8,9,27,28,29]),(3,[1,2,3,8,9,27,28,29,30]),(4,[1,2,3,8,9,10,11,27,28,29]),(5,[1,2,3,8,9,10,27,28,29,34]),(6,[1,2,3,8,9,10,27,28,29]),(7,[1,2,3,8,9,10,27,28,29]),(8,[1,2,3,8,9,27,28,29,55]),(9,[6,7]),(10,[1,2,3,8,9,27,28,29]),(11,[1,2,3,8,9,12]),(12,[1,2,3,8,9,12,13]),(13,[1,2,3,8,9,12,59]),(15,[1,2,3,8,9,12,14,15]),(16,[1,2,3,8,9,12,77]),(17,[6,7]),(14,[1,2,3,8,9,12,13]),(18,[6,7])]
attribute [go_sem] aEp
theorem aEh(a0:Nat)(r0:List Nat)(rs:List Int)(P:List DepPairT)(set:List Int)(hsg:eA rs)(hP:∀p∈P,jN rs p)(hS:fI set P.length)(h64:P.length≤64):FCO S [a0+1] 55 [.agg [.sl (.lab [a0+1]) (rs.map (.int .i64))],.sl (.lab [a0+1]) (P.map (o6 [a0+1])),.sl (.lab [a0+1]) (set.map (.int .i64))] (.tup [fO (a0::r0) (vK (gG rs P set)).1,.bool (vK (gG rs P set)).2]) []:=by
 have hs8:=hsg.1.2
 have hs1:=hsg.1.1
 have cH:=(aJx rs P set hs8 hP hS h64).args (args:=[.agg [.sl (.lab [a0+1]) (rs.map (.int .i64))],.sl (.lab [a0+1]) (P.map (o6 [a0+1])),.sl (.lab [a0+1]) (set.map (.int .i64))]) ⟨vZ _ _,xO _ _,.any,trivial⟩
 have hbg:=λf=>@aE4 P set rs.length set.length f
 have hbl:=yT P set rs.length set.length
 generalize lR P set rs.length set.length=hB at *
 have hfb:=@vD rs P set
 have hfo:=@aAl rs P set
 generalize gG rs P set=o at *
 generalize hH:fC P set set.length=H at *
 have cR:=aFX (-1) rs.length (by omega) (by omega)
 refine rH Tryz.func55 rfl (by kernel_rfl) (by simp[Tryz.f55]) λB hOld=>?_
 simp only[Tryz.ntmps55,aS,aZ,Nat.reduceAdd]
 repeat' first|((refine aAM (id:=1) aEp [(true,[]),(false,[0]),(false,[1]),(false,[2]),(true,[]),(false,[4]),(false,[5]),(false,[6,3]),(false,[3,7,0,1,2,3]),(false,[7,8,0,1,2,3,4,5,6,7,8])] ⟨79,[(1,.sl (.lab [a0+1]) (P.map (o6 [a0+1]))),(2,.sl (.lab [a0+1]) (set.map (.int .i64))),(3,.box 3 0),(8,.ms 19 rs.length),(9,.ms 23 rs.length)],[(3,[.sl (.lab [a0+1]) (rs.map (.int .i64))]),(19,(List.replicate rs.length (-1)).map (.int .i64)),(23,(List.replicate rs.length (-1)).map (.int .i64))],[],[],[]⟩ (by kernel_rfl) ?_ ?_;simp only[List.length_cons,List.length_nil,Nat.reduceAdd]))|((refine oL ?_;simp only[tH,tF,aFw,aE1,aEA,aFJ,y2,aAy,aAf,yH,tA,sW,sI,y8,aAv,true_and,and_true,Bool.not_false,Bool.not_true,Bool.and_true,Bool.and_false,Bool.true_and,Bool.false_and,Bool.or_false,Bool.false_or,Bool.true_or,Bool.or_true,Nat.reduceBEq,Nat.reduceAdd]))|((refine aOw (by simp only[Nat.reduceLT]) rfl rfl rfl rfl (by decide) (by simp only[go_sem];exact rfl) ?_))|((refine hK.nil (tO ?_);clear hK K))|((refine n9 ?_ ?_))|((refine iS 0 ?_;refine λ(K:List Oper->LS->Prop) (hK:KOk S 0 _ _ _ K)=>?_;simp(disch:=apply aB;omega)only[go_sem]))|((refine oC ?_;simp(disch:=apply aB;omega)only[go_sem];(refine aC rfl rfl ?_ ?_ ?_ ?_<;>simp(disch:=apply aB;omega)only[go_sem]<;>(try omega));done))|apply aE|apply aG|refine aI 0 aEp λK hK=>?_|((first|apply aD|apply aK|refine aA (aO ?_)|apply aA);simp(disch:=apply aB;omega)only[go_sem,Tryz.results55])|(apply hK.nil;clear hK K;simp only[go_sem])|(refine hK.callM rfl rfl rfl (cR) ⟨⟨by simp only[Nat.reduceLT],by simp,by simp[Lg.look]⟩,by first|exact dU _|simp⟩ ?_;simp(disch:=apply aB;omega)only[go_sem])|refine hK.c0 rfl rfl rfl (cH) rfl rfl rfl ?_|fail
 refine bB (ι:=Nat) (λp=>[(29,.int .i64 p)]) (λp=>[(19,(jH rs H (·.1) p).map (.int .i64)),(23,(jH rs H (·.2) p).map (.int .i64))]) (λp=>p≤rs.length/\¬aJH rs H p) (λp=>rs.length-p) 0 (by(refine aC rfl rfl ?_ ?_ ?_ ?_<;>simp(disch:=apply aB;omega)only[go_sem]<;>(try omega));(rw[aDN,aDN];exact⟨rfl,rfl⟩)) ?_ (λp hp=>?_)
 rotate_left
 simp only[go_sem]
 ·obtain⟨hp,hnb⟩:=hp
  have hl1:=tP rs H (·.1) p
  have hl2:=tP rs H (·.2) p
  by_cases hpl:p<rs.length
  ·have har:=hsg.2 p hpl
   have hbf:=hbg p hpl
   have hg1:=@sC rs H (·.1) p p hpl
   have hg2:=@sC rs H (·.2) p p hpl
   rw[if_neg (Nat.lt_irrefl _)] at hg1 hg2
   have hs1:=@aE2 rs H (·.1) p
   have hs2:=@aE2 rs H (·.2) p
   by_cases hHp:H p
   ·rw[bQ hHp] at hbf
    rw[oD hHp] at hs1 hs2
    dsimp only at hs1 hs2
    have hl3:=tP rs H (·.1) (p+1)
    have hl4:=tP rs H (·.2) (p+1)
    have hv1:=@sC rs H (·.1) (p+1) p hpl
    have hv2:=@sC rs H (·.2) (p+1) p hpl
    rw[if_pos (Nat.lt_succ_self p),oD hHp] at hv1 hv2
    dsimp only at hv1 hv2
    repeat' first|((simp only[hbf];simp only[go_sem]))|((exfalso;omega))|((simp only[hs1,hs2];simp(disch:=apply aB;omega)only[go_sem]))|apply aE|apply aG|apply aM|apply aJ|refine aI 0 aEp λK hK=>?_|refine aY aEp (by kernel_rfl) λK hK=>?_|((first|apply aD|apply aK|refine aA (aO ?_)|apply aA);simp(disch:=apply aB;omega)only[go_sem,Tryz.results55])|(apply hK.nil;clear hK K;simp only[go_sem])|((first|refine aH rfl rfl rfl rfl rfl ?_ ?_|refine aN rfl rfl rfl rfl rfl ?_ ?_|refine aF rfl ?_ ?_)<;>intro h<;>try simp(disch:=apply aB;omega)only[go_sem] at h)|apply aL|(with_reducible refine And.intro (by first|omega|(simp only[lens];omega)) ?_)|fail
    ·rw[hfb ⟨p,hpl,hHp,by omega⟩]
     first|exact⟨rfl,rfl⟩|(refine⟨?_,rfl⟩;simp[vK,le0])
    ·exact⟨p+1,(by(refine aC rfl rfl ?_ ?_ ?_ ?_<;>simp(disch:=apply aB;omega)only[go_sem]<;>(try omega));all_goals first|rfl|exact⟨rfl,rfl⟩|omega),⟨by omega,λ⟨i,hi,h1,h2⟩=>by
      rcases Nat.lt_or_ge i p with h3|h3
      ·exact hnb ⟨i,h3,h1,h2⟩
      ·obtain rfl:i=p:=by omega
       omega⟩,by omega⟩
   ·rw[bH hHp] at hbf
    have ht1:=@aCn rs H (·.1) p hHp rfl
    have ht2:=@aCn rs H (·.2) p hHp rfl
    repeat' first|((simp only[hbf];simp only[go_sem]))|((exfalso;omega))|apply aE|apply aG|apply aM|apply aJ|refine aI 0 aEp λK hK=>?_|refine aY aEp (by kernel_rfl) λK hK=>?_|((first|apply aD|apply aK|refine aA (aO ?_)|apply aA);simp(disch:=apply aB;omega)only[go_sem,Tryz.results55])|(apply hK.nil;clear hK K;simp only[go_sem])|((first|refine aH rfl rfl rfl rfl rfl ?_ ?_|refine aN rfl rfl rfl rfl rfl ?_ ?_|refine aF rfl ?_ ?_)<;>intro h<;>try simp(disch:=apply aB;omega)only[go_sem] at h)|apply aL|(with_reducible refine And.intro (by first|omega|(simp only[lens];omega)) ?_)|fail
    exact⟨p+1,(by(refine aC rfl rfl ?_ ?_ ?_ ?_<;>simp(disch:=apply aB;omega)only[go_sem]<;>(try omega));rw[←ht1,←ht2];all_goals first|rfl|exact⟨rfl,rfl⟩|exact⟨by omega,rfl,rfl⟩|omega),⟨by omega,λ⟨i,hi,h1,h2⟩=>by
      rcases Nat.lt_or_ge i p with h3|h3
      ·exact hnb ⟨i,h3,h1,h2⟩
      ·obtain rfl:i=p:=by omega
       exact hHp h1⟩,by omega⟩
  ·obtain rfl:p=rs.length:=by omega
   have ho:=hfo hnb
   rw[aFK,aFK]
   have hok:=aLZ hsg hnb
   have hseq:=oS hok
   have hdig:=j1 hok
   have hbl2:=aBG rs H
   obtain⟨Lw,hLw⟩:∃Lw,(bsP rs H).map (·.1)=Lw:=⟨_,rfl⟩
   have hLw':jX (bsP rs H)=Lw:=hLw
   have hLl:Lw.length=rs.length:=by rw[←hLw',wX,hbl2]
   obtain⟨Hw,hHw⟩:∃Hw,(bsP rs H).map (·.2)=Hw:=⟨_,rfl⟩
   have hHl:Hw.length=rs.length:=by rw[←hHw,zC,hbl2]
   have hne0:Lw≠[]:=by
    intro e;rw[e] at hLl;simp only[List.length_nil] at hLl;omega
   rw[hLw,hHw]
   have hst:Lw=(gL (bsP rs H)).headD Lw/\true=!(gL (bsP rs H)).isEmpty:=by
    obtain⟨r1,hr1⟩:=hseq.2
    rw[hr1,List.headD_cons,hLw']
    exact⟨rfl,rfl⟩
   repeat' first|((exfalso;omega))|((refine pV 8 1 [a0+3] (id:=19) (n:=rs.length) (cs:=Lw.map (.int .i64)) (Lw.map (.int .i64)) rfl rfl (cB _).symm (by simp[hLl]) (eZ λ_=>rfl) (dU _) (by simp) (by simp) ?_;simp only[go_sem]))|((refine pV 9 1 [a0+5] (id:=23) (n:=rs.length) (cs:=Hw.map (.int .i64)) (Hw.map (.int .i64)) rfl rfl (cB _).symm (by simp[hHl]) (eZ λ_=>rfl) (dU _) (by simp) (by simp) ?_;simp only[go_sem]))|((refine o4 (a0::r0) (by simp) 12 58 (ys:=Lw) rfl rfl rfl hne0 (by simp) ?_;simp only[go_sem]))|apply aE|apply aG|refine aI 0 aEp λK hK=>?_|((first|apply aD|apply aK|refine aA (aO ?_)|apply aA);simp(disch:=apply aB;omega)only[go_sem,Tryz.results55])|(apply hK.nil;clear hK K;simp only[go_sem])|((first|refine aH rfl rfl rfl rfl rfl ?_ ?_|refine aN rfl rfl rfl rfl rfl ?_ ?_|refine aF rfl ?_ ?_)<;>intro h<;>try simp(disch:=apply aB;omega)only[go_sem] at h)|refine aT rfl ?_|(refine hK.callT rfl rfl rfl (pW _ Lw (by omega)) ⟨⟨by simp only[Nat.reduceLT],by simp,by simp[Lg.look]⟩,by assumption⟩ ?_;simp(disch:=apply aB;omega)only[go_sem])|fail
   refine bB (ι:=List (List Int)) (λp=>[(12,PL (a0::r0) (p.headD Lw)),(13,.bool (!p.isEmpty))]) (λp=>[]) (λp=>(wU (bsP rs H) p/\∀c∈p,nS (bsP rs H) c)/\fK (QJ rs P set) p=o) (λp=>p.length) (gL (bsP rs H)) (by(refine aC rfl rfl ?_ ?_ ?_ ?_<;>simp(disch:=apply aB;omega)only[go_sem]<;>(try omega));(rw[←hst.1];exact⟨dR _,hst.2⟩)) ?_ (λp hp=>?_)
   rotate_left
   simp only[go_sem]
   ·obtain⟨⟨hq1,hq2⟩,hq3⟩:=hp
    cases p with
    | nil =>
     obtain rfl:none=o:=hq3
     simp only[List.isEmpty_nil,Bool.not_true]
     repeat' first|apply aE|refine aI 0 aEp λK hK=>?_|((first|apply aD|apply aK|refine aA (aO ?_)|apply aA);simp(disch:=apply aB;omega)only[go_sem,Tryz.results55])|(apply hK.nil;clear hK K;simp only[go_sem])|((first|refine aH rfl rfl rfl rfl rfl ?_ ?_|refine aN rfl rfl rfl rfl rfl ?_ ?_|refine aF rfl ?_ ?_)<;>intro h<;>try simp(disch:=apply aB;omega)only[go_sem] at h)|refine aT rfl ?_|fail
     first|exact⟨rfl,rfl⟩|(refine⟨?_,rfl⟩;simp[vK,le0])
    | cons a r =>
     have ha:=hq2 a zH
     have hal:a.length=(bsP rs H).length:=jB ha
     have hal2:a.length=rs.length:=by rw[hal,hbl2]
     have hab:=aTB hsg ha
     obtain⟨hn1,hn2⟩:=qH hq1
     rw[hLw'] at hn1
     have hpj:=tB hsg ha
     have hne:a≠[]:=by
      intro e;rw[e] at hal2;simp only[List.length_nil] at hal2;omega
     have hnl:(r.headD Lw).length=a.length:=by
      have:=(n5 (bs:=bsP rs H) (xs:=a) hal).1
      rw[hn1] at this
      rw[this,hal]
     have hnn:r.headD Lw≠[]:=by intro e;rw[e] at hnl;simp only[List.length_nil] at hnl;omega
     simp only[List.headD_cons,List.isEmpty_cons,Bool.not_false]
     have cJ:=(aCG [a0+4] (by simp) rs P set a hpj hP hS h64).args (args:=[.agg [.sl (.lab [a0+1]) (rs.map (.int .i64))],.sl (.lab [a0+1]) (P.map (o6 [a0+1])),.sl (.lab [a0+1]) (set.map (.int .i64)),PL (a0::r0) a]) ⟨vZ _ _,xO _ _,.any,aNP,trivial⟩
     have cC:=aB4 500 (bsP rs H) a hal hne (by omega) hab
     rw[hn1,hLw',hHw] at cC
     have cC:=cC.args (args:=[.ms 500 a.length,.sl (.lab [a0+3]) (Lw.map (.int .i64)),.sl (.lab [a0+5]) (Hw.map (.int .i64))]) ⟨.refl _,.any,.any,trivial⟩
     have hnx:¬QJ rs P set a->fK (QJ rs P set) r=o:=λh=>by rw[←hq3,iN h]
     have hyx:QJ rs P set a->o=some a:=λh=>by rw[←hq3,iU h]
     have hs1:∀tk,(D.sl (.lab [a0+1]) (P.map (o6 [a0+1]))).safeP (a0::r0) tk=true:=λtk=>by simp[D.safeP,kI (aHO (q:=a0::r0) (l:=[a0+1]) (tk:=tk) (by simp))]
     have hs2:∀tk,(D.sl (.lab [a0+1]) (set.map (.int .i64))).safeP (a0::r0) tk=true:=λtk=>by simp only[D.safeP,fJ];simp
     have hs3:∀tk,(D.sl (.lab [a0+3]) (Lw.map (.int .i64))).safeP (a0::r0) tk=true:=λtk=>by simp only[D.safeP,fJ];simp
     have hs5:∀tk,(D.sl (.lab [a0+5]) (Hw.map (.int .i64))).safeP (a0::r0) tk=true:=λtk=>by simp only[D.safeP,fJ];simp
     have hs4:∀tk,D.safePL (a0::r0) tk [.sl (.lab [a0+1]) (rs.map (.int .i64))]=true:=λtk=>by simp only[D.safePL,D.safeP,fJ];simp
     repeat' first|((refine aNQ 6 (d:=PL (a0::r0) a) rfl aWo ?_;simp only[go_sem]))|((refine hK.callB rfl rfl rfl (cC) (by refine⟨⟨?_,?_,?_,?_,?_⟩,⟨?_,?_,?_,?_,?_⟩,?_⟩<;>simp[LS.getBox,Lg.look,D.ids,D.idsL,l8,LS.clean,D.puOk,D.pu,D.pu1,D.tks,D.tksL,dK,yM,yY]) ?_;simp(disch:=apply aB;omega)only[go_sem]))|((refine o4 (a0::r0) (by simp) 12 500 (n:=a.length) (ys:=r.headD Lw) rfl rfl hnl.symm hnn (by simp) ?_;simp only[go_sem]))|((refine rY 14 [a0+1] (a0::r0) hOld (by simp) (by simp) 12 500 rfl hne (by simp) [(1,.sl (.lab [a0+1]) (P.map (o6 [a0+1]))),(2,.sl (.lab [a0+1]) (set.map (.int .i64))),(3,.box 3 0),(8,.sl (.lab [a0+3]) (Lw.map (.int .i64))),(9,.sl (.lab [a0+5]) (Hw.map (.int .i64)))] [(3,[.sl (.lab [a0+1]) (rs.map (.int .i64))])] (List.forall_mem_cons.2 ⟨⟨rfl,hs1 _,by simp[D.ids]⟩,List.forall_mem_cons.2 ⟨⟨rfl,hs2 _,by simp[D.ids]⟩,List.forall_mem_cons.2 ⟨⟨rfl,rfl,by simp[D.ids]⟩,List.forall_mem_cons.2 ⟨⟨rfl,hs3 _,by simp[D.ids]⟩,List.forall_mem_cons.2 ⟨⟨rfl,hs5 _,by simp[D.ids]⟩,λq hq=>by cases hq⟩⟩⟩⟩⟩) (List.forall_mem_cons.2 ⟨⟨by simp,rfl,hs4 _,by simp[D.idsL,D.ids]⟩,λq hq=>by cases hq⟩) ?_;simp only[go_sem]))|apply aE|apply aG|apply aM|apply aJ|refine aI 0 aEp λK hK=>?_|((first|apply aD|apply aK|refine aA (aO ?_)|apply aA);simp(disch:=apply aB;omega)only[go_sem,Tryz.results55])|(apply hK.nil;clear hK K;simp only[go_sem])|((first|refine aH rfl rfl rfl rfl rfl ?_ ?_|refine aN rfl rfl rfl rfl rfl ?_ ?_|refine aF rfl ?_ ?_)<;>intro h<;>try simp(disch:=apply aB;omega)only[go_sem] at h)|apply aL|refine hK.c0 rfl rfl rfl (cJ) rfl rfl rfl ?_|fail
     ·rw[hyx ⟨by assumption,by assumption⟩]
      exact⟨rfl,rfl⟩
     ·have hQ:¬QJ rs P set a:=λe=>by have:=e.2;omega
      exact⟨r,(by(refine aC rfl rfl ?_ ?_ ?_ ?_<;>simp(disch:=apply aB;omega)only[go_sem]<;>(try omega));all_goals exact dR _),⟨⟨hn2,λd hd=>hq2 d (zG _ hd)⟩,hnx hQ⟩,by simp⟩
     ·have hQ:¬QJ rs P set a:=λe=>by
       have h1:=e.1
       have h2:(jR rs P set a).2=false:=by assumption
       rw[h1] at h2
       cases h2
      exact⟨r,(by(refine aC rfl rfl ?_ ?_ ?_ ?_<;>simp(disch:=apply aB;omega)only[go_sem]<;>(try omega));all_goals exact dR _),⟨⟨hn2,λd hd=>hq2 d (zG _ hd)⟩,hnx hQ⟩,by simp⟩
   ·exact⟨⟨hseq.1,hdig⟩,ho.symm⟩
 ·exact⟨Nat.zero_le _,λ⟨i,hi,_⟩=>absurd hi (Nat.not_lt_zero _)⟩
theorem aRS(rs:List Int):(D.agg [.sl .any (rs.map (.int .i64))]).okLb=true:=by simp[D.okLb,D.okLbL,kA]
theorem aGm(p:List Nat)(hp:p≠[])(rs:List Int)(P:List DepPairT)(set:List Int)(hsg:eA rs)(hP:∀p∈P,jN rs p)(hS:fI set P.length)(h64:P.length≤64):FC S 55 [] [] [] [.agg [.sl .any (rs.map (.int .i64))],.sl .any (P.map bK),.sl .any (set.map (.int .i64))] (.tup [fO p (vK (gG rs P set)).1,.bool (vK (gG rs P set)).2]) [] []:=by
 obtain⟨a0,r0,rfl⟩:∃a r,p=a::r:=by
  cases p with
  | nil=>exact absurd rfl hp
  | cons a r=>exact⟨a,r,rfl⟩
 refine aHd [a0+1] (by simp) ?_ ?_ ?_
 ·simp[D.okLbL,aRS,D.okLb,iV aCq,kA]
 ·have h1:D.noLL [a0+1] ((vK (gG rs P set)).1.map (.int .i64))=true:=xI (λ_=>rfl) _
  have h2:((a0::r0) != [a0+1])=true:=by simp
  simp only[fO,D.noL,D.noLL,h1,h2,Bool.and_self]
 ·simp only[D.lbL,D.lb,oK,aLr,lH]
  exact aEh a0 r0 rs P set hsg hP hS h64
end
section
attribute [local irreducible] SW bC bE dE bU FC dO
theorem aVo(a b:List Int)(v:Int)(h:b≠[]):(a++b).set a.length v=a++v::b.drop 1:=by
 induction a with
 | nil=>cases b with
  | nil=>exact absurd rfl h
  | cons c b=>rfl
 | cons c a ih=>simp[ih]
def aA2(n i:Nat):List Int:=upTo i++List.replicate (n-i) 0
theorem l9(n:Nat):(upTo n).length=n:=by simp[upTo]
theorem aQr(n i:Nat)(h:i≤n):(aA2 n i).length=n:=by simp[aA2,l9];omega
theorem aQk(n i:Nat)(h:i<n):(aA2 n i).set i (i:Int)=aA2 n (i+1):=by
 have:=aVo (upTo i) (List.replicate (n-i) 0) (i:Int) (by intro e;have:=congrArg List.length e;simp at this;omega)
 rw[l9] at this
 unfold aA2
 rw[this,aFi,List.append_assoc,List.drop_replicate,show n-i-1=n-(i+1) by omega]
 rfl
def aXu:List (Nat×List Nat):=[(0,[0]),(1,[3]),(2,[3,8,9]),(3,[3,8,9,10]),(4,[3,4,8,9]),(5,[3,8,9]),(6,[3,8,9]),(7,[2])]
attribute [go_sem] aXu
theorem aHt(n:Nat)(hn:n≤1000):FC S 90 [] [] [] [.int .i64 n] (.ms 6 n) [(6,(upTo n).map (.int .i64))] []:=by
 refine aP Tryz.func90 rfl (by kernel_rfl) (by simp[Tryz.f90]) λB=>?_
 simp only[Tryz.ntmps90,aS,aZ,Nat.reduceAdd]
 repeat' first|apply aE|apply aG|refine aI 0 aXu λK hK=>?_|((first|apply aD|refine aA (aO ?_)|apply aA);simp(disch:=apply aB;omega)only[go_sem,Tryz.results90])|(apply hK.nil;clear hK K;simp only[go_sem])|(with_reducible refine And.intro (by first|omega|(simp only[lens];omega)) ?_)|fail
 refine bB (ι:=Nat) (λp=>[(9,.int .i64 p)]) (λp=>[(6,(aA2 n p).map (.int .i64))]) (λp=>p≤n) (λp=>n-p) 0 (by(refine aC rfl rfl ?_ ?_ ?_ ?_<;>simp(disch:=apply aB;omega)only[go_sem]<;>(try omega));all_goals first|(rw[gR,aA2,upTo];simp;done)|(simp;done)) ?_ (λp hp=>?_)
 rotate_left
 simp only[go_sem]
 have hl:=aQr n p hp
 have hs:=aQk n p
 repeat' first|apply aE|apply aG|apply aM|apply aJ|refine aI 0 aXu λK hK=>?_|((first|apply aD|refine aA (aO ?_)|apply aA);simp(disch:=apply aB;omega)only[go_sem,Tryz.results90])|(apply hK.nil;clear hK K;simp only[go_sem])|((first|refine aF rfl ?_ ?_)<;>intro h<;>try simp(disch:=apply aB;omega)only[go_sem] at h)|refine aT rfl ?_|apply aL|(with_reducible refine And.intro (by first|omega|(simp only[lens];omega)) ?_)|fail
 ·exact⟨p+1,(by(refine aC rfl rfl ?_ ?_ ?_ ?_<;>simp(disch:=apply aB;omega)only[go_sem]<;>(try omega));all_goals first|rw[hs (by omega)]|skip),by omega,by omega⟩
 ·rw[show p=n by omega];simp[aA2]
 ·omega
end
end Go.Proofs.YtpennhjjnlkbiaaGreat
