/-
  K4, K5, A15i, A15j, one behind the other.
-/
import Derived.Test.YtpennhjjnlkbiaaGreatG3
import Derived.Test.YtpennhjjnlkbiaaGreatG1
import Derived.Test.YtpennhjjnlkbiaaGreatLgK19
import Derived.Test.YtpennhjjnlkbiaaGreatLgK20
import Derived.Test.YtpennhjjnlkbiaaGreatLgK10
import Derived.Test.YtpennhjjnlkbiaaGreatG2
import Derived.Test.YtpennhjjnlkbiaaGreatG0
namespace Go.Proofs.YtpennhjjnlkbiaaGreat
open Go Go.Lg
set_option linter.unusedSimpArgs false
set_option linter.unusedVariables false
set_option maxHeartbeats 4000000
section
attribute [local irreducible] SW bC bE dE bU FC dO toF dP fV
theorem aNT{S:Setup}{B:Base}{ops:Array Oper}{l:List Oper}{L:LS}{N:LS->Prop}(h:aU S B ops l L N):aU S B ops l L N:=h
def nT(v:Int)(n p:Nat):List Int:=List.replicate p v++List.replicate (n-p) 0
theorem aTF(v:Int){n p:Nat}(h:p≤n):(nT v n p).length=n:=by simp[nT];omega
theorem aUb(v:Int)(n:Nat):nT v n n=List.replicate n v:=by simp[nT]
theorem aIS(a b:List Int)(k:Nat):cI (a.map (.int .i64)) k (b.map (.int .i64))=(a.take k++b++a.drop (k+b.length)).map (.int .i64):=by
 simp[cI,List.map_take,List.map_drop]
theorem aO2(v:Int){n p m:Nat}(h:p≤n)(hm:m≤p)(hn:p+m≤n):(nT v n p).take p++(nT v n p).take m++(nT v n p).drop (p+((nT v n p).take m).length)=nT v n (p+m):=by
 have h1:(nT v n p).take p=List.replicate p v:=by
  unfold nT;rw[List.take_left' (by simp)]
 have h2:(nT v n p).take m=List.replicate m v:=by
  unfold nT
  rw[List.take_append_of_le_length (by simpa using hm),List.take_replicate,Nat.min_eq_left hm]
 have h3:(nT v n p).drop (p+m)=List.replicate (n-(p+m)) 0:=by
  unfold nT
  rw[List.drop_append,List.length_replicate,List.drop_of_length_le (by simp),List.nil_append,List.drop_replicate]
  congr 1;omega
 rw[h1,h2,List.length_replicate,h3]
 unfold nT
 rw[List.replicate_append_replicate]
theorem aMZ(v:Int){n:Nat}(h:0<n):(List.replicate n (0:Int)).take 0++[v]++(List.replicate n (0:Int)).drop (0+1)=nT v n 1:=by
 simp[nT,List.drop_replicate]
def aV2:List (Nat×List Nat):=[(0,[0,1]),(1,[0,1,6]),(2,[0,1,6,7]),(3,[0,1,6,7,8]),(4,[0,1,6,7,8,9]),(5,[0,1,6,7,8,9,10]),(6,[0,1,6,7,9,11]),(7,[0,1,6,7,9,11,12]),(8,[0,1,6,7,9,12,13]),(9,[0,1,7,9,12,13]),(10,[0,1,4]),(11,[4,5])]
attribute [go_sem] aV2
theorem aRo(n:Nat)(hn:n<65):FC S 152 [] [] [] [.int .u64 1,.int .u64 n] (.tup [.int .u64 0,.int .u64 n]) [] []:=by
 have key:∀m:Nat,m<65->IntKind.wrap .u64 (1*(m:Int))=m:=by decide
 refine aP Tryz.func152 rfl (by kernel_rfl) (by simp[Tryz.f152]) λB=>?_
 simp only[Tryz.ntmps152,aS,aZ,Nat.reduceAdd]
 repeat' first|apply aE|refine aI 0 aV2 λK hK=>?_|((first|apply aD|refine aA (aO ?_)|apply aA);simp(disch:=apply aB;omega)only[go_sem,Tryz.results152])|(apply hK.nil;clear hK K;simp only[go_sem])|(with_reducible refine And.intro (by first|omega|(simp only[lens];omega)) ?_)|fail
 all_goals (revert n;decide)
def aVW:List (Nat×List Nat):=[(0,[0,1]),(1,[6,7]),(2,[4,5]),(3,[8,9]),(4,[4,5])]
attribute [go_sem] aVW
theorem aR0(n:Nat)(hn:n<65):FC S 131 [] [] [] [.int .u64 1,.int .u64 n] (.tup [.int .u64 0,.int .u64 n]) [] []:=by
 refine aP Tryz.func131 rfl (by kernel_rfl) (by simp[Tryz.f131]) λB=>?_
 simp only[Tryz.ntmps131,aS,aZ,Nat.reduceAdd]
 repeat' first|((refine aF (b:=false) rfl (λh=>by cases h) λ_=>?_))|apply aE|apply aJ|refine aI 0 aVW λK hK=>?_|((first|apply aD|refine aA (aO ?_)|apply aA);simp(disch:=apply aB;omega)only[go_sem,Tryz.results131])|(apply hK.nil;clear hK K;simp only[go_sem])|refine hK.c0 rfl rfl rfl (aRo n hn) rfl rfl rfl ?_|fail
def wK:List (Nat×List Nat):=[(0,[0,1]),(1,[0,1,10]),(2,[0,1]),(3,[0,5,6]),(4,[0,6,26]),(5,[0,6]),(6,[0,7]),(7,[7,8]),(8,[7,8,37]),(9,[7,8]),(10,[4])]
attribute [go_sem] wK
theorem aEM(tk:Tk)(v:Int)(n:Nat)(h0:0<n)(hn:n<65):FC S 108 [] [] [] [.sl tk ([v].map (.int .i64)),.int .i64 n] (.ms 30 n) [(30,(List.replicate n v).map (.int .i64))] []:=by
 refine aP Tryz.func108 rfl (by kernel_rfl) (by simp[Tryz.f108]) λB=>?_
 simp only[Tryz.ntmps108,aS,aZ,Nat.reduceAdd]
 repeat' first|((exfalso;omega))|((refine pU (id:=7) 0 wK 2 rfl λK hK=>?_))|apply aE|apply aJ|refine aI 0 wK λK hK=>?_|((first|apply aD|apply aK|refine aA (aO ?_)|apply aA);simp(disch:=apply aB;omega)only[go_sem,Tryz.results108])|(apply hK.nil;clear hK K;simp only[go_sem])|((first|refine aH rfl rfl rfl rfl rfl ?_ ?_|refine aN rfl rfl rfl rfl rfl ?_ ?_|refine aF rfl ?_ ?_)<;>intro h<;>try simp(disch:=apply aB;omega)only[go_sem] at h)|refine hK.c0 rfl rfl rfl (aR0 n hn) rfl rfl rfl ?_|(with_reducible refine And.intro (by first|omega|(simp only[lens];omega)) ?_)|fail
 rw[gR,←List.map_replicate (f:=D.int .i64)]
 refine aU.copyL (id:=30) (n:=n) (ys:=[v]) rfl rfl rfl (by simp) rfl rfl rfl ⟨by simp;omega,by simp;omega⟩ (by simp only[Nat.reduceLT]) (aU.nil ?_)
 rw[aIS,List.length_singleton,aMZ v h0]
 refine λ(K:List Oper->LS->Prop) (hK:KOk S 0 _ _ _ K)=>?_
 simp only[go_sem]
 repeat' first|apply aE|apply aG|(apply hK.nil;clear hK K;simp only[go_sem])|fail
 refine bB (ι:=Nat) (λp=>[(7,.ms 30 n),(8,.int .i64 p)]) (λp=>[(30,(nT v n p).map (.int .i64))]) (λp=>1≤p/\p≤n) (λp=>n-p) 1 (by(refine aC rfl rfl ?_ ?_ ?_ ?_<;>simp(disch:=apply aB;omega)only[go_sem]<;>(try omega))) ?_ (λp hp=>?_)
 rotate_left
 simp only[go_sem]
 obtain⟨hp1,hp2⟩:=hp
 have hcl:=aTF v hp2
 by_cases hpn:p<n
 ·have hm1:Nat.min p (n-p)≤p:=Nat.min_le_left _ _
  have hm2:Nat.min p (n-p)≤n-p:=Nat.min_le_right _ _
  have hm3:1≤Nat.min p (n-p):=Nat.le_min.2 ⟨by omega,by omega⟩
  have hst:=aO2 v hp2 hm1 (by omega)
  repeat' first|((exfalso;omega))|((refine aAM (id:=9) wK [(true,[]),(true,[]),(true,[]),(false,[1,2]),(true,[]),(true,[]),(false,[4,5]),(false,[3,6]),(false,[0,7]),(false,[8,7,0,1,2,3,4,5,6,7,8])] ⟨48,[(7,.ms 30 n),(8,.int .i64 ((p:Int)+(Nat.min p (n-p):Nat)))],[(30,(nT v n (p+Nat.min p (n-p))).map (.int .i64))],[],[],[]⟩ (by kernel_rfl) ?_ ?_;simp only[List.length_cons,List.length_nil,Nat.reduceAdd]))|((with_reducible refine aNT ?_;refine aU.sliceMv (i:=p) (n:=n) rfl rfl hpn rfl rfl rfl (by simp only[Nat.reduceLT]) (aU.nil ?_);simp only[go_sem]))|((with_reducible refine aNT ?_;refine aU.copyM (off:=p) (n:=n-p) (m:=p) (ys:=nT v n p) rfl rfl rfl rfl rfl rfl (by omega) (by simp only[Nat.reduceLT]) (aU.nil ?_);rw[aIS,hst];simp only[go_sem]))|((refine oL ?_;simp only[tH,tF,aFw,aE1,aEA,aFJ,y2,aAy,aAf,yH,tA,sW,sI,y8,aAv,true_and,and_true,Bool.not_false,Bool.not_true,Bool.and_true,Bool.and_false,Bool.true_and,Bool.false_and,Bool.or_false,Bool.false_or,Bool.true_or,Bool.or_true,Nat.reduceBEq,Nat.reduceAdd]))|((refine sB (by simp only[Nat.reduceLT]) rfl (by simp only[go_sem];exact rfl) ?_))|((refine hK.nil (tO ?_);clear hK K))|((refine n9 ?_ ?_))|((refine iS 0 ?_;refine λ(K:List Oper->LS->Prop) (hK:KOk S 0 _ _ _ K)=>?_;simp(disch:=apply aB;omega)only[go_sem]))|((refine oC ?_;simp(disch:=apply aB;omega)only[go_sem];(refine aC rfl rfl ?_ ?_ ?_ ?_<;>simp(disch:=apply aB;omega)only[go_sem]<;>(try omega));done))|apply aE|apply aG|apply aM|apply aJ|refine aI 0 wK λK hK=>?_|((first|apply aD|apply aK|refine aA (aO ?_)|apply aA);simp(disch:=apply aB;omega)only[go_sem,Tryz.results108])|(apply hK.nil;clear hK K;simp only[go_sem])|((first|refine aH rfl rfl rfl rfl rfl ?_ ?_|refine aN rfl rfl rfl rfl rfl ?_ ?_|refine aF rfl ?_ ?_)<;>intro h<;>try simp(disch:=apply aB;omega)only[go_sem] at h)|apply aL|(with_reducible refine And.intro (by first|omega|(simp only[lens];omega)) ?_)|fail
  exact⟨p+Nat.min p (n-p),(by(refine aC rfl rfl ?_ ?_ ?_ ?_<;>simp(disch:=apply aB;omega)only[go_sem]<;>(try omega))),⟨by omega,by omega⟩,by omega⟩
 ·obtain rfl:p=n:=by omega
  repeat' first|((exfalso;omega))|apply aE|refine aI 0 wK λK hK=>?_|((first|apply aD|apply aK|refine aA (aO ?_)|apply aA);simp(disch:=apply aB;omega)only[go_sem,Tryz.results108])|(apply hK.nil;clear hK K;simp only[go_sem])|((first|refine aH rfl rfl rfl rfl rfl ?_ ?_|refine aN rfl rfl rfl rfl rfl ?_ ?_|refine aF rfl ?_ ?_)<;>intro h<;>try simp(disch:=apply aB;omega)only[go_sem] at h)|refine aT rfl ?_|fail
  exact aUb v p
 ·exact⟨zQ _,h0⟩
theorem aMq(tk:Tk)(v:Int):FC S 108 [] [] [] [.sl tk ([v].map (.int .i64)),.int .i64 0] (.sl .any []) [] []:=by
 have hm:=aR0 0 (by decide)
 refine aP Tryz.func108 rfl (by kernel_rfl) (by simp[Tryz.f108]) λB=>?_
 simp only[Tryz.ntmps108,aS,aZ,Nat.reduceAdd]
 repeat' first|((exfalso;omega))|((refine pU (id:=7) 0 wK 2 rfl λK hK=>?_))|apply aE|apply aJ|refine aI 0 wK λK hK=>?_|((first|apply aD|apply aK|refine aA (aO ?_)|apply aA);simp(disch:=apply aB;omega)only[go_sem,Tryz.results108])|(apply hK.nil;clear hK K;simp only[go_sem])|((first|refine aH rfl rfl rfl rfl rfl ?_ ?_|refine aN rfl rfl rfl rfl rfl ?_ ?_|refine aF rfl ?_ ?_)<;>intro h<;>try simp(disch:=apply aB;omega)only[go_sem] at h)|refine hK.c0 rfl rfl rfl (hm) rfl rfl rfl ?_|(with_reducible refine And.intro (by first|omega|(simp only[lens];omega)) ?_)|fail
 refine aU.copy0 (id:=30) rfl rfl rfl rfl rfl (by simp only[Nat.reduceLT]) (aU.nil ?_)
 refine λ(K:List Oper->LS->Prop) (hK:KOk S 0 _ _ _ K)=>?_
 simp only[go_sem]
 repeat' first|apply aE|apply aG|(apply hK.nil;clear hK K;simp only[go_sem])|fail
 refine bB (ι:=Nat) (λp=>[(7,.ms 30 0),(8,.int .i64 0)]) (λp=>[(30,[])]) (λp=>True) (λp=>p) 0 (by(refine aC rfl rfl ?_ ?_ ?_ ?_<;>simp(disch:=apply aB;omega)only[go_sem]<;>(try omega));rfl) ?_ (λp hp=>?_)
 rotate_left
 simp only[go_sem]
 repeat' first|((exfalso;omega))|((refine jU 10 7 1 .any (id:=30) (n:=0) (cs:=[]) [] rfl rfl rfl rfl (λx hx=>by cases hx) (λd hd=>by cases hd) (.inl rfl) ?_;simp only[go_sem]))|apply aE|refine aI 0 wK λK hK=>?_|((first|apply aD|apply aK|refine aA (aO ?_)|apply aA);simp(disch:=apply aB;omega)only[go_sem,Tryz.results108])|(apply hK.nil;clear hK K;simp only[go_sem])|((first|refine aH rfl rfl rfl rfl rfl ?_ ?_|refine aN rfl rfl rfl rfl rfl ?_ ?_|refine aF rfl ?_ ?_)<;>intro h<;>try simp(disch:=apply aB;omega)only[go_sem] at h)|refine aT rfl ?_|fail
 trivial
def aVb:List (Nat×List Nat):=[(0,[0,1]),(1,[4])]
attribute [go_sem] aVb
theorem aFX(v:Int)(n:Nat)(h0:0<n)(hn:n<65):FC S 75 [] [] [] [.int .i64 v,.int .i64 n] (.ms 8 n) [(8,(List.replicate n v).map (.int .i64))] []:=by
 refine aP Tryz.func75 rfl (by kernel_rfl) (by simp[Tryz.f75]) λB=>?_
 simp only[Tryz.ntmps75,aS,aZ,Nat.reduceAdd]
 repeat' first|apply aE|refine aI 0 aVb λK hK=>?_|((first|apply aD|refine aA (aO ?_)|apply aA);simp(disch:=apply aB;omega)only[go_sem,Tryz.results75])|(apply hK.nil;clear hK K;simp only[go_sem])|(refine hK.callM rfl rfl rfl (aEM _ v n h0 hn) ⟨⟨by simp only[Nat.reduceLT],by simp,by simp[Lg.look]⟩,by first|exact dU _|simp⟩ ?_;simp(disch:=apply aB;omega)only[go_sem])|fail
theorem wI(q:List Nat)(hq:q≠[])(v:Int)(n:Nat)(h0:0<n)(hn:n<65):FC S 75 [] [] [] [.int .i64 v,.int .i64 n] (fO q (List.replicate n v)) [] []:=by
 refine aP Tryz.func75 rfl (by kernel_rfl) (by simp[Tryz.f75]) λB=>?_
 simp only[Tryz.ntmps75,aS,aZ,Nat.reduceAdd]
 repeat' first|((refine pV 4 1 q (id:=8) (n:=n) (cs:=(List.replicate n v).map (.int .i64)) ((List.replicate n v).map (.int .i64)) rfl (by simp[Lg.look]) (cB _).symm (by simp) (eZ λ_=>rfl) (dU _) hq (by simp) ?_;simp only[go_sem]))|apply aE|refine aI 0 aVb λK hK=>?_|((first|apply aD|refine aA (aO ?_)|apply aA);simp(disch:=apply aB;omega)only[go_sem,Tryz.results75])|(apply hK.nil;clear hK K;simp only[go_sem])|(refine hK.callM rfl rfl rfl (aEM _ v n h0 hn) ⟨⟨by simp only[Nat.reduceLT],by simp,by simp[Lg.look]⟩,by first|exact dU _|simp⟩ ?_;simp(disch:=apply aB;omega)only[go_sem])|fail
theorem pJ(v:Int)(n:Nat)(hn:n<65):FC S 75 [] [] [] [.int .i64 v,.int .i64 n] (.sl .any ((List.replicate n v).map (.int .i64))) [] []:=by
 rcases Nat.eq_zero_or_pos n with h|h
 ·subst h
  refine aP Tryz.func75 rfl (by kernel_rfl) (by simp[Tryz.f75]) λB=>?_
  simp only[Tryz.ntmps75,aS,aZ,Nat.reduceAdd]
  repeat' first|apply aE|refine aI 0 aVb λK hK=>?_|((first|apply aD|refine aA (aO ?_)|apply aA);simp(disch:=apply aB;omega)only[go_sem,Tryz.results75])|(apply hK.nil;clear hK K;simp only[go_sem])|refine hK.c0 rfl rfl rfl (aMq _ v) rfl rfl rfl ?_|fail
  rfl
 ·exact(wI [0] (by simp) v n h hn).weak .any (by simp) (by simp)
def aYP:List (Nat×List Nat):=[(0,[0,1]),(1,[4])]
attribute [go_sem] aYP
theorem aSn(n m:Int)(hn:1≤n/\n≤20001)(hm:1≤m/\m≤2):FC S 77 [] [] [] [.int .i64 n,.int .i64 m] (.int .i64 (min (n*m) 20001)) [] []:=by
 have hnm:0≤n*m/\n*m≤50000:=by
  rcases (show m=1∨m=2 by omega) with rfl|rfl<;>omega
 generalize hq:n*m=q at *
 refine aP Tryz.func77 rfl (by kernel_rfl) (by simp[Tryz.f77]) λB=>?_
 simp only[Tryz.ntmps77,aS,aZ,Nat.reduceAdd]
 repeat' first|((rw[hq]))|apply aE|refine aI 0 aYP λK hK=>?_|((first|apply aD|refine aA (aO ?_)|apply aA);simp(disch:=apply aB;omega)only[go_sem,Tryz.results77])|(apply hK.nil;clear hK K;simp only[go_sem])|fail
 all_goals (simp only[Int.min_def];split<;>split<;>omega)
def aRv:List (Nat×List Nat):=[(0,[0,1,2]),(1,[0,1,2,7]),(2,[0,1,2,7,12]),(4,[0,1,2,7,23]),(5,[]),(6,[6]),(7,[0,1,2,7]),(3,[0,1,2,7]),(8,[6])]
attribute [go_sem] aRv
theorem aB4(id:Nat)(bs:List (Int×Int))(xs:List Int)(he:xs.length=bs.length)(hne:xs≠[])(hl:xs.length≤100)(hx:∀x∈xs,-1≤x/\x≤1000):FC S 79 [] [(id,xs.map (.int .i64))] [] [.ms id xs.length,.sl .any ((jX bs).map (.int .i64)),.sl .any ((bs.map (·.2)).map (.int .i64))] (.bool (j5 bs xs).2) [(id,(j5 bs xs).1.map (.int .i64))] []:=by
 have hll:=wX bs
 have hhl:(bs.map (·.2)).length=bs.length:=by simp
 refine aP Tryz.func79 rfl (by kernel_rfl) (by simp[Tryz.f79]) λB=>?_
 simp only[Tryz.ntmps79,aS,aZ,Nat.reduceAdd]
 repeat' first|apply aE|apply aG|refine aI 0 aRv λK hK=>?_|((first|apply aD|apply aK|refine aA (aO ?_)|apply aA);simp(disch:=apply aB;omega)only[go_sem,Tryz.results79])|(apply hK.nil;clear hK K;simp only[go_sem])|fail
 refine bB (ι:=Nat) (λp=>[(7,.int .i64 (p-1:Int))]) (λp=>[(id,(stD bs xs p).map (.int .i64))]) (λp=>p≤xs.length/\rA bs xs p) (λp=>p) xs.length (by(refine aC rfl rfl ?_ ?_ ?_ ?_<;>simp(disch:=apply aB;omega)only[go_sem]<;>(try omega));rw[aHg he]) ?_ (λp hp=>?_)
 rotate_left
 simp only[go_sem]
 obtain⟨hp1,hp2⟩:=hp
 have hlen:=aF1 he hp1
 cases p with
 | zero =>
  have hz:=aLF he hp2
  rw[hz]
  repeat' first|((exfalso;omega))|apply aE|refine aI 0 aRv λK hK=>?_|((first|apply aD|apply aK|refine aA (aO ?_)|apply aA);simp(disch:=apply aB;omega)only[go_sem,Tryz.results79])|(apply hK.nil;clear hK K;simp only[go_sem])|((first|refine aF rfl ?_ ?_)<;>intro h<;>try simp(disch:=apply aB;omega)only[go_sem] at h)|refine aT rfl ?_|fail
 | succ k =>
  have hk:k<xs.length:=by omega
  have hg:=aG4 he hk
  have hxk:=hx _ (bA xs k hk)
  have hlt:k<(stD bs xs (k+1)).length:=by omega
  have hkh:k<(bs.map (·.2)).length:=by omega
  have hkl:k<(jX bs).length:=by omega
  have hi:((k+1:Nat):Int)-1=(k:Int):=by omega
  rw[hi]
  repeat' first|apply aE|apply aG|apply aM|apply aJ|refine aI 0 aRv λK hK=>?_|refine aY aRv (by kernel_rfl) λK hK=>?_|((first|apply aD|apply aK|refine aA (aO ?_)|apply aA);simp(disch:=apply aB;omega)only[go_sem,Tryz.results79])|(apply hK.nil;clear hK K;simp only[go_sem])|((first|refine aF rfl ?_ ?_)<;>intro h<;>try simp(disch:=apply aB;omega)only[go_sem] at h)|apply aL|(with_reducible refine And.intro (by first|omega|(simp only[lens];omega)) ?_)|fail
  ·have hb:(bs.map (·.2)).getD k default=(bs.getD k default).2:=by simp[List.getD,zI,zB (show k<bs.length by omega)]
   rw[hb,hg] at h
   rw[aNm he hk hp2 h,hg]
   exact⟨rfl,rfl⟩
  ·have hb:(bs.map (·.2)).getD k default=(bs.getD k default).2:=by simp[List.getD,zI,zB (show k<bs.length by omega)]
   have hb2:(jX bs).getD k default=(bs.getD k default).1:=by simp[jX,List.getD,zI,zB (show k<bs.length by omega)]
   rw[hb,hg] at h
   obtain⟨n1,n2⟩:=aNw he hk hp2 (by omega)
   rw[hb2,n2]
   exact⟨k,(by(refine aC rfl rfl ?_ ?_ ?_ ?_<;>simp(disch:=apply aB;omega)only[go_sem]<;>(try omega))),⟨by omega,n1⟩,by omega⟩
 ·exact⟨zQ _,aCC he⟩
theorem pW(tk:Tk)(xs:List Int)(hl:xs.length≤17592186044416):FC S 78 [] [] [] [.sl tk (xs.map (.int .i64))] (.sl (.own 0 2 1) (xs.map (.int .i64))) [] [0]:=by
 refine FC.args (args':=[.sl .any (xs.map (.int .i64))]) ?_ (by simp only[go_sem])
 refine oY Tryz.func78 rfl (by kernel_rfl) (by simp[Tryz.f78]) λB=>?_
 simp only[Tryz.ntmps78,aS,aZ,Nat.reduceAdd]
 refine bZ 0 rfl λhb0=>?_
 simp only[D.bnd,zC] at hb0
 refine aCS 0 rfl (λhx=>?_) ?_<;>simp only[go_sem]
 ·have hx:xs=[]:=by simpa using hx
  subst hx
  repeat' first|(refine dW 2 5000 2 1 rfl (.inl rfl) rfl ?_;simp only[go_sem])|apply aE|refine aI 0 aLk λK hK=>?_|((first|apply aD|refine aA (aO ?_)|apply aA);simp(disch:=apply aB;omega)only[go_sem,Tryz.results78])|(apply hK.nil;clear hK K;simp only[go_sem])|((first|refine aF rfl ?_ ?_)<;>intro h<;>try simp(disch:=apply aB;omega)only[go_sem] at h)|fail
  exact mU rfl (by simp)
 ·repeat' first|apply aE|apply aJ|refine aI 0 aLk λK hK=>?_|((first|apply aD|refine aA (aO ?_)|apply aA);simp(disch:=apply aB;omega)only[go_sem,Tryz.results78])|(apply hK.nil;clear hK K;simp only[go_sem])|((first|refine aF rfl ?_ ?_)<;>intro h<;>try simp(disch:=apply aB;omega)only[go_sem] at h)|(with_reducible refine And.intro (by first|omega|(simp only[lens];omega)) ?_)|fail
  exact mU rfl (by simp)
theorem aHD(p:List Nat)(hp:p≠[])(tk:Tk)(xs:List Int)(hl:xs.length≤17592186044416):FC S 78 [] [] [] [.sl tk (xs.map (.int .i64))] (fO p xs) [] []:=by
 by_cases h:xs=[]
 ·subst h
  exact(pW tk [] hl).weak .emp (by simp) (by simp)
 ·skip
  have h1':xs.map (D.int .i64)≠[]:=by simpa using h
  refine FC.args (args':=[.sl .any (xs.map (.int .i64))]) ?_ (by simp only[go_sem])
  refine aP Tryz.func78 rfl (by kernel_rfl) (by simp[Tryz.f78]) λB=>?_
  simp only[Tryz.ntmps78,aS,aZ,Nat.reduceAdd]
  refine bZ 0 rfl λhb0=>?_
  simp only[D.bnd,zC] at hb0
  repeat' first|(refine yR 2 p (k:=8000) rfl (by simp) hp ?_;simp only[go_sem])|apply aE|apply aJ|refine aI 0 aLk λK hK=>?_|((first|apply aD|refine aA (aO ?_)|apply aA);simp(disch:=apply aB;omega)only[go_sem,Tryz.results78])|(apply hK.nil;clear hK K;simp only[go_sem])|((first|refine aF rfl ?_ ?_)<;>intro h<;>try simp(disch:=apply aB;omega)only[go_sem] at h)|(with_reducible refine And.intro (by first|omega|(simp only[lens];omega)) ?_)|fail
end
section
attribute [local irreducible] SW bC bE dE bU FC dO toF dP fV
noncomputable def lR(P:List DepPairT)(set:List Int)(n i:Nat):List Bool:=(List.range n).map λf:Nat=>tst (fC P set i (f:Int))
theorem yT(P:List DepPairT)(set:List Int)(n i:Nat):(lR P set n i).length=n:=by simp[lR]
theorem aE4{P:List DepPairT}{set:List Int}{n i f:Nat}(h:f<n):(lR P set n i).getD f default=tst (fC P set i f):=by
 simp[lR,List.getD,zI,List.getElem?_range h]
theorem aMC(P:List DepPairT)(set:List Int)(n:Nat):lR P set n 0=List.replicate n false:=by
 refine List.ext_getElem (by simp[lR]) λj h1 h2=>?_
 simp only[lR,List.getElem_map,List.getElem_range,List.getElem_replicate]
 exact bH λ⟨k,hk,_⟩=>absurd hk (Nat.not_lt_zero _)
theorem aM2{P:List DepPairT}{set:List Int}{n i a b:Nat}(ha:(P.getD (set.getD i default).toNat default).l.getD 0 default=a)(hb:(P.getD (set.getD i default).toNat default).r.getD 0 default=b):((lR P set n i).set a true).set b true=lR P set n (i+1):=by
 refine List.ext_getElem (by simp[lR]) λj h1 h2=>?_
 simp only[lR,List.getElem_set,List.getElem_map,List.getElem_range]
 have key:fC P set (i+1) j↔fC P set i j∨(a:Int)=j∨(b:Int)=j:=by
  constructor
  ·rintro⟨k,hk,h⟩
   rcases Nat.lt_or_ge k i with h3|h3
   ·exact .inl ⟨k,h3,h⟩
   ·obtain rfl:k=i:=by omega
    rw[ha,hb] at h
    exact .inr h
  ·rintro (⟨k,hk,h⟩|h)
   ·exact⟨k,by omega,h⟩
   ·exact⟨i,by omega,by rw[ha,hb];exact h⟩
 by_cases h3:b=j
 ·rw[if_pos h3,bQ (key.2 (.inr (.inr (by omega))))]
 ·rw[if_neg h3]
  by_cases h4:a=j
  ·rw[if_pos h4,bQ (key.2 (.inr (.inl (by omega))))]
  ·rw[if_neg h4]
   refine kG (key.trans ⟨λh=>h.resolve_right (by omega),.inl⟩).symm
theorem aD1(xs:List Bool)(i:Nat):(xs.map D.bool).set i (.bool true)=(xs.set i true).map D.bool:=by rw[List.map_set]
attribute [local go_sem] aD1
def aVG:List (Nat×List Nat):=[(0,[1,2,3]),(1,[1,2,7]),(2,[1,7,14,15,16]),(3,[1,7,14,15,16,17]),(4,[1,7,9,14,15,16]),(5,[1,7,9,14,15,16]),(6,[1,7,14,15,16]),(7,[1,7,14,15,16]),(8,[6])]
attribute [go_sem] aVG
theorem aJx(rs:List Int)(P:List DepPairT)(set:List Int)(hs8:rs.length≤8)(hP:∀p∈P,jN rs p)(hS:fI set P.length)(hl:P.length≤64):FC S 76 [] [] [] [.agg [.sl .any (rs.map (.int .i64))],.sl .any (P.map bK),.sl .any (set.map (.int .i64))] (.sl .any ((lR P set rs.length set.length).map .bool)) [] []:=by
 have hsl:=lO hS
 refine aP Tryz.func76 rfl (by kernel_rfl) (by simp[Tryz.f76]) λB=>?_
 simp only[Tryz.ntmps76,aS,aZ,Nat.reduceAdd]
 repeat' first|apply aE|apply aG|refine aI 0 aVG λK hK=>?_|((first|apply aD|refine aA (aO ?_)|apply aA);simp(disch:=apply aB;omega)only[go_sem,Tryz.results76])|(apply hK.nil;clear hK K;simp only[go_sem])|(with_reducible refine And.intro (by first|omega|(simp only[lens];omega)) ?_)|fail
 refine bB (ι:=Nat) (λp=>[(16,.int .i64 p)]) (λp=>[(13,(lR P set rs.length p).map .bool)]) (λp=>p≤set.length) (λp=>set.length-p) 0 (by(refine aC rfl rfl ?_ ?_ ?_ ?_<;>simp(disch:=apply aB;omega)only[go_sem]<;>(try omega));(rw[aMC];simp)) ?_ (λp hp=>?_)
 rotate_left
 simp only[go_sem]
 have hbl:=yT P set rs.length p
 by_cases hil:p<set.length
 ·obtain⟨h1,⟨⟨h2,h3⟩,h4,h5⟩⟩:=(λi hi=>(⟨(hS i hi).1,hP _ (bA P _ (by have:=(hS i hi).1;omega))⟩:(0≤set.getD i default/\set.getD i default<P.length)/\jN rs (P.getD (set.getD i default).toNat default))) p hil
  have h6:=h2.2.1
  have h7:=h3.2.1
  have h8:=(h2.low (show 0<_ from h2.2.1.1)).1.2
  have h9:=(h3.low (show 0<_ from h3.2.1.1)).1.2
  obtain⟨a,ha⟩:∃a:Nat,(P.getD (set.getD p default).toNat default).l.getD 0 default=a:=⟨_,(Int.toNat_of_nonneg h4).symm⟩
  obtain⟨b,hb⟩:∃b:Nat,(P.getD (set.getD p default).toNat default).r.getD 0 default=b:=⟨_,(Int.toNat_of_nonneg h5).symm⟩
  have hst:=aM2 (n:=rs.length) ha hb
  repeat' first|((exfalso;omega))|((simp only[ha];simp(disch:=apply aB;omega)only[go_sem]))|((simp only[hb];simp(disch:=apply aB;omega)only[go_sem]))|apply aE|apply aG|apply aM|apply aJ|refine aI 0 aVG λK hK=>?_|((first|apply aD|refine aA (aO ?_)|apply aA);simp(disch:=apply aB;omega)only[go_sem,Tryz.results76])|(apply hK.nil;clear hK K;simp only[go_sem])|((first|refine aF rfl ?_ ?_)<;>intro h<;>try simp(disch:=apply aB;omega)only[go_sem] at h)|apply aL|(with_reducible refine And.intro (by first|omega|(simp only[lens];omega)) ?_)|fail
  exact⟨p+1,(by(refine aC rfl rfl ?_ ?_ ?_ ?_<;>simp(disch:=apply aB;omega)only[go_sem]<;>(try omega));first|(rw[hst];done)|exact⟨by omega,by rw[hst]⟩),by omega,by omega⟩
 ·obtain rfl:p=set.length:=by omega
  repeat' first|((exfalso;omega))|((refine jU 8 7 1 .any ((lR P set rs.length set.length).map .bool) rfl (by simp[Lg.look]) (aFf _ _ λ_=>rfl).symm (by simp[hbl]) (eZ λ_=>rfl) (λd hd=>by obtain⟨b,_,rfl⟩:=zJ.1 hd;rfl) (.inl rfl) ?_;simp only[go_sem]))|apply aE|refine aI 0 aVG λK hK=>?_|((first|apply aD|refine aA (aO ?_)|apply aA);simp(disch:=apply aB;omega)only[go_sem,Tryz.results76])|(apply hK.nil;clear hK K;simp only[go_sem])|((first|refine aF rfl ?_ ?_)<;>intro h<;>try simp(disch:=apply aB;omega)only[go_sem] at h)|refine aT rfl ?_|fail
 ·exact Nat.zero_le _
def aIQ:List (Nat×List Nat):=[(0,[1,2]),(1,[1,2,6]),(2,[1,6,10,11,12]),(3,[1,6,10,11,12,13]),(4,[1,6,8,10,11,12]),(5,[1,6,8,10,11,12]),(6,[1,6,10,11,12]),(7,[1,6,10,11,12]),(8,[4,5])]
attribute [go_sem] aIQ
theorem aBX(p:List Nat)(hp:p≠[])(off:Nat)(rs xs:List Int)(hS:eA rs)(hl:atN rs rs.length≤xs.length)(hx:xs.length≤1000):FC S 80 [] [] [] [.agg [.sl .any (rs.map (.int .i64))],.sl .any (xs.map (.int .i64))] (.tup [.sl (.own 0 71 2) (upR (λi y=>m4 (p++[off+i]) y) (gB rs xs) rs.length),.sl .any ((xs.drop (atN rs rs.length)).map (.int .i64))]) [] [0]:=by
 have hs8:=hS.1.2
 refine oY Tryz.func80 rfl (by kernel_rfl) (by simp[Tryz.f80]) λB=>?_
 simp only[Tryz.ntmps80,aS,aZ,Nat.reduceAdd]
 repeat' first|apply aE|apply aG|refine aI 0 aIQ λK hK=>?_|((first|apply aD|apply aK|refine aA (aO ?_)|apply aA);simp(disch:=apply aB;omega)only[go_sem,Tryz.results80])|(apply hK.nil;clear hK K;simp only[go_sem])|fail
 refine dW 6 28000 71 2 rfl (.inl rfl) rfl ?_
 simp only[go_sem]
 repeat' first|apply aE|apply aG|apply aM|apply aJ|refine aI 0 aIQ λK hK=>?_|refine gK 0 aIQ 11 (id:=5) (by kernel_rfl) λK hK=>?_|refine λ(K:KT) (hK:KOk S 0 _ _ _ K)=>?_|refine aY aIQ (by kernel_rfl) λK hK=>?_|((first|apply aD|apply aK|refine aA (aO ?_)|apply aA);simp(disch:=apply aB;omega)only[go_sem,Tryz.results80])|(apply hK.nil;clear hK K;simp only[go_sem])|((first|refine aF rfl ?_ ?_)<;>intro h<;>try simp(disch:=apply aB;omega)only[go_sem] at h)|refine aT rfl ?_|apply aL|(with_reducible refine And.intro (by first|omega|(simp only[lens];omega)) ?_)|((with_reducible refine And.intro ?_ ?_);· first|(intro x hx;subst hx;rfl)|exact sU λ_ _=>rfl|exact mapR_mem λ_ _=>rfl|(intro x;refine And.intro ?_ ?_<;>(intros;subst_vars;rfl)))|fail
 refine bG (ι:=Nat) (λf=>[(12,.int .i64 f),(1,.sl .any ((xs.drop (atN rs f)).map (.int .i64))),(6,.sl (.own 28000 71 2) (upR (λi y=>m4 (p++[off+i]) y) (gB rs xs) f))]) (λ_=>[]) (λ_=>[28000]) (λf=>f≤rs.length) (λf=>rs.length-f) 0 (by(refine aC rfl rfl ?_ ?_ ?_ ?_<;>simp(disch:=apply aB;omega)only[go_sem]<;>(try omega));refine⟨?_,?_,?_⟩<;>first|rfl|(simp[atN];done)|(simp[upR];done)) (by omega) (λf hf=>?_)
 simp only[go_sem]
 by_cases hfl:f<rs.length
 ·have har:=hS.2 f hfl
  have hm:atN rs (f+1)≤atN rs rs.length:=oW rs hfl
  have hm1:atN rs (f+1)=atN rs f+(rs.getD f default).toNat+1:=rfl
  have hg:(gB rs xs).getD f default=⟨(xs.drop (atN rs f)).getD 0 default,((xs.drop (atN rs f)).take (rs.getD f default+1).toNat).drop 1⟩:=by
   rw[show (gB rs xs).getD f default=_ from aDx rs xs _ f hfl]
   congr 1
   ·simp[List.getD,List.getElem?_drop]
   ·rw[List.drop_take,List.drop_drop];congr 1;omega
  have hd:(xs.drop (atN rs f)).drop (rs.getD f default+1).toNat=xs.drop (atN rs (f+1)):=by rw[List.drop_drop];congr 1;omega
  have hyl:(xs.drop (atN rs f)).length=xs.length-atN rs f:=List.length_drop
  have hul:=kH (λi y=>m4 (p++[off+i]) y) (gB rs xs) f
  have hsu:=aH4 (λi y=>m4 (p++[off+i]) y) (gB rs xs) f
  rw[hg] at hsu
  generalize xs.drop (atN rs f)=ys at hg hd hyl hsu ⊢
  repeat' first|((exfalso;omega))|apply aE|apply aG|apply aM|apply aJ|refine aI 0 aIQ λK hK=>?_|refine gK 0 aIQ 11 (id:=5) (by kernel_rfl) λK hK=>?_|refine λ(K:KT) (hK:KOk S 0 _ _ _ K)=>?_|((first|apply aD|apply aK|refine aA (aO ?_)|apply aA);simp(disch:=apply aB;omega)only[go_sem,Tryz.results80])|(apply hK.nil;clear hK K;simp only[go_sem])|((first|refine aF rfl ?_ ?_)<;>intro h<;>try simp(disch:=apply aB;omega)only[go_sem] at h)|apply aL|refine hK.c0 rfl rfl rfl (aHD (p++[off+f]++[1]) (by simp) _ _ (by simp;omega)) rfl rfl rfl ?_|(with_reducible refine And.intro (by first|omega|(simp only[lens];omega)) ?_)|((with_reducible refine And.intro ?_ ?_);· first|(intro x hx;subst hx;rfl)|exact sU λ_ _=>rfl|exact mapR_mem λ_ _=>rfl|(intro x;refine And.intro ?_ ?_<;>(intros;subst_vars;rfl)))|fail
  exact⟨f+1,(by(refine aC rfl rfl ?_ ?_ ?_ ?_<;>simp(disch:=apply aB;omega)only[go_sem]<;>(try omega));rw[aH4,hg];exact⟨hd,rfl,by omega⟩),by omega,by omega⟩
 ·obtain rfl:f=rs.length:=by omega
  repeat' first|((exfalso;omega))|apply aE|refine aI 0 aIQ λK hK=>?_|((first|apply aD|apply aK|refine aA (aO ?_)|apply aA);simp(disch:=apply aB;omega)only[go_sem,Tryz.results80])|(apply hK.nil;clear hK K;simp only[go_sem])|((first|refine aF rfl ?_ ?_)<;>intro h<;>try simp(disch:=apply aB;omega)only[go_sem] at h)|refine aT rfl ?_|fail
  unfold dO
  simp only[go_sem]
  exact⟨28000,_,.refl _,rfl,by simp[D.tks,D.tksL],rfl⟩
end
section
attribute [local irreducible] SW bC bE dE bU FC dO toF dP fV
def aCw(xs:List Int):Nat->Int
 | 0=>xs.getD 0 default
 | p+1=>if xs.getD (p+1) default>aCw xs p then xs.getD (p+1) default else aCw xs p
theorem aJ0(xs:List Int)(c:Int):∀n,aCw xs n≤c↔∀j≤n,xs.getD j default≤c
 | 0=>⟨λh j hj=>by rwa [show j=0 by omega],λh=>h 0 (zQ _)⟩
 | n+1=>by
  have ih:=aJ0 xs c n
  simp only[aCw]
  constructor
  ·intro h j hj
   rcases Nat.lt_or_ge j (n+1) with h1|h1
   ·exact ih.1 (by split at h<;>omega) j (by omega)
   ·rw[show j=n+1 by omega];split at h<;>omega
  ·intro h
   have h1:=ih.2 λj hj=>h j (by omega)
   have h2:=h (n+1) (zQ _)
   split<;>omega
theorem aFH{xs:List Int}{c:Int}(h:0<xs.length):aCw xs (xs.length-1)≤c↔∀x∈xs,x≤c:=by
 rw[aJ0]
 exact⟨λh1=>oU (P:=λx=>x≤c) λj hj=>h1 j (by omega),λh1 j hj=>h1 _ (bA xs j (by omega))⟩
def aRm:List (Nat×List Nat):=[(0,[0]),(1,[0,7]),(2,[0]),(3,[0,3]),(4,[0,3,4]),(5,[0,3,4,15]),(7,[0,3,4]),(6,[0,3,4]),(8,[2])]
attribute [go_sem] aRm
theorem aT2(tk:Tk)(xs:List Int)(h0:0<xs.length):FC S 165 [] [] [] [.sl tk (xs.map (.int .i64))] (.int .i64 (aCw xs (xs.length-1))) [] []:=by
 refine aP Tryz.func165 rfl (by kernel_rfl) (by simp[Tryz.f165]) λB=>?_
 simp only[Tryz.ntmps165,aS,aZ,Nat.reduceAdd]
 refine bZ 0 rfl λhb0=>?_
 simp only[D.bnd,zC] at hb0
 repeat' first|apply aE|apply aG|apply aJ|refine aI 0 aRm λK hK=>?_|((first|apply aD|refine aA (aO ?_)|apply aA);simp(disch:=apply aB;omega)only[go_sem,Tryz.results165])|(apply hK.nil;clear hK K;simp only[go_sem])|((first|refine aF rfl ?_ ?_)<;>intro h<;>try simp(disch:=apply aB;omega)only[go_sem] at h)|(with_reducible refine And.intro (by first|omega|(simp only[lens];omega)) ?_)|fail
 ·omega
 refine bB (ι:=Nat) (λp=>[(4,.int .i64 (p+1)),(3,.int .i64 (aCw xs p))]) (λp=>[]) (λp=>p<xs.length) (λp=>xs.length-p) 0 (by(refine aC rfl rfl ?_ ?_ ?_ ?_<;>simp(disch:=apply aB;omega)only[go_sem]<;>(try omega));exact⟨rfl,rfl⟩) ?_ (λp hp=>?_)
 rotate_left
 simp only[go_sem]
 repeat' first|apply aE|apply aG|apply aM|apply aJ|refine aI 0 aRm λK hK=>?_|((first|apply aD|refine aA (aO ?_)|apply aA);simp(disch:=apply aB;omega)only[go_sem,Tryz.results165])|(apply hK.nil;clear hK K;simp only[go_sem])|((first|refine aF rfl ?_ ?_)<;>intro h<;>try simp(disch:=apply aB;omega)only[go_sem] at h)|refine aT rfl ?_|apply aL|(with_reducible refine And.intro (by first|omega|(simp only[lens];omega)) ?_)|fail
 ·exact⟨p+1,(by(refine aC rfl rfl ?_ ?_ ?_ ?_<;>simp(disch:=apply aB;omega)only[go_sem]<;>(try omega));exact⟨rfl,by omega⟩),by omega,by omega⟩
 ·rw[show p=xs.length-1 by omega]
 ·exact h0
def aI5:List (Nat×List Nat):=[(0,[1,2]),(1,[1,2,19]),(2,[4]),(3,[2,20,21,22]),(4,[2,20,21,22,23]),(5,[2,5,6,20,21,22]),(6,[2,6,20,21,22,45]),(7,[4]),(8,[2,20,21,22,47,48,49]),(9,[2,20,21,22,47,48,49,50]),(10,[2,8,20,21,22,47,48,49]),(11,[2,20,21,22,47,48,49,58]),(12,[4]),(13,[2,20,21,22,47,48,49]),(14,[2,20,21,22]),(15,[4])]
attribute [go_sem] aI5
theorem qK(rs:List Int)(ps:List PolyT):FC S 157 [] [] [] [.agg [.sl .any (rs.map (.int .i64))],.sl .any (ps.map bS)] (.bool (tst (dI rs ps))) [] []:=by
 refine aP Tryz.func157 rfl (by kernel_rfl) (by simp[Tryz.f157]) λB=>?_
 simp only[Tryz.ntmps157,aS,aZ,Nat.reduceAdd]
 refine bZ 1 rfl λhb1=>?_
 simp only[D.bnd,zC] at hb1
 repeat' first|apply aE|apply aG|apply aJ|refine aI 0 aI5 λK hK=>?_|((first|apply aD|apply aK|refine aA (aO ?_)|apply aA);simp(disch:=apply aB;omega)only[go_sem,Tryz.results157])|(apply hK.nil;clear hK K;simp only[go_sem])|((first|refine aH rfl rfl rfl rfl rfl ?_ ?_|refine aN rfl rfl rfl rfl rfl ?_ ?_|refine aF rfl ?_ ?_)<;>intro h<;>try simp(disch:=apply aB;omega)only[go_sem] at h)|refine hK.c0 rfl rfl rfl (pM _ _) rfl rfl rfl ?_|fail
 ·exact λh=>absurd h.1.1 (by assumption)
 ·exact λh=>absurd h.1.2 (by omega)
 refine bB (ι:=Nat) (λi=>[(22,.int .i64 i)]) (λ_=>[]) (λi=>i≤ps.length/\(∀j<i,fU (rs.getD j default) (ps.getD j default))) (λi=>ps.length-i) 0 (by(refine aC rfl rfl ?_ ?_ ?_ ?_<;>simp(disch:=apply aB;omega)only[go_sem]<;>(try omega))) ⟨by omega,?_⟩ (λi ⟨hi,hj⟩=>?_)
 rotate_left
 simp only[go_sem]
 have hsg:=(by assumption:eA rs)
 have hla:i<ps.length->rs.getD i default≤3:=λh=>(hsg.2 i (by omega)).2
 repeat' first|apply aE|apply aG|apply aJ|refine aI 0 aI5 λK hK=>?_|refine aY aI5 (by kernel_rfl) λK hK=>?_|((first|apply aD|apply aK|refine aA (aO ?_)|apply aA);simp(disch:=apply aB;omega)only[go_sem,Tryz.results157])|(apply hK.nil;clear hK K;simp only[go_sem])|((first|refine aH rfl rfl rfl rfl rfl ?_ ?_|refine aN rfl rfl rfl rfl rfl ?_ ?_|refine aF rfl ?_ ?_)<;>intro h<;>try simp(disch:=apply aB;omega)only[go_sem] at h)|refine aT rfl ?_|(with_reducible refine And.intro (by first|omega|(simp only[lens];omega)) ?_)|fail
 ·exact λhp=>absurd (hp.2 i (by omega)).1 (by omega)
 ·exact λhp=>absurd (hp.2 i (by omega)).1 (by omega)
 ·exact λhp=>absurd (hp.2 i (by omega)).1 (by omega)
 ·have hla:=hla (by omega)
  refine bG (ι:=Nat) (λk=>[(49,.int .i64 k)]) (λ_=>[]) (λ_=>[]) (λk=>k≤(ps.getD i default).coef.length/\∀j<k,0≤(ps.getD i default).coef.getD j default/\(ps.getD i default).coef.getD j default≤9) (λk=>(ps.getD i default).coef.length-k) 0 (by(refine aC rfl rfl ?_ ?_ ?_ ?_<;>simp(disch:=apply aB;omega)only[go_sem]<;>(try omega))) ⟨by omega,λj hj=>absurd hj (by omega)⟩ (λk hk=>?_)
  obtain⟨hk,hk1⟩:=hk
  simp only[go_sem]
  repeat' first|apply aE|apply aG|apply aM|apply aJ|refine aI 0 aI5 λK hK=>?_|((first|apply aD|apply aK|refine aA (aO ?_)|apply aA);simp(disch:=apply aB;omega)only[go_sem,Tryz.results157])|(apply hK.nil;clear hK K;simp only[go_sem])|((first|refine aH rfl rfl rfl rfl rfl ?_ ?_|refine aN rfl rfl rfl rfl rfl ?_ ?_|refine aF rfl ?_ ?_)<;>intro h<;>try simp(disch:=apply aB;omega)only[go_sem] at h)|refine aT rfl ?_|apply aL|(with_reducible refine And.intro (by first|omega|(simp only[lens];omega)) ?_)|fail
  ·exact λhp=>absurd ((hp.2 i (by omega)).2 _ (bA _ k (by omega))) (by omega)
  ·exact λhp=>absurd ((hp.2 i (by omega)).2 _ (bA _ k (by omega))) (by omega)
  ·exact⟨k+1,(by(refine aC rfl rfl ?_ ?_ ?_ ?_<;>simp(disch:=apply aB;omega)only[go_sem]<;>(try omega))),⟨by omega,bJ hk1 ⟨by omega,by omega⟩⟩,by omega⟩
  ·exact⟨i+1,(by(refine aC rfl rfl ?_ ?_ ?_ ?_<;>simp(disch:=apply aB;omega)only[go_sem]<;>(try omega))),⟨by omega,bJ hj ⟨⟨by omega,by omega,by omega⟩,oU (P:=λx=>0≤x/\x≤9) λj hj'=>hk1 j (by omega)⟩⟩,by omega⟩
 ·exact⟨⟨by assumption,by omega⟩,λj hj'=>hj j (by omega)⟩
 ·intro j hj';omega
def aVY:List (Nat×List Nat):=[(0,[1,2]),(1,[1,2,9]),(2,[4]),(3,[4])]
attribute [go_sem] aVY
theorem aQw(p:PolyT)(i:Nat):FC S 158 [] [] [] [bS p,.int .i64 i] (.int .i64 (p.coef.getD i default)) [] []:=by
 have hz:=λh=>aEI [] p.coef 0 (j:=i) h
 refine aP Tryz.func158 rfl (by kernel_rfl) (by simp[Tryz.f158]) λB=>?_
 simp only[Tryz.ntmps158,aS,aZ,Nat.reduceAdd]
 refine bX 0 1 rfl rfl λhb0_1=>?_
 simp only[D.bnd,zC] at hb0_1
 repeat' first|apply aE|apply aJ|refine aI 0 aVY λK hK=>?_|((first|apply aD|refine aA (aO ?_)|apply aA);simp(disch:=apply aB;omega)only[go_sem,Tryz.results158])|(apply hK.nil;clear hK K;simp only[go_sem])|((first|refine aF rfl ?_ ?_)<;>intro h<;>try simp(disch:=apply aB;omega)only[go_sem] at h)|(with_reducible refine And.intro (by first|omega|(simp only[lens];omega)) ?_)|fail
 exact(hz (by omega)).symm
def aV5:List (Nat×List Nat):=[(0,[1,2]),(1,[4])]
attribute [go_sem] aV5
theorem aVg(p:PolyT)(i:Nat):FC S 145 [] [] [] [bS p,.int .i64 i] (.int .i64 (p.coef.getD i default)) [] []:=by
 refine aP Tryz.func145 rfl (by kernel_rfl) (by simp[Tryz.f145]) λB=>?_
 simp only[Tryz.ntmps145,aS,aZ,Nat.reduceAdd]
 repeat' first|apply aE|refine aI 0 aV5 λK hK=>?_|((first|apply aD|refine aA (aO ?_)|apply aA);simp(disch:=apply aB;omega)only[go_sem,Tryz.results145])|(apply hK.nil;clear hK K;simp only[go_sem])|refine hK.c0 rfl rfl rfl (aQw p i) rfl rfl rfl ?_|fail
open Classical in
noncomputable def aFk(a b:PolyT):Bool×Bool:=if uF a b then (tst (a.const≤b.const),tst (a.const<b.const)) else (false,false)
theorem tD{a b:PolyT}(h:uF a b):aFk a b=(tst (a.const≤b.const),tst (a.const<b.const)):=if_pos h
theorem vS{a b:PolyT}(h:¬uF a b):aFk a b=(false,false):=if_neg h
def aNG:List (Nat×List Nat):=[(0,[2,3]),(1,[2,3,9,10,11]),(2,[2,3,9,10,11,12]),(3,[2,3,6,7,9,10,11]),(4,[2,3,9,10,11,20]),(5,[4,5]),(6,[2,3,9,10,11]),(7,[4,5])]
attribute [go_sem] aNG
theorem aEV(a b:PolyT):FC S 125 [] [] [] [bS a,bS b] (.tup [.bool (aFk a b).1,.bool (aFk a b).2]) [] []:=by
 refine aP Tryz.func125 rfl (by kernel_rfl) (by simp[Tryz.f125]) λB=>?_
 simp only[Tryz.ntmps125,aS,aZ,Nat.reduceAdd]
 refine bX 0 1 rfl rfl λhb0_1=>?_
 simp only[D.bnd,zC] at hb0_1
 repeat' first|apply aE|apply aG|refine aI 0 aNG λK hK=>?_|((first|apply aD|apply aK|refine aA (aO ?_)|apply aA);simp(disch:=apply aB;omega)only[go_sem,Tryz.results125])|(apply hK.nil;clear hK K;simp only[go_sem])|fail
 refine bB (ι:=Nat) (λi=>[(11,.int .i64 i)]) (λ_=>[]) (λi=>i≤a.coef.length/\(∀j<i,a.coef.getD j default≤b.coef.getD j default)) (λi=>a.coef.length-i) 0 (by(refine aC rfl rfl ?_ ?_ ?_ ?_<;>simp(disch:=apply aB;omega)only[go_sem]<;>(try omega))) ⟨by omega,?_⟩ (λi ⟨hi,hj⟩=>?_)
 rotate_left
 simp only[go_sem]
 repeat' first|apply aE|apply aG|apply aM|apply aJ|refine aI 0 aNG λK hK=>?_|refine aY aNG (by kernel_rfl) λK hK=>?_|((first|apply aD|apply aK|refine aA (aO ?_)|apply aA);simp(disch:=apply aB;omega)only[go_sem,Tryz.results125])|(apply hK.nil;clear hK K;simp only[go_sem])|((first|refine aF rfl ?_ ?_)<;>intro h<;>try simp(disch:=apply aB;omega)only[go_sem] at h)|refine aT rfl ?_|apply aL|refine hK.c0 rfl rfl rfl (aVg b i) rfl rfl rfl ?_|(with_reducible refine And.intro (by first|omega|(simp only[lens];omega)) ?_)|fail
 ·rw[vS λhm=>absurd (hm i (by omega)) (by omega)]
  exact⟨rfl,rfl⟩
 ·exact⟨i+1,(by(refine aC rfl rfl ?_ ?_ ?_ ?_<;>simp(disch:=apply aB;omega)only[go_sem]<;>(try omega))),⟨by omega,bJ hj (by omega)⟩,by omega⟩
 ·rw[tD λj hj'=>hj j (by omega)]
  exact⟨kF _,kF _⟩
 ·intro j hj';omega
attribute [local go_sem] aCR aB5
def aTb:List (Nat×List Nat):=[(0,[0,2]),(1,[0,2,3]),(2,[2,3]),(3,[2])]
attribute [go_sem] aTb
theorem aKH(n:Int)(h0:n<0)(h1:-24≤n):FC S 163 [] [] [] [.int .i64 n] (bS (xE n)) [] []:=by
 refine aP Tryz.func163 rfl (by kernel_rfl) (by simp[Tryz.f163]) λB=>?_
 simp only[Tryz.ntmps163,aS,aZ,Nat.reduceAdd]
 repeat' first|((refine⟨by rw[List.length_replicate];omega,?_⟩))|((refine aBE (id:=3) ?_))|apply aE|refine aI 0 aTb λK hK=>?_|((first|apply aD|refine aA (aO ?_)|apply aA);simp(disch:=apply aB;omega)only[go_sem,Tryz.results163])|(apply hK.nil;clear hK K;simp only[go_sem])|(with_reducible refine And.intro (by first|omega|(simp only[lens];omega)) ?_)|fail
 refine HoldP.go ?_
 refine kQ 3 1 .any ((xE n).coef.map (.int .i64)) rfl rfl (by rw[cB];unfold xE;rw[Int.zero_sub]) (by simp[xE]) (λx hx=>by obtain⟨y,_,rfl⟩:=zJ.1 hx;rfl) (λd hd=>by obtain⟨y,_,rfl⟩:=zJ.1 hd;rfl) (.inl rfl) ?_
 simp only[go_sem]
 repeat' first|refine aI 0 aTb λK hK=>?_|((first|apply aD|refine aA (aO ?_)|apply aA);simp(disch:=apply aB;omega)only[go_sem,Tryz.results163])|(apply hK.nil;clear hK K;simp only[go_sem])|fail
 all_goals rfl
def nU(a:PolyT):D:=.agg [.int .i64 a.const,.sl (.lab [1]) (a.coef.map (.int .i64))]
attribute [local go_sem] nU
theorem aOA{k:Nat}{e:TypeId}{tk:List Nat}{ys zs:List Int}(qs:List PolyT):StO k e tk ys zs (.sl (.lab [1]) (qs.map nU)) (.sl (.lab [1]) (qs.map nU)):=by
 refine bO ?_
 show D.safeIL k tk (qs.map nU)=true
 refine aEO λd hd=>?_
 obtain⟨a,_,rfl⟩:=zJ.1 hd
 simp[nU,D.safeI,D.safeIL,aAU]
theorem aQP(cs ds:List Int)(c:Int):fD cs ds c 0=cs++List.replicate (ds.length-cs.length) 0:=rfl
theorem aQv(cs ds:List Int)(c:Int)(j:Nat):fD cs ds c (j+1)=(fD cs ds c j).set j ((fD cs ds c j).getD j default+c*ds.getD j default):=rfl
end
section
attribute [local irreducible] SW bC bE dE bU FC dO toF dP fV fD sumF
attribute [local go_sem] nU
def tZ:List (Nat×List Nat):=[(0,[1,2,4]),(1,[1,2,4,6]),(2,[2,4,6,14,15,16]),(3,[2,4,6,14,15,16,17]),(4,[2,4,6,7,8,14,15,16]),(5,[2,4,6,7,8,14,15,16]),(6,[2,4,6,7,8,14,15,16,39]),(7,[2,4,6,7,8,14,15,16]),(8,[2,4,6,7,14,15,16,46,47,48]),(9,[2,4,6,7,14,15,16,46,47,48,49]),(10,[2,4,6,7,9,10,14,15,16,46,47,48]),(11,[2,4,6,7,14,15,16,46,47,48]),(12,[2,4,6,7,14,15,16,46,47,48]),(13,[2,4,6,14,15,16]),(14,[4,6,83]),(15,[4,5]),(16,[4,5])]
attribute [go_sem] tZ
theorem aJR(p:PolyT)(qs:List PolyT)(hp:fU qs.length p)(hn:qs.length≤3)(hA:∀j<qs.length,gE MF (qs.getD j default)):FC S 164 [] [] [] [.agg [.int .i64 p.const,.sl (.lab [1]) (p.coef.map (.int .i64))],.sl (.lab [1]) (qs.map nU)] (.tup [bS (jG (λj=>(qs.getD j default,true)) p qs.length).1,.bool (jG (λj=>(qs.getD j default,true)) p qs.length).2]) [] []:=by
 have hpl:=hp.1
 have hz:sumF (λj=>(qs.getD j default,true)) p 0=⟨p.const,[]⟩:=by unfold sumF;rfl
 have hs:∀i,sumF (λj=>(qs.getD j default,true)) p (i+1)=nC (sumF (λj=>(qs.getD j default,true)) p i) (qs.getD i default) (p.coef.getD i default):=λi=>by conv=>lhs;unfold sumF
 have hgood:=λi (hi:i≤qs.length)=>aHB (rV (F:=λj=>(qs.getD j default,true)) hp i λj hj=>hA j (by omega)) (show (9+9*MF*(i:Int))≤100*MF by simp only[MF];omega)
 unfold jG
 generalize sumF (λj=>(qs.getD j default,true)) p=F at *
 refine aHV Tryz.func164 rfl (by kernel_rfl) (by simp[Tryz.f164]) λB N hOff=>?_
 simp only[Tryz.ntmps164,aS,aZ,Nat.reduceAdd]
 repeat' first|apply aE|apply aG|refine aI 0 tZ λK hK=>?_|((first|apply aD|apply aK|refine aA (aO ?_)|apply aA);simp(disch:=apply aB;omega)only[go_sem,Tryz.results164])|(apply hK.nil;clear hK K;simp only[go_sem])|fail
 refine aFv 6 1 44000 2 1 rfl rfl rfl ?_
 simp only[go_sem]
 refine bG (ι:=Nat) (λi=>[(16,.int .i64 i)]) (λi=>[(6,[.int .i64 (F i).const,.sl (.own 44000 2 1) ((F i).coef.map (.int .i64))])]) (λ_=>[44000]) (λi=>i≤qs.length) (λi=>qs.length-i) 0 (by rw[hz];(refine aC rfl rfl ?_ ?_ ?_ ?_<;>simp(disch:=apply aB;omega)only[go_sem]<;>(try omega))) (by omega) (λi hi=>?_)
 simp only[go_sem]
 have hci:=vW hp i
 have hgo:=hgood i hi
 have hlo:=hgo.2.2
 have hco:=hgo.1
 simp only[MF] at hco
 by_cases hil:i<qs.length
 ·have ha:=hA i hil
  have hla:=ha.2.2
  have hs1:=hs i
  have hm:0≤p.coef.getD i default*(qs.getD i default).const/\p.coef.getD i default*(qs.getD i default).const≤9*MF:=⟨Int.mul_nonneg hci.1 ha.1.1,Int.mul_le_mul hci.2 ha.1.2 ha.1.1 (by omega)⟩
  simp only[MF] at hm
  repeat' first|((exfalso;omega))|apply aE|apply aG|apply aJ|refine aI 0 tZ λK hK=>?_|refine gK 0 tZ 12 (id:=5) (by kernel_rfl) λK hK=>?_|refine λ(K:KT) (hK:KOk S 0 _ _ _ K)=>?_|((first|apply aD|apply aK|refine aA (aO ?_)|apply aA);simp(disch:=apply aB;omega)only[go_sem,Tryz.results164])|(apply hK.nil;clear hK K;simp only[go_sem])|((first|refine aH rfl rfl rfl rfl rfl ?_ ?_|refine aN rfl rfl rfl rfl rfl ?_ ?_|refine aF rfl ?_ ?_)<;>intro h<;>try simp(disch:=apply aB;omega)only[go_sem] at h)|(with_reducible refine And.intro (by first|omega|(simp only[lens];omega)) ?_)|fail
  generalize ho:F i=o at *
  refine bG (ι:=Nat) (λ_=>[]) (λj=>[(6,[.int .i64 (o.const+p.coef.getD i default*(qs.getD i default).const),.sl (.own 44000 2 1) ((o.coef++List.replicate j 0).map (.int .i64))])]) (λ_=>[44000]) (λj=>j≤(qs.getD i default).coef.length-o.coef.length) (λj=>(qs.getD i default).coef.length-o.coef.length-j) 0 (by rw[List.replicate_zero,List.append_nil];(refine aC rfl rfl ?_ ?_ ?_ ?_<;>simp(disch:=apply aB;omega)only[go_sem]<;>(try omega))) (by omega) (λj hj=>?_)
  simp only[go_sem]
  have hjl:(o.coef++List.replicate j (0:Int)).length=o.coef.length+j:=by simp
  have hjs:o.coef++List.replicate (j+1) (0:Int)=(o.coef++List.replicate j 0)++[0]:=by rw[List.replicate_succ',List.append_assoc]
  repeat' first|apply aE|apply aG|apply aM|apply aJ|refine aI 0 tZ λK hK=>?_|((first|apply aD|apply aK|refine aA (aO ?_)|apply aA);simp(disch:=apply aB;omega)only[go_sem,Tryz.results164])|(apply hK.nil;clear hK K;simp only[go_sem])|((first|refine aH rfl rfl rfl rfl rfl ?_ ?_|refine aN rfl rfl rfl rfl rfl ?_ ?_|refine aF rfl ?_ ?_)<;>intro h<;>try simp(disch:=apply aB;omega)only[go_sem] at h)|refine aT rfl ?_|apply aL|(with_reducible refine And.intro (by first|omega|(simp only[lens];omega)) ?_)|((with_reducible refine And.intro ?_ ?_);· first|(intro x hx;subst hx;rfl)|(intro x;refine And.intro ?_ ?_<;>(intros;subst_vars;rfl)))|fail
  ·exact⟨j+1,(by rw[hjs];(refine aC rfl rfl ?_ ?_ ?_ ?_<;>simp(disch:=apply aB;omega)only[go_sem]<;>(try omega))),by omega,by omega⟩
  ·rw[show j=(qs.getD i default).coef.length-o.coef.length by omega,←aQP o.coef (qs.getD i default).coef (p.coef.getD i default)]
   refine bG (ι:=Nat) (λv=>[(48,.int .i64 v)]) (λv=>[(6,[.int .i64 (o.const+p.coef.getD i default*(qs.getD i default).const),.sl (.own 44000 2 1) ((fD o.coef (qs.getD i default).coef (p.coef.getD i default) v).map (.int .i64))])]) (λ_=>[44000]) (λv=>v≤(qs.getD i default).coef.length) (λv=>(qs.getD i default).coef.length-v) 0 (by(refine aC rfl rfl ?_ ?_ ?_ ?_<;>simp(disch:=apply aB;omega)only[go_sem]<;>(try omega))) (by omega) (λv hv=>?_)
   simp only[go_sem]
   have hbv:=jI (P:=λx=>0≤x/\x≤MF) ⟨Int.le_refl _,by decide⟩ ha.2.1 v
   have hav:=jI (P:=λx=>0≤x/\x≤100*MF) ⟨Int.le_refl _,by decide⟩ hgo.2.1 v
   have hmv:0≤p.coef.getD i default*(qs.getD i default).coef.getD v default/\p.coef.getD i default*(qs.getD i default).coef.getD v default≤9*MF:=⟨Int.mul_nonneg hci.1 hbv.1,Int.mul_le_mul hci.2 hbv.2 hbv.1 (by omega)⟩
   have hLv:(fD o.coef (qs.getD i default).coef (p.coef.getD i default) v).getD v default=o.coef.getD v default:=by rw[oE _ _ _ _ hv,if_neg (by omega),Int.add_zero]
   have hLl:=iL o.coef (qs.getD i default).coef (p.coef.getD i default) v
   have hLs:=aQv o.coef (qs.getD i default).coef (p.coef.getD i default) v
   simp only[MF] at hav hmv
   repeat' first|((refine aHA tZ 13 (id:=11) (by kernel_rfl) λK hK=>?_))|apply aE|apply aG|apply aM|apply aJ|refine aI 0 tZ λK hK=>?_|((first|apply aD|apply aK|refine aA (aO ?_)|apply aA);simp(disch:=apply aB;omega)only[go_sem,Tryz.results164])|(apply hK.nil;clear hK K;simp only[go_sem])|((first|refine aH rfl rfl rfl rfl rfl ?_ ?_|refine aN rfl rfl rfl rfl rfl ?_ ?_|refine aF rfl ?_ ?_)<;>intro h<;>try simp(disch:=apply aB;omega)only[go_sem] at h)|refine aT rfl ?_|apply aL|(with_reducible refine And.intro (by first|omega|(simp only[lens];omega)) ?_)|fail
   ·refine aU.storeOwnL [(2,.box 2 0),(4,.box 4 0),(6,.box 6 0),(7,.int .i64 i),(14,.sl (.lab [1]) (qs.map nU)),(15,.int .i64 qs.length),(16,.int .i64 i),(46,.sl (.lab [1]) ((qs.getD i default).coef.map (.int .i64))),(47,.int .i64 (qs.getD i default).coef.length),(48,.int .i64 v)] [(2,[.int .i64 p.const,.sl (.lab [1]) (p.coef.map (.int .i64))]),(4,[.int .i64 0,.sl .nil []]),(6,[.int .i64 (o.const+p.coef.getD i default*(qs.getD i default).const),.sl (.own 44000 2 1) (((fD o.coef (qs.getD i default).coef (p.coef.getD i default) v).set v ((fD o.coef (qs.getD i default).coef (p.coef.getD i default) v).getD v default+p.coef.getD i default*(qs.getD i default).coef.getD v default)).map (.int .i64))]),(8,[.int .i64 (qs.getD i default).const,.sl (.lab [1]) ((qs.getD i default).coef.map (.int .i64))])] hOff.1 rfl rfl rfl rfl rfl rfl rfl (λ_=>rfl) (by simp) ⟨by omega,by omega⟩ (by simp only[Nat.reduceLT]) ⟨⟨by decide,_,rfl,bO rfl⟩,⟨by decide,_,rfl,bO rfl⟩,⟨by decide,_,rfl,bO rfl⟩,⟨by decide,_,rfl,bO rfl⟩,⟨by decide,_,rfl,aOA qs⟩,⟨by decide,_,rfl,bO rfl⟩,⟨by decide,_,rfl,bO rfl⟩,⟨by decide,_,rfl,pN _ _ _⟩,⟨by decide,_,rfl,bO rfl⟩,⟨by decide,_,rfl,bO rfl⟩,trivial⟩ ⟨⟨_,rfl,bO rfl,pN _ _ _,trivial⟩,⟨_,rfl,bO rfl,bO rfl,trivial⟩,⟨_,rfl,bO rfl,aGT,trivial⟩,⟨_,rfl,bO rfl,pN _ _ _,trivial⟩,trivial⟩ ?_
    refine aU.nil ?_
    rw[←hLs]
    simp only[go_sem]
    repeat' first|apply aM|refine aI 0 tZ λK hK=>?_|((first|apply aD|apply aK|refine aA (aO ?_)|apply aA);simp(disch:=apply aB;omega)only[go_sem,Tryz.results164])|(apply hK.nil;clear hK K;simp only[go_sem])|apply aL|fail
    exact⟨v+1,(by(refine aC rfl rfl ?_ ?_ ?_ ?_<;>simp(disch:=apply aB;omega)only[go_sem]<;>(try omega))),by omega,by omega⟩
   ·have e1:(nC o (qs.getD i default) (p.coef.getD i default)).const=o.const+p.coef.getD i default*(qs.getD i default).const:=rfl
    have e2:(nC o (qs.getD i default) (p.coef.getD i default)).coef=fD o.coef (qs.getD i default).coef (p.coef.getD i default) (qs.getD i default).coef.length:=rfl
    exact⟨i+1,(by rw[hs1,e1,e2,show v=(qs.getD i default).coef.length by omega];(refine aC rfl rfl ?_ ?_ ?_ ?_<;>simp(disch:=apply aB;omega)only[go_sem]<;>(try omega))),by omega,by omega⟩
 ·obtain rfl:i=qs.length:=by omega
  rcases Classical.em (okF (F qs.length)) with hok|hok
  ·rw[if_pos ⟨(λ_ _=>rfl),hok⟩]
   have h1:=hok.1
   have h2:=hok.2
   simp only[MF] at h2
   repeat' first|((exfalso;omega))|apply aE|apply aJ|refine aI 0 tZ λK hK=>?_|((first|apply aD|apply aK|refine aA (aO ?_)|apply aA);simp(disch:=apply aB;omega)only[go_sem,Tryz.results164])|(apply hK.nil;clear hK K;simp only[go_sem])|((first|refine aH rfl rfl rfl rfl rfl ?_ ?_|refine aN rfl rfl rfl rfl rfl ?_ ?_|refine aF rfl ?_ ?_)<;>intro h<;>try simp(disch:=apply aB;omega)only[go_sem] at h)|refine hK.skp rfl rfl ?_|refine aT rfl ?_|refine hK.c0 rfl rfl rfl (aT2 _ (F qs.length).coef (by omega)) rfl rfl rfl ?_|fail
   exact absurd ((aFH (c:=MF) (by omega)).2 h1) (by simp only[MF];omega)
  ·rw[if_neg λe=>hok e.2]
   repeat' first|((exfalso;omega))|apply aE|apply aJ|refine aI 0 tZ λK hK=>?_|((first|apply aD|apply aK|refine aA (aO ?_)|apply aA);simp(disch:=apply aB;omega)only[go_sem,Tryz.results164])|(apply hK.nil;clear hK K;simp only[go_sem])|((first|refine aH rfl rfl rfl rfl rfl ?_ ?_|refine aN rfl rfl rfl rfl rfl ?_ ?_|refine aF rfl ?_ ?_)<;>intro h<;>try simp(disch:=apply aB;omega)only[go_sem] at h)|refine hK.skp rfl rfl ?_|refine aT rfl ?_|refine hK.c0 rfl rfl rfl (aT2 _ (F qs.length).coef (by omega)) rfl rfl rfl ?_|fail
   ·exact⟨rfl,rfl⟩
   ·exact⟨rfl,rfl⟩
   ·exact absurd (show okF (F qs.length) from⟨(aFH (c:=MF) (by omega)).1 (by simp only[MF];omega),by simp only[MF];omega⟩) hok
   ·exact absurd (show okF (F qs.length) from⟨λx hx=>by have:=List.length_pos_of_mem hx;omega,by simp only[MF];omega⟩) hok
theorem aNs(p:PolyT)(qs:List PolyT)(hp:fU qs.length p)(hn:qs.length≤3)(hA:∀j<qs.length,gE MF (qs.getD j default)):FC S 164 [] [] [] [bS p,.sl .any (qs.map bS)] (.tup [bS (jG (λj=>(qs.getD j default,true)) p qs.length).1,.bool (jG (λj=>(qs.getD j default,true)) p qs.length).2]) [] []:=by
 refine aSk [1] (by simp) ?_ ?_ ?_
 ·have h:∀q:PolyT,(bS q).okLb=true:=λq=>by simp[bS,D.okLb,D.okLbL,iV (f:=λx=>D.int .i64 x) λ_=>rfl]
  simp[h,D.okLb,D.okLbL,iV (f:=bS) h]
 ·simp[bS,D.noLb,D.noLbL,yW (f:=λx=>D.int .i64 x) λ_=>rfl]
 ·have h:∀q:PolyT,(bS q).lb [1]=nU q:=λq=>by simp only[bS,nU,D.lbL,D.lb,lH]
  simp only[D.lbL,D.lb,oK,h]
  exact aJR p qs hp hn hA
end
end Go.Proofs.YtpennhjjnlkbiaaGreat
