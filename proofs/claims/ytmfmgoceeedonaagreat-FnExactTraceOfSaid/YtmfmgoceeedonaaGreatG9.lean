/-
  K4, K5, A15i, A15j, A15k, A25, A17k, one behind the other.
-/
import Derived.Test.YtmfmgoceeedonaaGreatG3
import Derived.Test.YtmfmgoceeedonaaGreatG1
import Derived.Test.YtmfmgoceeedonaaGreatLgK19
import Derived.Test.YtmfmgoceeedonaaGreatLgK20
import Derived.Test.YtmfmgoceeedonaaGreatLgK10
import Derived.Test.YtmfmgoceeedonaaGreatG2
import Derived.Test.YtmfmgoceeedonaaGreatG0
import Derived.Test.YtmfmgoceeedonaaGreatG4
import Derived.Test.YtmfmgoceeedonaaGreatG7
namespace Go.Proofs.YtmfmgoceeedonaaGreat
open Go Go.Lg
set_option linter.unusedSimpArgs false
set_option linter.unusedVariables false
set_option maxHeartbeats 4000000
section
attribute [local irreducible] SW bA bC dM bZ FC dX toF d7 iC
theorem aO3{S:Setup}{B:Base}{ops:Array Oper}{l:List Oper}{L:LS}{N:LS->Prop}(h:aK S B ops l L N):aK S B ops l L N:=h
def pE(v:Int)(n p:Nat):List Int:=List.replicate p v++List.replicate (n-p) 0
theorem aTL(v:Int){n p:Nat}(h:p≤n):(pE v n p).length=n:=by simp[pE];omega
theorem aTe(v:Int)(n:Nat):pE v n n=List.replicate n v:=by simp[pE]
theorem aKE(a b:List Int)(k:Nat):dF (a.map (.int .i64)) k (b.map (.int .i64))=(a.take k++b++a.drop (k+b.length)).map (.int .i64):=by
 simp[dF,List.map_take,List.map_drop]
theorem aSg(v:Int){n p m:Nat}(h:p≤n)(hm:m≤p)(hn:p+m≤n):(pE v n p).take p++(pE v n p).take m++(pE v n p).drop (p+((pE v n p).take m).length)=pE v n (p+m):=by
 have h1:(pE v n p).take p=List.replicate p v:=by
  unfold pE;rw[List.take_left' (by simp)]
 have h2:(pE v n p).take m=List.replicate m v:=by
  unfold pE;rw[List.take_append_of_le_length (by simpa using hm),List.take_replicate,Nat.min_eq_left hm]
 have h3:(pE v n p).drop (p+m)=List.replicate (n-(p+m)) 0:=by
  unfold pE;rw[List.drop_append,List.length_replicate,List.drop_of_length_le (by simp),List.nil_append,List.drop_replicate];congr 1;omega
 rw[h1,h2,List.length_replicate,h3];unfold pE;rw[List.replicate_append_replicate]
theorem aNb(v:Int){n:Nat}(h:0<n):(List.replicate n (0:Int)).take 0++[v]++(List.replicate n (0:Int)).drop (0+1)=pE v n 1:=by
 simp[pE,List.drop_replicate]
def aXZ:List (Nat×List Nat):=[(0,[0,1]),(1,[0,1,6]),(2,[0,1,6,7]),(3,[0,1,6,7,8]),(4,[0,1,6,7,8,9]),(5,[0,1,6,7,8,9,10]),(6,[0,1,6,7,9,11]),(7,[0,1,6,7,9,11,12]),(8,[0,1,6,7,9,12,13]),(9,[0,1,7,9,12,13]),(10,[0,1,4]),(11,[4,5])]
attribute [go_sem] aXZ Tryz.results147 Tryz.ntmps147
theorem aTE(n:Nat)(hn:n<65):FC S 147 [] [] [] [.int .u64 1,.int .u64 n] (.tup [.int .u64 0,.int .u64 n]) [] []:=by
 have key:∀m:Nat,m<65->IntKind.wrap .u64 (1*(m:Int))=m:=by decide
 refine fcb Tryz.func147 λB=>?_;repeat' first|apply aG|refine aE 0 aXZ λK hK=>?_|refine aB ?_|refine aC ?_|(refine hK.n0 ?_;clear hK K)|with_reducible refine aH ?_|apply tTT
 all_goals ((repeat clear hK K);revert n;decide)
def aX8:List (Nat×List Nat):=[(0,[0,1]),(1,[6,7]),(2,[4,5]),(3,[8,9]),(4,[4,5])]
attribute [go_sem] aX8 Tryz.results129 Tryz.ntmps129
theorem aTc(n:Nat)(hn:n<65):FC S 129 [] [] [] [.int .u64 1,.int .u64 n] (.tup [.int .u64 0,.int .u64 n]) [] []:=by
 refine fcb Tryz.func129 λB=>?_;repeat' first|(refine aPa (b:=false) rfl (λh=>by cases h) λ_=>?_)|apply aG|refine aE 0 aX8 λK hK=>?_|refine aB ?_|refine aC ?_|(refine hK.n0 ?_;clear hK K)|refine hK.c1 rfl rfl rfl (aTE n hn) ?_|apply tTT
def y6:List (Nat×List Nat):=[(0,[0,1]),(1,[0,1,10]),(2,[0,1]),(3,[0,5,6]),(4,[0,6,26]),(5,[0,6]),(6,[0,7]),(7,[7,8]),(8,[7,8,37]),(9,[7,8]),(10,[4])]
attribute [go_sem] y6 Tryz.results103 Tryz.ntmps103
theorem aGS(tk:Tk)(v:Int)(n:Nat)(h0:0<n)(hn:n<65):FC S 103 [] [] [] [.sl tk ([v].map (.int .i64)),.int .i64 n] (.ms 30 n) [(30,(List.replicate n v).map (.int .i64))] []:=by
 refine fcb Tryz.func103 λB=>?_;repeat' first|exact h.elim|(exfalso;omega)|(refine sJ (id:=7) 0 y6 2 rfl λK hK=>?_)|apply aG|refine aE 0 y6 λK hK=>?_|refine aB ?_|(refine hK.n0 ?_;clear hK K)|refine aZ (λh=>?_) λh=>?_|refine aA rfl (λh=>?_) λh=>?_|refine hK.c1 rfl rfl rfl (aTc n hn) ?_|with_reducible refine aH ?_|apply tTT
 rw[iQ,←List.map_replicate (f:=D.int .i64)];refine aK.copyL (id:=30) (n:=n) (ys:=[v]) rfl rfl rfl (by simp) rfl rfl rfl ⟨by simp;omega,by simp;omega⟩ (by simp only[Nat.reduceLT]) (aK.nil ?_);rw[aKE,List.length_singleton,aNb v h0];refine λ(K:List Oper->LS->Prop) (hK:KOk S 0 _ _ _ K)=>?_;simp only[go_sem];repeat' first|apply aG|(refine hK.n0 ?_;clear hK K)|apply tTT
 refine aV (ι:=Nat) (λp=>[(7,.ms 30 n),(8,.int .i64 p)]) (λp=>[(30,(pE v n p).map (.int .i64))]) (λp=>1≤p/\p≤n) (λp=>n-p) 1 cvA ?_ (λp hp=>?_);rotate_left
 simp only[go_sem];obtain⟨hp1,hp2⟩:=hp;have hcl:=aTL v hp2;by_cases hpn:p<n
 ·have hm1:Nat.min p (n-p)≤p:=Nat.min_le_left _ _;have hm2:Nat.min p (n-p)≤n-p:=Nat.min_le_right _ _;have hm3:1≤Nat.min p (n-p):=Nat.le_min.2 ⟨by omega,by omega⟩;have hst:=aSg v hp2 hm1 (by omega);repeat' first|exact h.elim|(exfalso;omega)|(refine aB0 (id:=9) y6 [(true,[]),(true,[]),(true,[]),(false,[1,2]),(true,[]),(true,[]),(false,[4,5]),(false,[3,6]),(false,[0,7]),(false,[8,7,0,1,2,3,4,5,6,7,8])] ⟨48,[(7,.ms 30 n),(8,.int .i64 ((p:Int)+(Nat.min p (n-p):Nat)))],[(30,(pE v n (p+Nat.min p (n-p))).map (.int .i64))],[],[],[]⟩ (by kernel_rfl) ?_ ?_;simp only[List.length_cons,List.length_nil,Nat.reduceAdd])|(with_reducible refine aO3 ?_;refine aK.sliceMv (i:=p) (n:=n) rfl rfl hpn rfl rfl rfl (by simp only[Nat.reduceLT]) (aK.nil ?_);simp only[go_sem])|(with_reducible refine aO3 ?_;refine aK.copyM (off:=p) (n:=n-p) (m:=p) (ys:=pE v n p) rfl rfl rfl rfl rfl rfl (by omega) (by simp only[Nat.reduceLT]) (aK.nil ?_);rw[aKE,hst];simp only[go_sem])|(refine pU ?_;simp only[vX,uY,aGQ,aGF,aG1,aG3,aBk,aBr,aB5,aCs,vL,wG,wU,aBp,aCv,true_and,and_true,Bool.not_false,Bool.not_true,Bool.and_true,Bool.and_false,Bool.true_and,Bool.false_and,Bool.or_false,Bool.false_or,Bool.true_or,Bool.or_true,Nat.reduceBEq,Nat.reduceAdd])|(refine vJ (by simp only[Nat.reduceLT]) rfl (by simp only[go_sem];exact rfl) ?_)|(refine hK.nil (vB ?_);clear hK K)|(refine qK ?_ ?_)|(refine j6 0 ?_;refine λ(K:List Oper->LS->Prop) (hK:KOk S 0 _ _ _ K)=>?_;simp(disch:=apply aR;omega)only[go_sem])|(refine qJ ?_;simp(disch:=apply aR;omega)only[go_sem];(refine aD rfl rfl ?_ ?_ ?_ ?_<;>simp(disch:=apply aR;omega)only[go_sem]<;>(try omega));done)|apply aG|refine aE 0 y6 λK hK=>?_|refine aB ?_|(refine hK.n0 ?_;clear hK K)|refine aA rfl (λh=>?_) λh=>?_|apply aF|with_reducible refine aH ?_|apply tTT
  exact⟨p+Nat.min p (n-p),cvA,⟨by omega,by omega⟩,by omega⟩
 ·obtain rfl:p=n:=by omega
  repeat' first|exact h.elim|(exfalso;omega)|apply aG|refine aE 0 y6 λK hK=>?_|refine aB ?_|refine aC ?_|(refine hK.n0 ?_;clear hK K)|refine aA rfl (λh=>?_) λh=>?_|refine aJ rfl ?_|apply tTT
  exact aTe v p
 ·exact⟨zQ _,h0⟩
theorem aM4(tk:Tk)(v:Int):FC S 103 [] [] [] [.sl tk ([v].map (.int .i64)),.int .i64 0] (.sl .any []) [] []:=by
 have hm:=aTc 0 (by decide);refine fcb Tryz.func103 λB=>?_;repeat' first|exact h.elim|(exfalso;omega)|(refine sJ (id:=7) 0 y6 2 rfl λK hK=>?_)|apply aG|refine aE 0 y6 λK hK=>?_|refine aB ?_|(refine hK.n0 ?_;clear hK K)|refine aZ (λh=>?_) λh=>?_|refine aA rfl (λh=>?_) λh=>?_|refine hK.c1 rfl rfl rfl (hm) ?_|with_reducible refine aH ?_|apply tTT
 refine aK.copy0 (id:=30) rfl rfl rfl rfl rfl (by simp only[Nat.reduceLT]) (aK.nil ?_);refine λ(K:List Oper->LS->Prop) (hK:KOk S 0 _ _ _ K)=>?_;simp only[go_sem];repeat' first|apply aG|(refine hK.n0 ?_;clear hK K)|apply tTT
 refine aV (ι:=Nat) (λp=>[(7,.ms 30 0),(8,.int .i64 0)]) (λp=>[(30,[])]) (λp=>True) (λp=>p) 0 cvB ?_ (λp hp=>?_);rotate_left
 simp only[go_sem];repeat' first|exact h.elim|(exfalso;omega)|(refine kZ 10 7 1 .any (id:=30) (n:=0) (cs:=[]) [] rfl rfl rfl rfl (λx hx=>by cases hx) (λd hd=>by cases hd) (.inl rfl) ?_;simp only[go_sem])|apply aG|refine aE 0 y6 λK hK=>?_|refine aB ?_|refine aC ?_|(refine hK.n0 ?_;clear hK K)|refine aA rfl (λh=>?_) λh=>?_|refine aJ rfl ?_|apply tTT
 all_goals trivial
def aWZ:List (Nat×List Nat):=[(0,[0,1]),(1,[4])]
attribute [go_sem] aWZ Tryz.results60 Tryz.ntmps60
theorem aHV(v:Int)(n:Nat)(h0:0<n)(hn:n<65):FC S 60 [] [] [] [.int .i64 v,.int .i64 n] (.ms 8 n) [(8,(List.replicate n v).map (.int .i64))] []:=by
 refine fcb Tryz.func60 λB=>?_;repeat' first|apply aG|refine aE 0 aWZ λK hK=>?_|refine aB ?_|refine aC ?_|(refine hK.n0 ?_;clear hK K)|refine hK.cM rfl rfl rfl (aGS _ v n h0 hn) ?_|apply tTT
theorem aAF(q:List Nat)(hq:q≠[])(v:Int)(n:Nat)(h0:0<n)(hn:n<65):FC S 60 [] [] [] [.int .i64 v,.int .i64 n] (dL q (List.replicate n v)) [] []:=by
 refine fcb Tryz.func60 λB=>?_;repeat' first|(refine rV 4 1 q (id:=8) (n:=n) (cs:=(List.replicate n v).map (.int .i64)) ((List.replicate n v).map (.int .i64)) rfl (by simp[Lg.look]) (dA _).symm (by simp) (fI λ_=>rfl) (fJ _) hq (by simp) ?_;simp only[go_sem])|apply aG|refine aE 0 aWZ λK hK=>?_|refine aB ?_|refine aC ?_|(refine hK.n0 ?_;clear hK K)|refine hK.cM rfl rfl rfl (aGS _ v n h0 hn) ?_|apply tTT
theorem q9(v:Int)(n:Nat)(hn:n<65):FC S 60 [] [] [] [.int .i64 v,.int .i64 n] (.sl .any ((List.replicate n v).map (.int .i64))) [] []:=by
 rcases Nat.eq_zero_or_pos n with h|h
 ·subst h;refine fcb Tryz.func60 λB=>?_;repeat' first|apply aG|refine aE 0 aWZ λK hK=>?_|refine aB ?_|refine aC ?_|(refine hK.n0 ?_;clear hK K)|refine hK.c1 rfl rfl rfl (aM4 _ v) ?_|apply tTT
  rfl
 ·exact(aAF [0] (by simp) v n h hn).weak .any (by simp) (by simp)
def aZY:List (Nat×List Nat):=[(0,[0,1]),(1,[4])]
attribute [go_sem] aZY Tryz.results66 Tryz.ntmps66
theorem aVW(n m:Int)(hn:1≤n/\n≤20001)(hm:1≤m/\m≤2):FC S 66 [] [] [] [.int .i64 n,.int .i64 m] (.int .i64 (min (n*m) 20001)) [] []:=by
 have hnm:0≤n*m/\n*m≤50000:=by
  rcases (show m=1∨m=2 by omega) with rfl|rfl<;>omega
 generalize hq:n*m=q at *;refine fcb Tryz.func66 λB=>?_;repeat' first|(rw[hq])|apply aG|refine aE 0 aZY λK hK=>?_|refine aB ?_|refine aC ?_|(refine hK.n0 ?_;clear hK K)|apply tTT
 all_goals (simp only[Int.min_def];split<;>split<;>omega)
def aUL:List (Nat×List Nat):=[(0,[0,1,2]),(1,[0,1,2,7]),(2,[0,1,2,7,12]),(4,[0,1,2,7,23]),(5,[]),(6,[6]),(7,[0,1,2,7]),(3,[0,1,2,7]),(8,[6])]
attribute [go_sem] aUL Tryz.results63 Tryz.ntmps63
theorem aFD(id:Nat)(bs:List (Int×Int))(xs:List Int)(he:xs.length=bs.length)(hne:xs≠[])(hl:xs.length≤100)(hx:∀x∈xs,-1≤x/\x≤1000):FC S 63 [] [(id,xs.map (.int .i64))] [] [.ms id xs.length,.sl .any ((lF bs).map (.int .i64)),.sl .any ((bs.map (·.2)).map (.int .i64))] (.bool (lL bs xs).2) [(id,(lL bs xs).1.map (.int .i64))] []:=by
 have hll:=aAo bs;have hhl:(bs.map (·.2)).length=bs.length:=by simp
 refine fcb Tryz.func63 λB=>?_;repeat' first|apply aG|refine aE 0 aUL λK hK=>?_|refine aB ?_|(refine hK.n0 ?_;clear hK K)|apply tTT
 refine aV (ι:=Nat) (λp=>[(7,.int .i64 (p-1:Int))]) (λp=>[(id,(stD bs xs p).map (.int .i64))]) (λp=>p≤xs.length/\tG bs xs p) (λp=>p) xs.length (by(refine aD rfl rfl ?_ ?_ ?_ ?_<;>simp(disch:=apply aR;omega)only[go_sem]<;>(try omega));rw[aIw he]) ?_ (λp hp=>?_);rotate_left
 simp only[go_sem];obtain⟨hp1,hp2⟩:=hp;have hlen:=aHU he hp1;cases p with
 | zero =>
  have hz:=aNX he hp2;rw[hz];repeat' first|exact h.elim|(exfalso;omega)|apply aG|refine aE 0 aUL λK hK=>?_|refine aB ?_|refine aC ?_|(refine hK.n0 ?_;clear hK K)|refine aA rfl (λh=>?_) λh=>?_|refine aJ rfl ?_|apply tTT
 | succ k =>
  have hk:k<xs.length:=by omega
  have hg:=aH3 he hk;have hxk:=hx _ (aX xs k hk);have hlt:k<(stD bs xs (k+1)).length:=by omega
  have hkh:k<(bs.map (·.2)).length:=by omega
  have hkl:k<(lF bs).length:=by omega
  have hi:((k+1:Nat):Int)-1=(k:Int):=by omega
  rw[hi];repeat' first|exact h.elim|apply aG|refine aE 0 aUL λK hK=>?_|refine aU aUL (by kernel_rfl) λK hK=>?_|refine aB ?_|refine aQ ?_|refine aC ?_|(refine hK.n0 ?_;clear hK K)|refine aA rfl (λh=>?_) λh=>?_|apply aF|with_reducible refine aH ?_|apply tTT
  ·have hb:(bs.map (·.2)).getD k default=(bs.getD k default).2:=by simp[List.getD,zI,zB (show k<bs.length by omega)]
   rw[hb,hg] at h;rw[aM7 he hk hp2 h,hg];exact⟨rfl,rfl⟩
  ·have hb:(bs.map (·.2)).getD k default=(bs.getD k default).2:=by simp[List.getD,zI,zB (show k<bs.length by omega)]
   have hb2:(lF bs).getD k default=(bs.getD k default).1:=by simp[lF,List.getD,zI,zB (show k<bs.length by omega)]
   rw[hb,hg] at h;obtain⟨n1,n2⟩:=aO2 he hk hp2 (by omega);rw[hb2,n2];exact⟨k,cvA,⟨by omega,n1⟩,by omega⟩
 ·exact⟨zQ _,aDL he⟩
theorem sG(tk:Tk)(xs:List Int)(hl:xs.length≤17592186044416):FC S 62 [] [] [] [.sl tk (xs.map (.int .i64))] (.sl (.own 0 2 1) (xs.map (.int .i64))) [] [0]:=by
 refine FC.args (args':=[.sl .any (xs.map (.int .i64))]) ?_ (by simp only[go_sem]);refine aQz Tryz.func62 λB=>?_;refine bM 0 λhb0=>?_;refine aFw 0 rfl (λhx=>?_) ?_<;>simp only[go_sem]
 ·have hx:xs=[]:=by simpa using hx
  subst hx;repeat' first|exact h.elim|(refine eF 2 5000 2 1 rfl (.inl rfl) rfl ?_;simp only[go_sem])|apply aG|refine aE 0 aNo λK hK=>?_|refine aB ?_|refine gL ?_|(refine hK.n0 ?_;clear hK K)|refine aA rfl (λh=>?_) λh=>?_|apply tTT
  exact n7 rfl (by simp)
 ·repeat' first|exact h.elim|apply aG|refine aE 0 aNo λK hK=>?_|refine aB ?_|refine gL ?_|(refine hK.n0 ?_;clear hK K)|refine aA rfl (λh=>?_) λh=>?_|with_reducible refine aH ?_|apply tTT
  exact n7 rfl (by simp)
theorem aJE(p:List Nat)(hp:p≠[])(tk:Tk)(xs:List Int)(hl:xs.length≤17592186044416):FC S 62 [] [] [] [.sl tk (xs.map (.int .i64))] (dL p xs) [] []:=by
 by_cases h:xs=[]
 ·subst h;exact(sG tk [] hl).weak .emp (by simp) (by simp)
 ·skip
  have h1':xs.map (D.int .i64)≠[]:=by simpa using h
  refine FC.args (args':=[.sl .any (xs.map (.int .i64))]) ?_ (by simp only[go_sem]);refine fcb Tryz.func62 λB=>?_;refine bM 0 λhb0=>?_;repeat' first|exact h.elim|(refine xY 2 p (k:=8000) rfl (by simp) hp ?_;simp only[go_sem])|apply aG|refine aE 0 aNo λK hK=>?_|refine aB ?_|refine aC ?_|(refine hK.n0 ?_;clear hK K)|refine aA rfl (λh=>?_) λh=>?_|with_reducible refine aH ?_|apply tTT
end
section
attribute [local irreducible] SW bA bC dM bZ FC dX toF d7 iC
noncomputable def mZ(P:List DepPairT)(set:List Int)(n i:Nat):List Bool:=(List.range n).map λf:Nat=>tst (gB P set i (f:Int))
theorem aBW(P:List DepPairT)(set:List Int)(n i:Nat):(mZ P set n i).length=n:=by simp[mZ]
theorem aGM{P:List DepPairT}{set:List Int}{n i f:Nat}(h:f<n):(mZ P set n i).getD f default=tst (gB P set i f):=by
 simp[mZ,List.getD,zI,List.getElem?_range h]
theorem aMK(P:List DepPairT)(set:List Int)(n:Nat):mZ P set n 0=List.replicate n false:=by
 refine List.ext_getElem (by simp[mZ]) λj h1 h2=>?_;simp only[mZ,List.getElem_map,List.getElem_range,List.getElem_replicate];exact bV λ⟨k,hk,_⟩=>absurd hk (Nat.not_lt_zero _)
theorem aM3{P:List DepPairT}{set:List Int}{n i a b:Nat}(ha:(P.getD (set.getD i default).toNat default).l.getD 0 default=a)(hb:(P.getD (set.getD i default).toNat default).r.getD 0 default=b):((mZ P set n i).set a true).set b true=mZ P set n (i+1):=by
 refine List.ext_getElem (by simp[mZ]) λj h1 h2=>?_;simp only[mZ,List.getElem_set,List.getElem_map,List.getElem_range];have key:gB P set (i+1) j↔gB P set i j∨(a:Int)=j∨(b:Int)=j:=by
  constructor
  ·rintro⟨k,hk,h⟩;rcases Nat.lt_or_ge k i with h3|h3
   ·exact .inl ⟨k,h3,h⟩
   ·obtain rfl:k=i:=by omega
    rw[ha,hb] at h;exact .inr h
  ·rintro (⟨k,hk,h⟩|h)
   ·exact⟨k,by omega,h⟩
   ·exact⟨i,by omega,by rw[ha,hb];exact h⟩
 by_cases h3:b=j
 ·rw[if_pos h3,b8 (key.2 (.inr (.inr (by omega))))]
 ·rw[if_neg h3];by_cases h4:a=j
  ·rw[if_pos h4,b8 (key.2 (.inr (.inl (by omega))))]
  ·rw[if_neg h4];refine lY (key.trans ⟨λh=>h.resolve_right (by omega),.inl⟩).symm
theorem aGb(xs:List Bool)(i:Nat):(xs.map D.bool).set i (.bool true)=(xs.set i true).map D.bool:=by rw[List.map_set]
attribute [local go_sem] aGb
def aWo:List (Nat×List Nat):=[(0,[1,2,3]),(1,[1,2,7]),(2,[1,7,14,15,16]),(3,[1,7,14,15,16,17]),(4,[1,7,9,14,15,16]),(5,[1,7,9,14,15,16]),(6,[1,7,14,15,16]),(7,[1,7,14,15,16]),(8,[6])]
attribute [go_sem] aWo Tryz.results61 Tryz.ntmps61
theorem aLd(rs:List Int)(P:List DepPairT)(set:List Int)(hs8:rs.length≤8)(hP:∀p∈P,kS rs p)(hS:gA set P.length)(hl:P.length≤64):FC S 61 [] [] [] [.agg [.sl .any (rs.map (.int .i64))],.sl .any (P.map bN),.sl .any (set.map (.int .i64))] (.sl .any ((mZ P set rs.length set.length).map .bool)) [] []:=by
 have hsl:=l5 hS;refine fcb Tryz.func61 λB=>?_;repeat' first|apply aG|refine aE 0 aWo λK hK=>?_|refine aB ?_|(refine hK.n0 ?_;clear hK K)|with_reducible refine aH ?_|apply tTT
 refine aV (ι:=Nat) (λp=>[(16,.int .i64 p)]) (λp=>[(13,(mZ P set rs.length p).map .bool)]) (λp=>p≤set.length) (λp=>set.length-p) 0 (by(refine aD rfl rfl ?_ ?_ ?_ ?_<;>simp(disch:=apply aR;omega)only[go_sem]<;>(try omega));(rw[aMK];simp)) ?_ (λp hp=>?_);rotate_left
 simp only[go_sem];have hbl:=aBW P set rs.length p;by_cases hil:p<set.length
 ·obtain⟨h1,⟨⟨h2,h3⟩,h4,h5⟩⟩:=(λi hi=>(⟨(hS i hi).1,hP _ (aX P _ (by have:=(hS i hi).1;omega))⟩:(0≤set.getD i default/\set.getD i default<P.length)/\kS rs (P.getD (set.getD i default).toNat default))) p hil;have h6:=h2.2.1;have h7:=h3.2.1;have h8:=(h2.low (show 0<_ from h2.2.1.1)).1.2;have h9:=(h3.low (show 0<_ from h3.2.1.1)).1.2;obtain⟨a,ha⟩:∃a:Nat,(P.getD (set.getD p default).toNat default).l.getD 0 default=a:=⟨_,(Int.toNat_of_nonneg h4).symm⟩;obtain⟨b,hb⟩:∃b:Nat,(P.getD (set.getD p default).toNat default).r.getD 0 default=b:=⟨_,(Int.toNat_of_nonneg h5).symm⟩;have hst:=aM3 (n:=rs.length) ha hb;repeat' first|exact h.elim|(exfalso;omega)|(simp only[ha];simp(disch:=apply aR;omega)only[go_sem])|(simp only[hb];simp(disch:=apply aR;omega)only[go_sem])|apply aG|refine aE 0 aWo λK hK=>?_|refine aB ?_|(refine hK.n0 ?_;clear hK K)|refine aA rfl (λh=>?_) λh=>?_|apply aF|with_reducible refine aH ?_|apply tTT
  exact⟨p+1,(by(refine aD rfl rfl ?_ ?_ ?_ ?_<;>simp(disch:=apply aR;omega)only[go_sem]<;>(try omega));first|(rw[hst];done)|exact⟨by omega,by rw[hst]⟩),by omega,by omega⟩
 ·obtain rfl:p=set.length:=by omega
  repeat' first|exact h.elim|(exfalso;omega)|(refine kZ 8 7 1 .any ((mZ P set rs.length set.length).map .bool) rfl (by simp[Lg.look]) (aCu _ _ λ_=>rfl).symm (by simp[hbl]) (fI λ_=>rfl) (λd hd=>by obtain⟨b,_,rfl⟩:=zJ.1 hd;rfl) (.inl rfl) ?_;simp only[go_sem])|apply aG|refine aE 0 aWo λK hK=>?_|refine aB ?_|refine aC ?_|(refine hK.n0 ?_;clear hK K)|refine aA rfl (λh=>?_) λh=>?_|refine aJ rfl ?_|apply tTT
 ·exact Nat.zero_le _
def aK3:List (Nat×List Nat):=[(0,[1,2]),(1,[1,2,6]),(2,[1,6,10,11,12]),(3,[1,6,10,11,12,13]),(4,[1,6,8,10,11,12]),(5,[1,6,8,10,11,12]),(6,[1,6,10,11,12]),(7,[1,6,10,11,12]),(8,[4,5])]
attribute [go_sem] aK3 Tryz.results67 Tryz.ntmps67
theorem aEy(p:List Nat)(hp:p≠[])(off:Nat)(rs xs:List Int)(hS:eQ rs)(hl:atN rs rs.length≤xs.length)(hx:xs.length≤1000):FC S 67 [] [] [] [.agg [.sl .any (rs.map (.int .i64))],.sl .any (xs.map (.int .i64))] (.tup [.sl (.own 0 108 2) (upR (λi y=>lN (p++[off+i]) y) (iE rs xs) rs.length),.sl .any ((xs.drop (atN rs rs.length)).map (.int .i64))]) [] [0]:=by
 have hs8:=hS.1.2;refine aQz Tryz.func67 λB=>?_;repeat' first|apply aG|refine aE 0 aK3 λK hK=>?_|refine aB ?_|(refine hK.n0 ?_;clear hK K)|apply tTT
 refine eF 6 28000 108 2 rfl (.inl rfl) rfl ?_;simp only[go_sem];repeat' first|exact h.elim|apply aG|refine aE 0 aK3 λK hK=>?_|refine iG 0 aK3 11 (id:=5) (by kernel_rfl) λK hK=>?_|refine λ(K:KT) (hK:KOk S 0 _ _ _ K)=>?_|refine aU aK3 (by kernel_rfl) λK hK=>?_|refine aB ?_|refine aQ ?_|refine aC ?_|refine gL ?_|(refine hK.n0 ?_;clear hK K)|refine aA rfl (λh=>?_) λh=>?_|refine aJ rfl ?_|apply aF|with_reducible refine aH ?_|((with_reducible refine And.intro ?_ ?_);· first|(intro x hx;subst hx;rfl)|exact wK λ_ _=>rfl|exact mapR_mem λ_ _=>rfl|(intro x;refine And.intro ?_ ?_<;>(intros;subst_vars;rfl)))|apply tTT
 refine bG (ι:=Nat) (λf=>[(12,.int .i64 f),(1,.sl .any ((xs.drop (atN rs f)).map (.int .i64))),(6,.sl (.own 28000 108 2) (upR (λi y=>lN (p++[off+i]) y) (iE rs xs) f))]) (λ_=>[]) (λ_=>[28000]) (λf=>f≤rs.length) (λf=>rs.length-f) 0 (by(refine aD rfl rfl ?_ ?_ ?_ ?_<;>simp(disch:=apply aR;omega)only[go_sem]<;>(try omega));refine⟨?_,?_,?_⟩<;>first|rfl|(simp[atN];done)|(simp[upR];done)) (by omega) (λf hf=>?_);simp only[go_sem];by_cases hfl:f<rs.length
 ·have har:=hS.2 f hfl;have hm:atN rs (f+1)≤atN rs rs.length:=qL rs hfl;have hm1:atN rs (f+1)=atN rs f+(rs.getD f default).toNat+1:=rfl;have hg:(iE rs xs).getD f default=⟨(xs.drop (atN rs f)).getD 0 default,((xs.drop (atN rs f)).take (rs.getD f default+1).toNat).drop 1⟩:=by
   rw[show (iE rs xs).getD f default=_ from aEv rs xs _ f hfl];congr 1
   ·simp[List.getD,List.getElem?_drop]
   ·rw[List.drop_take,List.drop_drop];congr 1;omega
  have hd:(xs.drop (atN rs f)).drop (rs.getD f default+1).toNat=xs.drop (atN rs (f+1)):=by rw[List.drop_drop];congr 1;omega
  have hyl:(xs.drop (atN rs f)).length=xs.length-atN rs f:=List.length_drop;have hul:=lR (λi y=>lN (p++[off+i]) y) (iE rs xs) f;have hsu:=aKA (λi y=>lN (p++[off+i]) y) (iE rs xs) f;rw[hg] at hsu;generalize xs.drop (atN rs f)=ys at hg hd hyl hsu ⊢;repeat' first|exact h.elim|(exfalso;omega)|apply aG|refine aE 0 aK3 λK hK=>?_|refine iG 0 aK3 11 (id:=5) (by kernel_rfl) λK hK=>?_|refine λ(K:KT) (hK:KOk S 0 _ _ _ K)=>?_|refine aB ?_|refine aQ ?_|(refine hK.n0 ?_;clear hK K)|refine aA rfl (λh=>?_) λh=>?_|apply aF|refine hK.c1 rfl rfl rfl (aJE (p++[off+f]++[1]) (by simp) _ _ (by simp;omega)) ?_|with_reducible refine aH ?_|((with_reducible refine And.intro ?_ ?_);· first|(intro x hx;subst hx;rfl)|exact wK λ_ _=>rfl|exact mapR_mem λ_ _=>rfl|(intro x;refine And.intro ?_ ?_<;>(intros;subst_vars;rfl)))|apply tTT
  exact⟨f+1,(by(refine aD rfl rfl ?_ ?_ ?_ ?_<;>simp(disch:=apply aR;omega)only[go_sem]<;>(try omega));rw[aKA,hg];exact⟨hd,rfl,by omega⟩),by omega,by omega⟩
 ·obtain rfl:f=rs.length:=by omega
  repeat' first|exact h.elim|(exfalso;omega)|apply aG|refine aE 0 aK3 λK hK=>?_|refine aB ?_|refine gL ?_|(refine hK.n0 ?_;clear hK K)|refine aA rfl (λh=>?_) λh=>?_|refine aJ rfl ?_|apply tTT
  unfold dX;simp only[go_sem];exact⟨28000,_,.refl _,rfl,by simp[D.tks,D.tksL],rfl⟩
end
section
attribute [local irreducible] SW bA bC dM bZ FC dX toF d7 iC
def aEr(xs:List Int):Nat->Int
 | 0=>xs.getD 0 default
 | p+1=>if xs.getD (p+1) default>aEr xs p then xs.getD (p+1) default else aEr xs p
theorem aLm(xs:List Int)(c:Int):∀n,aEr xs n≤c↔∀j≤n,xs.getD j default≤c
 | 0=>⟨λh j hj=>by rwa [show j=0 by omega],λh=>h 0 (zQ _)⟩
 | n+1=>by
  have ih:=aLm xs c n;simp only[aEr];constructor
  ·intro h j hj;rcases Nat.lt_or_ge j (n+1) with h1|h1
   ·exact ih.1 (by split at h<;>omega) j (by omega)
   ·rw[show j=n+1 by omega];split at h<;>omega
  ·intro h;have h1:=ih.2 λj hj=>h j (by omega);have h2:=h (n+1) (zQ _);split<;>omega
theorem aG6{xs:List Int}{c:Int}(h:0<xs.length):aEr xs (xs.length-1)≤c↔∀x∈xs,x≤c:=by
 rw[aLm];exact⟨λh1=>p7 (P:=λx=>x≤c) λj hj=>h1 j (by omega),λh1 j hj=>h1 _ (aX xs j (by omega))⟩
def aTw:List (Nat×List Nat):=[(0,[0]),(1,[0,7]),(2,[0]),(3,[0,3]),(4,[0,3,4]),(5,[0,3,4,15]),(7,[0,3,4]),(6,[0,3,4]),(8,[2])]
attribute [go_sem] aTw Tryz.results159 Tryz.ntmps159
theorem aU6(tk:Tk)(xs:List Int)(h0:0<xs.length):FC S 159 [] [] [] [.sl tk (xs.map (.int .i64))] (.int .i64 (aEr xs (xs.length-1))) [] []:=by
 refine fcb Tryz.func159 λB=>?_;refine bM 0 λhb0=>?_;repeat' first|exact h.elim|apply aG|refine aE 0 aTw λK hK=>?_|refine aB ?_|(refine hK.n0 ?_;clear hK K)|refine aA rfl (λh=>?_) λh=>?_|with_reducible refine aH ?_|apply tTT
 ·omega
 refine aV (ι:=Nat) (λp=>[(4,.int .i64 (p+1)),(3,.int .i64 (aEr xs p))]) (λp=>[]) (λp=>p<xs.length) (λp=>xs.length-p) 0 cvB ?_ (λp hp=>?_);rotate_left
 simp only[go_sem];repeat' first|exact h.elim|apply aG|refine aE 0 aTw λK hK=>?_|refine aB ?_|refine aC ?_|(refine hK.n0 ?_;clear hK K)|refine aA rfl (λh=>?_) λh=>?_|refine aJ rfl ?_|apply aF|with_reducible refine aH ?_|apply tTT
 ·exact⟨p+1,cvB,by omega,by omega⟩
 ·rw[show p=xs.length-1 by omega]
 ·exact h0
def aLN:List (Nat×List Nat):=[(0,[1,2]),(1,[1,2,19]),(2,[4]),(3,[2,20,21,22]),(4,[2,20,21,22,23]),(5,[2,5,6,20,21,22]),(6,[2,6,20,21,22,45]),(7,[4]),(8,[2,20,21,22,47,48,49]),(9,[2,20,21,22,47,48,49,50]),(10,[2,8,20,21,22,47,48,49]),(11,[2,20,21,22,47,48,49,58]),(12,[4]),(13,[2,20,21,22,47,48,49]),(14,[2,20,21,22]),(15,[4])]
attribute [go_sem] aLN Tryz.results149 Tryz.ntmps149
theorem tF(rs:List Int)(ps:List PolyT):FC S 149 [] [] [] [.agg [.sl .any (rs.map (.int .i64))],.sl .any (ps.map bP)] (.bool (tst (dO rs ps))) [] []:=by
 refine fcb Tryz.func149 λB=>?_;refine bM 1 λhb1=>?_;repeat' first|exact h.elim|apply aG|refine aE 0 aLN λK hK=>?_|refine aB ?_|refine aC ?_|(refine hK.n0 ?_;clear hK K)|refine aZ (λh=>?_) λh=>?_|refine aA rfl (λh=>?_) λh=>?_|refine hK.c1 rfl rfl rfl (qV _ _) ?_|apply tTT
 ·exact λh=>absurd h.1.1 (by assumption)
 ·exact λh=>absurd h.1.2 (by omega)
 refine aV (ι:=Nat) (λi=>[(22,.int .i64 i)]) (λ_=>[]) (λi=>i≤ps.length/\(∀j<i,gX (rs.getD j default) (ps.getD j default))) (λi=>ps.length-i) 0 cvA ⟨by omega,?_⟩ (λi ⟨hi,hj⟩=>?_);rotate_left
 simp only[go_sem];have hsg:=(by assumption:eQ rs);have hla:i<ps.length->rs.getD i default≤3:=λh=>(hsg.2 i (by omega)).2;repeat' first|exact h.elim|apply aG|refine aE 0 aLN λK hK=>?_|refine aU aLN (by kernel_rfl) λK hK=>?_|refine aB ?_|refine aQ ?_|refine aC ?_|(refine hK.n0 ?_;clear hK K)|refine bH (λh=>?_) λh=>?_|refine aA rfl (λh=>?_) λh=>?_|refine aJ rfl ?_|with_reducible refine aH ?_|apply tTT
 ·exact λhp=>absurd (hp.2 i (by omega)).1 (by omega)
 ·exact λhp=>absurd (hp.2 i (by omega)).1 (by omega)
 ·exact λhp=>absurd (hp.2 i (by omega)).1 (by omega)
 ·have hla:=hla (by omega);refine bG (ι:=Nat) (λk=>[(49,.int .i64 k)]) (λ_=>[]) (λ_=>[]) (λk=>k≤(ps.getD i default).coef.length/\∀j<k,0≤(ps.getD i default).coef.getD j default/\(ps.getD i default).coef.getD j default≤9) (λk=>(ps.getD i default).coef.length-k) 0 cvA ⟨by omega,λj hj=>absurd hj (by omega)⟩ (λk hk=>?_);obtain⟨hk,hk1⟩:=hk;simp only[go_sem];repeat' first|exact h.elim|apply aG|refine aE 0 aLN λK hK=>?_|refine aB ?_|refine aC ?_|(refine hK.n0 ?_;clear hK K)|refine aZ (λh=>?_) λh=>?_|refine aA rfl (λh=>?_) λh=>?_|refine aJ rfl ?_|apply aF|with_reducible refine aH ?_|apply tTT
  ·exact λhp=>absurd ((hp.2 i (by omega)).2 _ (aX _ k (by omega))) (by omega)
  ·exact λhp=>absurd ((hp.2 i (by omega)).2 _ (aX _ k (by omega))) (by omega)
  ·exact⟨k+1,cvA,⟨by omega,bJ hk1 ⟨by omega,by omega⟩⟩,by omega⟩
  ·exact⟨i+1,cvA,⟨by omega,bJ hj ⟨⟨by omega,by omega,by omega⟩,p7 (P:=λx=>0≤x/\x≤9) λj hj'=>hk1 j (by omega)⟩⟩,by omega⟩
 ·exact⟨⟨by assumption,by omega⟩,λj hj'=>hj j (by omega)⟩
 ·intro j hj';omega
def aX4:List (Nat×List Nat):=[(0,[1,2]),(1,[1,2,9]),(2,[4]),(3,[4])]
attribute [go_sem] aX4 Tryz.results150 Tryz.ntmps150
theorem aQE(p:PolyT)(i:Nat):FC S 150 [] [] [] [bP p,.int .i64 i] (.int .i64 (p.coef.getD i default)) [] []:=by
 have hz:=λh=>aHR [] p.coef 0 (j:=i) h;refine fcb Tryz.func150 λB=>?_;refine b6 0 1 λhb0_1=>?_;repeat' first|exact h.elim|apply aG|refine aE 0 aX4 λK hK=>?_|refine aB ?_|refine aC ?_|(refine hK.n0 ?_;clear hK K)|refine aA rfl (λh=>?_) λh=>?_|with_reducible refine aH ?_|apply tTT
 exact(hz (by omega)).symm
def aYj:List (Nat×List Nat):=[(0,[1,2]),(1,[4])]
attribute [go_sem] aYj Tryz.results134 Tryz.ntmps134
theorem aWa(p:PolyT)(i:Nat):FC S 134 [] [] [] [bP p,.int .i64 i] (.int .i64 (p.coef.getD i default)) [] []:=by
 refine fcb Tryz.func134 λB=>?_;repeat' first|apply aG|refine aE 0 aYj λK hK=>?_|refine aB ?_|refine aC ?_|(refine hK.n0 ?_;clear hK K)|refine hK.c1 rfl rfl rfl (aQE p i) ?_|apply tTT
open Classical in
noncomputable def aHs(a b:PolyT):Bool×Bool:=if xJ a b then (tst (a.const≤b.const),tst (a.const<b.const)) else (false,false)
theorem vI{a b:PolyT}(h:xJ a b):aHs a b=(tst (a.const≤b.const),tst (a.const<b.const)):=if_pos h
theorem aBb{a b:PolyT}(h:¬xJ a b):aHs a b=(false,false):=if_neg h
def aPN:List (Nat×List Nat):=[(0,[2,3]),(1,[2,3,9,10,11]),(2,[2,3,9,10,11,12]),(3,[2,3,6,7,9,10,11]),(4,[2,3,9,10,11,20]),(5,[4,5]),(6,[2,3,9,10,11]),(7,[4,5])]
attribute [go_sem] aPN Tryz.results109 Tryz.ntmps109
theorem aHr(a b:PolyT):FC S 109 [] [] [] [bP a,bP b] (.tup [.bool (aHs a b).1,.bool (aHs a b).2]) [] []:=by
 refine fcb Tryz.func109 λB=>?_;refine b6 0 1 λhb0_1=>?_;repeat' first|apply aG|refine aE 0 aPN λK hK=>?_|refine aB ?_|(refine hK.n0 ?_;clear hK K)|apply tTT
 refine aV (ι:=Nat) (λi=>[(11,.int .i64 i)]) (λ_=>[]) (λi=>i≤a.coef.length/\(∀j<i,a.coef.getD j default≤b.coef.getD j default)) (λi=>a.coef.length-i) 0 cvA ⟨by omega,?_⟩ (λi ⟨hi,hj⟩=>?_);rotate_left
 simp only[go_sem];repeat' first|exact h.elim|apply aG|refine aE 0 aPN λK hK=>?_|refine aU aPN (by kernel_rfl) λK hK=>?_|refine aB ?_|refine aQ ?_|refine aC ?_|(refine hK.n0 ?_;clear hK K)|refine aA rfl (λh=>?_) λh=>?_|refine aJ rfl ?_|apply aF|refine hK.c1 rfl rfl rfl (aWa b i) ?_|with_reducible refine aH ?_|apply tTT
 ·rw[aBb λhm=>absurd (hm i (by omega)) (by omega)];exact⟨rfl,rfl⟩
 ·exact⟨i+1,cvA,⟨by omega,bJ hj (by omega)⟩,by omega⟩
 ·rw[vI λj hj'=>hj j (by omega)];exact⟨rO _,rO _⟩
 ·intro j hj';omega
attribute [local go_sem] aDR aFA
def aS7:List (Nat×List Nat):=[(0,[0,2]),(1,[0,2,3]),(2,[2,3]),(3,[2])]
attribute [go_sem] aS7 Tryz.results156 Tryz.ntmps156
theorem aOk(n:Int)(h0:n<0)(h1:-24≤n):FC S 156 [] [] [] [.int .i64 n] (bP (yZ n)) [] []:=by
 refine fcb Tryz.func156 λB=>?_;repeat' first|(refine⟨by rw[List.length_replicate];omega,?_⟩)|(refine aDE (id:=3) ?_)|apply aG|refine aE 0 aS7 λK hK=>?_|refine aB ?_|(refine hK.n0 ?_;clear hK K)|with_reducible refine aH ?_|apply tTT
 refine HoldP.go ?_;refine l6 3 1 .any ((yZ n).coef.map (.int .i64)) rfl rfl (by rw[dA];unfold yZ;rw[Int.zero_sub]) (by simp[yZ]) (λx hx=>by obtain⟨y,_,rfl⟩:=zJ.1 hx;rfl) (λd hd=>by obtain⟨y,_,rfl⟩:=zJ.1 hd;rfl) (.inl rfl) ?_;simp only[go_sem];repeat' first|refine aE 0 aS7 λK hK=>?_|refine aB ?_|refine aC ?_|(refine hK.n0 ?_;clear hK K)|apply tTT
 all_goals rfl
def pI(a:PolyT):D:=.agg [.int .i64 a.const,.sl (.lab [1]) (a.coef.map (.int .i64))]
attribute [local go_sem] pI
theorem aRI{k:Nat}{e:TypeId}{tk:List Nat}{ys zs:List Int}(qs:List PolyT):StO k e tk ys zs (.sl (.lab [1]) (qs.map pI)) (.sl (.lab [1]) (qs.map pI)):=by
 refine bW ?_;show D.safeIL k tk (qs.map pI)=true;refine aGR λd hd=>?_;obtain⟨a,_,rfl⟩:=zJ.1 hd;simp[pI,D.safeI,D.safeIL,aC5]
theorem aRJ(cs ds:List Int)(c:Int):fZ cs ds c 0=cs++List.replicate (ds.length-cs.length) 0:=rfl
theorem aRp(cs ds:List Int)(c:Int)(j:Nat):fZ cs ds c (j+1)=(fZ cs ds c j).set j ((fZ cs ds c j).getD j default+c*ds.getD j default):=rfl
end
section
attribute [local irreducible] SW bA bC dM bZ FC dX toF d7 iC fZ sumF
attribute [local go_sem] pI
def xP:List (Nat×List Nat):=[(0,[1,2,4]),(1,[1,2,4,6]),(2,[2,4,6,14,15,16]),(3,[2,4,6,14,15,16,17]),(4,[2,4,6,7,8,14,15,16]),(5,[2,4,6,7,8,14,15,16]),(6,[2,4,6,7,8,14,15,16,39]),(7,[2,4,6,7,8,14,15,16]),(8,[2,4,6,7,14,15,16,46,47,48]),(9,[2,4,6,7,14,15,16,46,47,48,49]),(10,[2,4,6,7,9,10,14,15,16,46,47,48]),(11,[2,4,6,7,14,15,16,46,47,48]),(12,[2,4,6,7,14,15,16,46,47,48]),(13,[2,4,6,14,15,16]),(14,[4,6,83]),(15,[4,5]),(16,[4,5])]
attribute [go_sem] xP Tryz.results157 Tryz.ntmps157
theorem aK7(p:PolyT)(qs:List PolyT)(hp:gX qs.length p)(hn:qs.length≤3)(hA:∀j<qs.length,iL MF (qs.getD j default)):FC S 157 [] [] [] [.agg [.int .i64 p.const,.sl (.lab [1]) (p.coef.map (.int .i64))],.sl (.lab [1]) (qs.map pI)] (.tup [bP (kF (λj=>(qs.getD j default,true)) p qs.length).1,.bool (kF (λj=>(qs.getD j default,true)) p qs.length).2]) [] []:=by
 have hpl:=hp.1;have hz:sumF (λj=>(qs.getD j default,true)) p 0=⟨p.const,[]⟩:=by unfold sumF;rfl
 have hs:∀i,sumF (λj=>(qs.getD j default,true)) p (i+1)=oR (sumF (λj=>(qs.getD j default,true)) p i) (qs.getD i default) (p.coef.getD i default):=λi=>by conv=>lhs;unfold sumF
 have hgood:=λi (hi:i≤qs.length)=>aJc (uQ (F:=λj=>(qs.getD j default,true)) hp i λj hj=>hA j (by omega)) (show (9+9*MF*(i:Int))≤100*MF by simp only[MF];omega);unfold kF;generalize sumF (λj=>(qs.getD j default,true)) p=F at *;refine aYz Tryz.func157 λB N hOff=>?_;repeat' first|apply aG|refine aE 0 xP λK hK=>?_|refine aB ?_|(refine hK.n0 ?_;clear hK K)|apply tTT
 refine aGA 6 1 44000 2 1 rfl rfl rfl ?_;simp only[go_sem];refine bG (ι:=Nat) (λi=>[(16,.int .i64 i)]) (λi=>[(6,[.int .i64 (F i).const,.sl (.own 44000 2 1) ((F i).coef.map (.int .i64))])]) (λ_=>[44000]) (λi=>i≤qs.length) (λi=>qs.length-i) 0 (by rw[hz];(refine aD rfl rfl ?_ ?_ ?_ ?_<;>simp(disch:=apply aR;omega)only[go_sem]<;>(try omega))) (by omega) (λi hi=>?_);simp only[go_sem];have hci:=aAV hp i;have hgo:=hgood i hi;have hlo:=hgo.2.2;have hco:=hgo.1;simp only[MF] at hco;by_cases hil:i<qs.length
 ·have ha:=hA i hil;have hla:=ha.2.2;have hs1:=hs i;have hm:0≤p.coef.getD i default*(qs.getD i default).const/\p.coef.getD i default*(qs.getD i default).const≤9*MF:=⟨Int.mul_nonneg hci.1 ha.1.1,Int.mul_le_mul hci.2 ha.1.2 ha.1.1 (by omega)⟩;simp only[MF] at hm;repeat' first|exact h.elim|(exfalso;omega)|apply aG|refine aE 0 xP λK hK=>?_|refine iG 0 xP 12 (id:=5) (by kernel_rfl) λK hK=>?_|refine λ(K:KT) (hK:KOk S 0 _ _ _ K)=>?_|refine aB ?_|refine aQ ?_|(refine hK.n0 ?_;clear hK K)|refine aA rfl (λh=>?_) λh=>?_|with_reducible refine aH ?_|apply tTT
  generalize ho:F i=o at *;refine bG (ι:=Nat) (λ_=>[]) (λj=>[(6,[.int .i64 (o.const+p.coef.getD i default*(qs.getD i default).const),.sl (.own 44000 2 1) ((o.coef++List.replicate j 0).map (.int .i64))])]) (λ_=>[44000]) (λj=>j≤(qs.getD i default).coef.length-o.coef.length) (λj=>(qs.getD i default).coef.length-o.coef.length-j) 0 (by rw[List.replicate_zero,List.append_nil];(refine aD rfl rfl ?_ ?_ ?_ ?_<;>simp(disch:=apply aR;omega)only[go_sem]<;>(try omega))) (by omega) (λj hj=>?_);simp only[go_sem];have hjl:(o.coef++List.replicate j (0:Int)).length=o.coef.length+j:=by simp
  have hjs:o.coef++List.replicate (j+1) (0:Int)=(o.coef++List.replicate j 0)++[0]:=by rw[List.replicate_succ',List.append_assoc]
  repeat' first|exact h.elim|apply aG|refine aE 0 xP λK hK=>?_|refine aB ?_|(refine hK.n0 ?_;clear hK K)|refine aA rfl (λh=>?_) λh=>?_|refine aJ rfl ?_|apply aF|with_reducible refine aH ?_|((with_reducible refine And.intro ?_ ?_);· first|(intro x hx;subst hx;rfl)|(intro x;refine And.intro ?_ ?_<;>(intros;subst_vars;rfl)))|apply tTT
  ·exact⟨j+1,(by rw[hjs];(refine aD rfl rfl ?_ ?_ ?_ ?_<;>simp(disch:=apply aR;omega)only[go_sem]<;>(try omega))),by omega,by omega⟩
  ·rw[show j=(qs.getD i default).coef.length-o.coef.length by omega,←aRJ o.coef (qs.getD i default).coef (p.coef.getD i default)];refine bG (ι:=Nat) (λv=>[(48,.int .i64 v)]) (λv=>[(6,[.int .i64 (o.const+p.coef.getD i default*(qs.getD i default).const),.sl (.own 44000 2 1) ((fZ o.coef (qs.getD i default).coef (p.coef.getD i default) v).map (.int .i64))])]) (λ_=>[44000]) (λv=>v≤(qs.getD i default).coef.length) (λv=>(qs.getD i default).coef.length-v) 0 cvA (by omega) (λv hv=>?_);simp only[go_sem];have hbv:=kC (P:=λx=>0≤x/\x≤MF) ⟨Int.le_refl _,by decide⟩ ha.2.1 v;have hav:=kC (P:=λx=>0≤x/\x≤100*MF) ⟨Int.le_refl _,by decide⟩ hgo.2.1 v;have hmv:0≤p.coef.getD i default*(qs.getD i default).coef.getD v default/\p.coef.getD i default*(qs.getD i default).coef.getD v default≤9*MF:=⟨Int.mul_nonneg hci.1 hbv.1,Int.mul_le_mul hci.2 hbv.2 hbv.1 (by omega)⟩;have hLv:(fZ o.coef (qs.getD i default).coef (p.coef.getD i default) v).getD v default=o.coef.getD v default:=by rw[qR _ _ _ _ hv,if_neg (by omega),Int.add_zero]
   have hLl:=jT o.coef (qs.getD i default).coef (p.coef.getD i default) v;have hLs:=aRp o.coef (qs.getD i default).coef (p.coef.getD i default) v;simp only[MF] at hav hmv;repeat' first|exact h.elim|(refine aIu xP 13 (id:=11) (by kernel_rfl) λK hK=>?_)|apply aG|refine aE 0 xP λK hK=>?_|refine aB ?_|refine aQ ?_|(refine hK.n0 ?_;clear hK K)|refine aA rfl (λh=>?_) λh=>?_|refine aJ rfl ?_|apply aF|with_reducible refine aH ?_|apply tTT
   ·refine aK.storeOwnL [(2,.box 2 0),(4,.box 4 0),(6,.box 6 0),(7,.int .i64 i),(14,.sl (.lab [1]) (qs.map pI)),(15,.int .i64 qs.length),(16,.int .i64 i),(46,.sl (.lab [1]) ((qs.getD i default).coef.map (.int .i64))),(47,.int .i64 (qs.getD i default).coef.length),(48,.int .i64 v)] [(2,[.int .i64 p.const,.sl (.lab [1]) (p.coef.map (.int .i64))]),(4,[.int .i64 0,.sl .nil []]),(6,[.int .i64 (o.const+p.coef.getD i default*(qs.getD i default).const),.sl (.own 44000 2 1) (((fZ o.coef (qs.getD i default).coef (p.coef.getD i default) v).set v ((fZ o.coef (qs.getD i default).coef (p.coef.getD i default) v).getD v default+p.coef.getD i default*(qs.getD i default).coef.getD v default)).map (.int .i64))]),(8,[.int .i64 (qs.getD i default).const,.sl (.lab [1]) ((qs.getD i default).coef.map (.int .i64))])] hOff.1 rfl rfl rfl rfl rfl rfl rfl (λ_=>rfl) (by simp) ⟨by omega,by omega⟩ (by simp only[Nat.reduceLT]) ⟨⟨by decide,_,rfl,bW rfl⟩,⟨by decide,_,rfl,bW rfl⟩,⟨by decide,_,rfl,bW rfl⟩,⟨by decide,_,rfl,bW rfl⟩,⟨by decide,_,rfl,aRI qs⟩,⟨by decide,_,rfl,bW rfl⟩,⟨by decide,_,rfl,bW rfl⟩,⟨by decide,_,rfl,sK _ _ _⟩,⟨by decide,_,rfl,bW rfl⟩,⟨by decide,_,rfl,bW rfl⟩,trivial⟩ ⟨⟨_,rfl,bW rfl,sK _ _ _,trivial⟩,⟨_,rfl,bW rfl,bW rfl,trivial⟩,⟨_,rfl,bW rfl,aIn,trivial⟩,⟨_,rfl,bW rfl,sK _ _ _,trivial⟩,trivial⟩ ?_;refine aK.nil ?_;rw[←hLs];simp only[go_sem];repeat' first|apply aG|refine aE 0 xP λK hK=>?_|refine aB ?_|(refine hK.n0 ?_;clear hK K)|apply aF|apply tTT
    exact⟨v+1,cvA,by omega,by omega⟩
   ·have e1:(oR o (qs.getD i default) (p.coef.getD i default)).const=o.const+p.coef.getD i default*(qs.getD i default).const:=rfl;have e2:(oR o (qs.getD i default) (p.coef.getD i default)).coef=fZ o.coef (qs.getD i default).coef (p.coef.getD i default) (qs.getD i default).coef.length:=rfl;exact⟨i+1,(by rw[hs1,e1,e2,show v=(qs.getD i default).coef.length by omega];(refine aD rfl rfl ?_ ?_ ?_ ?_<;>simp(disch:=apply aR;omega)only[go_sem]<;>(try omega))),by omega,by omega⟩
 ·obtain rfl:i=qs.length:=by omega
  rcases Classical.em (okF (F qs.length)) with hok|hok
  ·rw[if_pos ⟨(λ_ _=>rfl),hok⟩];have h1:=hok.1;have h2:=hok.2;simp only[MF] at h2;repeat' first|exact h.elim|(exfalso;omega)|apply aG|refine aE 0 xP λK hK=>?_|refine aB ?_|refine aC ?_|(refine hK.n0 ?_;clear hK K)|refine aZ (λh=>?_) λh=>?_|refine aA rfl (λh=>?_) λh=>?_|refine hK.skp rfl rfl ?_|refine aJ rfl ?_|refine hK.c1 rfl rfl rfl (aU6 _ (F qs.length).coef (by omega)) ?_|apply tTT
   exact absurd ((aG6 (c:=MF) (by omega)).2 h1) (by simp only[MF];omega)
  ·rw[if_neg λe=>hok e.2];repeat' first|exact h.elim|(exfalso;omega)|apply aG|refine aE 0 xP λK hK=>?_|refine aB ?_|refine aC ?_|(refine hK.n0 ?_;clear hK K)|refine aZ (λh=>?_) λh=>?_|refine aA rfl (λh=>?_) λh=>?_|refine hK.skp rfl rfl ?_|refine aJ rfl ?_|refine hK.c1 rfl rfl rfl (aU6 _ (F qs.length).coef (by omega)) ?_|apply tTT
   ·exact⟨rfl,rfl⟩
   ·exact⟨rfl,rfl⟩
   ·exact absurd (show okF (F qs.length) from⟨(aG6 (c:=MF) (by omega)).1 (by simp only[MF];omega),by simp only[MF];omega⟩) hok
   ·exact absurd (show okF (F qs.length) from⟨λx hx=>by have:=List.length_pos_of_mem hx;omega,by simp only[MF];omega⟩) hok
theorem aOW(p:PolyT)(qs:List PolyT)(hp:gX qs.length p)(hn:qs.length≤3)(hA:∀j<qs.length,iL MF (qs.getD j default)):FC S 157 [] [] [] [bP p,.sl .any (qs.map bP)] (.tup [bP (kF (λj=>(qs.getD j default,true)) p qs.length).1,.bool (kF (λj=>(qs.getD j default,true)) p qs.length).2]) [] []:=by
 refine aVR [1] (by simp) ?_ ?_ ?_
 ·have h:∀q:PolyT,(bP q).okLb=true:=λq=>by simp[bP,D.okLb,D.okLbL,jY (f:=λx=>D.int .i64 x) λ_=>rfl]
  simp[h,D.okLb,D.okLbL,jY (f:=bP) h]
 ·simp[bP,D.noLb,D.noLbL,aBx (f:=λx=>D.int .i64 x) λ_=>rfl]
 ·have h:∀q:PolyT,(bP q).lb [1]=pI q:=λq=>by simp only[bP,pI,D.lbL,D.lb,mP]
  simp only[D.lbL,D.lb,pL,h];exact aK7 p qs hp hn hA
end
section
attribute [local irreducible] SW bA bC dM bZ FC dX toF d7 iC fZ sumF b5
def aFR(rs:List Int)(ps:List PolyT):Prop:=(eQ rs/\rs.length≤ps.length)/\∀f<rs.length,gX (rs.getD f default) (ps.getD f default)
theorem dO.ps{rs:List Int}{ps:List PolyT}(h:dO rs ps):aFR rs ps:=⟨⟨h.1.1,Nat.le_of_eq h.1.2.symm⟩,λf hf=>h.2 f (by rw[h.1.2];exact hf)⟩
theorem aFR.at{rs:List Int}{ps:List PolyT}(h:aFR rs ps){n:Int}(h0:0≤n)(h1:n<rs.length):gX (arS rs n) (ps.getD n.toNat default):=by
 rw[lJ (by omega)];exact h.2 n.toNat (by omega)
theorem aD0{rs:List Int}{ps:List PolyT}(hP:aFR rs ps):∀f t,aT rs t->iL MF (b5 rs ps f t).1
 | 0,_,_=>by unfold b5;exact xA
 | f+1,t,ht=>by
  have hl:=ht.low (show 0<t.length from ht.2.1.1);by_cases h:t.getD 0 default<0
  ·rw[l8 h];exact aDP h hl.1.1
  ·rw[nE h];exact aFJ (hP.at (by omega) hl.1.2) λj hj=>aD0 hP f _ (j5 ht hj).1
noncomputable def aHw(rs:List Int)(ps:List PolyT)(bh:Int)(f:Nat)(u:List Int):PolyT×Bool:=if u.getD 0 default<0 then (yZ (u.getD 0 default),true) else kF (λj=>b5 rs ps f (lC rs u j)) (ps.getD (u.getD 0 default+bh).toNat default) (arS rs (u.getD 0 default)).toNat
theorem aBG{rs:List Int}{ps:List PolyT}{bh:Int}{f:Nat}{u:List Int}(h:u.getD 0 default<0):aHw rs ps bh f u=(yZ (u.getD 0 default),true):=if_pos h
theorem aBi{rs:List Int}{ps:List PolyT}{bh:Int}{f:Nat}{u:List Int}(h:¬u.getD 0 default<0):aHw rs ps bh f u=kF (λj=>b5 rs ps f (lC rs u j)) (ps.getD (u.getD 0 default+bh).toNat default) (arS rs (u.getD 0 default)).toNat:=if_neg h
theorem aNN(rs:List Int)(ps:List PolyT)(f:Nat)(u:List Int):aHw rs ps 0 f u=b5 rs ps (f+1) u:=by
 by_cases h:u.getD 0 default<0
 ·rw[aBG h,l8 h]
 ·rw[aBi h,nE h,Int.add_zero]
theorem aE3{F G:Nat->PolyT×Bool}{p:PolyT}:∀n,(∀j<n,(F j).1=(G j).1)->sumF F p n=sumF G p n
 | 0,_=>by unfold sumF;rfl
 | n+1,h=>by
  have e:∀H:Nat->PolyT×Bool,sumF H p (n+1)=oR (sumF H p n) (H n).1 (p.coef.getD n default):=λH=>by conv=>lhs;unfold sumF
  rw[e,e,aE3 n λj hj=>h j (by omega),h n (by omega)]
theorem tM{F G:Nat->PolyT×Bool}{p:PolyT}{n:Nat}(h1:∀j<n,(F j).1=(G j).1)(h2:∀j<n,(F j).2=(G j).2):kF F p n=kF G p n:=by
 have e:=aE3 (p:=p) n h1;rcases Classical.em ((∀j<n,(F j).2=true)/\okF (sumF F p n)) with h|h
 ·rw[wW h,wW ⟨λj hj=>by rw[←h2 j hj];exact h.1 j hj,by rw[←e];exact h.2⟩,e]
 ·rw[pV h,pV λh'=>h ⟨λj hj=>by rw[h2 j hj];exact h'.1 j hj,by rw[e];exact h'.2⟩]
def aL5:List (Nat×List Nat):=[(0,[1,2,3,4,5,10]),(1,[1,2,3,4,5,10,21]),(2,[10,11]),(3,[1,2,3,4,5,10,12]),(4,[1,2,3,4,5,10,12,30,31,32]),(5,[1,2,3,4,5,10,12,30,31,32,33]),(6,[1,2,3,4,5,10,12,14,30,31,32]),(7,[1,2,3,4,5,10,12,15,16,30,31,32]),(8,[1,2,3,4,5,10,12,15,30,31,32,45]),(9,[10,11]),(10,[1,2,3,4,5,10,12,30,31,32]),(11,[1,2,3,4,5,10,12,30,31,32]),(12,[10,11])]
attribute [go_sem] aL5 Tryz.results148 Tryz.ntmps148
theorem xR(rs:List Int)(ps:List PolyT)(t:List Int)(hT:aT rs t)(hQ:aFR rs ps)(bh:Int)(hb:0≤bh/\bh≤1000)(f a:Nat)(ha:a<t.length)(hx:0≤t.getD a default->t.getD a default+bh<ps.length/\gX (arS rs (t.getD a default)) (ps.getD (t.getD a default+bh).toNat default))
  (hform:∀q:Nat,a<q->q<t.length->(eD rs t q).length≤f->FC S 131 [] [] [] [.agg [.sl .any (rs.map (.int .i64))],.sl .any (ps.map bP),.sl .any (t.map (.int .i64)),.int .i64 q] (.tup [bP (b5 rs ps f (eD rs t q)).1,.bool (b5 rs ps f (eD rs t q)).2]) [] []) (hlen:(eD rs t a).length≤f+1) :
  FC S 148 [] [] [] [.agg [.sl .any (rs.map (.int .i64))],.sl .any (ps.map bP),.int .i64 bh,.sl .any (t.map (.int .i64)),.int .i64 a] (.tup [bP (aHw rs ps bh f (eD rs t a)).1,.bool (aHw rs ps bh f (eD rs t a)).2]) [] []:=by
 have hl:=hT.2.1.2;have hlo:=hT.low ha;have hsa:=(aJd hT ha).1;have hU:=oW hT ha;have hlt:=aDW hT ha;have hal:=aBR rs t a;have hget:=aBz rs t a;have hco:∀x∈dN rs t a,((x:Nat):Int)=x:=λ_ _=>rfl;by_cases h0:t.getD a default<0
 ·rw[aBG (by rw[hsa];exact h0),hsa];refine fcb Tryz.func148 λB=>?_;refine bM 3 λhb3=>?_;repeat' first|exact h.elim|(exfalso;omega)|apply aG|refine aE 0 aL5 λK hK=>?_|refine aB ?_|refine aC ?_|(refine hK.n0 ?_;clear hK K)|refine aA rfl (λh=>?_) λh=>?_|refine hK.c1 rfl rfl rfl (aOk _ h0 hlo.1.1) ?_|with_reducible refine aH ?_|apply tTT
 ·rw[aBi (by rw[hsa];exact h0),hsa];have hx:=hx (by omega);have harg:∀j<(arS rs (t.getD a default)).toNat,lC rs (eD rs t a) j=eD rs t ((dN rs t a).getD j default):=λj hj=>by rw[aTN hT ha hj,hget j hj]
  generalize hz:dN rs t a=zs at *;have hsub:∀q∈zs,(eD rs t q).length≤f:=λq hq=>by
   obtain⟨j,hj,e⟩:=List.getElem_of_mem hq;have h1:=harg j (by omega);have h2:=(j5 hU (j:=j) (by rw[hsa];omega)).2;rw[h1,zD,zB hj,Option.getD_some,e] at h2;omega
  have hgood:∀q∈zs,iL MF (b5 rs ps f (eD rs t q)).1:=λq hq=>aD0 hQ f _ (oW hT (hlt q hq).2);have hFG:(∀j<zs.length,(b5 rs ps f (eD rs t (zs.getD j default))).2=true)->kF (λj=>((zs.map λq=>(b5 rs ps f (eD rs t q)).1).getD j default,true)) (ps.getD (t.getD a default+bh).toNat default) (zs.map λq=>(b5 rs ps f (eD rs t q)).1).length=kF (λj=>b5 rs ps f (lC rs (eD rs t a) j)) (ps.getD (t.getD a default+bh).toNat default) (arS rs (t.getD a default)).toNat:=λhok=>by
   rw[zC,←hal];refine tM (λj hj=>?_) λj hj=>?_
   ·dsimp only;rw[harg j (by omega)];simp[List.getD,hj]
   ·dsimp only;rw[harg j (by omega)];exact(hok j hj).symm
  have hno:∀i<zs.length,(b5 rs ps f (eD rs t (zs.getD i default))).2=false->kF (λj=>b5 rs ps f (lC rs (eD rs t a) j)) (ps.getD (t.getD a default+bh).toNat default) (arS rs (t.getD a default)).toNat=(xM,false):=λi hi e=>pV λh=>by
   have:=h.1 i (by omega);rw[harg i (by omega),e] at this;cases this
  have hz3:zs.length≤3:=by omega
  have cA:=aOW (ps.getD (t.getD a default+bh).toNat default) (zs.map λq=>(b5 rs ps f (eD rs t q)).1) (by rw[zC,hal,show (((arS rs (t.getD a default)).toNat:Nat):Int)=arS rs (t.getD a default) by omega];exact hx.2) (by rw[zC];exact hz3) (λj hj=>by
   rw[zC] at hj;have:=hgood _ (aX zs j hj);simpa[List.getD,hj] using this)
  have cG:=aGn .any .any rs t a hT ha;rw[hz] at cG;refine fcb Tryz.func148 λB=>?_;refine bM 3 λhb3=>?_;repeat' first|exact h.elim|(exfalso;omega)|(refine eF 12 51000 108 2 rfl (.inl rfl) rfl ?_;simp only[go_sem])|apply aG|refine aE 0 aL5 λK hK=>?_|refine aB ?_|(refine hK.n0 ?_;clear hK K)|refine aA rfl (λh=>?_) λh=>?_|refine hK.c1 rfl rfl rfl (cG) ?_|with_reducible refine aH ?_|apply tTT
  refine bG (ι:=Nat) (λi=>[(32,.int .i64 i),(12,.sl (.own 51000 108 2) (((zs.take i).map λq=>(b5 rs ps f (eD rs t q)).1).map bP))]) (λ_=>[]) (λ_=>[51000]) (λi=>i≤zs.length/\∀j<i,(b5 rs ps f (eD rs t (zs.getD j default))).2=true) (λi=>zs.length-i) 0 (by(refine aD rfl rfl ?_ ?_ ?_ ?_<;>simp(disch:=apply aR;omega)only[go_sem]<;>(try omega));all_goals first|rfl|(simp;done)) ⟨by omega,λj hj=>absurd hj (by omega)⟩ (λi hi=>?_);obtain⟨hi,hj⟩:=hi;simp only[go_sem];have htl:((zs.take i).map λq=>(b5 rs ps f (eD rs t q)).1).length≤3:=by rw[zC,List.length_take];omega
  by_cases hil:i<zs.length
  ·have hm:=hlt _ (aX zs i hil);have cF:=hform (zs.getD i default) hm.1 hm.2 (hsub _ (aX zs i hil));have htk:(zs.take (i+1)).map (λq=>(b5 rs ps f (eD rs t q)).1)=(zs.take i).map (λq=>(b5 rs ps f (eD rs t q)).1)++[(b5 rs ps f (eD rs t (zs.getD i default))).1]:=by
    rw[List.take_succ_eq_append_getElem hil,List.map_append];congr 1;simp[List.getD,hil]
   repeat' first|exact h.elim|(exfalso;omega)|apply aG|refine aE 0 aL5 λK hK=>?_|refine aB ?_|refine aC ?_|(refine hK.n0 ?_;clear hK K)|refine aA rfl (λh=>?_) λh=>?_|apply aF|refine hK.c1 rfl rfl rfl (cF) ?_|with_reducible refine aH ?_|apply tTT
   ·rw[hno i hil h];exact⟨⟨rfl,rfl⟩,rfl⟩
   ·exact⟨i+1,(by(refine aD rfl rfl ?_ ?_ ?_ ?_<;>simp(disch:=apply aR;omega)only[go_sem]<;>(try omega));rw[htk,List.map_append];exact⟨rfl,by omega⟩),⟨by omega,bJ hj h⟩,by omega⟩
  ·rw[List.take_of_length_le (by omega)];rw[←hFG λj hj'=>hj j (by omega)];have hpl:(t.getD a default+bh).toNat<ps.length:=by omega
   have hsl:=hQ.1.1.1;repeat' first|exact h.elim|(exfalso;omega)|apply aG|refine aE 0 aL5 λK hK=>?_|refine aB ?_|refine aC ?_|(refine hK.n0 ?_;clear hK K)|refine aA rfl (λh=>?_) λh=>?_|refine aJ rfl ?_|(refine hK.c0 rfl rfl rfl (FC.args (cA) ?le) rfl rfl rfl ?_;case le=>(simp only[go_sem];repeat' first|exact trivial|exact D.le.refl _|exact D.le.any|refine And.intro ?_ ?_))|with_reducible refine aH ?_|apply tTT
def aYm:List (Nat×List Nat):=[(0,[1,2,3,4,8]),(1,[8,9])]
attribute [go_sem] aYm Tryz.results131 Tryz.ntmps131
theorem aGX(rs:List Int)(ps:List PolyT)(t:List Int)(hT:aT rs t)(hQ:aFR rs ps):∀f a:Nat,a<t.length->(eD rs t a).length≤f->FC S 131 [] [] [] [.agg [.sl .any (rs.map (.int .i64))],.sl .any (ps.map bP),.sl .any (t.map (.int .i64)),.int .i64 a] (.tup [bP (b5 rs ps f (eD rs t a)).1,.bool (b5 rs ps f (eD rs t a)).2]) [] []:=by
 intro f;induction f with
 | zero=>intro a ha hl;have:=(oW hT ha).2.1.1;omega
 | succ f ih =>
  intro a ha hl;have c:=xR rs ps t hT hQ 0 (by omega) f a ha (λh=>⟨by have:=(hT.low ha).1.2;have:=hQ.1.2;omega,by rw[Int.add_zero];exact hQ.at h (hT.low ha).1.2⟩) (λq h1 h2 h3=>ih q h2 h3) hl;rw[aNN] at c;refine fcb Tryz.func131 λB=>?_;repeat' first|apply aG|refine aE 0 aYm λK hK=>?_|refine aB ?_|refine aC ?_|(refine hK.n0 ?_;clear hK K)|refine hK.c1 rfl rfl rfl (c) ?_|apply tTT
theorem aE8(rs:List Int)(ps:List PolyT)(t:List Int)(hT:aT rs t)(hQ:aFR rs ps):FC S 131 [] [] [] [.agg [.sl .any (rs.map (.int .i64))],.sl .any (ps.map bP),.sl .any (t.map (.int .i64)),.int .i64 0] (.tup [bP (b5 rs ps 60 t).1,.bool (b5 rs ps 60 t).2]) [] []:=by
 have h:=aGX rs ps t hT hQ 60 0 hT.2.1.1 (by rw[mF hT];exact hT.2.1.2);rw[mF hT] at h;exact h
open Classical in
noncomputable def aTU(rs:List Int)(ps:List PolyT)(s t:List Int):Bool×Bool:=if (b5 rs ps 60 s).2=true/\(b5 rs ps 60 t).2=true then aHs (b5 rs ps 60 s).1 (b5 rs ps 60 t).1 else (false,false)
def aUE:List (Nat×List Nat):=[(0,[1,2,3,4]),(1,[1,3,4,10,11]),(2,[10,11,12,13]),(3,[10,12,33]),(4,[8,9]),(5,[8,9])]
attribute [go_sem] aUE Tryz.results107 Tryz.ntmps107
theorem aDa(rs:List Int)(ps:List PolyT)(s t:List Int)(hQ:aFR rs ps)(hs:aT rs s)(ht:aT rs t):FC S 107 [] [] [] [.agg [.sl .any (rs.map (.int .i64))],.sl .any (ps.map bP),.sl .any (s.map (.int .i64)),.sl .any (t.map (.int .i64))] (.tup [.bool (aTU rs ps s t).1,.bool (aTU rs ps s t).2]) [] []:=by
 have c1:=aE8 rs ps s hs hQ;have c2:=aE8 rs ps t ht hQ;unfold aTU;generalize b5 rs ps 60 s=a at *;generalize b5 rs ps 60 t=b at *;obtain⟨a,oa⟩:=a;obtain⟨b,ob⟩:=b;dsimp only at c1 c2 ⊢;by_cases hnb:oa=true/\ob=true
 ·rw[if_pos hnb];obtain⟨rfl,rfl⟩:=hnb;refine fcb Tryz.func107 λB=>?_;repeat' first|exact h.elim|apply aG|refine aE 0 aUE λK hK=>?_|refine aB ?_|refine aC ?_|(refine hK.n0 ?_;clear hK K)|refine aA rfl (λh=>?_) λh=>?_|refine hK.c1 rfl rfl rfl (c1) ?_|refine hK.c1 rfl rfl rfl (c2) ?_|refine hK.c1 rfl rfl rfl (aHr a b) ?_|apply tTT
 ·rw[if_neg hnb];refine fcb Tryz.func107 λB=>?_;repeat' first|exact h.elim|(exact absurd ⟨(by assumption),(by assumption)⟩ hnb)|apply aG|refine aE 0 aUE λK hK=>?_|refine aB ?_|refine aC ?_|(refine hK.n0 ?_;clear hK K)|refine aZ (λh=>?_) λh=>?_|refine aA rfl (λh=>?_) λh=>?_|refine hK.c1 rfl rfl rfl (c1) ?_|refine hK.c1 rfl rfl rfl (c2) ?_|apply tTT
  all_goals exact absurd ⟨(by assumption),(by assumption)⟩ hnb
def aWk:List (Nat×List Nat):=[(0,[1,2,3]),(1,[1,2,3,12,13,14]),(2,[1,2,3,12,13,14,15]),(3,[1,2,3,8,12,13,14]),(4,[1,2,3,9,10,12,13,14]),(5,[1,2,3,12,13,14,37]),(6,[6]),(7,[1,2,3,12,13,14]),(8,[6])]
attribute [go_sem] aWk Tryz.results68 Tryz.ntmps68
def aTI:List (Nat×List Nat):=[(0,[1,2]),(1,[1,2,5]),(2,[4])]
attribute [go_sem] aTI Tryz.results132 Tryz.ntmps132
theorem aDc(rs:List Int)(ps:List PolyT)(hn:rs.length≤1000):FC S 132 [] [] [] [.agg [.sl .any (rs.map (.int .i64))],.sl .any (ps.map bP)] (.bool (tst (fU rs ps))) [] []:=by
 refine fcb Tryz.func132 λB=>?_;refine b6 0 0 λhb0_0=>?_;refine bM 1 λhb1=>?_;repeat' first|exact h.elim|apply aG|refine aE 0 aTI λK hK=>?_|refine aU aTI (by kernel_rfl) λK hK=>?_|refine aB ?_|refine aQ ?_|refine aC ?_|(refine hK.n0 ?_;clear hK K)|refine bH (λh=>?_) λh=>?_|refine hK.skp rfl rfl ?_|refine hK.c1 rfl rfl rfl (tF rs (ps.take rs.length)) ?_|refine hK.c1 rfl rfl rfl (tF rs (ps.drop rs.length)) ?_|with_reducible refine aH ?_|apply tTT
 all_goals first|exact λhm=>absurd hm.1 (by omega)|exact λhm=>absurd hm.2.1 (by assumption)|exact λhm=>absurd hm.2.2 (by assumption)|exact⟨by omega,by assumption,by assumption⟩|exact⟨λh=>⟨by omega,by assumption,h⟩,λh=>h.2.2⟩|skip
theorem fU.ps{rs:List Int}{ps:List PolyT}(h:fU rs ps):aFR rs ps:=by
 refine⟨⟨h.2.1.1.1,by have:=h.1;omega⟩,λf hf=>?_⟩;have h1:=h.2.1.2 f (by rw[h.2.1.1.2];exact hf);rwa [zD (l:=ps.take _),List.getElem?_take,if_pos hf,←zD] at h1
theorem vH{rs:List Int}{ps:List PolyT}:∀f t,aT rs t->b5 rs (ps.take rs.length) f t=b5 rs ps f t
 | 0,_,_=>by unfold b5;rfl
 | f+1,t,ht=>by
  have hl:=ht.low (show 0<t.length from ht.2.1.1);by_cases h:t.getD 0 default<0
  ·rw[l8 h,l8 h]
  ·rw[nE h,nE h];have e:(ps.take rs.length).getD (t.getD 0 default).toNat default=ps.getD (t.getD 0 default).toNat default:=by
    rw[zD,List.getElem?_take,if_pos (by have:=hl.1.2;omega),←zD]
   rw[e];exact tM (λj hj=>by show (b5 rs (ps.take rs.length) f (lC rs t j)).1=(b5 rs ps f (lC rs t j)).1;rw[vH f _ (j5 ht hj).1]) λj hj=>by show (b5 rs (ps.take rs.length) f (lC rs t j)).2=(b5 rs ps f (lC rs t j)).2;rw[vH f _ (j5 ht hj).1]
theorem aS0{rs:List Int}{ps:List PolyT}{t:List Int}(ht:aT rs t):aHw rs ps rs.length 60 t=fL rs ps t:=by
 by_cases h:t.getD 0 default<0
 ·rw[aBG h,aB6 h]
 ·rw[aBi h,aCq h,Int.add_comm];exact tM (λj hj=>by show (b5 rs ps 60 (lC rs t j)).1=(b5 rs (ps.take rs.length) 60 (lC rs t j)).1;rw[vH 60 _ (j5 ht hj).1]) λj hj=>by show (b5 rs ps 60 (lC rs t j)).2=(b5 rs (ps.take rs.length) 60 (lC rs t j)).2;rw[vH 60 _ (j5 ht hj).1]
def aXV:List (Nat×List Nat):=[(0,[1,2,3,6]),(1,[6,7])]
attribute [go_sem] aXV Tryz.results133 Tryz.ntmps133
theorem aL2(rs:List Int)(ps:List PolyT)(t:List Int)(hM:fU rs ps)(hT:aT rs t):FC S 133 [] [] [] [.agg [.sl .any (rs.map (.int .i64))],.sl .any (ps.map bP),.sl .any (t.map (.int .i64))] (.tup [bP (fL rs ps t).1,.bool (fL rs ps t).2]) [] []:=by
 have hl:=hT.low (show 0<t.length from hT.2.1.1);have hs:=hM.ps.1.1.1;have hm:=hM.1;have c:=xR rs ps t hT hM.ps rs.length (by omega) 60 0 hT.2.1.1 (λh=>⟨by omega,by rw[Int.add_comm];exact aCm hM h hl.1.2⟩) (λq h1 h2 h3=>aGX rs ps t hT hM.ps 60 q h2 h3) (by rw[mF hT];have:=hT.2.1.2;omega);rw[mF hT,aS0 hT] at c;refine fcb Tryz.func133 λB=>?_;repeat' first|apply aG|refine aE 0 aXV λK hK=>?_|refine aB ?_|refine aC ?_|(refine hK.n0 ?_;clear hK K)|refine hK.c1 rfl rfl rfl (c) ?_|apply tTT
def aX1:List (Nat×List Nat):=[(0,[1,2,3,6]),(1,[1,2,3,6,17]),(2,[6,7]),(3,[6,7])]
attribute [go_sem] aX1 Tryz.results108 Tryz.ntmps108
theorem sW(rs:List Int)(ps:List PolyT)(t:List Int)(hM:fU rs ps)(hT:aT rs t):FC S 108 [] [] [] [.agg [.sl .any (rs.map (.int .i64))],.sl .any (ps.map bP),.sl .any (t.map (.int .i64))] (.tup [bP (fL rs ps t).1,.bool (fL rs ps t).2]) [] []:=by
 have hs:=hT.1.1;refine fcb Tryz.func108 λB=>?_;repeat' first|exact h.elim|(exact absurd hM (by assumption))|(exact absurd hT (by assumption))|apply aG|refine aE 0 aX1 λK hK=>?_|refine aB ?_|refine aC ?_|(refine hK.n0 ?_;clear hK K)|refine aZ (λh=>?_) λh=>?_|refine aA rfl (λh=>?_) λh=>?_|refine hK.c1 rfl rfl rfl (aDc _ _ (by omega)) ?_|refine hK.c1 rfl rfl rfl (xK _ _ _ _) ?_|refine hK.c1 rfl rfl rfl (aL2 rs ps t hM hT) ?_|apply tTT
open Classical in
noncomputable def aTZ(rs:List Int)(ps:List PolyT)(p:DepPairT):Bool×Bool:=if (fL rs ps p.r).2=true/\(fL rs ps p.l).2=true then aHs (fL rs ps p.r).1 (fL rs ps p.l).1 else (false,false)
theorem aQT{rs:List Int}{ps:List PolyT}{p:DepPairT}:(aTZ rs ps p).2=tst (xO rs ps p):=by
 unfold aTZ xO;split
 ·rename_i h;by_cases hm:xJ (fL rs ps p.r).1 (fL rs ps p.l).1
  ·rw[vI hm];exact lY ⟨λe=>⟨h,hm,e⟩,λe=>e.2.2⟩
  ·rw[aBb hm,bV λe=>hm e.2.1]
 ·rename_i h;rw[bV λe=>h e.1]
theorem aR8{rs:List Int}{ps:List PolyT}{p:DepPairT}:(aTZ rs ps p).1=tst (aCS rs ps p):=by
 unfold aTZ aCS;split
 ·rename_i h;by_cases hm:xJ (fL rs ps p.r).1 (fL rs ps p.l).1
  ·rw[vI hm];exact lY ⟨λe=>⟨h,hm,e⟩,λe=>e.2.2⟩
  ·rw[aBb hm,bV λe=>hm e.2.1]
 ·rename_i h;rw[bV λe=>h e.1]
def aZb:List (Nat×List Nat):=[(0,[1,3,5]),(1,[1,3,5,8,9]),(2,[8,9,10,11]),(3,[8,10,33]),(4,[6,7]),(5,[6,7])]
attribute [go_sem] aZb Tryz.results69 Tryz.ntmps69
theorem aFC(rs:List Int)(ps:List PolyT)(p:DepPairT)(hM:fU rs ps)(hp:kS rs p):FC S 69 [] [] [] [.agg [.sl .any (rs.map (.int .i64))],.sl .any (ps.map bP),bN p] (.tup [.bool (tst (aCS rs ps p)),.bool (tst (xO rs ps p))]) [] []:=by
 have c1:=sW rs ps p.r hM hp.1.2;have c2:=sW rs ps p.l hM hp.1.1;rw[←aQT,←aR8];unfold aTZ;generalize fL rs ps p.r=a at *;generalize fL rs ps p.l=b at *;obtain⟨a,oa⟩:=a;obtain⟨b,ob⟩:=b;dsimp only at c1 c2 ⊢;by_cases hnb:oa=true/\ob=true
 ·rw[if_pos hnb];obtain⟨rfl,rfl⟩:=hnb;refine fcb Tryz.func69 λB=>?_;repeat' first|exact h.elim|apply aG|refine aE 0 aZb λK hK=>?_|refine aB ?_|refine aC ?_|(refine hK.n0 ?_;clear hK K)|refine aA rfl (λh=>?_) λh=>?_|refine hK.c1 rfl rfl rfl (c1) ?_|refine hK.c1 rfl rfl rfl (c2) ?_|refine hK.c1 rfl rfl rfl (aHr a b) ?_|apply tTT
 ·rw[if_neg hnb];refine fcb Tryz.func69 λB=>?_;repeat' first|exact h.elim|(exact absurd ⟨(by assumption),(by assumption)⟩ hnb)|apply aG|refine aE 0 aZb λK hK=>?_|refine aB ?_|refine aC ?_|(refine hK.n0 ?_;clear hK K)|refine aZ (λh=>?_) λh=>?_|refine aA rfl (λh=>?_) λh=>?_|refine hK.c1 rfl rfl rfl (c1) ?_|refine hK.c1 rfl rfl rfl (c2) ?_|apply tTT
  all_goals exact absurd ⟨(by assumption),(by assumption)⟩ hnb
end
end Go.Proofs.YtmfmgoceeedonaaGreat
