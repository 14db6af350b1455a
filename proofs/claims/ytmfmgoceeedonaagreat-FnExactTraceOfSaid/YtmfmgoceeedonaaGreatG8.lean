/-
  K11p, K2, K3, Q2, Q2s, one behind the other.
-/
import Derived.Test.YtmfmgoceeedonaaGreatG7
import Derived.Test.YtmfmgoceeedonaaGreatG3
import Derived.Test.YtmfmgoceeedonaaGreatLgK10
namespace Go.Proofs.YtmfmgoceeedonaaGreat
open Go Go.Lg
set_option linter.unusedSimpArgs false
set_option linter.unusedVariables false
set_option maxHeartbeats 4000000
section
def tA:List (List Int)->Nat
 | []=>0
 | q::r=>q.length+tA r
theorem aDU:∀A B:List (List Int),tA (A++B)=tA A+tA B
 | [],B=>by simp[tA]
 | a::A,B=>by simp only[List.cons_append,tA,aDU A B];omega
theorem aHf{α:Type}(A B:α->Bool):∀l:List α,(∀x∈l,A x=true->B x=false)->(l.filter A).length+(l.filter B).length=(l.filter λx=>A x||B x).length
 | [],_=>rfl
 | x::l,h=>by
  have ih:=aHf A B l λy hy=>h y (zG _ hy);have hx:=h x zH;cases hA:A x with
  | true =>
   rw[List.filter_cons_of_pos hA,List.filter_cons_of_neg (by rw[hx hA];simp),List.filter_cons_of_pos (by simp[hA])];simp only[List.length_cons];omega
  | false =>
   cases hB:B x with
   | true =>
    rw[List.filter_cons_of_neg (by rw[hA];simp),List.filter_cons_of_pos hB,List.filter_cons_of_pos (by simp[hB])];simp only[List.length_cons];omega
   | false =>
    rw[List.filter_cons_of_neg (by rw[hA];simp),List.filter_cons_of_neg (by rw[hB];simp),List.filter_cons_of_neg (by simp[hA,hB])];exact ih
theorem aPv{C:Nat->Nat->Bool}{set:List Int}(ht:∀a∈dH set,∀b∈dH set,∀c∈dH set,fC C a b=true->fC C c b=true->fC C c a=true) :
  ∀k,k≤set.length->tA (cmp C set k)≤(set.filter λq=>(List.range k).any λi=>tst (okC C set i)&&fC C (set.getD i default).toNat q.toNat).length
 | 0,_=>Nat.zero_le _
 | k+1,hk=>by
  have ih:=aPv ht k (by omega);have hin:∀i,i<set.length->(set.getD i default).toNat∈dH set:=λi hi=>zJ.2 ⟨_,aX set i hi,rfl⟩;have hstep:(set.filter λq=>(List.range (k+1)).any λi=>tst (okC C set i)&&fC C (set.getD i default).toNat q.toNat)=set.filter λq=>((List.range k).any λi=>tst (okC C set i)&&fC C (set.getD i default).toNat q.toNat)||(tst (okC C set k)&&fC C (set.getD k default).toNat q.toNat):=by
   congr 1;funext q
   rw[List.range_succ,List.any_append];simp
  rw[hstep];by_cases h:okC C set k
  ·rw[aDs h,aDU,←aHf _ _ set (λq hq hA=>?_)]
   ·have h1:tA [uJ C (set.getD k default).toNat (set.drop k) (set.length-k)]≤(set.filter λq=>tst (okC C set k)&&fC C (set.getD k default).toNat q.toNat).length:=by
     simp only[tA,Nat.add_zero,uJ,b8 h,Bool.true_and];exact(((List.take_sublist _ _).trans (List.drop_sublist k set)).filter _).length_le
    omega
   ·rw[b8 h,Bool.true_and];obtain⟨i,hi,hi2⟩:=List.any_eq_true.1 hA;have hi:=List.mem_range.1 hi;simp only[Bool.and_eq_true] at hi2;cases hB:fC C (set.getD k default).toNat q.toNat with
    | false=>rfl
    | true =>
     have:=ht _ (hin i (by omega)) q.toNat (zJ.2 ⟨q,hq,rfl⟩) _ (hin k (by omega)) hi2.2 hB;rw[h.2 i hi] at this;cases this
  ·rw[aD5 h,bV h];simpa using ih
theorem v5{edges:List (List Int)}{set:List Int}:tA (eK edges set)≤set.length:=by
 have htc:∀a∈dH set,∀b∈dH set,wM (dH set) (r0 edges set) set.length a b=true↔TC (r0 edges set) a b:=λa ha b hb=>by
  have:=aXR (r:=r0 edges set) (ps:=dH set) (λp q h=>aUu h) ha hb;rwa [aAE] at this
 have hb:∀a∈dH set,∀b∈dH set,fC (wM (dH set) (r0 edges set) set.length) a b=true↔TC (r0 edges set) a b/\TC (r0 edges set) b a:=λa ha b hb=>by
  unfold fC;rw[Bool.and_eq_true,htc a ha b hb,htc b hb a ha]
 refine Nat.le_trans (aPv (λa ha b hb' c hc h1 h2=>?_) _ (zQ _)) (List.length_filter_le _ _);rw[hb a ha b hb'] at h1;rw[hb c hc b hb'] at h2;rw[hb c hc a ha];exact⟨h2.1.trans h1.2,h1.1.trans h2.2⟩
noncomputable def jM(x:SystemT)(q:List Int):PairStepT×Bool :=
 match g9 x.sig (bI x) q with
 | some pr=>(⟨q,pr,[],(jR x.sig (bI x) q pr).1⟩,true)
 | none=>match iN x (bI x) q with
  | some l=>(⟨q,[],lH x.sig l,(wR x.sig (bI x) q (lH x.sig l)).1⟩,true)
  | none=>(⟨[],[],[],[]⟩,false)
theorem rQ{x:SystemT}{q pr:List Int}(h:g9 x.sig (bI x) q=some pr):jM x q=(⟨q,pr,[],(jR x.sig (bI x) q pr).1⟩,true):=by unfold jM;rw[h]
theorem rX{x:SystemT}{q l:List Int}(h:g9 x.sig (bI x) q=none)(h2:iN x (bI x) q=some l):jM x q=(⟨q,[],lH x.sig l,(wR x.sig (bI x) q (lH x.sig l)).1⟩,true):=by unfold jM;rw[h,h2]
theorem aAM{x:SystemT}{q:List Int}(h:g9 x.sig (bI x) q=none)(h2:iN x (bI x) q=none):jM x q=(⟨[],[],[],[]⟩,false):=by unfold jM;rw[h,h2]
theorem aPJ{q gone:List Int}(h:gone≠[])(hs:∀y∈gone,y∈q):(gR q gone).length<q.length:=by
 obtain⟨y,r,rfl⟩:=List.exists_cons_of_ne_nil h;have hy:=hs y zH;have hf:(λn:Int=>decide (n∉y::r)) y=false:=by simp
 exact List.length_filter_lt_length_iff_exists.2 ⟨y,hy,by simp⟩
theorem aMt(rs:List Int)(P:List DepPairT)(set proj:List Int):∀i≤set.length,∀y∈jL rs P set proj i,y∈set
 | 0,_,y,hy=>by cases hy
 | i+1,hi,y,hy=>by
  by_cases h:tY rs proj (P.getD (set.getD i default).toNat default)
  ·rw[aIY h] at hy;rcases zP.1 hy with hy|hy
   ·exact aMt rs P set proj i (by omega) y hy
   ·rw[zN.1 hy];exact aX set i (by omega)
  ·rw[aPr h] at hy;exact aMt rs P set proj i (by omega) y hy
theorem aME(rs:List Int)(P:List DepPairT)(set:List Int)(ps:List PolyT):∀i≤set.length,∀y∈wL rs P set ps i,y∈set
 | 0,_,y,hy=>by cases hy
 | i+1,hi,y,hy=>by
  by_cases h:xO rs ps (P.getD (set.getD i default).toNat default)
  ·rw[aJl h] at hy;rcases zP.1 hy with hy|hy
   ·exact aME rs P set ps i (by omega) y hy
   ·rw[zN.1 hy];exact aX set i (by omega)
  ·rw[aO9 h] at hy;exact aME rs P set ps i (by omega) y hy
theorem aMb{rs:List Int}{P:List DepPairT}{q pr:List Int}(h:g9 rs P q=some pr):QJ rs P q pr/\¬aKP rs (gB P q q.length) rs.length/\pr∈iO (bsP rs (gB P q q.length)):=by
 by_cases hb:aKP rs (gB P q q.length) rs.length
 ·rw[xZ hb] at h;cases h
 ·rw[aBV hb] at h;exact⟨(nM h).2,hb,(nM h).1⟩
theorem aEC{x:SystemT}{P:List DepPairT}{q l:List Int}(h:iN x P q=some l):QM x P q l/\l∈iO (upD (iP x.sig (gB P q q.length))):=by
 by_cases hp:g6 (iP x.sig (gB P q q.length)) (iP x.sig (gB P q q.length)).length≤20000
 ·rw[yL hp] at h;exact⟨(nM h).2,(nM h).1⟩
 ·rw[aCn hp] at h;cases h
theorem aNK{x:SystemT}{q:List Int}(h:(jM x q).2=true):(gR q (jM x q).1.gone).length<q.length:=by
 cases hj:g9 x.sig (bI x) q with
 | some pr =>
  rw[rQ hj];obtain⟨⟨h1,h2⟩,_⟩:=aMb hj;by_cases hA:aU0 x.sig (bI x) q pr
  ·rw[aH6 hA] at h2 ⊢;exact aPJ (λe=>by have e:jL x.sig (bI x) q pr q.length=[]:=e;rw[e] at h2;simp at h2) (aMt _ _ _ _ _ (zQ _))
  ·rw[aP5 hA] at h1;cases h1
 | none =>
  cases hm:iN x (bI x) q with
  | some l =>
   rw[rX hj hm];obtain⟨⟨_,hA,hne⟩,_⟩:=aEC hm;rw[aDQ hA];exact aPJ hne (aME _ _ _ _ _ (zQ _))
  | none=>rw[aAM hj hm] at h;cases h
noncomputable def trF(x:SystemT)(gr:List (List Int)):Nat->List (List Int)->List PairStepT->List PairStepT×Bool
 | 0,_,out=>(out,true)
 | _+1,[],out=>(out,true)
 | f+1,q::r,out=>cond (jM x q).2 (trF x gr f (eK gr (gR q (jM x q).1.gone)++r) (out++[(jM x q).1])) ([],false)
theorem aO8{x:SystemT}{gr:List (List Int)}{f:Nat}{out:List PairStepT}:trF x gr (f+1) [] out=(out,true):=rfl
theorem aIP{x:SystemT}{gr:List (List Int)}{f:Nat}{q:List Int}{r:List (List Int)}{out:List PairStepT}(h:(jM x q).2=true):trF x gr (f+1) (q::r) out=trF x gr f (eK gr (gR q (jM x q).1.gone)++r) (out++[(jM x q).1]):=by rw[trF,h];rfl
theorem aOo{x:SystemT}{gr:List (List Int)}{f:Nat}{q:List Int}{r:List (List Int)}{out:List PairStepT}(h:(jM x q).2=false):trF x gr (f+1) (q::r) out=([],false):=by rw[trF,h];rfl
theorem aEo{x:SystemT}{gr:List (List Int)}{q:List Int}{r:List (List Int)}(h:(jM x q).2=true):tA (eK gr (gR q (jM x q).1.gone)++r)<tA (q::r):=by
 have h1:=aNK h;have h2:=@v5 gr (gR q (jM x q).1.gone);rw[aDU];simp only[tA];omega
open Classical in
noncomputable def uK(x:SystemT):List PairStepT×Bool:=if gK x then trF x (eG x (bI x) (bI x).length) 65 (eK (eG x (bI x) (bI x).length) (upTo (bI x).length)) [] else ([],false)
theorem x5{x:SystemT}(h:gK x):uK x=trF x (eG x (bI x) (bI x).length) 65 (eK (eG x (bI x) (bI x).length) (upTo (bI x).length)) []:=if_pos h
theorem aBQ{x:SystemT}(h:¬gK x):uK x=([],false):=if_neg h
end
section
attribute [local irreducible] SW bA bC dM bZ FC dX toF d7 iC
theorem aYX{rs:List Int}{P:List DepPairT}{set:List Int}(hP:∀p∈P,kS rs p)(hS:gA set P.length):∀i<set.length,(0≤set.getD i default/\set.getD i default<P.length)/\kS rs (P.getD (set.getD i default).toNat default):=λi hi=>by
 have h:=(hS i hi).1;exact⟨h,hP _ (aX P _ (by omega))⟩
def aUr:List (Nat×List Nat):=[(0,[0,1]),(1,[0,1,5]),(2,[0,1,5,6]),(3,[0,1,5,6,11]),(5,[0,1,5,6]),(4,[0,1,5,6]),(6,[4])]
attribute [go_sem] aUr Tryz.results84 Tryz.ntmps84
theorem aCP(rs:List Int)(P:List DepPairT)(set:List Int)(hP:∀p∈P,kS rs p)(hS:gA set P.length)(hl:P.length≤64):FC S 84 [] [] [] [.sl .any (P.map bN),.sl .any (set.map (.int .i64))] (.sl .any ((hdL P set set.length).map (.int .i64))) [] []:=by
 have hsl:=l5 hS;have hat:=aYX hP hS;refine fcb Tryz.func84 λB=>?_;repeat' first|apply aG|refine aE 0 aUr λK hK=>?_|refine aB ?_|(refine hK.n0 ?_;clear hK K)|apply tTT
 refine aV (ι:=Nat) (λp=>[(5,.sl .any ((hdL P set p).map (.int .i64))),(6,.int .i64 p)]) (λp=>[]) (λp=>p≤set.length) (λp=>set.length-p) 0 cvB ?_ (λp hp=>?_);rotate_left
 simp only[go_sem];have hhl:=aPf P set p;by_cases hil:p<set.length
 ·obtain⟨h1,⟨⟨h2,h3⟩,_⟩⟩:=hat p hil;have h4:=h2.2.1;have h5:=h3.2.1;have h6:=aAq ((P.getD (set.getD p default).toNat default).l.getD 0 default) (hdL P set p);repeat' first|exact h.elim|(exfalso;omega)|apply aG|refine aE 0 aUr λK hK=>?_|refine aU aUr (by kernel_rfl) λK hK=>?_|refine aB ?_|refine aQ ?_|(refine hK.n0 ?_;clear hK K)|refine aA rfl (λh=>?_) λh=>?_|apply aF|refine hK.c1 rfl rfl rfl (pQ _ (hdL P set p) _ (by omega)) ?_|refine hK.c1 rfl rfl rfl (pQ _ (eX (hdL P set p) ((P.getD (set.getD p default).toNat default).l.getD 0 default)) _ (by omega)) ?_|with_reducible refine aH ?_|apply tTT
  exact⟨p+1,cvB,by omega,by omega⟩
 ·obtain rfl:p=set.length:=by omega
  repeat' first|exact h.elim|(exfalso;omega)|apply aG|refine aE 0 aUr λK hK=>?_|refine aB ?_|refine aC ?_|(refine hK.n0 ?_;clear hK K)|refine aA rfl (λh=>?_) λh=>?_|refine aJ rfl ?_|apply tTT
 ·exact Nat.zero_le _
def aVb:List (Nat×List Nat):=[(0,[0]),(1,[3]),(2,[2]),(3,[2])]
attribute [go_sem] aVb Tryz.results118 Tryz.ntmps118
theorem aR5(b:Bool):FC S 118 [] [] [] [.bool b] (.int .i64 (if b=true then 1 else 0)) [] []:=by
 cases b
 ·skip
  refine fcb Tryz.func118 λB=>?_;repeat' first|exact h.elim|apply aG|refine aE 0 aVb λK hK=>?_|refine aB ?_|refine aC ?_|(refine hK.n0 ?_;clear hK K)|refine aA rfl (λh=>?_) λh=>?_|apply tTT
 ·skip
  refine fcb Tryz.func118 λB=>?_;repeat' first|exact h.elim|apply aG|refine aE 0 aVb λK hK=>?_|refine aB ?_|refine aC ?_|(refine hK.n0 ?_;clear hK K)|refine aA rfl (λh=>?_) λh=>?_|apply tTT
def aZ2:List (Nat×List Nat):=[(0,[0,1]),(1,[0,1,12]),(2,[4]),(3,[4])]
attribute [go_sem] aZ2 Tryz.results89 Tryz.ntmps89
theorem aLc(n m:Int)(hn:-1≤n/\n≤20000)(hm:1≤m/\m≤2):FC S 89 [] [] [] [.int .i64 n,.int .i64 m] (.int .i64 (if n<0∨20000<n*m then -1 else n*m)) [] []:=by
 have hnm:-2≤n*m/\n*m≤40000:=by
  rcases (show m=1∨m=2 by omega) with rfl|rfl<;>omega
 generalize hq:n*m=q at *;refine fcb Tryz.func89 λB=>?_;repeat' first|exact h.elim|(rw[hq])|apply aG|refine aE 0 aZ2 λK hK=>?_|refine aB ?_|refine aC ?_|(refine hK.n0 ?_;clear hK K)|refine aZ (λh=>?_) λh=>?_|refine aA rfl (λh=>?_) λh=>?_|apply tTT
 all_goals first|(rw[if_pos (by omega)];done)|(rw[if_neg (by omega)];done)
def aGa:List (Nat×List Nat):=[(0,[1,2]),(1,[1,2,5]),(2,[1,2,5,6]),(3,[1,2,5,6,15]),(5,[1,2,5,6,7]),(6,[1,2,5,6,7,24]),(8,[1,2,5,6,7]),(7,[1,2,5,6,7]),(4,[1,2,5,6]),(9,[1,2,5,8]),(10,[1,2,5,8,34]),(12,[1,2,5,8]),(13,[1,2,5,8,9]),(14,[1,2,5,8,9,46]),(16,[1,2,5,8,9]),(15,[1,2,5,8,9]),(11,[1,2,5,8]),(17,[4])]
attribute [go_sem] aGa Tryz.results88 Tryz.ntmps88
theorem aOB(rs:List Int)(H:Int->Prop)(hs:List Int)(hh:∀f,f∈hs↔H f)(hS:eQ rs):FC S 88 [] [] [] [.agg [.sl .any (rs.map (.int .i64))],.sl .any (hs.map (.int .i64))] (.sl .any ((iP rs H).map (.int .i64))) [] []:=by
 have hs8:=hS.1.2;have cF:∀f:Nat,FC S 118 [] [] [] [.bool (tst ((f:Int)∈hs))] (.int .i64 (aDe H f)) [] []:=λf=>by
  have c:=aR5 (tst ((f:Int)∈hs));by_cases h1:H f
  ·rw[b8 ((hh f).2 h1)] at c ⊢;rw[aEq h1];exact c
  ·rw[bV λe=>h1 ((hh f).1 e)] at c ⊢;rw[aI0 h1];exact c
 refine fcb Tryz.func88 λB=>?_;repeat' first|apply aG|refine aE 0 aGa λK hK=>?_|refine aB ?_|(refine hK.n0 ?_;clear hK K)|apply tTT
 refine eF 5 30000 2 1 rfl (.inr rfl) rfl ?_;simp only[go_sem];refine bG (ι:=Nat) (λf=>[(6,.int .i64 f),(5,.sl (.own 30000 2 1) ((gC rs f).map (.int .i64)))]) (λ_=>[]) (λ_=>[30000]) (λf=>f≤rs.length) (λf=>rs.length-f) 0 cvB (by omega) (λf hf=>?_);simp only[go_sem];have hla:=j1 rs f;have hal:=tQ hS f hf;by_cases hfl:f<rs.length
 ·have har:=hS.2 f hfl;obtain⟨n,hn⟩:∃n:Nat,rs.getD f default=n:=⟨_,(Int.toNat_of_nonneg har.1).symm⟩;have hhA:gC rs (f+1)=gC rs f++List.replicate (n+1) 1:=by rw[gC,hn];rfl
  repeat' first|exact h.elim|(exfalso;omega)|apply aG|refine aE 0 aGa λK hK=>?_|refine aB ?_|(refine hK.n0 ?_;clear hK K)|refine aA rfl (λh=>?_) λh=>?_|apply tTT
  refine bG (ι:=Nat) (λk=>[(7,.int .i64 k),(5,.sl (.own 30000 2 1) ((gC rs f++List.replicate k 1).map (.int .i64)))]) (λ_=>[]) (λ_=>[30000]) (λk=>k≤n+1) (λk=>n+1-k) 0 (by(refine aD rfl rfl ?_ ?_ ?_ ?_<;>simp(disch:=apply aR;omega)only[go_sem]<;>(try omega));all_goals first|rfl|(simp;done)|exact⟨by simp,rfl⟩) (by omega) (λk hk=>?_);simp only[go_sem];have hll:(gC rs f++List.replicate k 1).length≤4*f+k:=by simp;omega
  by_cases hkl:k<n+1
  ·repeat' first|exact h.elim|(exfalso;omega)|apply aG|refine aE 0 aGa λK hK=>?_|refine aB ?_|(refine hK.n0 ?_;clear hK K)|refine aA rfl (λh=>?_) λh=>?_|apply aF|with_reducible refine aH ?_|((with_reducible refine And.intro ?_ ?_);· first|(intro x hx;subst hx;rfl)|(intro x;refine And.intro ?_ ?_<;>(intros;subst_vars;rfl)))|apply tTT
   exact⟨k+1,(by(refine aD rfl rfl ?_ ?_ ?_ ?_<;>simp(disch:=apply aR;omega)only[go_sem]<;>(try omega));rw[List.replicate_succ',←List.append_assoc];exact⟨rfl,by omega⟩),by omega,by omega⟩
  ·obtain rfl:k=n+1:=by omega
   repeat' first|exact h.elim|(exfalso;omega)|apply aG|refine aE 0 aGa λK hK=>?_|refine aB ?_|(refine hK.n0 ?_;clear hK K)|refine aA rfl (λh=>?_) λh=>?_|refine aJ rfl ?_|apply aF|with_reducible refine aH ?_|apply tTT
   exact⟨f+1,(by(refine aD rfl rfl ?_ ?_ ?_ ?_<;>simp(disch:=apply aR;omega)only[go_sem]<;>(try omega));rw[hhA];exact⟨rfl,by omega⟩),by omega,by omega⟩
 ·obtain rfl:f=rs.length:=by omega
  repeat' first|exact h.elim|(exfalso;omega)|apply aG|refine aE 0 aGa λK hK=>?_|refine aB ?_|(refine hK.n0 ?_;clear hK K)|refine aA rfl (λh=>?_) λh=>?_|refine aJ rfl ?_|apply tTT
  refine bG (ι:=Nat) (λf=>[(8,.int .i64 f),(5,.sl (.own 30000 2 1) ((gC rs rs.length++f0 rs H f).map (.int .i64)))]) (λ_=>[]) (λ_=>[30000]) (λf=>f≤rs.length) (λf=>rs.length-f) 0 (by(refine aD rfl rfl ?_ ?_ ?_ ?_<;>simp(disch:=apply aR;omega)only[go_sem]<;>(try omega));all_goals first|rfl|(simp[f0];done)|exact⟨by simp[f0],rfl⟩) (by omega) (λf hf=>?_);simp only[go_sem];have hlb:=nP rs H f;have hbl:=tQ hS f hf;by_cases hfl:f<rs.length
  ·have har:=hS.2 f hfl;obtain⟨n,hn⟩:∃n:Nat,rs.getD f default=n:=⟨_,(Int.toNat_of_nonneg har.1).symm⟩;have hhB:f0 rs H (f+1)=f0 rs H f++0::List.replicate n (aDe H f):=by rw[f0,hn];rfl
   have hl0:(gC rs rs.length++f0 rs H f).length≤4*rs.length+4*f:=by simp;omega
   repeat' first|exact h.elim|(refine kL 40000 30000 rfl rfl ?_;simp only[go_sem])|(exfalso;omega)|apply aG|refine aE 0 aGa λK hK=>?_|refine aB ?_|(refine hK.n0 ?_;clear hK K)|refine aA rfl (λh=>?_) λh=>?_|with_reducible refine aH ?_|((with_reducible refine And.intro ?_ ?_);· first|(intro x hx;subst hx;rfl)|(intro x;refine And.intro ?_ ?_<;>(intros;subst_vars;rfl)))|apply tTT
   refine bG (ι:=Nat) (λk=>[(9,.int .i64 k),(5,.sl (.own 30000 2 1) ((gC rs rs.length++f0 rs H f++0::List.replicate k (aDe H f)).map (.int .i64)))]) (λ_=>[]) (λ_=>[30000]) (λk=>k≤n) (λk=>n-k) 0 (by(refine aD rfl rfl ?_ ?_ ?_ ?_<;>simp(disch:=apply aR;omega)only[go_sem]<;>(try omega));all_goals first|rfl|(simp;done)|exact⟨by simp,rfl⟩) (by omega) (λk hk=>?_);simp only[go_sem];have hll:(gC rs rs.length++f0 rs H f++0::List.replicate k (aDe H f)).length≤4*rs.length+4*f+k+1:=by simp;omega
   have c1:=cF f;have hz1:gC rs rs.length++f0 rs H f++0::List.replicate (k+1) (aDe H f)=(gC rs rs.length++f0 rs H f++0::List.replicate k (aDe H f))++[aDe H f]:=by rw[List.replicate_succ',←List.cons_append,←List.append_assoc]
   by_cases hkl:k<n
   ·generalize gC rs rs.length++f0 rs H f++0::List.replicate k (aDe H f)=zs at hll hz1 ⊢;repeat' first|exact h.elim|(refine kL 56000 30000 rfl rfl ?_;simp only[go_sem])|(exfalso;omega)|apply aG|refine aE 0 aGa λK hK=>?_|refine aB ?_|(refine hK.n0 ?_;clear hK K)|refine aA rfl (λh=>?_) λh=>?_|apply aF|refine hK.c1 rfl rfl rfl (iI _ _ _) ?_|refine hK.c1 rfl rfl rfl (c1) ?_|with_reducible refine aH ?_|apply tTT
    exact⟨k+1,(by(refine aD rfl rfl ?_ ?_ ?_ ?_<;>simp(disch:=apply aR;omega)only[go_sem]<;>(try omega));rw[hz1];exact⟨rfl,by omega⟩),by omega,by omega⟩
   ·obtain rfl:k=n:=by omega
    repeat' first|exact h.elim|(exfalso;omega)|apply aG|refine aE 0 aGa λK hK=>?_|refine aB ?_|(refine hK.n0 ?_;clear hK K)|refine aA rfl (λh=>?_) λh=>?_|refine aJ rfl ?_|apply aF|with_reducible refine aH ?_|apply tTT
    exact⟨f+1,(by(refine aD rfl rfl ?_ ?_ ?_ ?_<;>simp(disch:=apply aR;omega)only[go_sem]<;>(try omega));rw[hhB,←List.append_assoc];exact⟨rfl,by omega⟩),by omega,by omega⟩
  ·obtain rfl:f=rs.length:=by omega
   repeat' first|exact h.elim|(exfalso;omega)|apply aG|refine aE 0 aGa λK hK=>?_|refine aB ?_|refine aC ?_|(refine hK.n0 ?_;clear hK K)|refine aA rfl (λh=>?_) λh=>?_|refine aJ rfl ?_|apply tTT
   rfl
def aSp:List (Nat×List Nat):=[(0,[0,1]),(1,[1,6]),(2,[1,6,7]),(3,[1,6,7,14]),(5,[1,6,7,25]),(6,[6]),(7,[4,5]),(8,[1,6,7]),(4,[1,6,7]),(9,[4,5])]
attribute [go_sem] aSp Tryz.results93 Tryz.ntmps93
theorem aEK(hs xs:List Int)(he:xs.length=hs.length)(hne:xs≠[])(hl:xs.length≤100)(hx:∀x∈xs,0≤x/\x≤1000):FC S 93 [] [] [] [.sl .any (xs.map (.int .i64)),.sl .any (hs.map (.int .i64))] (.tup [.sl .any ((lL (upD hs) xs).1.map (.int .i64)),.bool (lL (upD hs) xs).2]) [] []:=by
 have hlu:xs.length=(upD hs).length:=by rw[kN,he]
 refine FC.args (args':=[.sl .any (xs.map (.int .i64)),.sl .any (hs.map (.int .i64))]) ?_ (by simp only[go_sem]);refine fcb Tryz.func93 λB=>?_;refine bM 0 λhb0=>?_;repeat' first|apply aG|refine aE 0 aSp λK hK=>?_|refine aB ?_|(refine hK.n0 ?_;clear hK K)|refine hK.cT rfl rfl rfl (aGO .any xs (by omega)) ?_|apply tTT
 refine aV (ι:=Nat) (λp=>[(7,.int .i64 (p-1:Int))]) (λp=>[(9,(stD (upD hs) xs p).map (.int .i64))]) (λp=>p≤xs.length/\tG (upD hs) xs p) (λp=>p) xs.length (by(refine aD rfl rfl ?_ ?_ ?_ ?_<;>simp(disch:=apply aR;omega)only[go_sem]<;>(try omega));rw[aIw hlu]) ?_ (λp hp=>?_);rotate_left
 simp only[go_sem];obtain⟨hp1,hp2⟩:=hp;have hlen:=aHU hlu hp1;cases p with
 | zero =>
  have hz:=aNX hlu hp2;rw[hz];repeat' first|exact h.elim|(refine kZ 9 6 1 .any ((stD (upD hs) xs 0).map (.int .i64)) rfl rfl (dA _).symm (by simp[hlen]) (fI λ_=>rfl) (fJ _) (.inl rfl) ?_;simp only[go_sem])|apply aG|refine aE 0 aSp λK hK=>?_|refine aU aSp (by kernel_rfl) λK hK=>?_|refine aB ?_|refine aQ ?_|refine aC ?_|(refine hK.n0 ?_;clear hK K)|refine aA rfl (λh=>?_) λh=>?_|refine aJ rfl ?_|apply aF|with_reducible refine aH ?_|apply tTT
  ·exfalso;omega
  ·exfalso;omega
 | succ k =>
  have hk:k<xs.length:=by omega
  have hg:=aH3 hlu hk;have hxk:=hx _ (aX xs k hk);have hlt:k<(stD (upD hs) xs (k+1)).length:=by omega
  have hkh:k<hs.length:=by omega
  have hi:((k+1:Nat):Int)-1=(k:Int):=by omega
  have hl2:((stD (upD hs) xs (k+1)).set k ((stD (upD hs) xs (k+1)).getD k default+1)).length=xs.length:=by rw[List.length_set];exact hlen
  have hbk:=aY0 hs hkh;rw[hi];repeat' first|exact h.elim|(refine kZ 7 6 1 .any (((stD (upD hs) xs (k+1)).set k ((stD (upD hs) xs (k+1)).getD k default+1)).map (.int .i64)) rfl rfl (dA _).symm (by simp[hlen]) (fI λ_=>rfl) (fJ _) (.inl rfl) ?_;simp only[go_sem])|apply aG|refine aE 0 aSp λK hK=>?_|refine aU aSp (by kernel_rfl) λK hK=>?_|refine aB ?_|refine aQ ?_|refine aC ?_|(refine hK.n0 ?_;clear hK K)|refine aA rfl (λh=>?_) λh=>?_|apply aF|with_reducible refine aH ?_|apply tTT
  ·rw[hg] at h ⊢;rw[aM7 hlu hk hp2 (by rw[hbk];exact h)];exact⟨rfl,rfl⟩
  ·rw[hg] at h;obtain⟨n1,n2⟩:=aO2 hlu hk hp2 (by rw[hbk];simpa using h);rw[hbk] at n2;refine⟨k,cvA,⟨by omega,n1⟩,by omega⟩
 ·exact⟨zQ _,aDL hlu⟩
def aTS:List (Nat×List Nat):=[(0,[1,2]),(1,[1,2,5]),(2,[1,2,5,6]),(3,[1,2,5,6,7]),(4,[1,2,5,6,7,13]),(6,[1,2,5,6,7]),(7,[1,2,5,6,7]),(5,[1,2,5,6,7]),(8,[4])]
attribute [go_sem] aTS Tryz.results90 Tryz.ntmps90
theorem oX(rs xs:List Int)(hS:eQ rs)(hl:atN rs rs.length≤xs.length)(hx:xs.length≤1000):FC S 90 [] [] [] [.agg [.sl .any (rs.map (.int .i64))],.sl .any (xs.map (.int .i64))] (.sl .any ((iE rs xs).map bP)) [] []:=by
 have hs8:=hS.1.2;refine fcb Tryz.func90 λB=>?_;repeat' first|apply aG|refine aE 0 aTS λK hK=>?_|refine aB ?_|(refine hK.n0 ?_;clear hK K)|apply tTT
 refine eF 5 37000 108 2 rfl (.inr rfl) rfl ?_;simp only[go_sem];refine bG (ι:=Nat) (λf=>[(6,.int .i64 (atN rs f)),(7,.int .i64 f),(5,.sl (.own 37000 108 2) ((aBm rs xs f).map bP))]) (λ_=>[]) (λ_=>[37000]) (λf=>f≤rs.length) (λf=>rs.length-f) 0 cvB (by omega) (λf hf=>?_);simp only[go_sem];have hpl:=oK rs xs f;by_cases hfl:f<rs.length
 ·have har:=hS.2 f hfl;have hm:atN rs (f+1)≤atN rs rs.length:=qL rs hfl;have hm1:atN rs (f+1)=atN rs f+(rs.getD f default).toNat+1:=rfl;obtain⟨n,hn⟩:∃n:Nat,rs.getD f default=n:=⟨_,(Int.toNat_of_nonneg har.1).symm⟩;have hsl:List.drop (atN rs f+1) (List.take ((atN rs f:Int)+1+rs.getD f default).toNat xs)=(xs.drop (atN rs f+1)).take (rs.getD f default).toNat:=by
   rw[List.drop_take,show ((atN rs f:Int)+1+rs.getD f default).toNat-(atN rs f+1)=(rs.getD f default).toNat by omega]
  have hp1:aBm rs xs (f+1)=aBm rs xs f++[⟨xs.getD (atN rs f) default,List.drop (atN rs f+1) (List.take ((atN rs f:Int)+1+rs.getD f default).toNat xs)⟩]:=by rw[hsl];rfl
  repeat' first|exact h.elim|(exfalso;omega)|apply aG|refine aE 0 aTS λK hK=>?_|refine iG 0 aTS 20 (id:=6) (by kernel_rfl) λK hK=>?_|refine λ(K:KT) (hK:KOk S 0 _ _ _ K)=>?_|refine aB ?_|refine aQ ?_|(refine hK.n0 ?_;clear hK K)|refine aA rfl (λh=>?_) λh=>?_|apply aF|refine hK.c1 rfl rfl rfl (oJ _ (List.drop (atN rs f+1) (List.take ((atN rs f:Int)+1+rs.getD f default).toNat xs)) (by simp;omega)) ?_|with_reducible refine aH ?_|apply tTT
  exact⟨f+1,(by(refine aD rfl rfl ?_ ?_ ?_ ?_<;>simp(disch:=apply aR;omega)only[go_sem]<;>(try omega));rw[hp1,List.map_append];refine⟨rfl,?_,?_⟩<;>omega),by omega,by omega⟩
 ·obtain rfl:f=rs.length:=by omega
  repeat' first|exact h.elim|(exfalso;omega)|apply aG|refine aE 0 aTS λK hK=>?_|refine aB ?_|refine aC ?_|(refine hK.n0 ?_;clear hK K)|refine aA rfl (λh=>?_) λh=>?_|refine aJ rfl ?_|apply tTT
  rfl
def aZ3(rs:List Int)(pl:List PolyT):Option (List Int)->List PolyT×Bool
 | some c=>(pl++iE rs c,true)
 | none=>([],false)
theorem aPd{hs xs:List Int}(hh:∀h∈hs,0≤h/\h≤1)(h:pB (upD hs) xs):∀x∈xs,0≤x/\x≤1000:=λx hx=>by have:=aAB hh h x hx;omega
def aVC:List (Nat×List Nat):=[(0,[1,2,3,4,5]),(1,[1,2,3,4,5,12]),(2,[1,2,3,4,5,12,13]),(3,[1,2,3,4,5,12,22]),(4,[1,2,3,4,5,12,14]),(5,[1,2,3,4,5,12,14,15,16]),(6,[1,2,3,4,5,12,14,44]),(7,[10,11]),(8,[1,2,3,4,5,17,18]),(9,[1,2,3,4,5,12,18]),(10,[1,2,3,4,5,12,13]),(11,[10,11])]
attribute [go_sem] aVC Tryz.results92 Tryz.ntmps92
theorem aJB(x:SystemT)(P:List DepPairT)(set:List Int)(pl:List PolyT)(hs:List Int)(hsg:eQ x.sig)(hpl:dO x.sig pl)(hh:∀h∈hs,0≤h/\h≤1)(hl:hs.length=atN x.sig x.sig.length)(hP:∀p∈P,kS x.sig p)(hS:gA set P.length)(h64:P.length≤64)(o:Option (List Int))(ho:gI (GM x.sig P set pl) (iO (upD hs))=o):FC S 92 [] [] [] [bR x,.sl .any (P.map bN),.sl .any (set.map (.int .i64)),.sl .any (pl.map bP),.sl .any (hs.map (.int .i64))] (.tup [.sl .any ((aZ3 x.sig pl o).1.map bP),.bool (aZ3 x.sig pl o).2]) [] []:=by
 have hs8:=hsg.1.2;have hpl8:=hpl.1.2;have hat:=tQ hsg x.sig.length (zQ _);have hok:=yM hh;have hseq:=pP hok;have hdig:=kE hok;have hn0:hs≠[]:=by
  intro e;have h1:=qL x.sig (show 1≤x.sig.length from hsg.1.1);have h2:atN x.sig 1=0+(x.sig.getD 0 default).toNat+1:=rfl;rw[e] at hl;simp at hl;omega
 refine fcb Tryz.func92 λB=>?_;repeat' first|apply aG|refine aE 0 aVC λK hK=>?_|refine aB ?_|(refine hK.n0 ?_;clear hK K)|with_reducible refine aH ?_|apply tTT
 refine l6 12 1 .any ((List.replicate hs.length (0:Int)).map (.int .i64)) rfl rfl (by rw[iQ,dA,List.map_replicate]) (by simp) (fI λ_=>rfl) (by rw[iQ,←List.map_replicate (f:=D.int .i64)];exact fJ _) (.inl rfl) ?_;simp only[go_sem];refine aV (ι:=List (List Int)) (λp=>[(12,.sl .any ((p.headD (lF (upD hs))).map (.int .i64))),(13,.bool (!p.isEmpty))]) (λp=>[]) (λp=>(aA4 (upD hs) p/\∀c∈p,pB (upD hs) c)/\gI (GM x.sig P set pl) p=o) (λp=>p.length) (iO (upD hs)) (by(refine aD rfl rfl ?_ ?_ ?_ ?_<;>simp(disch:=apply aR;omega)only[go_sem]<;>(try omega));(obtain⟨r,hr⟩:=hseq.2;rw[hr];exact⟨by rw[List.headD_cons,aDu],rfl⟩)) ?_ (λp hp=>?_);rotate_left
 simp only[go_sem];obtain⟨⟨hq1,hq2⟩,hq3⟩:=hp;cases p with
 | nil =>
  obtain rfl:none=o:=hq3;simp only[List.isEmpty_nil,Bool.not_true];repeat' first|exact h.elim|apply aG|refine aE 0 aVC λK hK=>?_|refine aB ?_|refine aC ?_|(refine hK.n0 ?_;clear hK K)|refine aA rfl (λh=>?_) λh=>?_|refine aJ rfl ?_|apply tTT
  exact⟨rfl,rfl⟩
 | cons c r =>
  have hc:=hq2 c zH;have hcl:c.length=hs.length:=by rw[kG hc,kN]
  have hcb:=aPd hh hc;have hcp:=aIE hsg hh hl hc;obtain⟨hM,_⟩:=aCj hpl hcp;obtain⟨hn1,hn2⟩:=tH hq1;have hne:c≠[]:=by intro e;rw[e] at hcl;exact hn0 (List.length_eq_zero_iff.1 hcl.symm)
  simp only[List.headD_cons,List.isEmpty_cons,Bool.not_false];have cN:=aEK hs c hcl hne (by omega) hcb;rw[hn1] at cN;have cW:=xQ x P set (pl++iE x.sig c) hM hP hS h64;have hpd:(iE x.sig c).length=x.sig.length:=hcp.1.2;repeat' first|exact h.elim|(refine aB0 (id:=4) aVC [(false,[]),(true,[]),(false,[0,1]),(true,[]),(false,[3]),(true,[]),(false,[4,5,2]),(false,[2,6,6]),(false,[7,7,0,1,2,3,4,5,6,7])] ⟨55,[(1,.sl .any (P.map bN)),(2,.sl .any (set.map (.int .i64))),(3,.sl .any (pl.map bP)),(4,.sl .any (hs.map (.int .i64))),(5,.box 5 0),(12,.sl .any (c.map (.int .i64))),(14,.sl .any ((pl++iE x.sig c).map bP))],[(5,[.sl .any (x.sig.map (.int .i64)),.sl .any (x.rules.map fO)])],[],[],[]⟩ (by kernel_rfl) ?_ ?_;simp only[List.length_cons,List.length_nil,Nat.reduceAdd])|(refine pU ?_;simp only[vX,uY,aGQ,aGF,aG1,aG3,aBk,aBr,aB5,aCs,vL,wG,wU,aBp,aCv,true_and,and_true,Bool.not_false,Bool.not_true,Bool.and_true,Bool.and_false,Bool.true_and,Bool.false_and,Bool.or_false,Bool.false_or,Bool.true_or,Bool.or_true,Nat.reduceBEq,Nat.reduceAdd])|(refine vJ (by simp only[Nat.reduceLT]) rfl (by simp only[go_sem];exact rfl) ?_)|(refine aPh (by simp only[Nat.reduceLT]) rfl rfl rfl rfl (by decide) (by simp only[go_sem];exact rfl) ?_)|(refine hK.nil (vB ?_);clear hK K)|(refine qK ?_ ?_)|(refine j6 0 ?_;refine λ(K:List Oper->LS->Prop) (hK:KOk S 0 _ _ _ K)=>?_;simp(disch:=apply aR;omega)only[go_sem])|(refine qJ ?_;simp(disch:=apply aR;omega)only[go_sem];(refine aD rfl rfl ?_ ?_ ?_ ?_<;>simp(disch:=apply aR;omega)only[go_sem]<;>(try omega));done)|apply aG|refine aE 0 aVC λK hK=>?_|refine aB ?_|refine aC ?_|(refine hK.n0 ?_;clear hK K)|refine aZ (λh=>?_) λh=>?_|refine aA rfl (λh=>?_) λh=>?_|apply aF|refine hK.c1 rfl rfl rfl (oX x.sig c hsg (by omega) (by omega)) ?_|refine hK.c1 rfl rfl rfl (cW) ?_|refine hK.c1 rfl rfl rfl (cN) ?_|with_reducible refine aH ?_|apply tTT
  ·have hG:GM x.sig P set pl c:=aB2.2 ⟨by assumption,by assumption⟩;rw[j7 hG] at hq3;subst hq3;exact⟨rfl,rfl⟩
  ·have hG:¬GM x.sig P set pl c:=λe=>by have:=(aB2.1 e).2;omega
   rw[jK hG] at hq3;exact⟨r,cvA,⟨⟨hn2,λd hd=>hq2 d (zG _ hd)⟩,hq3⟩,by simp⟩
  ·have hG:¬GM x.sig P set pl c:=λe=>by
    have h1:=(aB2.1 e).1;simp_all
   rw[jK hG] at hq3;exact⟨r,cvA,⟨⟨hn2,λd hd=>hq2 d (zG _ hd)⟩,hq3⟩,by simp⟩
 ·exact⟨⟨hseq.1,hdig⟩,ho⟩
def tS(hs:List Int)(i:Nat):Int:=if g6 hs i≤20000 then g6 hs i else -1
theorem aYs{hs:List Int}(hh:∀h∈hs,0≤h/\h≤1){i:Nat}(hi:i≤hs.length):(-1≤tS hs i/\tS hs i≤20000)/\(0<tS hs i↔g6 hs i≤20000):=by
 have:=nR hh i hi;unfold tS;split<;>omega
theorem aXI{hs:List Int}(hh:∀h∈hs,0≤h/\h≤1){i:Nat}(hi:i<hs.length):(if tS hs i<0∨20000<tS hs i*(hs.getD i default+1) then -1 else tS hs i*(hs.getD i default+1))=tS hs (i+1):=by
 have h0:=nR hh i (by omega);have h1:=aOR hh hi;have e:g6 hs (i+1)=g6 hs i*(hs.getD i default+1):=rfl;unfold tS;by_cases h2:g6 hs i≤20000
 ·rw[if_pos h2,←e];by_cases h3:g6 hs (i+1)≤20000
  ·rw[if_neg (by omega),if_pos h3]
  ·rw[if_pos (by omega),if_neg h3]
 ·rw[if_neg h2,if_pos (by omega),if_neg (by omega)]
def aCt:List (Nat×List Nat):=[(0,[1,2]),(1,[1,2,6,7]),(2,[1,2,6,32]),(3,[4,5]),(4,[1,2,6,8]),(5,[1,2,6,8,9]),(6,[1,2,6,8,9,10]),(7,[1,2,6,8,9,10,43]),(9,[1,2,6,8,9,10]),(8,[1,2,6,8,9,10]),(10,[1,2,6,8,9,11]),(11,[1,2,6,8,9,11,12]),(12,[1,2,6,8,11,12,13]),(13,[1,2,6,8,11,12,60]),(14,[1,2,6,8,11,12,14]),(15,[1,2,6,8,11,12,14,67]),(16,[1,2,6,8,11,12,15,16]),(17,[1,2,6,8,11,12,15,79]),(18,[4,5]),(19,[1,2,6,8,11,17,18]),(20,[1,2,6,8,11,12,18]),(21,[1,2,6,8,11,12,13]),(22,[4,5])]
attribute [go_sem] aCt Tryz.results51 Tryz.ntmps51
theorem yK(x:SystemT)(set:List Int):FC S 51 [] [] [] [bR x,.sl .any (set.map (.int .i64))] (.tup [.sl .any ((aO7 x set).1.map bP),.bool (aO7 x set).2]) [] []:=by
 have cP:=jO x;rcases Classical.em (oD x set) with hW|hW
 ·rw[aHq hW];obtain⟨hx,hS⟩:=hW;rw[fW hx] at cP;have h12:=hx.1.1.2;have hsg:=hx.1.1.1;have hs8:=hsg.1.2;have h64:(bI x).length≤64:=hx.2;have hP:=mG hx;generalize hA:bI x=P at *;generalize hH:gB P set set.length=H at *;have hdl:=tU x.sig H;have htl:=aFg x.sig H;have hat:=tQ hsg x.sig.length (zQ _);have cM:=aOB x.sig H (hdL P set set.length) (λf=>by rw[←hH];exact aIL P set f _) hsg;have hfm:iN x P set=if g6 (iP x.sig H) (iP x.sig H).length≤20000 then tE (FM x P set) (iO (upD (gC x.sig x.sig.length))) else none:=by
   subst hH;split
   ·rename_i h1;rw[yL h1,aWT]
   ·rename_i h1;rw[aCn h1]
  refine fcb Tryz.func51 λB=>?_;repeat' first|exact h.elim|(exact absurd hS (by assumption))|apply aG|refine aE 0 aCt λK hK=>?_|refine aU aCt (by kernel_rfl) λK hK=>?_|refine aB ?_|refine aQ ?_|(refine hK.n0 ?_;clear hK K)|refine aA rfl (λh=>?_) λh=>?_|refine hK.c1 rfl rfl rfl (cP) ?_|refine hK.c1 rfl rfl rfl (jF set _ (by omega)) ?_|refine hK.c1 rfl rfl rfl (aCP x.sig P set hP hS h64) ?_|refine hK.c1 rfl rfl rfl (cM) ?_|apply tTT
  refine aV (ι:=Nat) (λp=>[(9,.int .i64 (tS (iP x.sig H) p)),(10,.int .i64 p)]) (λp=>[]) (λp=>p≤(iP x.sig H).length) (λp=>(iP x.sig H).length-p) 0 cvB ?_ (λp hp=>?_);rotate_left
  simp only[go_sem];have htb:=aYs hdl hp;by_cases hpl:p<(iP x.sig H).length
  ·have hd1:=hdl _ (aX (iP x.sig H) p hpl);repeat' first|exact h.elim|(exfalso;omega)|apply aG|refine aE 0 aCt λK hK=>?_|refine aB ?_|(refine hK.n0 ?_;clear hK K)|refine aA rfl (λh=>?_) λh=>?_|apply aF|refine hK.c1 rfl rfl rfl (aLc (tS (iP x.sig H) p) ((iP x.sig H).getD p default+1) htb.1 (by omega)) ?_|with_reducible refine aH ?_|apply tTT
   exact⟨p+1,(by(refine aD rfl rfl ?_ ?_ ?_ ?_<;>simp(disch:=apply aR;omega)only[go_sem]<;>(try omega));rw[aXI hdl hpl];exact⟨rfl,by omega⟩),by omega,by omega⟩
  ·obtain rfl:p=(iP x.sig H).length:=by omega
   have hq:IntKind.wrap .i64 (((iP x.sig H).length:Int).tdiv 2)=(atN x.sig x.sig.length:Int):=by
    rw[show ((iP x.sig H).length:Int).tdiv 2=(atN x.sig x.sig.length:Int) by rw[Int.tdiv_eq_ediv_of_nonneg (by omega)];omega];exact aPc (Om.mk (by omega))
   have hdrop:(iP x.sig H).drop (atN x.sig x.sig.length)=f0 x.sig H x.sig.length:=by rw[iP,←j1,List.drop_left]
   have htake:(iP x.sig H).take (atN x.sig x.sig.length)=gC x.sig x.sig.length:=by rw[iP,←j1,List.take_left]
   have hdA:=vG x.sig x.sig.length;have hlA:=j1 x.sig x.sig.length;have hdB:=v9 x.sig H x.sig.length;have hlB:=nP x.sig H x.sig.length;repeat' first|exact h.elim|(simp only[hq];simp only[go_sem])|(exfalso;omega)|apply aG|refine aE 0 aCt λK hK=>?_|refine aB ?_|(refine hK.n0 ?_;clear hK K)|refine aA rfl (λh=>?_) λh=>?_|refine aJ rfl ?_|with_reducible refine aH ?_|apply tTT
   refine l6 12 1 .any ((List.replicate (atN x.sig x.sig.length) (0:Int)).map (.int .i64)) rfl rfl (by rw[iQ,dA,List.map_replicate]) (by simp) (fI λ_=>rfl) (by rw[iQ,←List.map_replicate (f:=D.int .i64)];exact fJ _) (.inl rfl) ?_;simp only[go_sem];have hFa:∀a,mD x (iE x.sig a)->FM x P set a=(gI (GM x.sig P set (iE x.sig a)) (iO (upD (f0 x.sig H x.sig.length)))).map (a++·):=λa h=>by rw[aTq h,hH]
   have hseq:=pP (yM hdA);have hdig:=kE (yM hdA);have hat1:1≤atN x.sig x.sig.length:=by
    have h1:=qL x.sig (show 1≤x.sig.length from hsg.1.1);have h2:atN x.sig 1=0+(x.sig.getD 0 default).toNat+1:=rfl;omega
   generalize iN x P set=o at *;generalize gC x.sig x.sig.length=A at *;generalize f0 x.sig H x.sig.length=Bm at *;generalize iP x.sig H=T at *;have hst:List.replicate (atN x.sig x.sig.length) 0=(if g6 T T.length≤20000 then iO (upD A) else []).headD (List.replicate (atN x.sig x.sig.length) 0)/\decide (0<tS T T.length)=!(if g6 T T.length≤20000 then iO (upD A) else []).isEmpty:=by
    obtain⟨r0,hr0⟩:=hseq.2;by_cases hpr:g6 T T.length≤20000
    ·rw[if_pos hpr,hr0,List.headD_cons,aDu,hlA];exact⟨rfl,by simp[htb.2.2 hpr]⟩
    ·rw[if_neg hpr];exact⟨rfl,by simp;have:=htb.2;omega⟩
   refine aV (ι:=List (List Int)) (λp=>[(12,.sl .any ((p.headD (lF (upD A))).map (.int .i64))),(13,.bool (!p.isEmpty))]) (λp=>[]) (λp=>(aA4 (upD A) p/\∀c∈p,pB (upD A) c)/\tE (FM x P set) p=o) (λp=>p.length) (if g6 T T.length≤20000 then iO (upD A) else []) (by(refine aD rfl rfl ?_ ?_ ?_ ?_<;>simp(disch:=apply aR;omega)only[go_sem]<;>(try omega));(rw[aDu,hlA];exact hst)) ?_ (λp hp=>?_);rotate_left
   simp only[go_sem]
   ·obtain⟨⟨hq1,hq2⟩,hq3⟩:=hp;cases p with
    | nil =>
     obtain rfl:none=o:=hq3;simp only[List.isEmpty_nil,Bool.not_true];repeat' first|exact h.elim|apply aG|refine aE 0 aCt λK hK=>?_|refine aB ?_|refine aC ?_|(refine hK.n0 ?_;clear hK K)|refine aA rfl (λh=>?_) λh=>?_|refine aJ rfl ?_|apply tTT
     all_goals exact⟨rfl,rfl⟩
    | cons a r =>
     have ha:=hq2 a zH;have hal:a.length=atN x.sig x.sig.length:=by rw[kG ha,kN,hlA]
     have hab:=aPd hdA ha;have hap:=aIE hsg hdA hlA ha;obtain⟨hn1,hn2⟩:=tH hq1;have hne:a≠[]:=by intro e;rw[e] at hal;simp at hal;omega
     simp only[List.headD_cons,List.isEmpty_cons,Bool.not_false];have cN:=aEK A a (by omega) hne (by omega) hab;rw[hn1,←htake] at cN;have cK:=aJB x P set (iE x.sig a) Bm hsg hap hdB hlB hP hS h64 _ rfl;rw[←hdrop] at cK;have nxt:∀q:FM x P set a=none,tE (FM x P set) r=o:=λq=>by rw[←hq3,aUU q]
     by_cases hAl:mD x (iE x.sig a)
     ·have hf:=hFa a hAl;rw[hdrop] at cK;cases hfd:gI (GM x.sig P set (iE x.sig a)) (iO (upD Bm)) with
      | none =>
       rw[hfd] at cK hf;rw[←hdrop] at cK;have hnx:=nxt hf;repeat' first|exact h.elim|(exact absurd hAl (by assumption))|apply aG|refine aE 0 aCt λK hK=>?_|refine aU aCt (by kernel_rfl) λK hK=>?_|refine aB ?_|refine aQ ?_|refine aC ?_|(refine hK.n0 ?_;clear hK K)|refine aA rfl (λh=>?_) λh=>?_|apply aF|refine hK.c1 rfl rfl rfl (oX x.sig a hsg (by omega) (by omega)) ?_|refine hK.c1 rfl rfl rfl (gY x (iE x.sig a)) ?_|refine hK.c1 rfl rfl rfl (cK) ?_|refine hK.c1 rfl rfl rfl (cN) ?_|with_reducible refine aH ?_|apply tTT
       ·exact Bool.noConfusion h
       ·exact⟨r,(by(refine aD rfl rfl ?_ ?_ ?_ ?_<;>simp(disch:=apply aR;omega)only[go_sem]<;>(try omega));rw[htake]),⟨⟨hn2,λd hd=>hq2 d (zG _ hd)⟩,hnx⟩,by simp⟩
      | some c =>
       rw[hfd] at cK hf;rw[←hdrop] at cK;rw[aRX hf] at hq3;subst hq3;repeat' first|exact h.elim|(exact absurd hAl (by assumption))|apply aG|refine aE 0 aCt λK hK=>?_|refine aU aCt (by kernel_rfl) λK hK=>?_|refine aB ?_|refine aQ ?_|refine aC ?_|(refine hK.n0 ?_;clear hK K)|refine aA rfl (λh=>?_) λh=>?_|apply aF|refine hK.c1 rfl rfl rfl (oX x.sig a hsg (by omega) (by omega)) ?_|refine hK.c1 rfl rfl rfl (gY x (iE x.sig a)) ?_|refine hK.c1 rfl rfl rfl (cK) ?_|refine hK.c1 rfl rfl rfl (cN) ?_|with_reducible refine aH ?_|apply tTT
       ·exact⟨by show _=List.map bP (lH x.sig (a++c));rw[aKe hal];rfl,rfl⟩
       ·exact Bool.noConfusion h
     ·have hnx:=nxt (aXW hAl);repeat' first|exact h.elim|(exact absurd (by assumption) hAl)|apply aG|refine aE 0 aCt λK hK=>?_|refine aB ?_|(refine hK.n0 ?_;clear hK K)|refine aA rfl (λh=>?_) λh=>?_|apply aF|refine hK.c1 rfl rfl rfl (oX x.sig a hsg (by omega) (by omega)) ?_|refine hK.c1 rfl rfl rfl (gY x (iE x.sig a)) ?_|refine hK.c1 rfl rfl rfl (cN) ?_|with_reducible refine aH ?_|apply tTT
      exact⟨r,(by(refine aD rfl rfl ?_ ?_ ?_ ?_<;>simp(disch:=apply aR;omega)only[go_sem]<;>(try omega));rw[htake]),⟨⟨hn2,λd hd=>hq2 d (zG _ hd)⟩,hnx⟩,by simp⟩
   ·refine⟨?_,?_⟩
    ·split
     ·exact⟨hseq.1,hdig⟩
     ·exact⟨trivial,λc hc=>by cases hc⟩
    ·rw[hfm];split<;>rfl
  ·exact Nat.zero_le _
 ·rw[aVX hW];rcases Classical.em (gK x) with hx|hx
  ·rw[fW hx] at cP;have h64:(bI x).length≤64:=hx.2;refine fcb Tryz.func51 λB=>?_;repeat' first|exact h.elim|(exact absurd (show oD x set from⟨hx,by assumption⟩) hW)|apply aG|refine aE 0 aCt λK hK=>?_|refine aB ?_|refine aC ?_|(refine hK.n0 ?_;clear hK K)|refine aA rfl (λh=>?_) λh=>?_|refine hK.c1 rfl rfl rfl (cP) ?_|refine hK.c1 rfl rfl rfl (jF set _ (by omega)) ?_|apply tTT
   all_goals exact⟨rfl,rfl⟩
  ·rw[jG hx] at cP;refine fcb Tryz.func51 λB=>?_;repeat' first|exact h.elim|apply aG|refine aE 0 aCt λK hK=>?_|refine aB ?_|refine aC ?_|(refine hK.n0 ?_;clear hK K)|refine aA rfl (λh=>?_) λh=>?_|refine hK.skp rfl rfl ?_|refine hK.c1 rfl rfl rfl (cP) ?_|apply tTT
   all_goals exact⟨rfl,rfl⟩
end
section
attribute [local irreducible] SW bA bC dM bZ FC dX toF d7 iC fZ sumF b5
def aSL:List (Nat×List Nat):=[(0,[1,2]),(1,[1,2,16]),(2,[4]),(3,[1,2,5]),(4,[1,2,5,20]),(6,[1,2,5,34]),(7,[4]),(5,[1,2,5]),(8,[4])]
attribute [go_sem] aSL Tryz.results85 Tryz.ntmps85
theorem xE(rs proj:List Int):FC S 85 [] [] [] [.agg [.sl .any (rs.map (.int .i64))],.sl .any (proj.map (.int .i64))] (.bool (tst (sV rs proj))) [] []:=by
 refine fcb Tryz.func85 λB=>?_;refine b6 0 0 λhb0_0=>?_;refine bM 1 λhb1=>?_;repeat' first|exact h.elim|apply aG|refine aE 0 aSL λK hK=>?_|refine aB ?_|refine aC ?_|(refine hK.n0 ?_;clear hK K)|refine aZ (λh=>?_) λh=>?_|refine aA rfl (λh=>?_) λh=>?_|refine hK.c1 rfl rfl rfl (nB _ _) ?_|apply tTT
 all_goals try exact λh=>absurd h.1.1 (by assumption)
 all_goals try exact λh=>absurd h.1.2 (by omega)
 refine aV (ι:=Nat) (λi=>[(5,.int .i64 i)]) (λ_=>[]) (λi=>i≤proj.length/\(∀j<i,-1≤proj.getD j default/\proj.getD j default≤rs.getD j default-1)) (λi=>proj.length-i) 0 cvA ⟨by omega,?_⟩ (λi ⟨hi,hj⟩=>?_);rotate_left
 simp only[go_sem]
 ·have hsg:=(by assumption:eQ rs).2;by_cases hil:i<proj.length
  ·have h3:=hsg i (by omega);repeat' first|exact h.elim|(exfalso;omega)|apply aG|refine aE 0 aSL λK hK=>?_|refine aU aSL (by kernel_rfl) λK hK=>?_|refine aB ?_|refine aQ ?_|refine aC ?_|(refine hK.n0 ?_;clear hK K)|refine aA rfl (λh=>?_) λh=>?_|apply aF|refine hK.c1 rfl rfl rfl (o6 _ _ _) ?_|with_reducible refine aH ?_|apply tTT
   ·exact λhO=>h (hO.2 i (by omega))
   ·exact⟨i+1,cvA,⟨by omega,bJ hj h⟩,by omega⟩
  ·repeat' first|exact h.elim|(exfalso;omega)|apply aG|refine aE 0 aSL λK hK=>?_|refine aB ?_|refine aC ?_|(refine hK.n0 ?_;clear hK K)|refine aA rfl (λh=>?_) λh=>?_|refine aJ rfl ?_|apply tTT
   exact⟨⟨by assumption,by omega⟩,λj hj'=>hj j (by omega)⟩
 ·intro j hj';omega
def aWW:List (Nat×List Nat):=[(0,[1,2,3]),(1,[1,2,3,13]),(2,[6]),(3,[6])]
attribute [go_sem] aWW Tryz.results86 Tryz.ntmps86
theorem aGz(rs proj t:List Int)(hj:sV rs proj)(hT:aT rs t)(h0:0≤t.getD 0 default):FC S 86 [] [] [] [.agg [.sl .any (rs.map (.int .i64))],.sl .any (proj.map (.int .i64)),.sl .any (t.map (.int .i64))] (.sl .any ((jX rs proj t).map (.int .i64))) [] []:=by
 obtain⟨h1,h2,h3⟩:=aIz hj hT h0;have hl:=hT.2.1;have hpl:=jV rs t (arS rs (t.getD 0 default)).toNat;by_cases hn:proj.getD (t.getD 0 default).toNat default<0
 ·rw[aH7 hn];refine fcb Tryz.func86 λB=>?_;repeat' first|exact h.elim|(exfalso;omega)|apply aG|refine aE 0 aWW λK hK=>?_|refine aB ?_|refine aC ?_|(refine hK.n0 ?_;clear hK K)|refine aA rfl (λh=>?_) λh=>?_|with_reducible refine aH ?_|apply tTT
 ·have h4:=h3 (by omega);rw[aEL hn,←xW rs t h4];refine fcb Tryz.func86 λB=>?_;repeat' first|exact h.elim|(exfalso;omega)|apply aG|refine aE 0 aWW λK hK=>?_|refine aU aWW (by kernel_rfl) λK hK=>?_|refine aB ?_|refine aQ ?_|refine aC ?_|(refine hK.n0 ?_;clear hK K)|refine aA rfl (λh=>?_) λh=>?_|refine hK.c1 rfl rfl rfl (uP rs t hT) ?_|with_reducible refine aH ?_|apply tTT
def aWI:List (Nat×List Nat):=[(0,[1,2,3]),(1,[2,3,7]),(2,[2,3,7,15]),(3,[6]),(4,[6])]
attribute [go_sem] aWI Tryz.results64 Tryz.ntmps64
theorem aA0(rs proj t:List Int)(hj:sV rs proj)(hT:aT rs t)(h0:0≤t.getD 0 default):FC S 64 [] [] [] [.agg [.sl .any (rs.map (.int .i64))],.sl .any (proj.map (.int .i64)),.sl .any (t.map (.int .i64))] (sZ (jX rs proj t)) [] []:=by
 obtain⟨h1,h2,h3⟩:=aIz hj hT h0;have hl:=hT.2.1;have hal:=aBR rs t 0;by_cases hn:proj.getD (t.getD 0 default).toNat default<0
 ·rw[aH7 hn,show sZ []=D.sl .nil [] from by simp[sZ,tkN]];refine fcb Tryz.func64 λB=>?_;repeat' first|exact h.elim|(exfalso;omega)|apply aG|refine aE 0 aWI λK hK=>?_|refine aB ?_|refine aC ?_|(refine hK.n0 ?_;clear hK K)|refine aA rfl (λh=>?_) λh=>?_|with_reducible refine aH ?_|apply tTT
 ·have h4:=h3 (by omega);have hU:=j5 hT h4;have hne:lC rs t (proj.getD (t.getD 0 default).toNat default).toNat≠[]:=λe=>by
   have:=hU.1.2.1.1;rw[e] at this;cases this
  rw[aEL hn,show sZ (lC rs t (proj.getD (t.getD 0 default).toNat default).toNat)=D.sl .any ((lC rs t (proj.getD (t.getD 0 default).toNat default).toNat).map (.int .i64)) from by simp only[sZ,tkN,if_neg hne]];have hg:=aBz rs t 0 _ h4;have hlt:=(oU hT (show 0<t.length from hT.2.1.1) h4).2;have cS:=uW .any .any rs t _ hT hlt;unfold lC;simp only[Nat.zero_add] at hg hlt cS;rw[←hg] at hlt cS ⊢;refine fcb Tryz.func64 λB=>?_;repeat' first|exact h.elim|(exfalso;omega)|apply aG|refine aE 0 aWI λK hK=>?_|refine aU aWI (by kernel_rfl) λK hK=>?_|refine aB ?_|refine aQ ?_|refine aC ?_|(refine hK.n0 ?_;clear hK K)|refine aA rfl (λh=>?_) λh=>?_|refine hK.c1 rfl rfl rfl (aGn .any .any rs t 0 hT (by omega)) ?_|refine hK.c1 rfl rfl rfl (cS) ?_|with_reducible refine aH ?_|apply tTT
theorem vO{rs proj:List Int}{p:DepPairT}(hp:kS rs p)(hj:sV rs proj):(jX rs proj p.l≠[]->aT rs (jX rs proj p.l))/\(jX rs proj p.r≠[]->aT rs (jX rs proj p.r)):=⟨aP1 hj hp.1.1 hp.2.1,aP1 hj hp.1.2 hp.2.2⟩
theorem aVE{rs proj:List Int}{p:DepPairT}(hp:kS rs p)(hj:sV rs proj):pO rs proj p↔(jX rs proj p.l≠[]/\jX rs proj p.r≠[])/\nT rs (jX rs proj p.l) 0 (jX rs proj p.r):=by
 unfold pO;constructor
 ·rintro⟨h1,h2⟩;exact⟨h1,(aCV ((vO hp hj).1 h1.1)).2 h2⟩
 ·rintro⟨h1,h2⟩;exact⟨h1,(aCV ((vO hp hj).1 h1.1)).1 h2⟩
theorem aNP(rs t u:List Int)(hT:aT rs t):FC S 65 [] [] [] [.agg [.sl .any (rs.map (.int .i64))],.sl .any (t.map (.int .i64)),.int .i64 0,.sl .any (u.map (.int .i64))] (.bool (tst (nT rs t 0 u))) [] []:=by
 have hl:=hT.2.1;refine fcb Tryz.func65 λB=>?_;repeat' first|apply aG|refine aE 0 aOt λK hK=>?_|refine aB ?_|(refine hK.n0 ?_;clear hK K)|apply tTT
 refine aV (ι:=Nat) (λp=>[(9,.int .i64 p)]) (λp=>[]) (λp=>p≤t.length/\∀j<p,eD rs t j≠u) (λp=>t.length-p) 0 cvA ?_ (λp hp=>?_);rotate_left
 simp only[go_sem];obtain⟨hp,hj⟩:=hp;by_cases hil:p<t.length
 ·repeat' first|exact h.elim|(exfalso;omega)|apply aG|refine aE 0 aOt λK hK=>?_|refine aB ?_|refine aC ?_|(refine hK.n0 ?_;clear hK K)|refine aA rfl (λh=>?_) λh=>?_|apply aF|refine hK.c1 rfl rfl rfl (uW .any .any rs t p hT hil) ?_|refine hK.c1 rfl rfl rfl (xI _ _ (eD rs t p) u) ?_|apply tTT
  ·exact⟨p,⟨Nat.zero_le _,hil⟩,h⟩
  ·exact⟨p+1,cvA,⟨by omega,bJ hj h⟩,by omega⟩
 ·repeat' first|exact h.elim|(exfalso;omega)|apply aG|refine aE 0 aOt λK hK=>?_|refine aB ?_|refine aC ?_|(refine hK.n0 ?_;clear hK K)|refine aA rfl (λh=>?_) λh=>?_|refine aJ rfl ?_|apply tTT
  exact λ⟨a,h1,e⟩=>hj a (by omega) e
 ·exact⟨by omega,λj h1=>absurd h1 (by omega)⟩
def aGh:List (Nat×List Nat):=[(0,[1,2,3]),(1,[1,2,3,8,9]),(2,[1,2,3,8,35]),(3,[6,7]),(4,[1,2,3,8,10]),(5,[1,2,3,8,10,11]),(6,[1,2,3,8,10,11,41]),(8,[1,2,3,8,10,11,12]),(9,[1,2,3,8,10,11,12,13]),(10,[1,2,3,8,10,11,12,13,14]),(11,[1,2,3,8,10,11,14,95]),(12,[6,7]),(13,[1,2,3,8,10,11,97]),(14,[1,2,3,8,10,11]),(7,[1,2,3,8,10,11]),(15,[6,7])]
attribute [go_sem] aGh Tryz.results50 Tryz.ntmps50
theorem nS(x:SystemT)(set proj:List Int):FC S 50 [] [] [] [bR x,.sl .any (set.map (.int .i64)),.sl .any (proj.map (.int .i64))] (.tup [.sl .any ((aL1 x set proj).1.map (.int .i64)),.bool (aL1 x set proj).2]) [] []:=by
 have cP:=jO x;rcases Classical.em (aA7 x set proj) with hW|hW
 ·rw[aBe hW];obtain⟨⟨hx,hS⟩,hj⟩:=hW;rw[fW hx] at cP;have h12:=hx.1.1.2;have hsg:=hx.1.1.1.1;have h64:(bI x).length≤64:=hx.2;have hsl:=l5 hS;have hat:∀i<set.length,(0≤set.getD i default/\set.getD i default<(bI x).length)/\kS x.sig ((bI x).getD (set.getD i default).toNat default):=λi hi=>by
   have h:=(hS i hi).1;exact⟨h,mG hx _ (aX (bI x) _ (by omega))⟩
  refine fcb Tryz.func50 λB=>?_;repeat' first|exact h.elim|(exact absurd hS (by assumption))|(exact absurd hj (by assumption))|apply aG|refine aE 0 aGh λK hK=>?_|refine aB ?_|(refine hK.n0 ?_;clear hK K)|refine aZ (λh=>?_) λh=>?_|refine aA rfl (λh=>?_) λh=>?_|refine hK.c1 rfl rfl rfl (cP) ?_|refine hK.c1 rfl rfl rfl (jF set _ (by omega)) ?_|refine hK.c1 rfl rfl rfl (xE x.sig proj) ?_|apply tTT
  refine eF 10 105000 2 1 rfl (.inr rfl) rfl ?_;simp only[go_sem];refine bG (ι:=Nat) (λi=>[(11,.int .i64 i),(10,.sl (.own 105000 2 1) ((jL x.sig (bI x) set proj i).map (.int .i64)))]) (λ_=>[]) (λ_=>[105000]) (λi=>i≤set.length/\∀j<i,pO x.sig proj ((bI x).getD (set.getD j default).toNat default)) (λi=>set.length-i) 0 cvB ⟨by omega,λj hj=>absurd hj (by omega)⟩ (λi hi=>?_);obtain⟨hi,hk⟩:=hi;simp only[go_sem];have hwl:=aJw x.sig (bI x) set proj i;by_cases hil:i<set.length
  ·have hq:=hat i hil;have h1:=hq.1;have ha:=vO hq.2 hj;obtain⟨q,hq'⟩:∃q,(bI x).getD (set.getD i default).toNat default=q:=⟨_,rfl⟩;rw[hq'] at hq ha;have c1:=aGz x.sig proj q.l hj hq.2.1.1 hq.2.2.1;have c2:=aGz x.sig proj q.r hj hq.2.1.2 hq.2.2.2;have hY:tY x.sig proj q->jL x.sig (bI x) set proj (i+1)=jL x.sig (bI x) set proj i++[set.getD i default]:=λh=>aIY (by rw[hq'];exact h);have hN:¬tY x.sig proj q->jL x.sig (bI x) set proj (i+1)=jL x.sig (bI x) set proj i:=λh=>aPr (by rw[hq'];exact h);have hM:¬pO x.sig proj q->jR x.sig (bI x) set proj=([],false):=λh=>aP5 λe=>h (by have:=e i hil;rwa [hq'] at this);have hK:pO x.sig proj q->∀j<i+1,pO x.sig proj ((bI x).getD (set.getD j default).toNat default):=λh=>bJ hk (by rw[hq'];exact h);unfold tY at hY hN;unfold pO at hM;have hK':((jX x.sig proj q.l≠[]/\jX x.sig proj q.r≠[])/\(jX x.sig proj q.l=jX x.sig proj q.r∨nT x.sig (jX x.sig proj q.l) 1 (jX x.sig proj q.r)))->∀j<i+1,pO x.sig proj ((bI x).getD (set.getD j default).toNat default):=hK;clear hK;generalize jX x.sig proj q.l=a at *;generalize jX x.sig proj q.r=b at *;rw[←hq'] at c1 c2;rcases Classical.em (a=[]) with ea|ea
   ·rw[hM λh=>h.1.1 ea];subst ea;repeat' first|exact h.elim|(exfalso;omega)|apply aG|refine aE 0 aGh λK hK=>?_|refine aU aGh (by kernel_rfl) λK hK=>?_|refine aB ?_|refine aQ ?_|refine aC ?_|(refine hK.n0 ?_;clear hK K)|refine aZ (λh=>?_) λh=>?_|refine aA rfl (λh=>?_) λh=>?_|refine hK.skp rfl rfl ?_|refine hK.c1 rfl rfl rfl (c1) ?_|refine hK.c1 rfl rfl rfl (c2) ?_|with_reducible refine aH ?_|apply tTT
    all_goals first|exact⟨rfl,rfl⟩|(refine⟨?_,rfl⟩;simp[le0])
   have hal:0<a.length:=List.length_pos_iff.2 ea;have cL:=xX x.sig a b (ha.1 ea);repeat' first|exact h.elim|(exfalso;omega)|apply aG|refine aE 0 aGh λK hK=>?_|refine aU aGh (by kernel_rfl) λK hK=>?_|refine aB ?_|refine aQ ?_|refine aC ?_|(refine hK.n0 ?_;clear hK K)|refine aZ (λh=>?_) λh=>?_|refine aA rfl (λh=>?_) λh=>?_|refine hK.skp rfl rfl ?_|apply aF|refine hK.c1 rfl rfl rfl (c1) ?_|refine hK.c1 rfl rfl rfl (c2) ?_|refine hK.c1 rfl rfl rfl (cL) ?_|refine hK.c1 rfl rfl rfl (sU _ _ a b) ?_|with_reducible refine aH ?_|apply tTT
   all_goals first
    | (exfalso;contradiction)
    | (exfalso;have hab:a=b:=(by assumption);rw[hab] at hal;omega)
    | (rw[hM λh=>absurd (List.length_pos_iff.2 h.1.2) (by omega)];exact⟨rfl,rfl⟩)
    | (rw[hM λh=>by rcases h.2 with h|h<;>contradiction];exact⟨rfl,rfl⟩)
    | exact⟨i+1,(by(refine aD rfl rfl ?_ ?_ ?_ ?_<;>simp(disch:=apply aR;omega)only[go_sem]<;>(try omega));rw[hY ⟨⟨ea,List.length_pos_iff.1 (by omega)⟩,by assumption⟩];exact⟨rfl,by omega⟩),⟨by omega,hK' ⟨⟨ea,List.length_pos_iff.1 (by omega)⟩,.inr (by assumption)⟩⟩,by omega⟩
    | exact⟨i+1,(by(refine aD rfl rfl ?_ ?_ ?_ ?_<;>simp(disch:=apply aR;omega)only[go_sem]<;>(try omega));rw[hN λh=>absurd h.2 (by assumption)];exact⟨rfl,by omega⟩),⟨by omega,hK' ⟨⟨ea,List.length_pos_iff.1 (by omega)⟩,.inl (by assumption)⟩⟩,by omega⟩
    | trace_state
  ·repeat' first|exact h.elim|(exfalso;omega)|apply aG|refine aE 0 aGh λK hK=>?_|refine aB ?_|refine aC ?_|(refine hK.n0 ?_;clear hK K)|refine aA rfl (λh=>?_) λh=>?_|refine aJ rfl ?_|apply tTT
   rw[aH6 λj hj'=>hk j (by omega),show i=set.length by omega];exact⟨rfl,rfl⟩
 ·rw[aS3 hW];rcases Classical.em (gK x) with hx|hx
  ·rw[fW hx] at cP;have h64:(bI x).length≤64:=hx.2;have h12:=hx.1.1.2;have hsg:=hx.1.1.1.1;rcases Classical.em (gA set (bI x).length) with hS|hS
   ·skip
    refine fcb Tryz.func50 λB=>?_;repeat' first|exact h.elim|(exact absurd ⟨⟨hx,hS⟩,by assumption⟩ hW)|(exact absurd hS (by assumption))|apply aG|refine aE 0 aGh λK hK=>?_|refine aB ?_|refine aC ?_|(refine hK.n0 ?_;clear hK K)|refine aZ (λh=>?_) λh=>?_|refine aA rfl (λh=>?_) λh=>?_|refine hK.c1 rfl rfl rfl (cP) ?_|refine hK.c1 rfl rfl rfl (jF set _ (by omega)) ?_|refine hK.c1 rfl rfl rfl (xE x.sig proj) ?_|apply tTT
   ·skip
    refine fcb Tryz.func50 λB=>?_;repeat' first|exact h.elim|(exact absurd (by assumption) hS)|apply aG|refine aE 0 aGh λK hK=>?_|refine aB ?_|refine aC ?_|(refine hK.n0 ?_;clear hK K)|refine aZ (λh=>?_) λh=>?_|refine aA rfl (λh=>?_) λh=>?_|refine hK.skp rfl rfl ?_|refine hK.c1 rfl rfl rfl (cP) ?_|refine hK.c1 rfl rfl rfl (jF set _ (by omega)) ?_|apply tTT
  ·rw[jG hx] at cP;refine fcb Tryz.func50 λB=>?_;repeat' first|exact h.elim|apply aG|refine aE 0 aGh λK hK=>?_|refine aB ?_|refine aC ?_|(refine hK.n0 ?_;clear hK K)|refine aA rfl (λh=>?_) λh=>?_|refine hK.skp rfl rfl ?_|refine hK.c1 rfl rfl rfl (cP) ?_|apply tTT
end
end Go.Proofs.YtmfmgoceeedonaaGreat
