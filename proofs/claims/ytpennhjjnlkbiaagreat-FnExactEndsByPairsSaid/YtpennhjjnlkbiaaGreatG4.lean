/-
  P18a, P18p, P24p, P24, P25, A17i, one behind the other.
-/
import Derived.Test.YtpennhjjnlkbiaaGreatG3
import Derived.Test.YtpennhjjnlkbiaaGreatG1
import Derived.Test.YtpennhjjnlkbiaaGreatLgK16
import Derived.Test.YtpennhjjnlkbiaaGreatLgK18
import Derived.Test.YtpennhjjnlkbiaaGreatLgK10
namespace Go.Proofs.YtpennhjjnlkbiaaGreat
open Go Go.Lg
set_option linter.unusedSimpArgs false
set_option linter.unusedVariables false
set_option maxHeartbeats 4000000
section
attribute [local irreducible] SW bC bE dE bU FC dO toF dP
def jA(n:Nat)(f:Nat->Bool):List D:=(List.range n).map λq=>.bool (f q)
theorem aJB{n:Nat}{f:Nat->Bool}{q:Nat}(h:Om (q<n)):(List.drop q (jA n f)).head?=some (.bool (f q)):=by
 rw[List.head?_drop,jA,zI,List.getElem?_range h.1];rfl
theorem aH1(n:Nat)(f:Nat->Bool)(q:Nat)(b:Bool):(jA n f).set q (.bool b)=jA n (λx=>if x=q then b else f x):=by
 refine List.ext_getElem (by simp[jA]) λj h1 h2=>?_
 simp only[jA,List.getElem_set,List.getElem_map,List.getElem_range]
 by_cases e:q=j
 ·subst e;simp
 ·rw[if_neg e,if_neg (λh=>e h.symm)]
theorem aJT(n:Nat)(f:Nat->Bool):(jA n f).length=n:=by simp[jA]
theorem aS5(n:Nat):List.replicate n (D.bool false)=jA n λ_=>false:=by
 refine List.ext_getElem (by simp[jA]) λj h1 h2=>?_
 simp[jA]
def eB(n:Nat)(ps:List Nat):List D:=(List.range n).map λp=>if p∈ps then .ms (p+5000) n else .sl .nil []
theorem aDl{n:Nat}{ps:List Nat}{p:Nat}(h:Om (p<n/\1≤mk1 ps p)):(List.drop p (eB n ps)).head?=some (.ms (p+5000) n):=by
 rw[List.head?_drop,eB,zI,List.getElem?_range h.1.1]
 simp[xD.1 h.1.2]
theorem pE(n:Nat)(ps:List Nat):(eB n ps).length=n:=by simp[eB]
theorem aLX(n:Nat):List.replicate n (D.sl .nil [])=eB n []:=by
 refine List.ext_getElem (by simp[eB]) λj h1 h2=>?_
 simp[eB]
def c8(set:List Int):List Nat:=set.map Int.toNat
def eH(n:Nat)(ps:List Nat)(r:Nat->Nat->Bool):List (Nat×List D):=mE 5000 ps λx=>jA n (r x)
def nd1(ps:List Nat):Nat:=if ps.Nodup then 1 else 0
theorem aHe{ps:List Nat}:1≤nd1 ps↔ps.Nodup:=by unfold nd1;split<;>simp_all
theorem pC{n:Nat}{ps:List Nat}{r:Nat->Nat->Bool}{p:Nat}(h:Om (1≤mk1 ps p)):Lg.look (eH n ps r) (p+5000)=some (jA n (r p)):=aKJ h
theorem aDp{n:Nat}{ps:List Nat}{r:Nat->Nat->Bool}{p:Nat}{f:Nat->Bool}(h:Om (1≤mk1 ps p/\1≤nd1 ps)):eK (eH n ps r) (p+5000) (jA n f)=eH n ps λx=>if x=p then f else r x:=by
 unfold eH
 rw[aE6 (aHe.1 h.1.2) (xD.1 h.1.1)]
 congr 1
 funext x
 unfold aUn
 by_cases e:x=p
 ·simp only[if_pos e]
 ·simp only[if_neg e]
theorem aDe{bx:List (Nat×List D)}:∀ {r:List (Nat×List D)},(∀p∈r,Lg.look bx p.1=some p.2)->m3 bx r
 | [],_=>trivial
 | (k,c)::r,h=>⟨by rw[h (k,c) zH];exact rfl,aDe λp hp=>h p (zG _ hp)⟩
theorem eI{n:Nat}{ps:List Nat}(hn:ps.Nodup){r:Nat->Nat->Bool}(g:List D):m3 ((26,g)::eH n ps r) ((26,g)::eH n ps r):=aDe λq hq=>by
 rcases zO.1 hq with rfl|hq
 ·rfl
 ·unfold eH mE at hq
  obtain⟨x,hx,rfl⟩:=zJ.1 hq
  show Lg.look ((26,g)::eH n ps r) (x+5000)=_
  simp only[Lg.look]
  rw[if_neg (by omega)]
  exact sV hx
theorem n7{n:Nat}{ps:List Nat}{r:Nat->Nat->Bool}{q:Nat×List D}(h:q∈eH n ps r):5000≤q.1/\∃x∈ps,q=(x+5000,jA n (r x)):=by
 unfold eH mE at h
 obtain⟨x,hx,rfl⟩:=zJ.1 h
 exact⟨by simp,x,hx,rfl⟩
theorem aTm(n:Nat)(f:Nat->Bool):D.idsL (jA n f)=[]:=by
 unfold jA
 induction (List.range n) with
 | nil=>rfl
 | cons x l ih=>simp only[List.map_cons,D.idsL,D.ids,ih,List.append_nil]
theorem aMb{n:Nat}{ps:List Nat}{t:Nat}(h:t<5000):(D.idsL (eB n ps)).contains t=false:=by
 have:∀l:List Nat,t∉D.idsL (l.map λp=>if p∈ps then D.ms (p+5000) n else .sl .nil []):=by
  intro l
  induction l with
  | nil=>simp[D.idsL]
  | cons x l ih =>
   simp only[List.map_cons,D.idsL,zP,not_or]
   refine⟨?_,ih⟩
   split
   ·simp only[D.ids,zN];omega
   ·simp[D.ids]
 have:=this (List.range n)
 simpa[eB] using this
theorem aEH{n:Nat}{ps:List Nat}{r:Nat->Nat->Bool}{t:Nat}:qF (wW t) (eH n ps r)=eH n ps r:=by
 have:∀l:List (Nat×List D),(∀q∈l,wW t q.2=true)->qF (wW t) l=l:=by
  intro l
  induction l with
  | nil=>intro _;rfl
  | cons q l ih =>
   intro h
   obtain⟨k,c⟩:=q
   unfold qF
   rw[if_pos (h (k,c) zH),ih λq hq=>h q (zG _ hq)]
 refine this _ λq hq=>?_
 obtain⟨_,x,_,rfl⟩:=n7 hq
 simp[wW,aTm]
theorem aCI{n:Nat}{ps:List Nat}{r:Nat->Nat->Bool}{t:Nat}(h:Om (t<5000)):gJ t (eH n ps r)=eH n ps r:=by
 have:∀l:List (Nat×List D),(∀q∈l,q.1≠t)->gJ t l=l:=by
  intro l
  induction l with
  | nil=>intro _;rfl
  | cons q l ih =>
   intro h
   obtain⟨k,c⟩:=q
   unfold gJ
   rw[if_neg (h (k,c) zH),ih λq hq=>h q (zG _ hq)]
 refine this _ λq hq=>?_
 have:=(n7 hq).1
 have:=h.1
 omega
theorem aKm{n:Nat}{ps:List Nat}{r:Nat->Nat->Bool}{t:Nat}{c:List D}(h:Om (t<5000)):eK (eH n ps r) t c=eH n ps r++[(t,c)]:=by
 have:∀l:List (Nat×List D),(∀q∈l,q.1≠t)->eK l t c=l++[(t,c)]:=by
  intro l
  induction l with
  | nil=>intro _;rfl
  | cons q l ih =>
   intro h
   obtain⟨k,c'⟩:=q
   unfold eK
   rw[if_neg (h (k,c') zH),ih λq hq=>h q (zG _ hq)]
   rfl
 refine this _ λq hq=>?_
 have:=(n7 hq).1
 have:=h.1
 omega
theorem aFc(n:Nat)(ps:List Nat)(p:Nat->Bool):(eB n ps).map (D.pu1 p)=eB n ps:=by
 unfold eB
 rw[List.map_map]
 refine List.map_congr_left λx _=>?_
 simp only[Function.comp]
 split<;>rfl
theorem aGO(n:Nat)(ps:List Nat):D.tksL (eB n ps)=[]:=by
 unfold eB
 induction (List.range n) with
 | nil=>rfl
 | cons x l ih =>
  simp only[List.map_cons,D.tksL,ih,List.append_nil]
  split<;>rfl
theorem aU2(n:Nat)(f:Nat->Bool)(p:Nat->Bool):(jA n f).map (D.pu1 p)=jA n f:=by
 unfold jA
 rw[List.map_map]
 exact List.map_congr_left λx _=>rfl
theorem aTN(n:Nat)(f:Nat->Bool):D.tksL (jA n f)=[]:=by
 unfold jA
 induction (List.range n) with
 | nil=>rfl
 | cons x l ih=>simp only[List.map_cons,D.tksL,D.tks,ih,List.append_nil]
theorem tL(n:Nat)(ps:List Nat)(r:Nat->Nat->Bool)(p:Nat->Bool):qS (List.map (D.pu1 p)) (eH n ps r)=eH n ps r:=by
 unfold eH mE
 induction ps with
 | nil=>rfl
 | cons x l ih=>simp only[List.map_cons,qS,aU2] at ih ⊢;rw[ih]
theorem xX(n:Nat)(ps:List Nat)(r:Nat->Nat->Bool)(f:Nat->Bool):((eH n ps r).all λq=>(D.tksL q.2).all f)=true:=by
 refine List.all_eq_true.2 λq hq=>?_
 obtain⟨_,x,_,rfl⟩:=n7 hq
 rw[aTN];rfl
theorem aRt(g:Nat->List Int->List Nat)(xs:List (List Int)):True:=trivial
theorem aKt(n:Nat):(List.replicate n [D.bool false]).flatten=jA n λ_=>false:=by
 rw[←aS5];simp
theorem aIC{α:Type}(a b:List (Nat×α))(t:Nat):Lg.look (a++b) t=match Lg.look a t with|some d=>some d|none=>Lg.look b t:=by
 induction a with
 | nil=>rfl
 | cons q a ih =>
  obtain⟨k,c⟩:=q
  simp only[List.cons_append,Lg.look]
  split
  ·rfl
  ·exact ih
theorem aQW(n:Nat)(r:Nat->Nat->Bool)(q:Nat×List D):q∉eH n (c8 []) r:=λh=>by
 obtain⟨_,x,hx,_⟩:=n7 h
 cases hx
theorem aRF{n q:Nat}{ps:List Nat}{r:Nat->Nat->Bool}(hqn:q∉ps):∀p∈(26,eB n (ps++[q]))::eH n (ps++[q]) (λx=>if x=q then λ_=>false else r x),
  (p.1=q+5000/\∃cs,Lg.look ((26,(eB n ps).set q (.ms 37 n))::(eH n ps r++[(37,jA n λ_=>false)])) 37=some cs/\p.2.length≤cs.length/\∀(j:Nat) d d',cs[j]?=some d->p.2[j]?=some d'->wV 37 (q+5000) d d')∨(p.1≠q+5000/\p.1≠37/\∃cs,Lg.look ((26,(eB n ps).set q (.ms 37 n))::(eH n ps r++[(37,jA n λ_=>false)])) p.1=some cs/\p.2.length≤cs.length/\∀(j:Nat) d d',cs[j]?=some d->p.2[j]?=some d'->wV 37 (q+5000) d d'):=by
 have hb:∀(f:Nat->Bool) (j:Nat) (d d':D),(jA n f)[j]?=some d->(jA n f)[j]?=some d'->wV 37 (q+5000) d d':=λf j d d' h1 h2=>by
  rw[h1] at h2
  obtain rfl:=zA h2
  refine wV.keep ?_
  have:=zF h1
  unfold jA at this
  obtain⟨x,_,rfl⟩:=zJ.1 this
  rfl
 have hnone:∀t,t<5000->Lg.look (eH n ps r) t=none:=λt ht=>rQ λp _=>by omega
 intro p hp
 rcases zO.1 hp with rfl|hp
 ·refine .inr ⟨?_,?_,_,rfl,by rw[List.length_set,pE,pE];exact zQ _,λj d d' h1 h2=>?_⟩
  ·show 26≠q+5000;omega
  ·show (26:Nat)≠37;omega
  ·unfold eB at h1 h2
   have hj:j<n:=by have:=(zE.1 h2).1;simpa using this
   rw[zI,List.getElem?_range hj] at h2
   obtain rfl:=zA h2
   rw[List.getElem?_set] at h1
   by_cases e:q=j
   ·subst e
    rw[if_pos rfl,if_pos (by simpa using hj)] at h1
    obtain rfl:=zA h1
    exact .inr (.inl ⟨n,rfl,by simp⟩)
   ·rw[if_neg e,zI,List.getElem?_range hj] at h1
    obtain rfl:=zA h1
    have e2:(j∈ps++[q])=(j∈ps):=by
     rw[zP,zN]
     exact propext ⟨λh=>h.resolve_right λh=>e h.symm,.inl⟩
    simp only[e2]
    split
    ·refine .inl ⟨?_,?_,rfl⟩<;>simp only[D.ids,zN]<;>omega
    ·exact wV.keep rfl
 ·obtain⟨h5,x,hx,rfl⟩:=n7 hp
  by_cases e:x=q
  ·subst e
   refine .inl ⟨rfl,jA n λ_=>false,?_,?_,?_⟩
   ·simp only[Lg.look]
    rw[if_neg (by omega),aIC,hnone 37 (by omega)]
    rfl
   ·simp only[if_true];exact zQ _
   ·simp only[if_true];exact hb _
  ·have hx:x∈ps:=by
    rw[zP,zN] at hx
    exact hx.resolve_right e
   refine .inr ⟨?_,?_,jA n (r x),?_,?_,?_⟩
   ·show x+5000≠q+5000;omega
   ·show x+5000≠37;omega
   ·simp only[Lg.look]
    rw[if_neg (by omega),aIC]
    have:Lg.look (eH n ps r) (x+5000)=some (jA n (r x)):=sV hx
    rw[this]
   ·simp only[if_neg e];exact zQ _
   ·simp only[if_neg e];exact hb _
attribute [local irreducible] jA eB mE eH
attribute [local go_sem] aJB aH1 aDl pC aDp pE aJT aEH aCI aKm aKt aFc tL aGO xX
theorem aXU(n:Nat)(ps:List Nat):(D.idsL (eB n ps)).contains 37=false:=aMb (by omega)
attribute [local go_sem] aXU
noncomputable def r0(edges:List (List Int))(set:List Int)(p q:Nat):Bool:=tst ((q:Int)∈edges.getD p default/\(q:Int)∈set)
noncomputable def rJ(edges:List (List Int))(set:List Int)(p j q:Nat):Bool:=tst ((q:Int)∈(edges.getD p default).take j/\(q:Int)∈set)
theorem aVN(edges:List (List Int))(set:List Int)(p:Nat):rJ edges set p 0=λ_=>false:=by
 funext q
 unfold rJ
 exact bH (λh=>by rw[List.take_zero] at h;cases h.1)
theorem gW{xs:List Int}{j:Nat}(h:j<xs.length):xs.take (j+1)=xs.take j++[xs.getD j default]:=by
 rw[List.take_add_one,zB h]
 simp[zD,h]
theorem aUB{edges:List (List Int)}{set:List Int}{p j:Nat}(hj:j<(edges.getD p default).length)(h0:0≤(edges.getD p default).getD j default):(λx=>if x=((edges.getD p default).getD j default).toNat then tst ((edges.getD p default).getD j default∈set) else rJ edges set p j x)=rJ edges set p (j+1):=by
 funext x
 have ht:=gW hj
 unfold rJ
 rw[ht]
 by_cases e:x=((edges.getD p default).getD j default).toNat
 ·rw[if_pos e]
  have e2:(x:Int)=(edges.getD p default).getD j default:=by omega
  rw[e2]
  exact kG ⟨λh=>⟨List.mem_append_right _ (zN.2 rfl),h⟩,λh=>h.2⟩
 ·rw[if_neg e]
  refine kG ⟨λh=>⟨List.mem_append_left _ h.1,h.2⟩,λh=>⟨?_,h.2⟩⟩
  rcases zP.1 h.1 with h1|h1
  ·exact h1
  ·rw[zN] at h1
   omega
theorem aXJ(edges:List (List Int))(set:List Int)(p:Nat):rJ edges set p (edges.getD p default).length=r0 edges set p:=by
 funext x
 unfold rJ r0
 rw[List.take_length]
theorem wG{n:Nat}{ps:List Nat}(hn:ps.Nodup)(g:List D){r r':Nat->Nat->Bool}(h:∀x,r x=r' x):m3 ((26,g)::eH n ps r) ((26,g)::eH n ps r'):=by
 have:r=r':=funext h
 subst this
 exact eI hn g
theorem vQ(set:List Int):(c8 set).length=set.length:=zC _
theorem rD{set:List Int}{k:Nat}(h:k<set.length):(c8 set).getD k default=(set.getD k default).toNat:=by
 simp[c8,zD,h]
def wQ(r:Nat->Nat->Bool)(m p:Nat)(ps:List Nat):Nat->Nat->Nat->Bool
 | 0=>r
 | k+1=>λx=>if x=p then λy=>if y=ps.getD k default then wQ r m p ps k p (ps.getD k default)||(wQ r m p ps k p m&&wQ r m p ps k m (ps.getD k default)) else wQ r m p ps k x y else wQ r m p ps k x
theorem aBL(r:Nat->Nat->Bool)(m p:Nat)(ps:List Nat)(k:Nat):∀x,wQ r m p ps (k+1) x=if x=p then λy=>if y=ps.getD k default then wQ r m p ps k p (ps.getD k default)||(wQ r m p ps k p m&&wQ r m p ps k m (ps.getD k default)) else wQ r m p ps k x y else wQ r m p ps k x:=λ_=>rfl
def wP(r:Nat->Nat->Bool)(m:Nat)(ps:List Nat):Nat->Nat->Nat->Bool
 | 0=>r
 | j+1=>wQ (wP r m ps j) m (ps.getD j default) ps ps.length
def wM(ps:List Nat)(r:Nat->Nat->Bool):Nat->Nat->Nat->Bool
 | 0=>r
 | i+1=>wP (wM ps r i) (ps.getD i default) ps ps.length
def eL(C:Nat->Nat->Bool)(p q:Nat):Bool:=C p q&&C q p
def qI(C:Nat->Nat->Bool)(p:Nat)(qs:List Int)(j:Nat):List Int:=(qs.take j).filter λq=>eL C p q.toNat
def okC(C:Nat->Nat->Bool)(set:List Int)(i:Nat):Prop:=C (set.getD i default).toNat (set.getD i default).toNat=true/\∀l<i,eL C (set.getD i default).toNat (set.getD l default).toNat=false
open Classical in
noncomputable def cmp(C:Nat->Nat->Bool)(set:List Int):Nat->List (List Int)
 | 0=>[]
 | i+1=>if okC C set i then cmp C set i++[qI C (set.getD i default).toNat (set.drop i) (set.length-i)] else cmp C set i
theorem aBP{C:Nat->Nat->Bool}{set:List Int}{i:Nat}(h:okC C set i):cmp C set (i+1)=cmp C set i++[qI C (set.getD i default).toNat (set.drop i) (set.length-i)]:=if_pos h
theorem aC5{C:Nat->Nat->Bool}{set:List Int}{i:Nat}(h:¬okC C set i):cmp C set (i+1)=cmp C set i:=if_neg h
theorem aBJ(C:Nat->Nat->Bool)(set:List Int):∀i,(cmp C set i).length≤i
 | 0=>zQ _
 | i+1=>by
  have:=aBJ C set i
  rcases Classical.em (okC C set i) with h|h
  ·rw[aBP h,zK];simp only[List.length_cons,List.length_nil];omega
  ·rw[aC5 h];omega
noncomputable def fE(edges:List (List Int))(set:List Int):List (List Int):=cmp (wM (c8 set) (r0 edges set) set.length) set set.length
theorem aRP(C:Nat->Nat->Bool)(p:Nat)(qs:List Int)(j:Nat):(qI C p qs j).length≤j:=by
 unfold qI
 exact Nat.le_trans (List.length_filter_le _ _) (by rw[List.length_take];omega)
theorem aRL{C:Nat->Nat->Bool}{p:Nat}{qs:List Int}{j:Nat}(hj:j<qs.length)(h1:C p (qs.getD j default).toNat=true)(h2:C (qs.getD j default).toNat p=true):qI C p qs (j+1)=qI C p qs j++[qs.getD j default]:=by
 unfold qI
 rw[gW hj,List.filter_append,List.filter_cons_of_pos (by unfold eL;rw[h1,h2];rfl),List.filter_nil]
theorem aUK{C:Nat->Nat->Bool}{p:Nat}{qs:List Int}{j:Nat}(hj:j<qs.length)(h:C p (qs.getD j default).toNat=false∨C (qs.getD j default).toNat p=false):qI C p qs (j+1)=qI C p qs j:=by
 unfold qI
 rw[gW hj,List.filter_append,List.filter_cons_of_neg (by unfold eL;rcases h with h|h<;>rw[h]<;>simp),List.filter_nil,List.append_nil]
theorem aEv{α:Type} [Inhabited α] {g:Nat->α->D}{xs:List α}{P:D->Prop}(h:∀j x,P (g j x)):∀d∈lE g xs,P d:=λd hd=>by
 obtain⟨j,_,rfl⟩:=zJ.1 hd
 exact h j _
theorem aMG{α:Type} [Inhabited α] (g:Nat->α->D)(xs:List α)(x:α):lE g (xs++[x])=lE g xs++[g xs.length x]:=by
 unfold lE
 rw[zK,List.length_singleton,List.range_succ,List.map_append]
 congr 1
 ·refine List.map_congr_left λj hj=>?_
  have hj:=List.mem_range.1 hj
  simp[List.getD,zL hj]
 ·simp[List.getD]
def nX:List (Nat×List Nat):=[(0,[0,1]),(1,[0,1,5]),(2,[0,1,5,27,28,29]),(3,[0,1,5,27,28,29,30]),(4,[0,1,5,7,27,28,29]),(5,[0,1,5,7,27,28,29]),(6,[0,1,5,7,27,28,29,42,43,44]),(7,[0,1,5,7,27,28,29,42,43,44,45]),(8,[0,1,5,7,9,27,28,29,42,43,44]),(9,[0,1,5,7,27,28,29,42,43,44]),(10,[0,1,5,7,27,28,29,42,43,44]),(11,[0,1,5,27,28,29]),(12,[1,5,59,60,61]),(13,[1,5,59,60,61,62]),(14,[1,5,11,59,60,61]),(15,[1,5,11,59,60,61,65,66,67]),(16,[1,5,11,59,60,61,65,66,67,68]),(17,[1,5,11,13,59,60,61,65,66,67]),(18,[1,5,11,13,59,60,61,65,66,67,71,72,73]),(19,[1,5,11,13,59,60,61,65,66,67,71,72,73,74]),(20,[1,5,11,13,15,59,60,61,65,66,67,71,72,73]),(21,[1,5,11,13,59,60,61,65,66,67,71,72,73]),(22,[1,5,11,13,59,60,61,65,66,67,71,72,73]),(23,[1,5,11,59,60,61,65,66,67]),(24,[1,5,59,60,61]),(25,[1,5,16]),(26,[1,5,16,111,112,113]),(27,[1,5,16,111,112,113,114]),(28,[1,5,16,17,18,111,112,113]),(29,[1,5,16,17,18,111,112,113,125]),(30,[1,5,16,17,18,111,112,113,128,129,130]),(31,[1,5,16,17,18,111,112,113,128,129,130,131]),(32,[1,5,16,17,18,20,111,112,113,128,129,130]),(33,[1,5,16,17,18,111,112,113,128,129,130,149]),(34,[1,5,16,17,18,111,112,113,128,129,130]),(35,[1,5,16,17,18,21,111,112,113]),(36,[1,5,16,18,21,111,112,113,153,154,155]),(37,[1,5,16,18,21,111,112,113,153,154,155,156]),(38,[1,5,16,18,21,23,111,112,113,153,154,155]),(39,[1,5,16,18,21,23,111,112,113,153,154,155,174]),(40,[1,5,16,18,21,111,112,113,153,154,155]),(41,[1,5,16,18,21,111,112,113,153,154,155]),(42,[1,5,16,111,112,113]),(43,[1,5,16,111,112,113]),(44,[4])]
attribute [go_sem] nX
end
section
inductive TC (r:Nat->Nat->Bool):Nat->Nat->Prop
 | one {p q:Nat} (h:r p q=true):TC r p q
 | step {p m q:Nat} (h:r p m=true) (t:TC r m q):TC r p q
theorem TC.trans{r:Nat->Nat->Bool}{p m q:Nat}(h:TC r p m)(h':TC r m q):TC r p q:=by
 induction h with
 | one h=>exact .step h h'
 | step h _ ih=>exact .step h (ih h')
theorem TC.snoc{r:Nat->Nat->Bool}{p m q:Nat}(h:TC r p m)(h':r m q=true):TC r p q:=h.trans (.one h')
def leR(r r':Nat->Nat->Bool):Prop:=∀a b,r a b=true->r' a b=true
theorem leR.refl(r:Nat->Nat->Bool):leR r r:=λ_ _ h=>h
theorem leR.trans{r r' r'':Nat->Nat->Bool}(h:leR r r')(h':leR r' r''):leR r r'':=λa b x=>h' a b (h a b x)
theorem aVh(r:Nat->Nat->Bool)(m p:Nat)(ps:List Nat)(k:Nat):leR (wQ r m p ps k) (wQ r m p ps (k+1)):=λa b h=>by
 rw[aBL]
 by_cases e:a=p
 ·rw[if_pos e]
  by_cases e2:b=ps.getD k default
  ·show (if b=_ then _ else _)=true
   rw[if_pos e2]
   subst e;subst e2
   rw[h];rfl
  ·show (if b=_ then _ else _)=true
   rw[if_neg e2];exact h
 ·rw[if_neg e];exact h
theorem aKy(r:Nat->Nat->Bool)(m p:Nat)(ps:List Nat):∀k d,leR (wQ r m p ps k) (wQ r m p ps (k+d))
 | _,0=>leR.refl _
 | k,d+1=>(aKy r m p ps k d).trans (aVh r m p ps (k+d))
theorem aWz{r:Nat->Nat->Bool}{m p:Nat}{ps:List Nat}{k n:Nat}(hk:k<n)(h1:r p m=true)(h2:r m (ps.getD k default)=true):wQ r m p ps n p (ps.getD k default)=true:=by
 have a1:=aKy r m p ps 0 k p m h1
 have a2:=aKy r m p ps 0 k m (ps.getD k default) h2
 rw[Nat.zero_add] at a1 a2
 have:wQ r m p ps (k+1) p (ps.getD k default)=true:=by
  rw[aBL,if_pos rfl]
  show (if ps.getD k default=ps.getD k default then _ else _)=true
  rw[if_pos rfl,a1,a2]
  cases wQ r m p ps k p (ps.getD k default)<;>rfl
 have h3:=aKy r m p ps (k+1) (n-(k+1)) _ _ this
 rwa [show k+1+(n-(k+1))=n by omega] at h3
theorem aJI(r:Nat->Nat->Bool)(m:Nat)(ps:List Nat):∀j d,leR (wP r m ps j) (wP r m ps (j+d))
 | _,0=>leR.refl _
 | j,d+1=>(aJI r m ps j d).trans (by
   have:=aKy (wP r m ps (j+d)) m (ps.getD (j+d) default) ps 0 ps.length
   rw[Nat.zero_add] at this
   exact this)
theorem aWp{r:Nat->Nat->Bool}{m:Nat}{ps:List Nat}{j n k:Nat}(hj:j<n)(hk:k<ps.length)(h1:r (ps.getD j default) m=true)(h2:r m (ps.getD k default)=true):wP r m ps n (ps.getD j default) (ps.getD k default)=true:=by
 have a1:=aJI r m ps 0 j _ _ h1
 have a2:=aJI r m ps 0 j _ _ h2
 rw[Nat.zero_add] at a1 a2
 have:wP r m ps (j+1) (ps.getD j default) (ps.getD k default)=true:=aWz hk a1 a2
 have h3:=aJI r m ps (j+1) (n-(j+1)) _ _ this
 rwa [show j+1+(n-(j+1))=n by omega] at h3
def Via(r:Nat->Nat->Bool)(ps:List Nat):Nat->Nat->Nat->Prop
 | 0,p,q=>r p q=true
 | i+1,p,q=>Via r ps i p q∨(Via r ps i p (ps.getD i default)/\Via r ps i (ps.getD i default) q)
theorem aGy{r:Nat->Nat->Bool}{ps:List Nat}:∀i,i≤ps.length->∀a b,a<ps.length->b<ps.length->Via r ps i (ps.getD a default) (ps.getD b default)->wM ps r i (ps.getD a default) (ps.getD b default)=true
 | 0,_,a,b,_,_,h=>h
 | i+1,hi,a,b,ha,hb,h=>by
  have le:=aJI (wM ps r i) (ps.getD i default) ps 0 ps.length
  rw[Nat.zero_add] at le
  rcases h with h|⟨h1,h2⟩
  ·exact le _ _ (aGy i (by omega) a b ha hb h)
  ·exact aWp ha hb (aGy i (by omega) a i ha (by omega) h1) (aGy i (by omega) i b (by omega) hb h2)
theorem aFa{r:Nat->Nat->Bool}{ps:List Nat}:∀i,∀l<i,∀p q,Via r ps i p (ps.getD l default)->Via r ps i (ps.getD l default) q->Via r ps i p q
 | 0,l,hl,_,_,_,_=>by omega
 | i+1,l,hl,p,q,h1,h2=>by
  have ih:=@aFa r ps i
  by_cases e:l=i
  ·subst e
   have a1:Via r ps l p (ps.getD l default):=h1.elim id λh=>h.1
   have a2:Via r ps l (ps.getD l default) q:=h2.elim id λh=>h.2
   exact .inr ⟨a1,a2⟩
  ·have hl:l<i:=by omega
   rcases h1 with h1|⟨h1,h1'⟩<;>rcases h2 with h2|⟨h2,h2'⟩
   ·exact .inl (ih l hl _ _ h1 h2)
   ·exact .inr ⟨ih l hl _ _ h1 h2,h2'⟩
   ·exact .inr ⟨h1,ih l hl _ _ h1' h2⟩
   ·exact .inr ⟨h1,h2'⟩
theorem aK8{r:Nat->Nat->Bool}{ps:List Nat}:∀i p q,r p q=true->Via r ps i p q
 | 0,_,_,h=>h
 | i+1,p,q,h=>.inl (aK8 i p q h)
theorem aWA{r:Nat->Nat->Bool}{ps:List Nat}(hr:∀p q,r p q=true->q∈ps){p q:Nat}(h:TC r p q):Via r ps ps.length p q:=by
 induction h with
 | one h=>exact aK8 _ _ _ h
 | @step p m q h _ ih =>
  obtain⟨l,hl,e⟩:=List.getElem_of_mem (hr _ _ h)
  have e2:ps.getD l default=m:=by rw[zD,zB hl];exact e
  have h1:Via r ps ps.length p (ps.getD l default):=by rw[e2];exact aK8 _ _ _ h
  have h2:Via r ps ps.length (ps.getD l default) q:=by rw[e2];exact ih
  exact aFa _ l hl _ _ h1 h2
def aT5(r r':Nat->Nat->Bool):Prop:=∀a b,r' a b=true->TC r a b
theorem aTv{r0 r:Nat->Nat->Bool}(h:aT5 r0 r)(m p:Nat)(ps:List Nat):∀k,aT5 r0 (wQ r m p ps k)
 | 0=>h
 | k+1=>λa b hab=>by
  have ih:=aTv h m p ps k
  rw[aBL] at hab
  by_cases e:a=p
  ·rw[if_pos e] at hab
   have h2:(if b=ps.getD k default then wQ r m p ps k p (ps.getD k default)||(wQ r m p ps k p m&&wQ r m p ps k m (ps.getD k default)) else wQ r m p ps k a b)=true:=hab
   clear hab
   by_cases e2:b=ps.getD k default
   ·rw[if_pos e2] at h2
    rw[e,e2]
    rcases (Bool.or_eq_true _ _).mp h2 with h3|h3
    ·exact ih _ _ h3
    ·obtain⟨h4,h5⟩:=(Bool.and_eq_true _ _).mp h3
     exact(ih _ _ h4).trans (ih _ _ h5)
   ·rw[if_neg e2] at h2
    exact ih _ _ h2
  ·rw[if_neg e] at hab
   exact ih _ _ hab
theorem aRh{r0 r:Nat->Nat->Bool}(h:aT5 r0 r)(m:Nat)(ps:List Nat):∀j,aT5 r0 (wP r m ps j)
 | 0=>h
 | j+1=>aTv (aRh h m ps j) m _ ps _
theorem aTc(r:Nat->Nat->Bool)(ps:List Nat):∀i,aT5 r (wM ps r i)
 | 0=>λ_ _ h=>.one h
 | i+1=>aRh (aTc r ps i) _ ps _
theorem aWh{r:Nat->Nat->Bool}{ps:List Nat}(hr:∀p q,r p q=true->q∈ps){a b:Nat}(ha:a∈ps)(hb:b∈ps):wM ps r ps.length a b=true↔TC r a b:=by
 refine⟨aTc r ps _ a b,λh=>?_⟩
 obtain⟨i,hi,rfl⟩:=List.getElem_of_mem ha
 obtain⟨j,hj,rfl⟩:=List.getElem_of_mem hb
 have hv:=aWA hr h
 have e1:ps.getD i default=ps[i]:=by rw[zD,zB hi];rfl
 have e2:ps.getD j default=ps[j]:=by rw[zD,zB hj];rfl
 rw[←e1,←e2] at hv ⊢
 exact aGy _ (zQ _) i j hi hj hv
theorem aTM{edges:List (List Int)}{set:List Int}{p q:Nat}(h:r0 edges set p q=true):q∈c8 set:=by
 unfold r0 at h
 rw[iY] at h
 exact zJ.2 ⟨_,h.2,by simp⟩
end
section
theorem aEW{n:Int}:∀ {xs:List Int},n∉xs->(eF xs n).length=xs.length+1
 | [],_=>rfl
 | x::r,h=>by
  unfold eF
  split
  ·simp only[List.length_cons,aEW (xs:=r) λe=>h (zG _ e)]
  ·split
   ·rename_i e;exact absurd (e ▸ zH) h
   ·rfl
theorem aIu{out set:List Int}(h:lQ out)(hs:lQ set)(hh:∀q∈out,q∈set):out.length≤set.length:=by
 have e:out=set.filter λq=>decide (q∈out):=vR h (List.Pairwise.filter _ hs) λx=>by
  rw[List.mem_filter]
  exact⟨λhx=>⟨hh x hx,decide_eq_true hx⟩,λhx=>of_decide_eq_true hx.2⟩
 rw[e];exact List.length_filter_le _ _
noncomputable def aBv(edges:List (List Int))(set:List Int)(a:Int):List Int:=set.filter λq=>tst (TC (r0 edges set) a.toNat q.toNat)
theorem aOv{edges:List (List Int)}{set:List Int}{a q:Int}:q∈aBv edges set a↔q∈set/\TC (r0 edges set) a.toNat q.toNat:=by
 unfold aBv
 rw[List.mem_filter,iY]
def Clo(edges:List (List Int))(set out:List Int)(p:Int):Prop:=∀q∈set,q∈edges.getD p.toNat default->q∈out
structure AftI (edges:List (List Int)) (set:List Int) (a:Int) (out todo:List Int):Prop where
 srt:lQ out
 sub:∀q∈out,q∈set/\TC (r0 edges set) a.toNat q.toNat
 tod:∀q∈todo,q=a∨q∈out
 clo:∀p,(p=a∨p∈out)->p∈todo∨Clo edges set out p
structure AftJ (edges:List (List Int)) (set:List Int) (a p:Int) (i:Nat) (out todo:List Int):Prop where
 srt:lQ out
 sub:∀q∈out,q∈set/\TC (r0 edges set) a.toNat q.toNat
 tod:∀q∈todo,q=a∨q∈out
 pin:p=a∨p∈out
 clo:∀p',(p'=a∨p'∈out)->p'=p∨p'∈todo∨Clo edges set out p'
 pre:∀q∈set,q∈(edges.getD p.toNat default).take i->q∈out
def aEg(set out todo:List Int):Nat:=2*(set.length-out.length)+todo.length
section
variable {edges:List (List Int)} {set:List Int} {a:Int}
theorem AftI.start:AftI edges set a [] [a] :=
 ⟨List.Pairwise.nil,λq hq=>(by cases hq),λq hq=>.inl (zN.1 hq),λp hp=>by
  rcases hp with rfl|hp
  ·exact .inl (zN.2 rfl)
  ·cases hp⟩
theorem AftI.pop{out todo:List Int}{p:Int}(h:AftI edges set a out (p::todo)):AftJ edges set a p 0 out todo :=
 ⟨h.srt,h.sub,λq hq=>h.tod q (zG _ hq),h.tod p zH,λp' hp'=>by
  rcases h.clo p' hp' with h1|h1
  ·rcases zO.1 h1 with h1|h1
   ·exact .inl h1
   ·exact .inr (.inl h1)
  ·exact .inr (.inr h1),λq _ hq=>by rw[List.take_zero] at hq;cases hq⟩
theorem AftJ.done{out todo:List Int}{p:Int}{i:Nat}(h:AftJ edges set a p i out todo)(hi:(edges.getD p.toNat default).length≤i):AftI edges set a out todo :=
 ⟨h.srt,h.sub,h.tod,λp' hp'=>by
  rcases h.clo p' hp' with rfl|h1|h1
  ·exact .inr λq hq hg=>h.pre q hq (by rw[List.take_of_length_le hi];exact hg)
  ·exact .inl h1
  ·exact .inr h1⟩
theorem AftJ.skip{out todo:List Int}{p:Int}{i:Nat}(h:AftJ edges set a p i out todo)(hi:i<(edges.getD p.toNat default).length)(hq:(edges.getD p.toNat default).getD i default∈set->(edges.getD p.toNat default).getD i default∈out):AftJ edges set a p (i+1) out todo :=
 ⟨h.srt,h.sub,h.tod,h.pin,h.clo,λq h1 h2=>by
  rw[gW hi] at h2
  rcases zP.1 h2 with h2|h2
  ·exact h.pre q h1 h2
  ·rw[zN.1 h2] at h1 ⊢;exact hq h1⟩
theorem AftJ.push{out todo:List Int}{p:Int}{i:Nat}(h:AftJ edges set a p i out todo)(ha:0≤a)(hp:∀q∈set,0≤q)(hi:i<(edges.getD p.toNat default).length)(hq:(edges.getD p.toNat default).getD i default∈set):AftJ edges set a p (i+1) (eF out ((edges.getD p.toNat default).getD i default)) (todo++[(edges.getD p.toNat default).getD i default]):=by
 have hmem:∀x,x∈eF out ((edges.getD p.toNat default).getD i default)↔x∈out∨x=(edges.getD p.toNat default).getD i default:=λx=>kB x _ _
 have hin:(edges.getD p.toNat default).getD i default∈edges.getD p.toNat default:=bA _ _ hi
 have hr:r0 edges set p.toNat ((edges.getD p.toNat default).getD i default).toNat=true:=by
  unfold r0
  rw[iY,Int.toNat_of_nonneg (hp _ hq)]
  exact⟨hin,hq⟩
 have hT:TC (r0 edges set) a.toNat ((edges.getD p.toNat default).getD i default).toNat:=by
  rcases h.pin with rfl|h1
  ·exact .one hr
  ·exact(h.sub p h1).2.snoc hr
 refine⟨uZ _ _ h.srt,λq h1=>?_,λq h1=>?_,h.pin.imp id λh1=>(hmem p).2 (.inl h1),λp' h1=>?_,λq h1 h2=>?_⟩
 ·rcases (hmem q).1 h1 with h1|rfl
  ·exact h.sub q h1
  ·exact⟨hq,hT⟩
 ·rcases zP.1 h1 with h1|h1
  ·exact(h.tod q h1).imp id λh2=>(hmem q).2 (.inl h2)
  ·rw[zN.1 h1];exact .inr ((hmem _).2 (.inr rfl))
 ·have h2:p'=(edges.getD p.toNat default).getD i default∨(p'=a∨p'∈out):=by
   rcases h1 with h1|h1
   ·exact .inr (.inl h1)
   ·rcases (hmem p').1 h1 with h1|h1
    ·exact .inr (.inr h1)
    ·exact .inl h1
  rcases h2 with h2|h2
  ·exact .inr (.inl (by rw[h2];simp))
  ·rcases h.clo p' h2 with h3|h3|h3
   ·exact .inl h3
   ·exact .inr (.inl (List.mem_append_left _ h3))
   ·exact .inr (.inr λq k1 k2=>(hmem q).2 (.inl (h3 q k1 k2)))
 ·rw[gW hi] at h2
  rcases zP.1 h2 with h2|h2
  ·exact(hmem q).2 (.inl (h.pre q h1 h2))
  ·exact(hmem q).2 (.inr (zN.1 h2))
theorem AftI.reach{out:List Int}(h:AftI edges set a out [])(ha:0≤a){p q:Nat}(ht:TC (r0 edges set) p q):((p:Int)=a∨(p:Int)∈out)->(q:Int)∈out:=by
 have key:∀ {p m:Nat},r0 edges set p m=true->((p:Int)=a∨(p:Int)∈out)->(m:Int)∈out:=λ{p m} hr hp=>by
  unfold r0 at hr
  rw[iY] at hr
  rcases h.clo p hp with h1|h1
  ·cases h1
  ·exact h1 m hr.2 (by rw[Int.toNat_natCast];exact hr.1)
 induction ht with
 | one hr=>exact key hr
 | step hr _ ih=>exact λhp=>ih (.inr (key hr hp))
theorem AftI.eq{out:List Int}(h:AftI edges set a out [])(ha:0≤a)(hs:lQ set)(hp:∀q∈set,0≤q):out=aBv edges set a :=
 vR h.srt (List.Pairwise.filter _ hs) λq=>by
  show q∈out↔q∈aBv edges set a
  rw[aOv]
  refine⟨h.sub q,λhq=>?_⟩
  have:=h.reach ha hq.2 (.inl (Int.toNat_of_nonneg ha))
  rwa [Int.toNat_of_nonneg (hp q hq.1)] at this
end
noncomputable def CM(edges:List (List Int))(set:List Int):Nat->Nat->Bool:=wM (c8 set) (r0 edges set) set.length
section
variable {edges:List (List Int)} {set:List Int}
theorem aJ5{q:Int}(h:q∈set):q.toNat∈c8 set:=zJ.2 ⟨q,h,rfl⟩
theorem aN0{p q:Int}(hp:p∈set)(hq:q∈set):CM edges set p.toNat q.toNat=true↔TC (r0 edges set) p.toNat q.toNat:=by
 unfold CM
 rw[←vQ]
 exact aWh (λ_ _ h=>aTM h) (aJ5 hp) (aJ5 hq)
theorem aM7{p q:Int}(hp:p∈set)(hq:q∈set):q∈aBv edges set p↔CM edges set p.toNat q.toNat=true:=by
 rw[aOv,aN0 hp hq]
 exact⟨λh=>h.2,λh=>⟨hq,h⟩⟩
theorem v8{p m q:Int}(hp:p∈set)(hm:m∈set)(hq:q∈set)(h1:CM edges set p.toNat m.toNat=true)(h2:CM edges set m.toNat q.toNat=true):CM edges set p.toNat q.toNat=true :=
 (aN0 hp hq).2 (((aN0 hp hm).1 h1).trans ((aN0 hm hq).1 h2))
theorem wZ{C:Nat->Nat->Bool}{p q:Nat}:eL C p q=true↔C p q=true/\C q p=true:=by unfold eL;simp
theorem yD{C:Nat->Nat->Bool}{p q:Nat}:eL C p q=eL C q p:=by unfold eL;rw[Bool.and_comm]
theorem aNq{p m q:Int}(hp:p∈set)(hm:m∈set)(hq:q∈set)(h1:eL (CM edges set) p.toNat m.toNat=true)(h2:eL (CM edges set) m.toNat q.toNat=true):eL (CM edges set) p.toNat q.toNat=true:=by
 rw[wZ] at *
 exact⟨v8 hp hm hq h1.1 h2.1,v8 hq hm hp h2.2 h1.2⟩
def qD(edges:List (List Int))(set:List Int)(i:Nat)(done:List Int):Prop:=∀q∈set,q∈done↔∃l<i,okC (CM edges set) set l/\eL (CM edges set) (set.getD l default).toNat q.toNat=true
theorem qD.start:qD edges set 0 []:=λq _=>⟨λh=>(by cases h),λ⟨l,h,_⟩=>absurd h (by omega)⟩
theorem qD.ok{i:Nat}{done:List Int}(h:qD edges set i done)(hi:i<set.length):okC (CM edges set) set i↔(set.getD i default∈aBv edges set (set.getD i default)/\set.getD i default∉done):=by
 have hm:set.getD i default∈set:=bA set i hi
 rw[aM7 hm hm,h _ hm]
 constructor
 ·rintro⟨h1,h2⟩
  refine⟨h1,?_⟩
  rintro⟨l,hl,_,h3⟩
  rw[yD,h2 l hl] at h3
  cases h3
 ·rintro⟨h1,h2⟩
  refine⟨h1,λl hl=>?_⟩
  have key:∀n l,l≤n->l<i->eL (CM edges set) (set.getD i default).toNat (set.getD l default).toNat=true->False:=by
   intro n
   induction n with
   | zero =>
    intro l hl hli hb
    obtain rfl:l=0:=by omega
    have hml:set.getD 0 default∈set:=bA set 0 (by omega)
    refine h2 ⟨0,hli,⟨?_,λl' hl'=>absurd hl' (by omega)⟩,by rw[yD];exact hb⟩
    have hb':=wZ.1 hb
    exact v8 hml hm hml hb'.2 hb'.1
   | succ n ih =>
    intro l hl hli hb
    have hml:set.getD l default∈set:=bA set l (by omega)
    by_cases hex:∃l',l'<l/\eL (CM edges set) (set.getD l default).toNat (set.getD l' default).toNat=true
    ·obtain⟨l',h3,h4⟩:=hex
     exact ih l' (by omega) (by omega) (aNq hm hml (bA set l' (by omega)) hb h4)
    ·refine h2 ⟨l,hli,⟨?_,λl' hl'=>?_⟩,by rw[yD];exact hb⟩
     ·have hb':=wZ.1 hb
      exact v8 hml hm hml hb'.2 hb'.1
     ·cases hb2:eL (CM edges set) (set.getD l default).toNat (set.getD l' default).toNat with
      | false=>rfl
      | true=>exact absurd ⟨l',hl',hb2⟩ hex
  cases hb:eL (CM edges set) (set.getD i default).toNat (set.getD l default).toNat with
  | false=>rfl
  | true=>exact(key l l (zQ _) hl hb).elim
theorem qD.no{i:Nat}{done:List Int}(h:qD edges set i done)(ho:¬okC (CM edges set) set i):qD edges set (i+1) done:=λq hq=>by
 rw[h q hq]
 constructor
 ·rintro⟨l,h1,h2⟩;exact⟨l,by omega,h2⟩
 ·rintro⟨l,h1,h2,h3⟩
  rcases Nat.lt_or_ge l i with h4|h4
  ·exact⟨l,h4,h2,h3⟩
  ·obtain rfl:l=i:=by omega
   exact absurd h2 ho
noncomputable def prS(edges:List (List Int))(set:List Int)(i k:Nat):List Int:=(set.take k).filter λq=>eL (CM edges set) (set.getD i default).toNat q.toNat
theorem aU3{i k:Nat}(hk:k<set.length)(h:eL (CM edges set) (set.getD i default).toNat (set.getD k default).toNat=true):prS edges set i (k+1)=prS edges set i k++[set.getD k default]:=by
 unfold prS
 rw[gW hk,List.filter_append]
 simp only[List.filter_cons,List.filter_nil,h,if_true]
theorem aWZ{i k:Nat}(hk:k<set.length)(h:¬eL (CM edges set) (set.getD i default).toNat (set.getD k default).toNat=true):prS edges set i (k+1)=prS edges set i k:=by
 unfold prS
 rw[gW hk,List.filter_append]
 simp only[List.filter_cons,List.filter_nil,if_neg h,List.append_nil]
theorem aJO(i:Nat):prS edges set i 0=[]:=by unfold prS;rw[List.take_zero];rfl
theorem aVe(i k:Nat):(prS edges set i k).length≤k:=by
 unfold prS
 exact Nat.le_trans (List.length_filter_le _ _) (by rw[List.length_take];omega)
theorem qD.yes{i:Nat}{done:List Int}(h:qD edges set i done)(ho:okC (CM edges set) set i){k:Nat}(hk:set.length≤k):qD edges set (i+1) (done++prS edges set i k):=λq hq=>by
 unfold prS
 rw[List.take_of_length_le hk,zP,List.mem_filter,h q hq]
 constructor
 ·rintro (⟨l,h1,h2⟩|⟨_,h2⟩)
  ·exact⟨l,by omega,h2⟩
  ·exact⟨i,by omega,ho,h2⟩
 ·rintro⟨l,h1,h2,h3⟩
  rcases Nat.lt_or_ge l i with h4|h4
  ·exact .inl ⟨l,h4,h2,h3⟩
  ·obtain rfl:l=i:=by omega
   exact .inr ⟨hq,h3⟩
theorem aW9{i:Nat}(hi:i<set.length)(ho:okC (CM edges set) set i){k:Nat}(hk:set.length≤k):prS edges set i k=qI (CM edges set) (set.getD i default).toNat (set.drop i) (set.length-i):=by
 unfold prS qI
 rw[List.take_of_length_le hk,List.take_of_length_le (by rw[List.length_drop];omega)]
 have hsp:∀f:Int->Bool,set.filter f=(set.take i).filter f++(set.drop i).filter f:=λf=>by rw[←List.filter_append,List.take_append_drop]
 rw[hsp]
 have:(set.take i).filter (λq=>eL (CM edges set) (set.getD i default).toNat q.toNat)=[]:=by
  rw[List.filter_eq_nil_iff]
  intro q hq
  obtain⟨l,hl,rfl⟩:=List.getElem_of_mem hq
  rw[List.length_take] at hl
  rw[List.getElem_take]
  have:=ho.2 l (by omega)
  rw[zD (l:=set) (i:=l),zB (by omega)] at this
  simpa using this
 rw[this,List.nil_append]
end
end
section
attribute [local irreducible] SW bC bE dE bU FC dO aBv CM
def aAJ:List (Nat×List Nat):=[(0,[0,1,2]),(1,[0,1,2,7]),(2,[0,1,7,8]),(3,[0,1,7,8,17]),(4,[0,1,7,8,9]),(5,[0,1,7,8,9]),(6,[0,1,7,8,9,10]),(7,[0,1,7,8,9,10,29]),(9,[0,1,7,8,9,10,11]),(10,[0,1,7,8,9,10,11,47]),(11,[0,1,7,8,9,10,11]),(12,[0,1,7,8,9,10]),(8,[0,1,7,8,9,10]),(13,[6])]
attribute [go_sem] aAJ
theorem aKe(edges:List (List Int))(set:List Int)(a:Int)(hn:edges.length≤1000)(hin:∀q∈set,0≤q/\q<edges.length)(ha:0≤a/\a<edges.length)(hEl:∀i<edges.length,(edges.getD i default).length≤1000)(hs:lQ set)(hsl:set.length≤1000):FC S 83 [] [] [] [.sl .any (edges.map b6),.sl .any (set.map (.int .i64)),.int .i64 a] (.sl .any ((aBv edges set a).map (.int .i64))) [] []:=by
 have hp0:∀q∈set,0≤q:=λq hq=>(hin q hq).1
 refine aP Tryz.func83 rfl (by kernel_rfl) (by simp[Tryz.f83]) λB=>?_
 simp only[Tryz.ntmps83,aS,aZ,Nat.reduceAdd]
 repeat' first|((refine aCs (id:=2) 0 aAJ 1 55000 rfl λK hK=>?_))|((refine⟨_,_,_,rfl,rfl,rfl,⟨⟨by simp only[Nat.reduceLT],by decide,by decide,by decide⟩,rfl,by simp[D.strip,fX,D.cells,D.memOk,TyI.size]⟩,rfl,by simp only[Nat.reduceLT],?_⟩;simp only[go_sem]))|apply aE|apply aG|refine aI 0 aAJ λK hK=>?_|((first|apply aD|refine aA (aO ?_)|apply aA);simp(disch:=apply aB;omega)only[go_sem,Tryz.results83])|(apply hK.nil;clear hK K;simp only[go_sem])|fail
 refine aTw 8 rfl ?_
 simp only[go_sem]
 refine bG (ι:=List Int×List Int) (λp=>[(0,.sl .any (edges.map b6)),(1,.sl .any (set.map (.int .i64))),(7,.sl .any (p.1.map (.int .i64))),(8,.sl (.que 55000 2) (p.2.map (.int .i64)))]) (λ_=>[]) (λ_=>[55000]) (λp=>AftI edges set a p.1 p.2/\aEg set p.1 p.2≤2001) (λp=>aEg set p.1 p.2) ([],[a]) (by(refine aC rfl rfl ?_ ?_ ?_ ?_<;>simp(disch:=apply aB;omega)only[go_sem]<;>(try omega))) ⟨AftI.start,by show 2*(set.length-0)+1≤2001;omega⟩ (λp hp=>?_)
 obtain⟨out,todo⟩:=p
 obtain⟨hp,hM⟩:=hp
 dsimp only at hp hM
 simp only[go_sem]
 rcases todo with _|⟨p,todo⟩
 ·repeat' first|((exfalso;omega))|apply aE|refine aI 0 aAJ λK hK=>?_|((first|apply aD|refine aA (aO ?_)|apply aA);simp(disch:=apply aB;omega)only[go_sem,Tryz.results83])|(apply hK.nil;clear hK K;simp only[go_sem])|((first|refine aH rfl rfl rfl rfl rfl ?_ ?_|refine aF rfl ?_ ?_)<;>intro h<;>try simp(disch:=apply aB;omega)only[go_sem] at h)|refine aT rfl ?_|fail
  all_goals first|exact hp.eq ha.1 hs hp0|(rw[hp.eq ha.1 hs hp0];done)|trace_state
 ·have hpr:0≤p/\p<edges.length:=by
   rcases hp.tod p zH with rfl|h
   ·exact ha
   ·exact hin p (hp.sub p h).1
  have hgl:=hEl p.toNat (by omega)
  have hJ:=hp.pop
  have hm0:aEg set out todo+1≤aEg set out (p::todo):=by unfold aEg;simp only[List.length_cons];omega
  generalize hm1:aEg set out (p::todo)=m0 at *
  repeat' first|((exfalso;omega))|((refine pU (id:=5) 0 aAJ 1 rfl λK hK=>?_))|apply aE|apply aG|apply aJ|refine aI 0 aAJ λK hK=>?_|((first|apply aD|refine aA (aO ?_)|apply aA);simp(disch:=apply aB;omega)only[go_sem,Tryz.results83])|(apply hK.nil;clear hK K;simp only[go_sem])|((first|refine aH rfl rfl rfl rfl rfl ?_ ?_|refine aF rfl ?_ ?_)<;>intro h<;>try simp(disch:=apply aB;omega)only[go_sem] at h)|(with_reducible refine And.intro (by first|omega|(simp only[lens];omega)) ?_)|fail
  refine aU.sliceQue (tk:=.que 55000 2) (k:=55000) (xs:=(p::todo).map (.int .i64)) (m:=1) (kd:=.i64) (by simp only[go_sem]) (.inr rfl) (by simp only[go_sem]) rfl rfl rfl ⟨by decide,by rw[zC,List.length_cons];omega⟩ (λx hx=>by obtain⟨y,_,rfl⟩:=zJ.1 hx;rfl) (by simp only[Nat.reduceLT]) (aU.nil ?_)
  simp only[go_sem]
  refine λ(K:List Oper->LS->Prop) (hK:KOk S 0 _ _ _ K)=>?_
  try simp only[go_sem]
  repeat' first|apply aE|apply aG|refine aI 0 aAJ λK hK=>?_|((first|apply aD|refine aA (aO ?_)|apply aA);simp(disch:=apply aB;omega)only[go_sem,Tryz.results83])|(apply hK.nil;clear hK K;simp only[go_sem])|fail
  refine bG (ι:=Nat×List Int×List Int) (λq=>[(0,.sl .any (edges.map b6)),(1,.sl .any (set.map (.int .i64))),(7,.sl .any (q.2.1.map (.int .i64))),(8,.sl (.que 55000 2) (q.2.2.map (.int .i64))),(9,.int .i64 p),(10,.int .i64 q.1)]) (λ_=>[]) (λ_=>[55000]) (λq=>q.1≤(edges.getD p.toNat default).length/\AftJ edges set a p q.1 q.2.1 q.2.2/\aEg set q.2.1 q.2.2+1≤m0) (λq=>(edges.getD p.toNat default).length-q.1) (0,out,todo) (by(refine aC rfl rfl ?_ ?_ ?_ ?_<;>simp(disch:=apply aB;omega)only[go_sem]<;>(try omega));all_goals first|exact⟨rfl,rfl⟩|trace_state) ⟨by simp,hJ,hm0⟩ (λq hq=>?_)
  obtain⟨i,out',todo'⟩:=q
  obtain⟨h1,h2,h3⟩:=hq
  dsimp only at h1 h2 h3
  simp only[go_sem]
  have hol:=aIu h2.srt hs λq hq=>(h2.sub q hq).1
  have htl:todo'.length≤2001:=by unfold aEg at h3;omega
  by_cases hig:i<(edges.getD p.toNat default).length
  ·have c1:=gD .any set ((edges.getD p.toNat default).getD i default)
   have c2:=gD .any out' ((edges.getD p.toNat default).getD i default)
   have c3:=oA .any out' ((edges.getD p.toNat default).getD i default) (by omega)
   have hi2:i<(edges.getD p.toNat default).length:=hig
   by_cases k1:(edges.getD p.toNat default).getD i default∈set
   ·by_cases k2:(edges.getD p.toNat default).getD i default∈out'
    ·have hS:=h2.skip hi2 (λ_=>k2)
     repeat' first|((exfalso;omega))|((exact absurd k1 (by assumption)))|((exact absurd k2 (by assumption)))|apply aE|apply aG|apply aM|apply aJ|refine aI 0 aAJ λK hK=>?_|((first|apply aD|refine aA (aO ?_)|apply aA);simp(disch:=apply aB;omega)only[go_sem,Tryz.results83])|(apply hK.nil;clear hK K;simp only[go_sem])|((first|refine aH rfl rfl rfl rfl rfl ?_ ?_|refine aF rfl ?_ ?_)<;>intro h<;>try simp(disch:=apply aB;omega)only[go_sem] at h)|apply aL|refine hK.c0 rfl rfl rfl (c1) rfl rfl rfl ?_|refine hK.c0 rfl rfl rfl (c2) rfl rfl rfl ?_|(with_reducible refine And.intro (by first|omega|(simp only[lens];omega)) ?_)|fail
     all_goals exact⟨(i+1,out',todo'),(by(refine aC rfl rfl ?_ ?_ ?_ ?_<;>simp(disch:=apply aB;omega)only[go_sem]<;>(try omega))),⟨by dsimp only;omega,hS,h3⟩,by dsimp only;omega⟩
    ·have hS:=h2.push ha.1 hp0 hi2 k1
     have hnl:=aEW k2
     have hol2:=aIu hS.srt hs λq hq=>(hS.sub q hq).1
     have hm2:aEg set (eF out' ((edges.getD p.toNat default).getD i default)) (todo'++[(edges.getD p.toNat default).getD i default])+1≤m0:=by
      unfold aEg at h3 ⊢
      rw[zK,List.length_singleton]
      omega
     generalize hzo:eF out' ((edges.getD p.toNat default).getD i default)=zo at *
     repeat' first|((exfalso;omega))|((exact absurd k1 (by assumption)))|((exact absurd (by assumption) k2))|((refine pU (id:=12) 0 aAJ 3 rfl λK hK=>?_))|apply aE|apply aG|apply aJ|refine aI 0 aAJ λK hK=>?_|((first|apply aD|refine aA (aO ?_)|apply aA);simp(disch:=apply aB;omega)only[go_sem,Tryz.results83])|(apply hK.nil;clear hK K;simp only[go_sem])|((first|refine aH rfl rfl rfl rfl rfl ?_ ?_|refine aF rfl ?_ ?_)<;>intro h<;>try simp(disch:=apply aB;omega)only[go_sem] at h)|refine hK.c0 rfl rfl rfl (c1) rfl rfl rfl ?_|refine hK.c0 rfl rfl rfl (c2) rfl rfl rfl ?_|refine hK.c0 rfl rfl rfl (c3) rfl rfl rfl ?_|(with_reducible refine And.intro (by first|omega|(simp only[lens];omega)) ?_)|fail
     refine aU.appQue 55000 (k:=55000) (tk2:=.full) (xs:=todo'.map (.int .i64)) (y:=.int .i64 ((edges.getD p.toNat default).getD i default)) (by simp only[go_sem]) (by simp only[go_sem]) rfl rfl rfl (by simp) (by first|rfl|(simp only[go_sem];done)) (λx hx=>by obtain⟨y,_,rfl⟩:=zJ.1 hx;rfl) rfl (by rw[zC];simp only[TyI.bytes];omega) (by rw[zC];omega) (by simp only[Nat.reduceLT]) (aU.nil ?_)
     simp only[go_sem]
     refine λ(K:List Oper->LS->Prop) (hK:KOk S 0 _ _ _ K)=>?_
     try simp only[go_sem]
     repeat' first|apply aM|refine aI 0 aAJ λK hK=>?_|((first|apply aD|refine aA (aO ?_)|apply aA);simp(disch:=apply aB;omega)only[go_sem,Tryz.results83])|(apply hK.nil;clear hK K;simp only[go_sem])|apply aL|fail
     all_goals exact⟨(i+1,zo,todo'++[(edges.getD p.toNat default).getD i default]),(by(refine aC rfl rfl ?_ ?_ ?_ ?_<;>simp(disch:=apply aB;omega)only[go_sem]<;>(try omega));all_goals first|(simp;done)|trace_state),⟨by dsimp only;omega,hS,hm2⟩,by dsimp only;omega⟩
   ·have hS:=h2.skip hi2 (λh=>absurd h k1)
    repeat' first|((exfalso;omega))|((exact absurd (by assumption) k1))|apply aE|apply aG|apply aM|apply aJ|refine aI 0 aAJ λK hK=>?_|((first|apply aD|refine aA (aO ?_)|apply aA);simp(disch:=apply aB;omega)only[go_sem,Tryz.results83])|(apply hK.nil;clear hK K;simp only[go_sem])|((first|refine aH rfl rfl rfl rfl rfl ?_ ?_|refine aF rfl ?_ ?_)<;>intro h<;>try simp(disch:=apply aB;omega)only[go_sem] at h)|refine hK.skp rfl rfl ?_|apply aL|refine hK.c0 rfl rfl rfl (c1) rfl rfl rfl ?_|(with_reducible refine And.intro (by first|omega|(simp only[lens];omega)) ?_)|fail
    all_goals exact⟨(i+1,out',todo'),(by(refine aC rfl rfl ?_ ?_ ?_ ?_<;>simp(disch:=apply aB;omega)only[go_sem]<;>(try omega))),⟨by dsimp only;omega,hS,h3⟩,by dsimp only;omega⟩
  ·have hD:=h2.done (by omega)
   repeat' first|((exfalso;omega))|apply aE|apply aM|refine aI 0 aAJ λK hK=>?_|((first|apply aD|refine aA (aO ?_)|apply aA);simp(disch:=apply aB;omega)only[go_sem,Tryz.results83])|(apply hK.nil;clear hK K;simp only[go_sem])|((first|refine aH rfl rfl rfl rfl rfl ?_ ?_|refine aF rfl ?_ ?_)<;>intro h<;>try simp(disch:=apply aB;omega)only[go_sem] at h)|refine aT rfl ?_|apply aL|(with_reducible refine And.intro (by first|omega|(simp only[lens];omega)) ?_)|fail
   all_goals exact⟨(out',todo'),(by(refine aC rfl rfl ?_ ?_ ?_ ?_<;>simp(disch:=apply aB;omega)only[go_sem]<;>(try omega))),⟨hD,by dsimp only;omega⟩,by dsimp only;omega⟩
end
section
attribute [local irreducible] SW bC bE dE bU FC dO aBv CM okC prS
def wY:List (Nat×List Nat):=[(0,[0,1]),(1,[0,1,5]),(2,[0,1,5,6]),(3,[0,1,5,6,16]),(5,[0,1,5,6]),(4,[0,1,5,6]),(6,[1,5,7]),(7,[1,5,7,8]),(8,[1,5,7,8,9]),(9,[1,5,7,8,9,34]),(11,[1,5,7,8,9,54]),(12,[1,5,7,8,9,10]),(13,[1,5,7,8,9,10,11]),(14,[1,5,7,8,9,10,11,59]),(16,[1,5,7,8,9,10,11,81]),(17,[1,5,7,8,9,10,11]),(18,[1,5,7,8,9,10,11]),(15,[1,5,7,8,9,10,11]),(19,[1,5,7,8,9]),(10,[1,5,7,8,9]),(20,[4])]
attribute [go_sem] wY
end
section
attribute [local irreducible] SW bC bE dE bU FC dO toF dP fV fD sumF bR
def aRs:List (Nat×List Nat):=[(0,[1,2]),(1,[3])]
attribute [go_sem] aRs
theorem aEn(f:Int)(r:RuleT)(h:1≤r.l.length):FC S 150 [(3,[.int .i64 f])] [] [] ([fT r]++[.box 3 0]) (.bool (tst (r.l.getD 0 default=f))) [] []:=by
 refine aP Tryz.func150 rfl (by kernel_rfl) (by simp[Tryz.f150]) λB=>?_
 simp only[Tryz.ntmps150,aS,aZ,Nat.reduceAdd]
 repeat' first|apply aE|refine aI 100 aRs λK hK=>?_|refine aY aRs (by kernel_rfl) λK hK=>?_|((first|apply aD|apply aK|refine aA (aO ?_)|apply aA);simp(disch:=apply aB;omega)only[go_sem,Tryz.results150])|(apply hK.nil;clear hK K;simp only[go_sem])|(with_reducible refine And.intro (by first|omega|(simp only[lens];omega)) ?_)|fail
def aV3:List (Nat×List Nat):=[(0,[2,3]),(1,[4])]
attribute [go_sem] aV3
theorem pX(x:SystemT)(f:Int)(h:∀r∈x.rules,1≤r.l.length):FC S 130 [] [] [] [bP x,.int .i64 f] (.bool (tst (aEe x f))) [] []:=by
 refine aP Tryz.func130 rfl (by kernel_rfl) (by simp[Tryz.f130]) λB=>?_
 simp only[Tryz.ntmps130,aS,aZ,Nat.reduceAdd]
 repeat' first|apply aE|refine aI 0 aV3 λK hK=>?_|((first|apply aD|refine aA (aO ?_)|apply aA);simp(disch:=apply aB;omega)only[go_sem,Tryz.results130])|(apply hK.nil;clear hK K;simp only[go_sem])|refine hK.call rfl rfl rfl (tW _ x.rules (λr=>r.l.getD 0 default=f) _ _ [(3,[.int .i64 f])] (by simp[Lg.look]) (λr hr=>aEn f r (h r hr))) ⟨(by simp[LS.getBox,Lg.look]),rfl,rfl,(by simp only[dC,Nat.reduceLT])⟩ ?_|fail
 exact Iff.rfl
def aLh:List (Nat×List Nat):=[(0,[1,2,3,4]),(1,[1,3,4,9]),(2,[1,3,4,9,14]),(4,[1,3,4,9,22]),(5,[8]),(3,[1,3,4,9]),(6,[8])]
attribute [go_sem] aLh
theorem yB(rs t u:List Int)(hT:aX rs t):FC S 92 [] [] [] [.agg [.sl .any (rs.map (.int .i64))],.sl .any (t.map (.int .i64)),.int .i64 1,.sl .any (u.map (.int .i64))] (.bool (tst (mH rs t 1 u))) [] []:=by
 have hl:=hT.2.1
 refine aP Tryz.func92 rfl (by kernel_rfl) (by simp[Tryz.f92]) λB=>?_
 simp only[Tryz.ntmps92,aS,aZ,Nat.reduceAdd]
 repeat' first|apply aE|apply aG|refine aI 0 aLh λK hK=>?_|((first|apply aD|refine aA (aO ?_)|apply aA);simp(disch:=apply aB;omega)only[go_sem,Tryz.results92])|(apply hK.nil;clear hK K;simp only[go_sem])|fail
 refine bB (ι:=Nat) (λp=>[(9,.int .i64 p)]) (λp=>[]) (λp=>(1≤p/\p≤t.length)/\∀j<p,1≤j->dJ rs t j≠u) (λp=>t.length-p) 1 (by(refine aC rfl rfl ?_ ?_ ?_ ?_<;>simp(disch:=apply aB;omega)only[go_sem]<;>(try omega))) ?_ (λp hp=>?_)
 rotate_left
 simp only[go_sem]
 obtain⟨hp,hj⟩:=hp
 by_cases hil:p<t.length
 ·repeat' first|((exfalso;omega))|apply aE|apply aG|apply aM|apply aJ|refine aI 0 aLh λK hK=>?_|((first|apply aD|refine aA (aO ?_)|apply aA);simp(disch:=apply aB;omega)only[go_sem,Tryz.results92])|(apply hK.nil;clear hK K;simp only[go_sem])|((first|refine aF rfl ?_ ?_)<;>intro h<;>try simp(disch:=apply aB;omega)only[go_sem] at h)|apply aL|refine hK.c0 rfl rfl rfl (rW .any .any rs t p hT hil) rfl rfl rfl ?_|refine hK.c0 rfl rfl rfl (uB _ _ (dJ rs t p) u) rfl rfl rfl ?_|fail
  ·exact⟨p,⟨hp.1,hil⟩,h⟩
  ·exact⟨p+1,(by(refine aC rfl rfl ?_ ?_ ?_ ?_<;>simp(disch:=apply aB;omega)only[go_sem]<;>(try omega))),⟨by omega,bJ hj λ_=>h⟩,by omega⟩
 ·repeat' first|((exfalso;omega))|apply aE|refine aI 0 aLh λK hK=>?_|((first|apply aD|refine aA (aO ?_)|apply aA);simp(disch:=apply aB;omega)only[go_sem,Tryz.results92])|(apply hK.nil;clear hK K;simp only[go_sem])|((first|refine aF rfl ?_ ?_)<;>intro h<;>try simp(disch:=apply aB;omega)only[go_sem] at h)|refine aT rfl ?_|fail
  exact aED λj hj'=>hj j (by omega)
 ·exact⟨⟨by omega,by omega⟩,λj h1 h2=>absurd h1 (by omega)⟩
def aHN:List (Nat×List Nat):=[(0,[1,2,3,6]),(1,[1,2,3,6,8]),(2,[1,2,3,6,8,30]),(3,[6,7]),(4,[1,2,3,6,8,9]),(5,[1,2,6,8,9,43]),(6,[6,7]),(7,[6,7])]
attribute [go_sem] aHN
theorem aQL(x:SystemT)(hx:b7 x)(r a:Nat)(hr:r<x.rules.length)(ha:a<(x.rules.getD r default).r.length):FC S 107 [] [] [] [bP x,.int .i64 r,.int .i64 a] (.tup [bK (atR x r a).1,.bool (atR x r a).2]) [] []:=by
 have hR:=hx.2 r hr
 have h12:=hx.1.2
 have hT:=hR.1.2.1
 have hl:=hT.2.1
 have hl1:=hR.1.1.2.1
 have hsl:1≤(dJ x.sig (x.rules.getD r default).r a).length/\(dJ x.sig (x.rules.getD r default).r a).length≤60:=(nH hT ha).2.1
 have hne:∀ {xs:List Int},1≤xs.length->xs≠[]:=λh e=>by rw[e] at h;exact absurd h (by simp)
 have h0:∀r∈x.rules,1≤r.l.length:=λr hr=>by
  obtain⟨j,hj,rfl⟩:=List.getElem_of_mem hr
  have:=(hx.2 j hj).1.1.2.1.1
  rwa [zD,zB hj] at this
 rcases Classical.em (oQ x r a) with hPA|hPA
 ·rw[aGY hPA]
  have hh:=hPA.1
  refine aP Tryz.func107 rfl (by kernel_rfl) (by simp[Tryz.f107]) λB=>?_
  simp only[Tryz.ntmps107,aS,aZ,Nat.reduceAdd]
  repeat' first|((exfalso;omega))|apply aE|apply aJ|refine aI 0 aHN λK hK=>?_|refine aY aHN (by kernel_rfl) λK hK=>?_|((first|apply aD|apply aK|refine aA (aO ?_)|apply aA);simp(disch:=apply aB;omega)only[go_sem,Tryz.results107])|(apply hK.nil;clear hK K;simp only[go_sem])|((first|refine aH rfl rfl rfl rfl rfl ?_ ?_|refine aN rfl rfl rfl rfl rfl ?_ ?_|refine aF rfl ?_ ?_)<;>intro h<;>try simp(disch:=apply aB;omega)only[go_sem] at h)|refine hK.c0 rfl rfl rfl (pX x _ h0) rfl rfl rfl ?_|refine hK.c0 rfl rfl rfl (rW .any .any x.sig (x.rules.getD r default).r a hT ha) rfl rfl rfl ?_|refine hK.c0 rfl rfl rfl (yB x.sig (x.rules.getD r default).l (dJ x.sig (x.rules.getD r default).r a) hR.1.1) rfl rfl rfl ?_|refine hK.c0 rfl rfl rfl (sK [1] (by simp) _ (dJ x.sig (x.rules.getD r default).r a) (hne hsl.1) (by omega)) rfl rfl rfl ?_|refine hK.c0 rfl rfl rfl (sK [2] (by simp) _ (x.rules.getD r default).l (hne hl1.1) (by omega)) rfl rfl rfl ?_|(with_reducible refine And.intro (by first|omega|(simp only[lens];omega)) ?_)|fail
  all_goals first|exact absurd hh.2 (by assumption)|exact absurd (by assumption) hPA.2|exact⟨rfl,rfl,rfl,rfl⟩|skip
 ·rw[aLH hPA]
  refine aP Tryz.func107 rfl (by kernel_rfl) (by simp[Tryz.f107]) λB=>?_
  simp only[Tryz.ntmps107,aS,aZ,Nat.reduceAdd]
  repeat' first|apply aE|apply aJ|refine aI 0 aHN λK hK=>?_|refine aY aHN (by kernel_rfl) λK hK=>?_|((first|apply aD|apply aK|refine aA (aO ?_)|apply aA);simp(disch:=apply aB;omega)only[go_sem,Tryz.results107])|(apply hK.nil;clear hK K;simp only[go_sem])|((first|refine aH rfl rfl rfl rfl rfl ?_ ?_|refine aN rfl rfl rfl rfl rfl ?_ ?_|refine aF rfl ?_ ?_)<;>intro h<;>try simp(disch:=apply aB;omega)only[go_sem] at h)|refine hK.skp rfl rfl ?_|refine hK.c0 rfl rfl rfl (pX x _ h0) rfl rfl rfl ?_|refine hK.c0 rfl rfl rfl (rW .any .any x.sig (x.rules.getD r default).r a hT ha) rfl rfl rfl ?_|refine hK.c0 rfl rfl rfl (yB x.sig (x.rules.getD r default).l (dJ x.sig (x.rules.getD r default).r a) hR.1.1) rfl rfl rfl ?_|refine hK.c0 rfl rfl rfl (sK [1] (by simp) _ (dJ x.sig (x.rules.getD r default).r a) (hne hsl.1) (by omega)) rfl rfl rfl ?_|refine hK.c0 rfl rfl rfl (sK [2] (by simp) _ (x.rules.getD r default).l (hne hl1.1) (by omega)) rfl rfl rfl ?_|(with_reducible refine And.intro (by first|omega|(simp only[lens];omega)) ?_)|fail
  all_goals first|exact absurd (show oQ x r a from⟨⟨(by assumption),(by assumption)⟩,(by assumption)⟩) hPA|skip
end
end Go.Proofs.YtpennhjjnlkbiaaGreat
