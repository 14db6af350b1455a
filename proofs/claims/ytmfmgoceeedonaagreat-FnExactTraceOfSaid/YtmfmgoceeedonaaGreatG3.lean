/-
  K2p, A23, A23b, P18a, P18p, P24p, P24, P25, A17i, one behind the other.
-/
import Derived.Test.YtmfmgoceeedonaaGreatG1
import Derived.Test.YtmfmgoceeedonaaGreatG2
import Derived.Test.YtmfmgoceeedonaaGreatSet
import Derived.Test.YtmfmgoceeedonaaGreatG0
import Derived.Test.YtmfmgoceeedonaaGreatLgK16
import Derived.Test.YtmfmgoceeedonaaGreatLgK18
import Derived.Test.YtmfmgoceeedonaaGreatLgK10
namespace Go.Proofs.YtmfmgoceeedonaaGreat
open Go Go.Lg
set_option linter.unusedSimpArgs false
set_option linter.unusedVariables false
set_option maxHeartbeats 4000000
section
def gB(P:List DepPairT)(set:List Int)(n:Nat)(f:Int):Prop:=∃i<n,(P.getD (set.getD i default).toNat default).l.getD 0 default=f∨(P.getD (set.getD i default).toNat default).r.getD 0 default=f
def hdL(P:List DepPairT)(set:List Int):Nat->List Int
 | 0=>[]
 | i+1=>eX (eX (hdL P set i) ((P.getD (set.getD i default).toNat default).l.getD 0 default)) ((P.getD (set.getD i default).toNat default).r.getD 0 default)
theorem aIL(P:List DepPairT)(set:List Int)(f:Int):∀n,f∈hdL P set n↔gB P set n f
 | 0=>by
  constructor
  ·intro h;cases h
  ·rintro⟨i,hi,_⟩;exact absurd hi (Nat.not_lt_zero _)
 | n+1=>by
  rw[hdL,mE,mE,aIL P set f n];constructor
  ·rintro ((⟨i,hi,h⟩|h)|h)
   ·exact⟨i,by omega,h⟩
   ·exact⟨n,by omega,.inl h.symm⟩
   ·exact⟨n,by omega,.inr h.symm⟩
  ·rintro⟨i,hi,h⟩;rcases Nat.lt_or_ge i n with h1|h1
   ·exact .inl (.inl ⟨i,h1,h⟩)
   ·obtain rfl:i=n:=by omega
    rcases h with h|h
    ·exact .inl (.inr h.symm)
    ·exact .inr h.symm
theorem aAq(n:Int):∀xs:List Int,(eX xs n).length≤xs.length+1
 | []=>by simp[eX]
 | x::r=>by
  simp only[eX];split
  ·have:=aAq n r;simp;omega
  ·split<;>simp
theorem aPf(P:List DepPairT)(set:List Int):∀n,(hdL P set n).length≤2*n
 | 0=>zQ _
 | n+1=>by
  have:=aPf P set n;have h1:=aAq ((P.getD (set.getD n default).toNat default).l.getD 0 default) (hdL P set n);have h2:=aAq ((P.getD (set.getD n default).toNat default).r.getD 0 default) (eX (hdL P set n) ((P.getD (set.getD n default).toNat default).l.getD 0 default));rw[hdL];omega
def gC(rs:List Int):Nat->List Int
 | 0=>[]
 | f+1=>gC rs f++List.replicate ((rs.getD f default).toNat+1) 1
open Classical in
noncomputable def aDe(H:Int->Prop)(f:Nat):Int:=if H f then 1 else 0
theorem aEq{H:Int->Prop}{f:Nat}(h:H f):aDe H f=1:=if_pos h
theorem aI0{H:Int->Prop}{f:Nat}(h:¬H f):aDe H f=0:=if_neg h
noncomputable def f0(rs:List Int)(H:Int->Prop):Nat->List Int
 | 0=>[]
 | f+1=>f0 rs H f++0::List.replicate (rs.getD f default).toNat (aDe H f)
theorem j1(rs:List Int):∀n,(gC rs n).length=atN rs n
 | 0=>rfl
 | n+1=>by simp[gC,j1 rs n,atN];omega
theorem nP(rs:List Int)(H:Int->Prop):∀n,(f0 rs H n).length=atN rs n
 | 0=>rfl
 | n+1=>by simp[f0,nP rs H n,atN];omega
theorem vG(rs:List Int):∀n,∀h∈gC rs n,0≤h/\h≤1
 | 0,h,hh=>by cases hh
 | n+1,h,hh=>by
  rcases zP.1 hh with hh|hh
  ·exact vG rs n h hh
  ·rw[(List.mem_replicate.1 hh).2];decide
theorem v9(rs:List Int)(H:Int->Prop):∀n,∀h∈f0 rs H n,0≤h/\h≤1
 | 0,h,hh=>by cases hh
 | n+1,h,hh=>by
  rcases zP.1 hh with hh|hh
  ·exact v9 rs H n h hh
  ·rcases zO.1 hh with rfl|hh
   ·decide
   ·rw[(List.mem_replicate.1 hh).2];by_cases h1:H n
    ·rw[aEq h1];decide
    ·rw[aI0 h1];decide
def upD(hs:List Int):List (Int×Int):=hs.map λh=>(0,h)
theorem kN(hs:List Int):(upD hs).length=hs.length:=by simp[upD]
theorem aY0(hs:List Int){i:Nat}(h:i<hs.length):(upD hs).getD i default=(0,hs.getD i default):=by simp[upD,List.getD,zB h]
theorem yM{hs:List Int}(h:∀x∈hs,0≤x/\x≤1):∀b∈upD hs,b.1≤b.2:=λb hb=>by
 obtain⟨x,hx,rfl⟩:=zJ.1 hb;exact(h x hx).1
theorem aDu(hs:List Int):lF (upD hs)=List.replicate hs.length 0:=by
 induction hs with
 | nil=>rfl
 | cons x r ih=>simp[lF,upD,List.replicate_succ] at ih ⊢;exact ih
theorem aAB:∀ {hs xs:List Int},(∀x∈hs,0≤x/\x≤1)->pB (upD hs) xs->∀x∈xs,0≤x/\x≤1
 | [],[],_,_,x,hx=>by cases hx
 | h::hs,y::ys,hh,hd,x,hx=>by
  have h1:=hh h zH;have hd1:0≤y/\y≤h:=hd.1;rcases zO.1 hx with rfl|hx
  ·omega
  ·exact aAB (hs:=hs) (λz hz=>hh z (zG _ hz)) hd.2 x hx
 | [],_::_,_,hd,_,_=>hd.elim
 | _::_,[],_,hd,_,_=>hd.elim
theorem aPK(a b:List Int):upD (a++b)=upD a++upD b:=by simp[upD]
theorem tH{bs:List (Int×Int)}{x:List Int}{r:List (List Int)}(h:aA4 bs (x::r)):lL bs x=(r.headD (lF bs),!r.isEmpty)/\aA4 bs r:=by
 cases r with
 | nil=>exact⟨h,trivial⟩
 | cons y r=>exact⟨h.1,h.2⟩
def g6(hs:List Int):Nat->Int
 | 0=>1
 | i+1=>g6 hs i*(hs.getD i default+1)
theorem nR{hs:List Int}(h:∀x∈hs,0≤x/\x≤1):∀n≤hs.length,1≤g6 hs n
 | 0,_=>Int.le_refl _
 | n+1,hn=>by
  have ih:=nR h n (by omega);have h1:=h _ (aX hs n (by omega));rw[g6];rcases (show hs.getD n default=0∨hs.getD n default=1 by omega) with e|e<;>rw[e]<;>omega
theorem aOR{hs:List Int}(h:∀x∈hs,0≤x/\x≤1){i:Nat}(hi:i<hs.length):g6 hs i≤g6 hs (i+1)/\g6 hs (i+1)≤2*g6 hs i:=by
 have ih:=nR h i (by omega);have h1:=h _ (aX hs i hi);rw[g6];rcases (show hs.getD i default=0∨hs.getD i default=1 by omega) with e|e<;>rw[e]<;>omega
def WQ(rs:List Int)(P:List DepPairT)(set:List Int)(ps:List PolyT):Prop:=aTC rs P set ps/\wL rs P set ps set.length≠[]
theorem aB2{rs:List Int}{P:List DepPairT}{set:List Int}{ps:List PolyT}:WQ rs P set ps↔(wR rs P set ps).2=true/\(0:Int)<(wR rs P set ps).1.length:=by
 by_cases h:aTC rs P set ps
 ·rw[aDQ h];have:wL rs P set ps set.length≠[]↔(0:Int)<(wL rs P set ps set.length).length:=by
   rw[←List.length_pos_iff];omega
  exact⟨λh1=>⟨rfl,this.1 h1.2⟩,λh1=>⟨h,this.2 h1.2⟩⟩
 ·rw[aUP h];exact⟨λh1=>absurd h1.1 h,λh1=>Bool.noConfusion h1.1⟩
noncomputable def iP(rs:List Int)(H:Int->Prop):List Int:=gC rs rs.length++f0 rs H rs.length
theorem aFg(rs:List Int)(H:Int->Prop):(iP rs H).length=2*atN rs rs.length:=by simp[iP,j1,nP];omega
theorem tU(rs:List Int)(H:Int->Prop):∀h∈iP rs H,0≤h/\h≤1:=λh hh=>by
 rcases zP.1 hh with hh|hh
 ·exact vG rs _ h hh
 ·exact v9 rs H _ h hh
def lH(rs l:List Int):List PolyT:=iE rs l++iE rs (l.drop (atN rs rs.length))
def QM(x:SystemT)(P:List DepPairT)(set l:List Int):Prop:=mD x (iE x.sig l)/\WQ x.sig P set (lH x.sig l)
def aDk(rs:List Int):Option (List Int)->List PolyT×Bool
 | some l=>(lH rs l,true)
 | none=>([],false)
open Classical in
noncomputable def iN(x:SystemT)(P:List DepPairT)(set:List Int):Option (List Int) :=
 if g6 (iP x.sig (gB P set set.length)) (iP x.sig (gB P set set.length)).length≤20000 then gI (QM x P set) (iO (upD (iP x.sig (gB P set set.length)))) else none
theorem yL{x:SystemT}{P:List DepPairT}{set:List Int}(h:g6 (iP x.sig (gB P set set.length)) (iP x.sig (gB P set set.length)).length≤20000):iN x P set=gI (QM x P set) (iO (upD (iP x.sig (gB P set set.length)))):=if_pos h
theorem aCn{x:SystemT}{P:List DepPairT}{set:List Int}(h:¬g6 (iP x.sig (gB P set set.length)) (iP x.sig (gB P set set.length)).length≤20000):iN x P set=none:=if_neg h
def oD(x:SystemT)(set:List Int):Prop:=gK x/\gA set (bI x).length
open Classical in
noncomputable def aO7(x:SystemT)(set:List Int):List PolyT×Bool:=if oD x set then aDk x.sig (iN x (bI x) set) else ([],false)
theorem aHq{x:SystemT}{set:List Int}(h:oD x set):aO7 x set=aDk x.sig (iN x (bI x) set):=if_pos h
theorem aVX{x:SystemT}{set:List Int}(h:¬oD x set):aO7 x set=([],false):=if_neg h
def GM(rs:List Int)(P:List DepPairT)(set:List Int)(pl:List PolyT)(c:List Int):Prop:=WQ rs P set (pl++iE rs c)
open Classical in
noncomputable def FM(x:SystemT)(P:List DepPairT)(set:List Int)(a:List Int):Option (List Int) :=
 if mD x (iE x.sig a) then (gI (GM x.sig P set (iE x.sig a)) (iO (upD (f0 x.sig (gB P set set.length) x.sig.length)))).map (a++·) else none
theorem aTq{x:SystemT}{P:List DepPairT}{set a:List Int}(h:mD x (iE x.sig a)):FM x P set a=(gI (GM x.sig P set (iE x.sig a)) (iO (upD (f0 x.sig (gB P set set.length) x.sig.length)))).map (a++·):=if_pos h
theorem aXW{x:SystemT}{P:List DepPairT}{set a:List Int}(h:¬mD x (iE x.sig a)):FM x P set a=none:=if_neg h
theorem aKe{rs a c:List Int}(h:a.length=atN rs rs.length):lH rs (a++c)=iE rs a++iE rs c:=by
 unfold lH;rw[aH9 h,←h,List.drop_left]
theorem aWT(x:SystemT)(P:List DepPairT)(set:List Int):gI (QM x P set) (iO (upD (iP x.sig (gB P set set.length))))=tE (FM x P set) (iO (upD (gC x.sig x.sig.length))):=by
 unfold iP;rw[aPK,aMj];refine aFf _ _ _ _ λa ha=>?_;have hd:=kE (yM (vG x.sig x.sig.length)) a ha;have hl:a.length=atN x.sig x.sig.length:=by rw[kG hd,kN,j1]
 by_cases hA:mD x (iE x.sig a)
 ·rw[aTq hA];refine aHC a _ λc hc=>?_;unfold QM GM;rw[aH9 hl,aKe hl];exact⟨λh=>h.2,λh=>⟨hA,h⟩⟩
 ·rw[aXW hA];refine aDN λl hl' h=>?_;obtain⟨c,_,rfl⟩:=zJ.1 hl';exact hA (by have:=h.1;rwa [aH9 hl] at this)
theorem aRX{F:List Int->Option (List Int)}{a l:List Int}{r:List (List Int)}(h:F a=some l):tE F (a::r)=some l:=by rw[tE,h];rfl
theorem aUU{F:List Int->Option (List Int)}{a:List Int}{r:List (List Int)}(h:F a=none):tE F (a::r)=tE F r:=by rw[tE,h];rfl
theorem aIE{rs hs xs:List Int}(hs0:eQ rs)(h1:∀x∈hs,0≤x/\x≤1)(hl:hs.length=atN rs rs.length)(hd:pB (upD hs) xs):dO rs (iE rs xs) :=
 aTa hs0 (by rw[kG hd,kN,hl];exact zQ _) λx hx=>by have:=aAB h1 hd x hx;omega
theorem aGv:∀ {bs cs:List (Int×Int)} {xs:List Int},pB (bs++cs) xs->pB bs (xs.take bs.length)/\pB cs (xs.drop bs.length)
 | [],cs,xs,h=>⟨by simp[pB],by simpa using h⟩
 | b::bs,cs,x::xs,h=>by
  obtain⟨h1,h2⟩:=aGv (bs:=bs) (cs:=cs) (xs:=xs) h.2;exact⟨⟨h.1,h1⟩,by simpa using h2⟩
 | b::bs,cs,[],h=>h.elim
theorem aI1{rs l:List Int}{H:Int->Prop}(hs:eQ rs)(hd:pB (upD (iP rs H)) l):dO rs (iE rs l)/\dO rs (iE rs (l.drop (atN rs rs.length))):=by
 have h0:=hd;unfold iP at hd;rw[aPK] at hd;have h2:=(aGv hd).2;rw[kN,j1] at h2;refine⟨aTa hs (by rw[kG h0,kN,aFg];omega) λx hx=>?_,aIE hs (v9 rs H _) (nP rs H _) h2⟩;have:=aAB (tU rs H) h0 x hx;omega
end
section
attribute [local irreducible] SW bA bC dM bZ FC dX
end
section
attribute [local irreducible] SW bA bC dM bZ FC dX toF d7
def j9(n:Nat)(f:Nat->Bool):List D:=(List.range n).map λq=>.bool (f q)
theorem aLP{n:Nat}{f:Nat->Bool}{q:Nat}(h:Om (q<n)):(List.drop q (j9 n f)).head?=some (.bool (f q)):=by
 rw[List.head?_drop,j9,zI,List.getElem?_range h.1];rfl
theorem aKC(n:Nat)(f:Nat->Bool)(q:Nat)(b:Bool):(j9 n f).set q (.bool b)=j9 n (λx=>if x=q then b else f x):=by
 refine List.ext_getElem (by simp[j9]) λj h1 h2=>?_;simp only[j9,List.getElem_set,List.getElem_map,List.getElem_range];by_cases e:q=j
 ·subst e;simp
 ·rw[if_neg e,if_neg (λh=>e h.symm)]
theorem aKo(n:Nat)(f:Nat->Bool):(j9 n f).length=n:=by simp[j9]
theorem aUn(n:Nat):List.replicate n (D.bool false)=j9 n λ_=>false:=by
 refine List.ext_getElem (by simp[j9]) λj h1 h2=>?_;simp[j9]
def eL(n:Nat)(ps:List Nat):List D:=(List.range n).map λp=>if p∈ps then .ms (p+5000) n else .sl .nil []
theorem aFN{n:Nat}{ps:List Nat}{p:Nat}(h:Om (p<n/\1≤mk1 ps p)):(List.drop p (eL n ps)).head?=some (.ms (p+5000) n):=by
 rw[List.head?_drop,eL,zI,List.getElem?_range h.1.1];simp[aAL.1 h.1.2]
theorem qS(n:Nat)(ps:List Nat):(eL n ps).length=n:=by simp[eL]
theorem aN7(n:Nat):List.replicate n (D.sl .nil [])=eL n []:=by
 refine List.ext_getElem (by simp[eL]) λj h1 h2=>?_;simp[eL]
def dH(set:List Int):List Nat:=set.map Int.toNat
def fA(n:Nat)(ps:List Nat)(r:Nat->Nat->Bool):List (Nat×List D):=n9 5000 ps λx=>j9 n (r x)
def nd1(ps:List Nat):Nat:=if ps.Nodup then 1 else 0
theorem aJr{ps:List Nat}:1≤nd1 ps↔ps.Nodup:=by unfold nd1;split<;>simp_all
theorem rP{n:Nat}{ps:List Nat}{r:Nat->Nat->Bool}{p:Nat}(h:Om (1≤mk1 ps p)):Lg.look (fA n ps r) (p+5000)=some (j9 n (r p)):=aNf h
theorem aEe{n:Nat}{ps:List Nat}{r:Nat->Nat->Bool}{p:Nat}{f:Nat->Bool}(h:Om (1≤mk1 ps p/\1≤nd1 ps)):eU (fA n ps r) (p+5000) (j9 n f)=fA n ps λx=>if x=p then f else r x:=by
 unfold fA;rw[aHA (aJr.1 h.1.2) (aAL.1 h.1.1)];congr 1
 funext x
 unfold aXs;by_cases e:x=p
 ·simp only[if_pos e]
 ·simp only[if_neg e]
theorem aFB{bx:List (Nat×List D)}:∀ {r:List (Nat×List D)},(∀p∈r,Lg.look bx p.1=some p.2)->oO bx r
 | [],_=>trivial
 | (k,c)::r,h=>⟨by rw[h (k,c) zH];exact rfl,aFB λp hp=>h p (zG _ hp)⟩
theorem eZ{n:Nat}{ps:List Nat}(hn:ps.Nodup){r:Nat->Nat->Bool}(g:List D):oO ((26,g)::fA n ps r) ((26,g)::fA n ps r):=aFB λq hq=>by
 rcases zO.1 hq with rfl|hq
 ·rfl
 ·unfold fA n9 at hq;obtain⟨x,hx,rfl⟩:=zJ.1 hq;show Lg.look ((26,g)::fA n ps r) (x+5000)=_;simp only[Lg.look];rw[if_neg (by omega)];exact wZ hx
theorem qO{n:Nat}{ps:List Nat}{r:Nat->Nat->Bool}{q:Nat×List D}(h:q∈fA n ps r):5000≤q.1/\∃x∈ps,q=(x+5000,j9 n (r x)):=by
 unfold fA n9 at h;obtain⟨x,hx,rfl⟩:=zJ.1 h;exact⟨by simp,x,hx,rfl⟩
theorem aSS(n:Nat)(f:Nat->Bool):D.idsL (j9 n f)=[]:=by
 unfold j9;induction (List.range n) with
 | nil=>rfl
 | cons x l ih=>simp only[List.map_cons,D.idsL,D.ids,ih,List.append_nil]
theorem aMJ{n:Nat}{ps:List Nat}{t:Nat}(h:t<5000):(D.idsL (eL n ps)).contains t=false:=by
 have:∀l:List Nat,t∉D.idsL (l.map λp=>if p∈ps then D.ms (p+5000) n else .sl .nil []):=by
  intro l;induction l with
  | nil=>simp[D.idsL]
  | cons x l ih =>
   simp only[List.map_cons,D.idsL,zP,not_or];refine⟨?_,ih⟩;split
   ·simp only[D.ids,zN];omega
   ·simp[D.ids]
 have:=this (List.range n);simpa[eL] using this
theorem aG7{n:Nat}{ps:List Nat}{r:Nat->Nat->Bool}{t:Nat}:sY (aAj t) (fA n ps r)=fA n ps r:=by
 have:∀l:List (Nat×List D),(∀q∈l,aAj t q.2=true)->sY (aAj t) l=l:=by
  intro l;induction l with
  | nil=>intro _;rfl
  | cons q l ih =>
   intro h;obtain⟨k,c⟩:=q;unfold sY;rw[if_pos (h (k,c) zH),ih λq hq=>h q (zG _ hq)]
 refine this _ λq hq=>?_;obtain⟨_,x,_,rfl⟩:=qO hq;simp[aAj,aSS]
theorem aEg{n:Nat}{ps:List Nat}{r:Nat->Nat->Bool}{t:Nat}(h:Om (t<5000)):dG t (fA n ps r)=fA n ps r:=by
 have:∀l:List (Nat×List D),(∀q∈l,q.1≠t)->dG t l=l:=by
  intro l;induction l with
  | nil=>intro _;rfl
  | cons q l ih =>
   intro h;obtain⟨k,c⟩:=q;unfold dG;rw[if_neg (h (k,c) zH),ih λq hq=>h q (zG _ hq)]
 refine this _ λq hq=>?_;have:=(qO hq).1;have:=h.1;omega
theorem aLn{n:Nat}{ps:List Nat}{r:Nat->Nat->Bool}{t:Nat}{c:List D}(h:Om (t<5000)):eU (fA n ps r) t c=fA n ps r++[(t,c)]:=by
 have:∀l:List (Nat×List D),(∀q∈l,q.1≠t)->eU l t c=l++[(t,c)]:=by
  intro l;induction l with
  | nil=>intro _;rfl
  | cons q l ih =>
   intro h;obtain⟨k,c'⟩:=q;unfold eU;rw[if_neg (h (k,c') zH),ih λq hq=>h q (zG _ hq)];rfl
 refine this _ λq hq=>?_;have:=(qO hq).1;have:=h.1;omega
theorem aGp(n:Nat)(ps:List Nat)(p:Nat->Bool):(eL n ps).map (D.pu1 p)=eL n ps:=by
 unfold eL;rw[List.map_map];refine List.map_congr_left λx _=>?_;simp only[Function.comp];split<;>rfl
theorem aJg(n:Nat)(ps:List Nat):D.tksL (eL n ps)=[]:=by
 unfold eL;induction (List.range n) with
 | nil=>rfl
 | cons x l ih =>
  simp only[List.map_cons,D.tksL,ih,List.append_nil];split<;>rfl
theorem aV9(n:Nat)(f:Nat->Bool)(p:Nat->Bool):(j9 n f).map (D.pu1 p)=j9 n f:=by
 unfold j9;rw[List.map_map];exact List.map_congr_left λx _=>rfl
theorem aUh(n:Nat)(f:Nat->Bool):D.tksL (j9 n f)=[]:=by
 unfold j9;induction (List.range n) with
 | nil=>rfl
 | cons x l ih=>simp only[List.map_cons,D.tksL,D.tks,ih,List.append_nil]
theorem vF(n:Nat)(ps:List Nat)(r:Nat->Nat->Bool)(p:Nat->Bool):qH (List.map (D.pu1 p)) (fA n ps r)=fA n ps r:=by
 unfold fA n9;induction ps with
 | nil=>rfl
 | cons x l ih=>simp only[List.map_cons,qH,aV9] at ih ⊢;rw[ih]
theorem y8(n:Nat)(ps:List Nat)(r:Nat->Nat->Bool)(f:Nat->Bool):((fA n ps r).all λq=>(D.tksL q.2).all f)=true:=by
 refine List.all_eq_true.2 λq hq=>?_;obtain⟨_,x,_,rfl⟩:=qO hq;rw[aUh];rfl
theorem aUx(g:Nat->List Int->List Nat)(xs:List (List Int)):True:=trivial
theorem aLy(n:Nat):(List.replicate n [D.bool false]).flatten=j9 n λ_=>false:=by
 rw[←aUn];simp
theorem aMl{α:Type}(a b:List (Nat×α))(t:Nat):Lg.look (a++b) t=match Lg.look a t with|some d=>some d|none=>Lg.look b t:=by
 induction a with
 | nil=>rfl
 | cons q a ih =>
  obtain⟨k,c⟩:=q;simp only[List.cons_append,Lg.look];split
  ·rfl
  ·exact ih
theorem aRB(n:Nat)(r:Nat->Nat->Bool)(q:Nat×List D):q∉fA n (dH []) r:=λh=>by
 obtain⟨_,x,hx,_⟩:=qO h;cases hx
theorem aU1{n q:Nat}{ps:List Nat}{r:Nat->Nat->Bool}(hqn:q∉ps):∀p∈(26,eL n (ps++[q]))::fA n (ps++[q]) (λx=>if x=q then λ_=>false else r x),
  (p.1=q+5000/\∃cs,Lg.look ((26,(eL n ps).set q (.ms 37 n))::(fA n ps r++[(37,j9 n λ_=>false)])) 37=some cs/\p.2.length≤cs.length/\∀(j:Nat) d d',cs[j]?=some d->p.2[j]?=some d'->aBc 37 (q+5000) d d')∨(p.1≠q+5000/\p.1≠37/\∃cs,Lg.look ((26,(eL n ps).set q (.ms 37 n))::(fA n ps r++[(37,j9 n λ_=>false)])) p.1=some cs/\p.2.length≤cs.length/\∀(j:Nat) d d',cs[j]?=some d->p.2[j]?=some d'->aBc 37 (q+5000) d d'):=by
 have hb:∀(f:Nat->Bool) (j:Nat) (d d':D),(j9 n f)[j]?=some d->(j9 n f)[j]?=some d'->aBc 37 (q+5000) d d':=λf j d d' h1 h2=>by
  rw[h1] at h2;obtain rfl:=zA h2;refine aBc.keep ?_;have:=zF h1;unfold j9 at this;obtain⟨x,_,rfl⟩:=zJ.1 this;rfl
 have hnone:∀t,t<5000->Lg.look (fA n ps r) t=none:=λt ht=>tT λp _=>by omega
 intro p hp;rcases zO.1 hp with rfl|hp
 ·refine .inr ⟨?_,?_,_,rfl,by rw[List.length_set,qS,qS];exact zQ _,λj d d' h1 h2=>?_⟩
  ·show 26≠q+5000;omega
  ·show (26:Nat)≠37;omega
  ·unfold eL at h1 h2;have hj:j<n:=by have:=(zE.1 h2).1;simpa using this
   rw[zI,List.getElem?_range hj] at h2;obtain rfl:=zA h2;rw[List.getElem?_set] at h1;by_cases e:q=j
   ·subst e;rw[if_pos rfl,if_pos (by simpa using hj)] at h1;obtain rfl:=zA h1;exact .inr (.inl ⟨n,rfl,by simp⟩)
   ·rw[if_neg e,zI,List.getElem?_range hj] at h1;obtain rfl:=zA h1;have e2:(j∈ps++[q])=(j∈ps):=by
     rw[zP,zN];exact propext ⟨λh=>h.resolve_right λh=>e h.symm,.inl⟩
    simp only[e2];split
    ·refine .inl ⟨?_,?_,rfl⟩<;>simp only[D.ids,zN]<;>omega
    ·exact aBc.keep rfl
 ·obtain⟨h5,x,hx,rfl⟩:=qO hp;by_cases e:x=q
  ·subst e;refine .inl ⟨rfl,j9 n λ_=>false,?_,?_,?_⟩
   ·simp only[Lg.look];rw[if_neg (by omega),aMl,hnone 37 (by omega)];rfl
   ·simp only[if_true];exact zQ _
   ·simp only[if_true];exact hb _
  ·have hx:x∈ps:=by
    rw[zP,zN] at hx;exact hx.resolve_right e
   refine .inr ⟨?_,?_,j9 n (r x),?_,?_,?_⟩
   ·show x+5000≠q+5000;omega
   ·show x+5000≠37;omega
   ·simp only[Lg.look];rw[if_neg (by omega),aMl];have:Lg.look (fA n ps r) (x+5000)=some (j9 n (r x)):=wZ hx;rw[this]
   ·simp only[if_neg e];exact zQ _
   ·simp only[if_neg e];exact hb _
attribute [local irreducible] j9 eL n9 fA
attribute [local go_sem] aLP aKC aFN rP aEe qS aKo aG7 aEg aLn aLy aGp vF aJg y8
theorem aZ0(n:Nat)(ps:List Nat):(D.idsL (eL n ps)).contains 37=false:=aMJ (by omega)
attribute [local go_sem] aZ0
noncomputable def r0(edges:List (List Int))(set:List Int)(p q:Nat):Bool:=tst ((q:Int)∈edges.getD p default/\(q:Int)∈set)
noncomputable def rJ(edges:List (List Int))(set:List Int)(p j q:Nat):Bool:=tst ((q:Int)∈(edges.getD p default).take j/\(q:Int)∈set)
theorem aXl(edges:List (List Int))(set:List Int)(p:Nat):rJ edges set p 0=λ_=>false:=by
 funext q
 unfold rJ;exact bV (λh=>by rw[List.take_zero] at h;cases h.1)
theorem iT{xs:List Int}{j:Nat}(h:j<xs.length):xs.take (j+1)=xs.take j++[xs.getD j default]:=by
 rw[List.take_add_one,zB h];simp[zD,h]
theorem aWV{edges:List (List Int)}{set:List Int}{p j:Nat}(hj:j<(edges.getD p default).length)(h0:0≤(edges.getD p default).getD j default):(λx=>if x=((edges.getD p default).getD j default).toNat then tst ((edges.getD p default).getD j default∈set) else rJ edges set p j x)=rJ edges set p (j+1):=by
 funext x
 have ht:=iT hj;unfold rJ;rw[ht];by_cases e:x=((edges.getD p default).getD j default).toNat
 ·rw[if_pos e];have e2:(x:Int)=(edges.getD p default).getD j default:=by omega
  rw[e2];exact lY ⟨λh=>⟨List.mem_append_right _ (zN.2 rfl),h⟩,λh=>h.2⟩
 ·rw[if_neg e];refine lY ⟨λh=>⟨List.mem_append_left _ h.1,h.2⟩,λh=>⟨?_,h.2⟩⟩;rcases zP.1 h.1 with h1|h1
  ·exact h1
  ·rw[zN] at h1;omega
theorem aYM(edges:List (List Int))(set:List Int)(p:Nat):rJ edges set p (edges.getD p default).length=r0 edges set p:=by
 funext x
 unfold rJ r0;rw[List.take_length]
theorem aAt{n:Nat}{ps:List Nat}(hn:ps.Nodup)(g:List D){r r':Nat->Nat->Bool}(h:∀x,r x=r' x):oO ((26,g)::fA n ps r) ((26,g)::fA n ps r'):=by
 have:r=r':=funext h;subst this;exact eZ hn g
theorem aAE(set:List Int):(dH set).length=set.length:=zC _
theorem tW{set:List Int}{k:Nat}(h:k<set.length):(dH set).getD k default=(set.getD k default).toNat:=by
 simp[dH,zD,h]
def wQ(r:Nat->Nat->Bool)(m p:Nat)(ps:List Nat):Nat->Nat->Nat->Bool
 | 0=>r
 | k+1=>λx=>if x=p then λy=>if y=ps.getD k default then wQ r m p ps k p (ps.getD k default)||(wQ r m p ps k p m&&wQ r m p ps k m (ps.getD k default)) else wQ r m p ps k x y else wQ r m p ps k x
theorem aDz(r:Nat->Nat->Bool)(m p:Nat)(ps:List Nat)(k:Nat):∀x,wQ r m p ps (k+1) x=if x=p then λy=>if y=ps.getD k default then wQ r m p ps k p (ps.getD k default)||(wQ r m p ps k p m&&wQ r m p ps k m (ps.getD k default)) else wQ r m p ps k x y else wQ r m p ps k x:=λ_=>rfl
def wP(r:Nat->Nat->Bool)(m:Nat)(ps:List Nat):Nat->Nat->Nat->Bool
 | 0=>r
 | j+1=>wQ (wP r m ps j) m (ps.getD j default) ps ps.length
def wM(ps:List Nat)(r:Nat->Nat->Bool):Nat->Nat->Nat->Bool
 | 0=>r
 | i+1=>wP (wM ps r i) (ps.getD i default) ps ps.length
def fC(C:Nat->Nat->Bool)(p q:Nat):Bool:=C p q&&C q p
def uJ(C:Nat->Nat->Bool)(p:Nat)(qs:List Int)(j:Nat):List Int:=(qs.take j).filter λq=>fC C p q.toNat
def okC(C:Nat->Nat->Bool)(set:List Int)(i:Nat):Prop:=C (set.getD i default).toNat (set.getD i default).toNat=true/\∀l<i,fC C (set.getD i default).toNat (set.getD l default).toNat=false
open Classical in
noncomputable def cmp(C:Nat->Nat->Bool)(set:List Int):Nat->List (List Int)
 | 0=>[]
 | i+1=>if okC C set i then cmp C set i++[uJ C (set.getD i default).toNat (set.drop i) (set.length-i)] else cmp C set i
theorem aDs{C:Nat->Nat->Bool}{set:List Int}{i:Nat}(h:okC C set i):cmp C set (i+1)=cmp C set i++[uJ C (set.getD i default).toNat (set.drop i) (set.length-i)]:=if_pos h
theorem aD5{C:Nat->Nat->Bool}{set:List Int}{i:Nat}(h:¬okC C set i):cmp C set (i+1)=cmp C set i:=if_neg h
theorem aDy(C:Nat->Nat->Bool)(set:List Int):∀i,(cmp C set i).length≤i
 | 0=>zQ _
 | i+1=>by
  have:=aDy C set i;rcases Classical.em (okC C set i) with h|h
  ·rw[aDs h,zK];simp only[List.length_cons,List.length_nil];omega
  ·rw[aD5 h];omega
noncomputable def eK(edges:List (List Int))(set:List Int):List (List Int):=cmp (wM (dH set) (r0 edges set) set.length) set set.length
theorem aUH(C:Nat->Nat->Bool)(p:Nat)(qs:List Int)(j:Nat):(uJ C p qs j).length≤j:=by
 unfold uJ;exact Nat.le_trans (List.length_filter_le _ _) (by rw[List.length_take];omega)
theorem aV2{C:Nat->Nat->Bool}{p:Nat}{qs:List Int}{j:Nat}(hj:j<qs.length)(h1:C p (qs.getD j default).toNat=true)(h2:C (qs.getD j default).toNat p=true):uJ C p qs (j+1)=uJ C p qs j++[qs.getD j default]:=by
 unfold uJ;rw[iT hj,List.filter_append,List.filter_cons_of_pos (by unfold fC;rw[h1,h2];rfl),List.filter_nil]
theorem aXw{C:Nat->Nat->Bool}{p:Nat}{qs:List Int}{j:Nat}(hj:j<qs.length)(h:C p (qs.getD j default).toNat=false∨C (qs.getD j default).toNat p=false):uJ C p qs (j+1)=uJ C p qs j:=by
 unfold uJ;rw[iT hj,List.filter_append,List.filter_cons_of_neg (by unfold fC;rcases h with h|h<;>rw[h]<;>simp),List.filter_nil,List.append_nil]
theorem aBy{α:Type} [Inhabited α] {g:Nat->α->D}{xs:List α}{P:D->Prop}(h:∀j x,P (g j x)):∀d∈gU g xs,P d:=λd hd=>by
 obtain⟨j,_,rfl⟩:=zJ.1 hd;exact h j _
theorem aNL{α:Type} [Inhabited α] (g:Nat->α->D)(xs:List α)(x:α):gU g (xs++[x])=gU g xs++[g xs.length x]:=by
 unfold gU;rw[zK,List.length_singleton,List.range_succ,List.map_append];congr 1
 ·refine List.map_congr_left λj hj=>?_;have hj:=List.mem_range.1 hj;simp[List.getD,zL hj]
 ·simp[List.getD]
def pF:List (Nat×List Nat):=[(0,[0,1]),(1,[0,1,5]),(2,[0,1,5,27,28,29]),(3,[0,1,5,27,28,29,30]),(4,[0,1,5,7,27,28,29]),(5,[0,1,5,7,27,28,29]),(6,[0,1,5,7,27,28,29,42,43,44]),(7,[0,1,5,7,27,28,29,42,43,44,45]),(8,[0,1,5,7,9,27,28,29,42,43,44]),(9,[0,1,5,7,27,28,29,42,43,44]),(10,[0,1,5,7,27,28,29,42,43,44]),(11,[0,1,5,27,28,29]),(12,[1,5,59,60,61]),(13,[1,5,59,60,61,62]),(14,[1,5,11,59,60,61]),(15,[1,5,11,59,60,61,65,66,67]),(16,[1,5,11,59,60,61,65,66,67,68]),(17,[1,5,11,13,59,60,61,65,66,67]),(18,[1,5,11,13,59,60,61,65,66,67,71,72,73]),(19,[1,5,11,13,59,60,61,65,66,67,71,72,73,74]),(20,[1,5,11,13,15,59,60,61,65,66,67,71,72,73]),(21,[1,5,11,13,59,60,61,65,66,67,71,72,73]),(22,[1,5,11,13,59,60,61,65,66,67,71,72,73]),(23,[1,5,11,59,60,61,65,66,67]),(24,[1,5,59,60,61]),(25,[1,5,16]),(26,[1,5,16,111,112,113]),(27,[1,5,16,111,112,113,114]),(28,[1,5,16,17,18,111,112,113]),(29,[1,5,16,17,18,111,112,113,125]),(30,[1,5,16,17,18,111,112,113,128,129,130]),(31,[1,5,16,17,18,111,112,113,128,129,130,131]),(32,[1,5,16,17,18,20,111,112,113,128,129,130]),(33,[1,5,16,17,18,111,112,113,128,129,130,149]),(34,[1,5,16,17,18,111,112,113,128,129,130]),(35,[1,5,16,17,18,21,111,112,113]),(36,[1,5,16,18,21,111,112,113,153,154,155]),(37,[1,5,16,18,21,111,112,113,153,154,155,156]),(38,[1,5,16,18,21,23,111,112,113,153,154,155]),(39,[1,5,16,18,21,23,111,112,113,153,154,155,174]),(40,[1,5,16,18,21,111,112,113,153,154,155]),(41,[1,5,16,18,21,111,112,113,153,154,155]),(42,[1,5,16,111,112,113]),(43,[1,5,16,111,112,113]),(44,[4])]
attribute [go_sem] pF Tryz.results25 Tryz.ntmps25
end
section
inductive TC (r:Nat->Nat->Bool):Nat->Nat->Prop
 | one {p q:Nat} (h:r p q=true):TC r p q
 | step {p m q:Nat} (h:r p m=true) (t:TC r m q):TC r p q
theorem TC.trans{r:Nat->Nat->Bool}{p m q:Nat}(h:TC r p m)(h':TC r m q):TC r p q:=by
 induction h with
 | one h=>exact .step h h'
 | step h _ ih=>exact .step h (ih h')
theorem TC.snoc{r:Nat->Nat->Bool}{p m q:Nat}(h:TC r p m)(h':r m q=true):TC r p q:=h.trans (.one h')
def leR(r r':Nat->Nat->Bool):Prop:=∀a b,r a b=true->r' a b=true
theorem leR.refl(r:Nat->Nat->Bool):leR r r:=λ_ _ h=>h
theorem leR.trans{r r' r'':Nat->Nat->Bool}(h:leR r r')(h':leR r' r''):leR r r'':=λa b x=>h' a b (h a b x)
theorem aWC(r:Nat->Nat->Bool)(m p:Nat)(ps:List Nat)(k:Nat):leR (wQ r m p ps k) (wQ r m p ps (k+1)):=λa b h=>by
 rw[aDz];by_cases e:a=p
 ·rw[if_pos e];by_cases e2:b=ps.getD k default
  ·show (if b=_ then _ else _)=true;rw[if_pos e2];subst e;subst e2;rw[h];rfl
  ·show (if b=_ then _ else _)=true;rw[if_neg e2];exact h
 ·rw[if_neg e];exact h
theorem aLo(r:Nat->Nat->Bool)(m p:Nat)(ps:List Nat):∀k d,leR (wQ r m p ps k) (wQ r m p ps (k+d))
 | _,0=>leR.refl _
 | k,d+1=>(aLo r m p ps k d).trans (aWC r m p ps (k+d))
theorem aYn{r:Nat->Nat->Bool}{m p:Nat}{ps:List Nat}{k n:Nat}(hk:k<n)(h1:r p m=true)(h2:r m (ps.getD k default)=true):wQ r m p ps n p (ps.getD k default)=true:=by
 have a1:=aLo r m p ps 0 k p m h1;have a2:=aLo r m p ps 0 k m (ps.getD k default) h2;rw[Nat.zero_add] at a1 a2;have:wQ r m p ps (k+1) p (ps.getD k default)=true:=by
  rw[aDz,if_pos rfl];show (if ps.getD k default=ps.getD k default then _ else _)=true;rw[if_pos rfl,a1,a2];cases wQ r m p ps k p (ps.getD k default)<;>rfl
 have h3:=aLo r m p ps (k+1) (n-(k+1)) _ _ this;rwa [show k+1+(n-(k+1))=n by omega] at h3
theorem aK8(r:Nat->Nat->Bool)(m:Nat)(ps:List Nat):∀j d,leR (wP r m ps j) (wP r m ps (j+d))
 | _,0=>leR.refl _
 | j,d+1=>(aK8 r m ps j d).trans (by
   have:=aLo (wP r m ps (j+d)) m (ps.getD (j+d) default) ps 0 ps.length;rw[Nat.zero_add] at this;exact this)
theorem aZz{r:Nat->Nat->Bool}{m:Nat}{ps:List Nat}{j n k:Nat}(hj:j<n)(hk:k<ps.length)(h1:r (ps.getD j default) m=true)(h2:r m (ps.getD k default)=true):wP r m ps n (ps.getD j default) (ps.getD k default)=true:=by
 have a1:=aK8 r m ps 0 j _ _ h1;have a2:=aK8 r m ps 0 j _ _ h2;rw[Nat.zero_add] at a1 a2;have:wP r m ps (j+1) (ps.getD j default) (ps.getD k default)=true:=aYn hk a1 a2;have h3:=aK8 r m ps (j+1) (n-(j+1)) _ _ this;rwa [show j+1+(n-(j+1))=n by omega] at h3
def Via(r:Nat->Nat->Bool)(ps:List Nat):Nat->Nat->Nat->Prop
 | 0,p,q=>r p q=true
 | i+1,p,q=>Via r ps i p q∨(Via r ps i p (ps.getD i default)/\Via r ps i (ps.getD i default) q)
theorem aIb{r:Nat->Nat->Bool}{ps:List Nat}:∀i,i≤ps.length->∀a b,a<ps.length->b<ps.length->Via r ps i (ps.getD a default) (ps.getD b default)->wM ps r i (ps.getD a default) (ps.getD b default)=true
 | 0,_,a,b,_,_,h=>h
 | i+1,hi,a,b,ha,hb,h=>by
  have le:=aK8 (wM ps r i) (ps.getD i default) ps 0 ps.length;rw[Nat.zero_add] at le;rcases h with h|⟨h1,h2⟩
  ·exact le _ _ (aIb i (by omega) a b ha hb h)
  ·exact aZz ha hb (aIb i (by omega) a i ha (by omega) h1) (aIb i (by omega) i b (by omega) hb h2)
theorem aHu{r:Nat->Nat->Bool}{ps:List Nat}:∀i,∀l<i,∀p q,Via r ps i p (ps.getD l default)->Via r ps i (ps.getD l default) q->Via r ps i p q
 | 0,l,hl,_,_,_,_=>by omega
 | i+1,l,hl,p,q,h1,h2=>by
  have ih:=@aHu r ps i;by_cases e:l=i
  ·subst e;have a1:Via r ps l p (ps.getD l default):=h1.elim id λh=>h.1;have a2:Via r ps l (ps.getD l default) q:=h2.elim id λh=>h.2;exact .inr ⟨a1,a2⟩
  ·have hl:l<i:=by omega
   rcases h1 with h1|⟨h1,h1'⟩<;>rcases h2 with h2|⟨h2,h2'⟩
   ·exact .inl (ih l hl _ _ h1 h2)
   ·exact .inr ⟨ih l hl _ _ h1 h2,h2'⟩
   ·exact .inr ⟨h1,ih l hl _ _ h1' h2⟩
   ·exact .inr ⟨h1,h2'⟩
theorem aOb{r:Nat->Nat->Bool}{ps:List Nat}:∀i p q,r p q=true->Via r ps i p q
 | 0,_,_,h=>h
 | i+1,p,q,h=>.inl (aOb i p q h)
theorem aY9{r:Nat->Nat->Bool}{ps:List Nat}(hr:∀p q,r p q=true->q∈ps){p q:Nat}(h:TC r p q):Via r ps ps.length p q:=by
 induction h with
 | one h=>exact aOb _ _ _ h
 | @step p m q h _ ih =>
  obtain⟨l,hl,e⟩:=List.getElem_of_mem (hr _ _ h);have e2:ps.getD l default=m:=by rw[zD,zB hl];exact e
  have h1:Via r ps ps.length p (ps.getD l default):=by rw[e2];exact aOb _ _ _ h
  have h2:Via r ps ps.length (ps.getD l default) q:=by rw[e2];exact ih
  exact aHu _ l hl _ _ h1 h2
def aTQ(r r':Nat->Nat->Bool):Prop:=∀a b,r' a b=true->TC r a b
theorem aTd{r0 r:Nat->Nat->Bool}(h:aTQ r0 r)(m p:Nat)(ps:List Nat):∀k,aTQ r0 (wQ r m p ps k)
 | 0=>h
 | k+1=>λa b hab=>by
  have ih:=aTd h m p ps k;rw[aDz] at hab;by_cases e:a=p
  ·rw[if_pos e] at hab;have h2:(if b=ps.getD k default then wQ r m p ps k p (ps.getD k default)||(wQ r m p ps k p m&&wQ r m p ps k m (ps.getD k default)) else wQ r m p ps k a b)=true:=hab;clear hab;by_cases e2:b=ps.getD k default
   ·rw[if_pos e2] at h2;rw[e,e2];rcases (Bool.or_eq_true _ _).mp h2 with h3|h3
    ·exact ih _ _ h3
    ·obtain⟨h4,h5⟩:=(Bool.and_eq_true _ _).mp h3;exact(ih _ _ h4).trans (ih _ _ h5)
   ·rw[if_neg e2] at h2;exact ih _ _ h2
  ·rw[if_neg e] at hab;exact ih _ _ hab
theorem aVZ{r0 r:Nat->Nat->Bool}(h:aTQ r0 r)(m:Nat)(ps:List Nat):∀j,aTQ r0 (wP r m ps j)
 | 0=>h
 | j+1=>aTd (aVZ h m ps j) m _ ps _
theorem aTB(r:Nat->Nat->Bool)(ps:List Nat):∀i,aTQ r (wM ps r i)
 | 0=>λ_ _ h=>.one h
 | i+1=>aVZ (aTB r ps i) _ ps _
theorem aXR{r:Nat->Nat->Bool}{ps:List Nat}(hr:∀p q,r p q=true->q∈ps){a b:Nat}(ha:a∈ps)(hb:b∈ps):wM ps r ps.length a b=true↔TC r a b:=by
 refine⟨aTB r ps _ a b,λh=>?_⟩;obtain⟨i,hi,rfl⟩:=List.getElem_of_mem ha;obtain⟨j,hj,rfl⟩:=List.getElem_of_mem hb;have hv:=aY9 hr h;have e1:ps.getD i default=ps[i]:=by rw[zD,zB hi];rfl
 have e2:ps.getD j default=ps[j]:=by rw[zD,zB hj];rfl
 rw[←e1,←e2] at hv ⊢;exact aIb _ (zQ _) i j hi hj hv
theorem aUu{edges:List (List Int)}{set:List Int}{p q:Nat}(h:r0 edges set p q=true):q∈dH set:=by
 unfold r0 at h;rw[kM] at h;exact zJ.2 ⟨_,h.2,by simp⟩
end
section
theorem aHk{n:Int}:∀ {xs:List Int},n∉xs->(eX xs n).length=xs.length+1
 | [],_=>rfl
 | x::r,h=>by
  unfold eX;split
  ·simp only[List.length_cons,aHk (xs:=r) λe=>h (zG _ e)]
  ·split
   ·rename_i e;exact absurd (e ▸ zH) h
   ·rfl
theorem aLj{out set:List Int}(h:m6 out)(hs:m6 set)(hh:∀q∈out,q∈set):out.length≤set.length:=by
 have e:out=set.filter λq=>decide (q∈out):=aAG h (List.Pairwise.filter _ hs) λx=>by
  rw[List.mem_filter];exact⟨λhx=>⟨hh x hx,decide_eq_true hx⟩,λhx=>of_decide_eq_true hx.2⟩
 rw[e];exact List.length_filter_le _ _
noncomputable def aDj(edges:List (List Int))(set:List Int)(a:Int):List Int:=set.filter λq=>tst (TC (r0 edges set) a.toNat q.toNat)
theorem aQa{edges:List (List Int)}{set:List Int}{a q:Int}:q∈aDj edges set a↔q∈set/\TC (r0 edges set) a.toNat q.toNat:=by
 unfold aDj;rw[List.mem_filter,kM]
def Clo(edges:List (List Int))(set out:List Int)(p:Int):Prop:=∀q∈set,q∈edges.getD p.toNat default->q∈out
structure AftI (edges:List (List Int)) (set:List Int) (a:Int) (out todo:List Int):Prop where
 srt:m6 out
 sub:∀q∈out,q∈set/\TC (r0 edges set) a.toNat q.toNat
 tod:∀q∈todo,q=a∨q∈out
 clo:∀p,(p=a∨p∈out)->p∈todo∨Clo edges set out p
structure AftJ (edges:List (List Int)) (set:List Int) (a p:Int) (i:Nat) (out todo:List Int):Prop where
 srt:m6 out
 sub:∀q∈out,q∈set/\TC (r0 edges set) a.toNat q.toNat
 tod:∀q∈todo,q=a∨q∈out
 pin:p=a∨p∈out
 clo:∀p',(p'=a∨p'∈out)->p'=p∨p'∈todo∨Clo edges set out p'
 pre:∀q∈set,q∈(edges.getD p.toNat default).take i->q∈out
def aGd(set out todo:List Int):Nat:=2*(set.length-out.length)+todo.length
section
variable {edges:List (List Int)} {set:List Int} {a:Int}
theorem AftI.start:AftI edges set a [] [a] :=
 ⟨List.Pairwise.nil,λq hq=>(by cases hq),λq hq=>.inl (zN.1 hq),λp hp=>by
  rcases hp with rfl|hp
  ·exact .inl (zN.2 rfl)
  ·cases hp⟩
theorem AftI.pop{out todo:List Int}{p:Int}(h:AftI edges set a out (p::todo)):AftJ edges set a p 0 out todo :=
 ⟨h.srt,h.sub,λq hq=>h.tod q (zG _ hq),h.tod p zH,λp' hp'=>by
  rcases h.clo p' hp' with h1|h1
  ·rcases zO.1 h1 with h1|h1
   ·exact .inl h1
   ·exact .inr (.inl h1)
  ·exact .inr (.inr h1),λq _ hq=>by rw[List.take_zero] at hq;cases hq⟩
theorem AftJ.done{out todo:List Int}{p:Int}{i:Nat}(h:AftJ edges set a p i out todo)(hi:(edges.getD p.toNat default).length≤i):AftI edges set a out todo :=
 ⟨h.srt,h.sub,h.tod,λp' hp'=>by
  rcases h.clo p' hp' with rfl|h1|h1
  ·exact .inr λq hq hg=>h.pre q hq (by rw[List.take_of_length_le hi];exact hg)
  ·exact .inl h1
  ·exact .inr h1⟩
theorem AftJ.skip{out todo:List Int}{p:Int}{i:Nat}(h:AftJ edges set a p i out todo)(hi:i<(edges.getD p.toNat default).length)(hq:(edges.getD p.toNat default).getD i default∈set->(edges.getD p.toNat default).getD i default∈out):AftJ edges set a p (i+1) out todo :=
 ⟨h.srt,h.sub,h.tod,h.pin,h.clo,λq h1 h2=>by
  rw[iT hi] at h2;rcases zP.1 h2 with h2|h2
  ·exact h.pre q h1 h2
  ·rw[zN.1 h2] at h1 ⊢;exact hq h1⟩
theorem AftJ.push{out todo:List Int}{p:Int}{i:Nat}(h:AftJ edges set a p i out todo)(ha:0≤a)(hp:∀q∈set,0≤q)(hi:i<(edges.getD p.toNat default).length)(hq:(edges.getD p.toNat default).getD i default∈set):AftJ edges set a p (i+1) (eX out ((edges.getD p.toNat default).getD i default)) (todo++[(edges.getD p.toNat default).getD i default]):=by
 have hmem:∀x,x∈eX out ((edges.getD p.toNat default).getD i default)↔x∈out∨x=(edges.getD p.toNat default).getD i default:=λx=>mE x _ _;have hin:(edges.getD p.toNat default).getD i default∈edges.getD p.toNat default:=aX _ _ hi;have hr:r0 edges set p.toNat ((edges.getD p.toNat default).getD i default).toNat=true:=by
  unfold r0;rw[kM,Int.toNat_of_nonneg (hp _ hq)];exact⟨hin,hq⟩
 have hT:TC (r0 edges set) a.toNat ((edges.getD p.toNat default).getD i default).toNat:=by
  rcases h.pin with rfl|h1
  ·exact .one hr
  ·exact(h.sub p h1).2.snoc hr
 refine⟨yC _ _ h.srt,λq h1=>?_,λq h1=>?_,h.pin.imp id λh1=>(hmem p).2 (.inl h1),λp' h1=>?_,λq h1 h2=>?_⟩
 ·rcases (hmem q).1 h1 with h1|rfl
  ·exact h.sub q h1
  ·exact⟨hq,hT⟩
 ·rcases zP.1 h1 with h1|h1
  ·exact(h.tod q h1).imp id λh2=>(hmem q).2 (.inl h2)
  ·rw[zN.1 h1];exact .inr ((hmem _).2 (.inr rfl))
 ·have h2:p'=(edges.getD p.toNat default).getD i default∨(p'=a∨p'∈out):=by
   rcases h1 with h1|h1
   ·exact .inr (.inl h1)
   ·rcases (hmem p').1 h1 with h1|h1
    ·exact .inr (.inr h1)
    ·exact .inl h1
  rcases h2 with h2|h2
  ·exact .inr (.inl (by rw[h2];simp))
  ·rcases h.clo p' h2 with h3|h3|h3
   ·exact .inl h3
   ·exact .inr (.inl (List.mem_append_left _ h3))
   ·exact .inr (.inr λq k1 k2=>(hmem q).2 (.inl (h3 q k1 k2)))
 ·rw[iT hi] at h2;rcases zP.1 h2 with h2|h2
  ·exact(hmem q).2 (.inl (h.pre q h1 h2))
  ·exact(hmem q).2 (.inr (zN.1 h2))
theorem AftI.reach{out:List Int}(h:AftI edges set a out [])(ha:0≤a){p q:Nat}(ht:TC (r0 edges set) p q):((p:Int)=a∨(p:Int)∈out)->(q:Int)∈out:=by
 have key:∀ {p m:Nat},r0 edges set p m=true->((p:Int)=a∨(p:Int)∈out)->(m:Int)∈out:=λ{p m} hr hp=>by
  unfold r0 at hr;rw[kM] at hr;rcases h.clo p hp with h1|h1
  ·cases h1
  ·exact h1 m hr.2 (by rw[Int.toNat_natCast];exact hr.1)
 induction ht with
 | one hr=>exact key hr
 | step hr _ ih=>exact λhp=>ih (.inr (key hr hp))
theorem AftI.eq{out:List Int}(h:AftI edges set a out [])(ha:0≤a)(hs:m6 set)(hp:∀q∈set,0≤q):out=aDj edges set a :=
 aAG h.srt (List.Pairwise.filter _ hs) λq=>by
  show q∈out↔q∈aDj edges set a;rw[aQa];refine⟨h.sub q,λhq=>?_⟩;have:=h.reach ha hq.2 (.inl (Int.toNat_of_nonneg ha));rwa [Int.toNat_of_nonneg (hp q hq.1)] at this
end
noncomputable def CM(edges:List (List Int))(set:List Int):Nat->Nat->Bool:=wM (dH set) (r0 edges set) set.length
section
variable {edges:List (List Int)} {set:List Int}
theorem aK2{q:Int}(h:q∈set):q.toNat∈dH set:=zJ.2 ⟨q,h,rfl⟩
theorem aPj{p q:Int}(hp:p∈set)(hq:q∈set):CM edges set p.toNat q.toNat=true↔TC (r0 edges set) p.toNat q.toNat:=by
 unfold CM;rw[←aAE];exact aXR (λ_ _ h=>aUu h) (aK2 hp) (aK2 hq)
theorem aNH{p q:Int}(hp:p∈set)(hq:q∈set):q∈aDj edges set p↔CM edges set p.toNat q.toNat=true:=by
 rw[aQa,aPj hp hq];exact⟨λh=>h.2,λh=>⟨hq,h⟩⟩
theorem yY{p m q:Int}(hp:p∈set)(hm:m∈set)(hq:q∈set)(h1:CM edges set p.toNat m.toNat=true)(h2:CM edges set m.toNat q.toNat=true):CM edges set p.toNat q.toNat=true :=
 (aPj hp hq).2 (((aPj hp hm).1 h1).trans ((aPj hm hq).1 h2))
theorem aAz{C:Nat->Nat->Bool}{p q:Nat}:fC C p q=true↔C p q=true/\C q p=true:=by unfold fC;simp
theorem aBC{C:Nat->Nat->Bool}{p q:Nat}:fC C p q=fC C q p:=by unfold fC;rw[Bool.and_comm]
theorem aMS{p m q:Int}(hp:p∈set)(hm:m∈set)(hq:q∈set)(h1:fC (CM edges set) p.toNat m.toNat=true)(h2:fC (CM edges set) m.toNat q.toNat=true):fC (CM edges set) p.toNat q.toNat=true:=by
 rw[aAz] at *;exact⟨yY hp hm hq h1.1 h2.1,yY hq hm hp h2.2 h1.2⟩
def sR(edges:List (List Int))(set:List Int)(i:Nat)(done:List Int):Prop:=∀q∈set,q∈done↔∃l<i,okC (CM edges set) set l/\fC (CM edges set) (set.getD l default).toNat q.toNat=true
theorem sR.start:sR edges set 0 []:=λq _=>⟨λh=>(by cases h),λ⟨l,h,_⟩=>absurd h (by omega)⟩
theorem sR.ok{i:Nat}{done:List Int}(h:sR edges set i done)(hi:i<set.length):okC (CM edges set) set i↔(set.getD i default∈aDj edges set (set.getD i default)/\set.getD i default∉done):=by
 have hm:set.getD i default∈set:=aX set i hi;rw[aNH hm hm,h _ hm];constructor
 ·rintro⟨h1,h2⟩;refine⟨h1,?_⟩;rintro⟨l,hl,_,h3⟩;rw[aBC,h2 l hl] at h3;cases h3
 ·rintro⟨h1,h2⟩;refine⟨h1,λl hl=>?_⟩;have key:∀n l,l≤n->l<i->fC (CM edges set) (set.getD i default).toNat (set.getD l default).toNat=true->False:=by
   intro n;induction n with
   | zero =>
    intro l hl hli hb;obtain rfl:l=0:=by omega
    have hml:set.getD 0 default∈set:=aX set 0 (by omega);refine h2 ⟨0,hli,⟨?_,λl' hl'=>absurd hl' (by omega)⟩,by rw[aBC];exact hb⟩;have hb':=aAz.1 hb;exact yY hml hm hml hb'.2 hb'.1
   | succ n ih =>
    intro l hl hli hb;have hml:set.getD l default∈set:=aX set l (by omega);by_cases hex:∃l',l'<l/\fC (CM edges set) (set.getD l default).toNat (set.getD l' default).toNat=true
    ·obtain⟨l',h3,h4⟩:=hex;exact ih l' (by omega) (by omega) (aMS hm hml (aX set l' (by omega)) hb h4)
    ·refine h2 ⟨l,hli,⟨?_,λl' hl'=>?_⟩,by rw[aBC];exact hb⟩
     ·have hb':=aAz.1 hb;exact yY hml hm hml hb'.2 hb'.1
     ·cases hb2:fC (CM edges set) (set.getD l default).toNat (set.getD l' default).toNat with
      | false=>rfl
      | true=>exact absurd ⟨l',hl',hb2⟩ hex
  cases hb:fC (CM edges set) (set.getD i default).toNat (set.getD l default).toNat with
  | false=>rfl
  | true=>exact(key l l (zQ _) hl hb).elim
theorem sR.no{i:Nat}{done:List Int}(h:sR edges set i done)(ho:¬okC (CM edges set) set i):sR edges set (i+1) done:=λq hq=>by
 rw[h q hq];constructor
 ·rintro⟨l,h1,h2⟩;exact⟨l,by omega,h2⟩
 ·rintro⟨l,h1,h2,h3⟩;rcases Nat.lt_or_ge l i with h4|h4
  ·exact⟨l,h4,h2,h3⟩
  ·obtain rfl:l=i:=by omega
   exact absurd h2 ho
noncomputable def prS(edges:List (List Int))(set:List Int)(i k:Nat):List Int:=(set.take k).filter λq=>fC (CM edges set) (set.getD i default).toNat q.toNat
theorem aXd{i k:Nat}(hk:k<set.length)(h:fC (CM edges set) (set.getD i default).toNat (set.getD k default).toNat=true):prS edges set i (k+1)=prS edges set i k++[set.getD k default]:=by
 unfold prS;rw[iT hk,List.filter_append];simp only[List.filter_cons,List.filter_nil,h,if_true]
theorem aY8{i k:Nat}(hk:k<set.length)(h:¬fC (CM edges set) (set.getD i default).toNat (set.getD k default).toNat=true):prS edges set i (k+1)=prS edges set i k:=by
 unfold prS;rw[iT hk,List.filter_append];simp only[List.filter_cons,List.filter_nil,if_neg h,List.append_nil]
theorem aJZ(i:Nat):prS edges set i 0=[]:=by unfold prS;rw[List.take_zero];rfl
theorem aWP(i k:Nat):(prS edges set i k).length≤k:=by
 unfold prS;exact Nat.le_trans (List.length_filter_le _ _) (by rw[List.length_take];omega)
theorem sR.yes{i:Nat}{done:List Int}(h:sR edges set i done)(ho:okC (CM edges set) set i){k:Nat}(hk:set.length≤k):sR edges set (i+1) (done++prS edges set i k):=λq hq=>by
 unfold prS;rw[List.take_of_length_le hk,zP,List.mem_filter,h q hq];constructor
 ·rintro (⟨l,h1,h2⟩|⟨_,h2⟩)
  ·exact⟨l,by omega,h2⟩
  ·exact⟨i,by omega,ho,h2⟩
 ·rintro⟨l,h1,h2,h3⟩;rcases Nat.lt_or_ge l i with h4|h4
  ·exact .inl ⟨l,h4,h2,h3⟩
  ·obtain rfl:l=i:=by omega
   exact .inr ⟨hq,h3⟩
theorem aYP{i:Nat}(hi:i<set.length)(ho:okC (CM edges set) set i){k:Nat}(hk:set.length≤k):prS edges set i k=uJ (CM edges set) (set.getD i default).toNat (set.drop i) (set.length-i):=by
 unfold prS uJ;rw[List.take_of_length_le hk,List.take_of_length_le (by rw[List.length_drop];omega)];have hsp:∀f:Int->Bool,set.filter f=(set.take i).filter f++(set.drop i).filter f:=λf=>by rw[←List.filter_append,List.take_append_drop]
 rw[hsp];have:(set.take i).filter (λq=>fC (CM edges set) (set.getD i default).toNat q.toNat)=[]:=by
  rw[List.filter_eq_nil_iff];intro q hq;obtain⟨l,hl,rfl⟩:=List.getElem_of_mem hq;rw[List.length_take] at hl;rw[List.getElem_take];have:=ho.2 l (by omega);rw[zD (l:=set) (i:=l),zB (by omega)] at this;simpa using this
 rw[this,List.nil_append]
end
end
section
attribute [local irreducible] SW bA bC dM bZ FC dX aDj CM
def aBJ:List (Nat×List Nat):=[(0,[0,1,2]),(1,[0,1,2,7]),(2,[0,1,7,8]),(3,[0,1,7,8,17]),(4,[0,1,7,8,9]),(5,[0,1,7,8,9]),(6,[0,1,7,8,9,10]),(7,[0,1,7,8,9,10,29]),(9,[0,1,7,8,9,10,11]),(10,[0,1,7,8,9,10,11,47]),(11,[0,1,7,8,9,10,11]),(12,[0,1,7,8,9,10]),(8,[0,1,7,8,9,10]),(13,[6])]
attribute [go_sem] aBJ Tryz.results46 Tryz.ntmps46
theorem aKb(edges:List (List Int))(set:List Int)(a:Int)(hn:edges.length≤1000)(hin:∀q∈set,0≤q/\q<edges.length)(ha:0≤a/\a<edges.length)(hEl:∀i<edges.length,(edges.getD i default).length≤1000)(hs:m6 set)(hsl:set.length≤1000):FC S 46 [] [] [] [.sl .any (edges.map dT),.sl .any (set.map (.int .i64)),.int .i64 a] (.sl .any ((aDj edges set a).map (.int .i64))) [] []:=by
 have hp0:∀q∈set,0≤q:=λq hq=>(hin q hq).1;refine fcb Tryz.func46 λB=>?_;repeat' first|(refine aFm (id:=2) 0 aBJ 1 55000 rfl λK hK=>?_)|(refine⟨_,_,_,rfl,rfl,rfl,⟨⟨by simp only[Nat.reduceLT],by decide,by decide,by decide⟩,rfl,by simp[D.strip,jW,D.cells,D.memOk,TyI.size]⟩,rfl,by simp only[Nat.reduceLT],?_⟩;simp only[go_sem])|apply aG|refine aE 0 aBJ λK hK=>?_|refine aB ?_|(refine hK.n0 ?_;clear hK K)|apply tTT
 refine aSM 8 rfl ?_;simp only[go_sem];refine bG (ι:=List Int×List Int) (λp=>[(0,.sl .any (edges.map dT)),(1,.sl .any (set.map (.int .i64))),(7,.sl .any (p.1.map (.int .i64))),(8,.sl (.que 55000 2) (p.2.map (.int .i64)))]) (λ_=>[]) (λ_=>[55000]) (λp=>AftI edges set a p.1 p.2/\aGd set p.1 p.2≤2001) (λp=>aGd set p.1 p.2) ([],[a]) cvA ⟨AftI.start,by show 2*(set.length-0)+1≤2001;omega⟩ (λp hp=>?_);obtain⟨out,todo⟩:=p;obtain⟨hp,hM⟩:=hp;dsimp only at hp hM;simp only[go_sem];rcases todo with _|⟨p,todo⟩
 ·repeat' first|exact h.elim|(exfalso;omega)|apply aG|refine aE 0 aBJ λK hK=>?_|refine aB ?_|refine aC ?_|(refine hK.n0 ?_;clear hK K)|refine aA rfl (λh=>?_) λh=>?_|refine aJ rfl ?_|apply tTT
  all_goals first|exact hp.eq ha.1 hs hp0|(rw[hp.eq ha.1 hs hp0];done)|trace_state
 ·have hpr:0≤p/\p<edges.length:=by
   rcases hp.tod p zH with rfl|h
   ·exact ha
   ·exact hin p (hp.sub p h).1
  have hgl:=hEl p.toNat (by omega);have hJ:=hp.pop;have hm0:aGd set out todo+1≤aGd set out (p::todo):=by unfold aGd;simp only[List.length_cons];omega
  generalize hm1:aGd set out (p::todo)=m0 at *;repeat' first|exact h.elim|(exfalso;omega)|(refine sJ (id:=5) 0 aBJ 1 rfl λK hK=>?_)|apply aG|refine aE 0 aBJ λK hK=>?_|refine aB ?_|(refine hK.n0 ?_;clear hK K)|refine aA rfl (λh=>?_) λh=>?_|with_reducible refine aH ?_|apply tTT
  refine aK.sliceQue (tk:=.que 55000 2) (k:=55000) (xs:=(p::todo).map (.int .i64)) (m:=1) (kd:=.i64) (by simp only[go_sem]) (.inr rfl) (by simp only[go_sem]) rfl rfl rfl ⟨by decide,by rw[zC,List.length_cons];omega⟩ (λx hx=>by obtain⟨y,_,rfl⟩:=zJ.1 hx;rfl) (by simp only[Nat.reduceLT]) (aK.nil ?_);simp only[go_sem];refine λ(K:List Oper->LS->Prop) (hK:KOk S 0 _ _ _ K)=>?_;try simp only[go_sem]
  repeat' first|apply aG|refine aE 0 aBJ λK hK=>?_|refine aB ?_|(refine hK.n0 ?_;clear hK K)|apply tTT
  refine bG (ι:=Nat×List Int×List Int) (λq=>[(0,.sl .any (edges.map dT)),(1,.sl .any (set.map (.int .i64))),(7,.sl .any (q.2.1.map (.int .i64))),(8,.sl (.que 55000 2) (q.2.2.map (.int .i64))),(9,.int .i64 p),(10,.int .i64 q.1)]) (λ_=>[]) (λ_=>[55000]) (λq=>q.1≤(edges.getD p.toNat default).length/\AftJ edges set a p q.1 q.2.1 q.2.2/\aGd set q.2.1 q.2.2+1≤m0) (λq=>(edges.getD p.toNat default).length-q.1) (0,out,todo) cvB ⟨by simp,hJ,hm0⟩ (λq hq=>?_);obtain⟨i,out',todo'⟩:=q;obtain⟨h1,h2,h3⟩:=hq;dsimp only at h1 h2 h3;simp only[go_sem];have hol:=aLj h2.srt hs λq hq=>(h2.sub q hq).1;have htl:todo'.length≤2001:=by unfold aGd at h3;omega
  by_cases hig:i<(edges.getD p.toNat default).length
  ·have c1:=iI .any set ((edges.getD p.toNat default).getD i default);have c2:=iI .any out' ((edges.getD p.toNat default).getD i default);have c3:=pQ .any out' ((edges.getD p.toNat default).getD i default) (by omega);have hi2:i<(edges.getD p.toNat default).length:=hig;by_cases k1:(edges.getD p.toNat default).getD i default∈set
   ·by_cases k2:(edges.getD p.toNat default).getD i default∈out'
    ·have hS:=h2.skip hi2 (λ_=>k2);repeat' first|exact h.elim|(exfalso;omega)|(exact absurd k1 (by assumption))|(exact absurd k2 (by assumption))|apply aG|refine aE 0 aBJ λK hK=>?_|refine aB ?_|(refine hK.n0 ?_;clear hK K)|refine aZ (λh=>?_) λh=>?_|refine aA rfl (λh=>?_) λh=>?_|apply aF|refine hK.c1 rfl rfl rfl (c1) ?_|refine hK.c1 rfl rfl rfl (c2) ?_|with_reducible refine aH ?_|apply tTT
     all_goals exact⟨(i+1,out',todo'),cvA,⟨by dsimp only;omega,hS,h3⟩,by dsimp only;omega⟩
    ·have hS:=h2.push ha.1 hp0 hi2 k1;have hnl:=aHk k2;have hol2:=aLj hS.srt hs λq hq=>(hS.sub q hq).1;have hm2:aGd set (eX out' ((edges.getD p.toNat default).getD i default)) (todo'++[(edges.getD p.toNat default).getD i default])+1≤m0:=by
      unfold aGd at h3 ⊢;rw[zK,List.length_singleton];omega
     generalize hzo:eX out' ((edges.getD p.toNat default).getD i default)=zo at *;repeat' first|exact h.elim|(exfalso;omega)|(exact absurd k1 (by assumption))|(exact absurd (by assumption) k2)|(refine sJ (id:=12) 0 aBJ 3 rfl λK hK=>?_)|apply aG|refine aE 0 aBJ λK hK=>?_|refine aB ?_|(refine hK.n0 ?_;clear hK K)|refine aZ (λh=>?_) λh=>?_|refine aA rfl (λh=>?_) λh=>?_|refine hK.c1 rfl rfl rfl (c1) ?_|refine hK.c1 rfl rfl rfl (c2) ?_|refine hK.c1 rfl rfl rfl (c3) ?_|with_reducible refine aH ?_|apply tTT
     refine aK.appQue 55000 (k:=55000) (tk2:=.full) (xs:=todo'.map (.int .i64)) (y:=.int .i64 ((edges.getD p.toNat default).getD i default)) (by simp only[go_sem]) (by simp only[go_sem]) rfl rfl rfl (by simp) (by first|rfl|(simp only[go_sem];done)) (λx hx=>by obtain⟨y,_,rfl⟩:=zJ.1 hx;rfl) rfl (by rw[zC];simp only[TyI.bytes];omega) (by rw[zC];omega) (by simp only[Nat.reduceLT]) (aK.nil ?_);simp only[go_sem];refine λ(K:List Oper->LS->Prop) (hK:KOk S 0 _ _ _ K)=>?_;try simp only[go_sem]
     repeat' first|apply aG|refine aE 0 aBJ λK hK=>?_|refine aB ?_|(refine hK.n0 ?_;clear hK K)|apply aF|apply tTT
     all_goals exact⟨(i+1,zo,todo'++[(edges.getD p.toNat default).getD i default]),(by(refine aD rfl rfl ?_ ?_ ?_ ?_<;>simp(disch:=apply aR;omega)only[go_sem]<;>(try omega));all_goals first|(simp;done)|trace_state),⟨by dsimp only;omega,hS,hm2⟩,by dsimp only;omega⟩
   ·have hS:=h2.skip hi2 (λh=>absurd h k1);repeat' first|exact h.elim|(exfalso;omega)|(exact absurd (by assumption) k1)|apply aG|refine aE 0 aBJ λK hK=>?_|refine aB ?_|(refine hK.n0 ?_;clear hK K)|refine aZ (λh=>?_) λh=>?_|refine aA rfl (λh=>?_) λh=>?_|refine hK.skp rfl rfl ?_|apply aF|refine hK.c1 rfl rfl rfl (c1) ?_|with_reducible refine aH ?_|apply tTT
    all_goals exact⟨(i+1,out',todo'),cvA,⟨by dsimp only;omega,hS,h3⟩,by dsimp only;omega⟩
  ·have hD:=h2.done (by omega);repeat' first|exact h.elim|(exfalso;omega)|apply aG|refine aE 0 aBJ λK hK=>?_|refine aB ?_|(refine hK.n0 ?_;clear hK K)|refine aA rfl (λh=>?_) λh=>?_|refine aJ rfl ?_|apply aF|with_reducible refine aH ?_|apply tTT
   all_goals exact⟨(out',todo'),cvA,⟨hD,by dsimp only;omega⟩,by dsimp only;omega⟩
end
section
attribute [local irreducible] SW bA bC dM bZ FC dX aDj CM okC prS
def yT:List (Nat×List Nat):=[(0,[0,1]),(1,[0,1,5]),(2,[0,1,5,6]),(3,[0,1,5,6,16]),(5,[0,1,5,6]),(4,[0,1,5,6]),(6,[1,5,7]),(7,[1,5,7,8]),(8,[1,5,7,8,9]),(9,[1,5,7,8,9,34]),(11,[1,5,7,8,9,54]),(12,[1,5,7,8,9,10]),(13,[1,5,7,8,9,10,11]),(14,[1,5,7,8,9,10,11,59]),(16,[1,5,7,8,9,10,11,81]),(17,[1,5,7,8,9,10,11]),(18,[1,5,7,8,9,10,11]),(15,[1,5,7,8,9,10,11]),(19,[1,5,7,8,9]),(10,[1,5,7,8,9]),(20,[4])]
attribute [go_sem] yT Tryz.results17 Tryz.ntmps17
end
section
attribute [local irreducible] SW bA bC dM bZ FC dX toF d7 iC fZ sumF b5
def aUi:List (Nat×List Nat):=[(0,[1,2]),(1,[3])]
attribute [go_sem] aUi Tryz.results142 Tryz.ntmps142
theorem aF9(f:Int)(r:RuleT)(h:1≤r.l.length):FC S 142 [(3,[.int .i64 f])] [] [] ([fO r]++[.box 3 0]) (.bool (tst (r.l.getD 0 default=f))) [] []:=by
 refine fcb Tryz.func142 λB=>?_;repeat' first|apply aG|refine aE 100 aUi λK hK=>?_|refine aU aUi (by kernel_rfl) λK hK=>?_|refine aB ?_|refine aQ ?_|refine aC ?_|(refine hK.n0 ?_;clear hK K)|with_reducible refine aH ?_|apply tTT
def aX2:List (Nat×List Nat):=[(0,[2,3]),(1,[4])]
attribute [go_sem] aX2 Tryz.results124 Tryz.ntmps124
theorem rC(x:SystemT)(f:Int)(h:∀r∈x.rules,1≤r.l.length):FC S 124 [] [] [] [bR x,.int .i64 f] (.bool (tst (aF5 x f))) [] []:=by
 refine fcb Tryz.func124 λB=>?_;repeat' first|apply aG|refine aE 0 aX2 λK hK=>?_|refine aB ?_|refine aC ?_|(refine hK.n0 ?_;clear hK K)|refine hK.cR rfl rfl rfl (xB _ x.rules (λr=>r.l.getD 0 default=f) _ _ [(3,[.int .i64 f])] (by simp[Lg.look]) (λr hr=>aF9 f r (h r hr))) ?_|apply tTT
 exact Iff.rfl
def aOt:List (Nat×List Nat):=[(0,[1,2,3,4]),(1,[1,3,4,9]),(2,[1,3,4,9,14]),(4,[1,3,4,9,22]),(5,[8]),(3,[1,3,4,9]),(6,[8])]
attribute [go_sem] aOt Tryz.results65 Tryz.ntmps65
theorem aCe(rs t u:List Int)(hT:aT rs t):FC S 65 [] [] [] [.agg [.sl .any (rs.map (.int .i64))],.sl .any (t.map (.int .i64)),.int .i64 1,.sl .any (u.map (.int .i64))] (.bool (tst (nT rs t 1 u))) [] []:=by
 have hl:=hT.2.1;refine fcb Tryz.func65 λB=>?_;repeat' first|apply aG|refine aE 0 aOt λK hK=>?_|refine aB ?_|(refine hK.n0 ?_;clear hK K)|apply tTT
 refine aV (ι:=Nat) (λp=>[(9,.int .i64 p)]) (λp=>[]) (λp=>(1≤p/\p≤t.length)/\∀j<p,1≤j->eD rs t j≠u) (λp=>t.length-p) 1 cvA ?_ (λp hp=>?_);rotate_left
 simp only[go_sem];obtain⟨hp,hj⟩:=hp;by_cases hil:p<t.length
 ·repeat' first|exact h.elim|(exfalso;omega)|apply aG|refine aE 0 aOt λK hK=>?_|refine aB ?_|refine aC ?_|(refine hK.n0 ?_;clear hK K)|refine aA rfl (λh=>?_) λh=>?_|apply aF|refine hK.c1 rfl rfl rfl (uW .any .any rs t p hT hil) ?_|refine hK.c1 rfl rfl rfl (xI _ _ (eD rs t p) u) ?_|apply tTT
  ·exact⟨p,⟨hp.1,hil⟩,h⟩
  ·exact⟨p+1,cvA,⟨by omega,bJ hj λ_=>h⟩,by omega⟩
 ·repeat' first|exact h.elim|(exfalso;omega)|apply aG|refine aE 0 aOt λK hK=>?_|refine aB ?_|refine aC ?_|(refine hK.n0 ?_;clear hK K)|refine aA rfl (λh=>?_) λh=>?_|refine aJ rfl ?_|apply tTT
  exact aHy λj hj'=>hj j (by omega)
 ·exact⟨⟨by omega,by omega⟩,λj h1 h2=>absurd h1 (by omega)⟩
def aSH:List (Nat×List Nat):=[(0,[1,2,3,6]),(1,[1,2,3,6,8]),(2,[1,2,3,6,8,30]),(3,[6,7]),(4,[1,2,3,6,8,9]),(5,[1,2,6,8,9,43]),(6,[6,7]),(7,[6,7])]
attribute [go_sem] aSH Tryz.results98 Tryz.ntmps98
theorem aRZ(x:SystemT)(hx:b9 x)(r a:Nat)(hr:r<x.rules.length)(ha:a<(x.rules.getD r default).r.length):FC S 98 [] [] [] [bR x,.int .i64 r,.int .i64 a] (.tup [bN (atR x r a).1,.bool (atR x r a).2]) [] []:=by
 have hR:=hx.2 r hr;have h12:=hx.1.2;have hT:=hR.1.2.1;have hl:=hT.2.1;have hl1:=hR.1.1.2.1;have hsl:1≤(eD x.sig (x.rules.getD r default).r a).length/\(eD x.sig (x.rules.getD r default).r a).length≤60:=(oW hT ha).2.1;have hne:∀ {xs:List Int},1≤xs.length->xs≠[]:=λh e=>by rw[e] at h;exact absurd h (by simp)
 have h0:∀r∈x.rules,1≤r.l.length:=λr hr=>by
  obtain⟨j,hj,rfl⟩:=List.getElem_of_mem hr;have:=(hx.2 j hj).1.1.2.1.1;rwa [zD,zB hj] at this
 rcases Classical.em (qA x r a) with hPA|hPA
 ·rw[aIT hPA];have hh:=hPA.1;refine fcb Tryz.func98 λB=>?_;repeat' first|exact h.elim|(exfalso;omega)|apply aG|refine aE 0 aSH λK hK=>?_|refine aU aSH (by kernel_rfl) λK hK=>?_|refine aB ?_|refine aQ ?_|refine aC ?_|(refine hK.n0 ?_;clear hK K)|refine bH (λh=>?_) λh=>?_|refine aA rfl (λh=>?_) λh=>?_|refine hK.c1 rfl rfl rfl (rC x _ h0) ?_|refine hK.c1 rfl rfl rfl (uW .any .any x.sig (x.rules.getD r default).r a hT ha) ?_|refine hK.c1 rfl rfl rfl (aCe x.sig (x.rules.getD r default).l (eD x.sig (x.rules.getD r default).r a) hR.1.1) ?_|refine hK.c1 rfl rfl rfl (vP [1] (by simp) _ (eD x.sig (x.rules.getD r default).r a) (hne hsl.1) (by omega)) ?_|refine hK.c1 rfl rfl rfl (vP [2] (by simp) _ (x.rules.getD r default).l (hne hl1.1) (by omega)) ?_|with_reducible refine aH ?_|apply tTT
  all_goals first|exact absurd hh.2 (by assumption)|exact absurd (by assumption) hPA.2|exact⟨rfl,rfl,rfl,rfl⟩|skip
 ·rw[aOr hPA];refine fcb Tryz.func98 λB=>?_;repeat' first|exact h.elim|apply aG|refine aE 0 aSH λK hK=>?_|refine aU aSH (by kernel_rfl) λK hK=>?_|refine aB ?_|refine aQ ?_|refine aC ?_|(refine hK.n0 ?_;clear hK K)|refine bH (λh=>?_) λh=>?_|refine aA rfl (λh=>?_) λh=>?_|refine hK.skp rfl rfl ?_|refine hK.c1 rfl rfl rfl (rC x _ h0) ?_|refine hK.c1 rfl rfl rfl (uW .any .any x.sig (x.rules.getD r default).r a hT ha) ?_|refine hK.c1 rfl rfl rfl (aCe x.sig (x.rules.getD r default).l (eD x.sig (x.rules.getD r default).r a) hR.1.1) ?_|refine hK.c1 rfl rfl rfl (vP [1] (by simp) _ (eD x.sig (x.rules.getD r default).r a) (hne hsl.1) (by omega)) ?_|refine hK.c1 rfl rfl rfl (vP [2] (by simp) _ (x.rules.getD r default).l (hne hl1.1) (by omega)) ?_|with_reducible refine aH ?_|apply tTT
  all_goals first|exact absurd (show qA x r a from⟨⟨(by assumption),(by assumption)⟩,(by assumption)⟩) hPA|skip
end
end Go.Proofs.YtmfmgoceeedonaaGreat
