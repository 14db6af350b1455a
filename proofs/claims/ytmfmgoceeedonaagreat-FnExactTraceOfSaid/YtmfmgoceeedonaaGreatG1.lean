/-
  A03, A05p, A15p, ACl, A06, LTy, A06s, A06e, A01s, A06f, A17p, K1p, one behind the other.
-/
import Derived.Test.YtmfmgoceeedonaaGreatG0
import Derived.Test.YtmfmgoceeedonaaGreatSet
import Derived.Test.YtmfmgoceeedonaaGreatLgK7
namespace Go.Proofs.YtmfmgoceeedonaaGreat
open Go Go.Lg
set_option linter.unusedSimpArgs false
set_option linter.unusedVariables false
set_option maxHeartbeats 4000000
section
attribute [local irreducible] SW bA bC dM bZ FC dX
def aJD(n:Nat):D:=.int .i64 n
attribute [go_sem] aJD
theorem aV5{rs:List Int}{x:Int}(h:0≤arS rs x):-24≤x/\x<rs.length:=by
 unfold arS at h;split at h
 ·have:0≤(rs.length:Int):=by omega
  omega
 ·split at h
  ·omega
  ·omega
theorem aT.ar{rs t:List Int}(h:aT rs t):∀x∈t,0≤arS rs x:=λx hx=>by
 have:=h.2.2;unfold eJ at this;rw[List.drop_zero] at this;exact aEx (rs:=rs) t 1 0 (by omega) x hx
theorem aT.low{rs t:List Int}(h:aT rs t){a:Nat}(ha:a<t.length):(-24≤t.getD a default/\t.getD a default<rs.length)/\0≤arS rs (t.getD a default)/\arS rs (t.getD a default)≤3 :=
 ⟨aV5 (h.ar _ (aX t a ha)),h.ar _ (aX t a ha),(wJ h.1 _).2⟩
def aTk:List (Nat×List Nat):=[(0,[1,2,3]),(1,[6])]
attribute [go_sem] aTk Tryz.results104 Tryz.ntmps104
theorem uW(tk tk':Tk)(rs t:List Int)(a:Nat)(hT:aT rs t)(ha:a<t.length):FC S 104 [] [] [] [.agg [.sl tk (rs.map (.int .i64))],.sl tk' (t.map (.int .i64)),.int .i64 a] (.sl .any ((eD rs t a).map (.int .i64))) [] []:=by
 have he:=gQ hT ha;have hl:=hT.2.1.2;refine fcb Tryz.func104 λB=>?_;refine bM 1 λhb1=>?_;repeat' first|apply aG|refine aE 0 aTk λK hK=>?_|refine aB ?_|refine aC ?_|(refine hK.n0 ?_;clear hK K)|refine hK.c1 rfl rfl rfl (aAg _ _ rs t a hT.1 hT.ge hl (by omega)) ?_|with_reducible refine aH ?_|apply tTT
 rfl
def aFz:List (Nat×List Nat):=[(0,[1,2,3]),(1,[1,2,3,7]),(2,[1,2,3,7,8]),(3,[1,3,7,8,9]),(4,[1,3,7,8,9,19]),(6,[1,3,7,8,9]),(7,[1,3,7,8,9]),(5,[1,3,7,8,9]),(8,[6])]
attribute [go_sem] aFz Tryz.results105 Tryz.ntmps105
theorem aGn(tk tk':Tk)(rs t:List Int)(a:Nat)(hT:aT rs t)(ha:a<t.length):FC S 105 [] [] [] [.agg [.sl tk (rs.map (.int .i64))],.sl tk' (t.map (.int .i64)),.int .i64 a] (.sl .any ((dN rs t a).map aJD)) [] []:=by
 have hl:=hT.2.1.2;have hlo:=hT.low ha;obtain⟨n,hn⟩:∃n:Nat,arS rs (t.getD a default)=n:=⟨(arS rs (t.getD a default)).toNat,by omega⟩;have hlt:∀j<n,a<d8 rs t (a+1) j/\d8 rs t (a+1) j<t.length:=λj hj=>oU hT ha (by omega);have hle:∀j≤n,a<d8 rs t (a+1) j/\d8 rs t (a+1) j≤t.length:=λj hj=>aDD hT ha (by omega);unfold dN;rw[hn,Int.toNat_natCast];refine FC.args (args':=[.agg [.sl .any (rs.map (.int .i64))],.sl .any (t.map (.int .i64)),.int .i64 a]) ?_ (by simp only[go_sem]);refine fcb Tryz.func105 λB=>?_;refine bM 1 λhb1=>?_;repeat' first|apply aG|refine aE 0 aFz λK hK=>?_|refine aU aFz (by kernel_rfl) λK hK=>?_|refine aB ?_|refine aQ ?_|(refine hK.n0 ?_;clear hK K)|refine hK.c1 rfl rfl rfl (aFK _ rs _ hlo.1) ?_|with_reducible refine aH ?_|apply tTT
 rw[hn];refine eF 7 26000 3 1 rfl (.inl rfl) rfl ?_;simp only[go_sem];refine bG (ι:=Nat) (λj=>[(9,.int .i64 (n-j:Int)),(8,.int .i64 (d8 rs t (a+1) j)),(7,.sl (.own 26000 3 1) ((yG rs t j (a+1)).map aJD))]) (λ_=>[]) (λ_=>[26000]) (λj=>j≤n) (λj=>n-j) 0 (by(refine aD rfl rfl ?_ ?_ ?_ ?_<;>simp(disch:=apply aR;omega)only[go_sem]<;>(try omega));simp[d8,yG]) (by omega) (λj hj=>?_);simp only[go_sem];have hb:=fE rs t j (a+1);have h3:=hle j hj;have h4:=hlt j;have h5:j<n->((eJ rs t (d8 rs t (a+1) j)).toNat:Int)=eJ rs t (d8 rs t (a+1) j):=λhj=>by have:=gQ hT (h4 hj).2;omega
 repeat' first|exact h.elim|apply aG|refine aE 0 aFz λK hK=>?_|refine aB ?_|refine aC ?_|(refine hK.n0 ?_;clear hK K)|refine aA rfl (λh=>?_) λh=>?_|refine aJ rfl ?_|apply aF|refine hK.c1 rfl rfl rfl (aAg _ _ rs t (d8 rs t (a+1) j) hT.1 hT.ge hl (by omega)) ?_|with_reducible refine aH ?_|apply tTT
 ·refine⟨j+1,(by(refine aD rfl rfl ?_ ?_ ?_ ?_<;>simp(disch:=apply aR;omega)only[go_sem]<;>(try omega));have:=h5 (by omega);simp only[d8,aBo,List.map_append,List.map_cons,List.map_nil,aJD];exact⟨trivial,this.symm,by omega⟩),by omega,by omega⟩
 ·rw[show j=n by omega]
end
section
def aZx(a b:List Int):Prop:=a.getD 0 default=b.getD 0 default/\0≤a.getD 0 default
instance (a b:List Int):Decidable (aZx a b):=inferInstanceAs (Decidable (_/\_))
theorem aTr{rs t:List Int}(h:aT rs t){a:Nat}(ha:a<t.length):(eD rs t a).length+a=(eJ rs t a).toNat:=by
 have:=gQ h ha;unfold eD;rw[List.length_drop,List.length_take];omega
theorem aJd{rs t:List Int}(h:aT rs t){i:Nat}(hi:i<t.length):(eD rs t i).getD 0 default=t.getD i default/\∀j<(arS rs (t.getD i default)).toNat,eD rs (eD rs t i) (d8 rs (eD rs t i) 1 j)=eD rs t (d8 rs t (i+1) j):=by
 obtain⟨p,l,r,e,rfl,h0,hl⟩:=aL3 h hi;have hu:Fl rs 1 (t.getD p.length default::l):=by
  have:Fl rs (0+1) (t.getD p.length default::l):=.cons h0 (by rw[Nat.zero_add];exact hl);rwa [Nat.zero_add] at this
 have es:eD rs t p.length=t.getD p.length default::l:=by
  conv=>lhs;rw[e]
  exact aAk hu
 rw[es];refine⟨rfl,λj hj=>?_⟩;generalize hx:t.getD p.length default=x at *;obtain⟨l1,l2,rfl,c1,c2,c3⟩:=Fl.cut [x] [] j _ l hl (by omega);obtain⟨d1,d2,d3,d4,d5,d6⟩:=Fl.cut (p++[x]) r j _ (l1++l2) hl (by omega);obtain⟨rfl,rfl⟩:=c1.uniq d4 d3;obtain⟨u,r2,rfl,u1,_⟩:=Fl.split l2 1 (_-(j+1)) (by rw[show 1+((arS rs x).toNat-(j+1))=(arS rs x).toNat-j by omega];exact c2);simp only[List.append_nil,zK,List.length_cons,List.length_nil] at c3 d6;have e1:x::(l1++(u++r2))=([x]++l1)++(u++r2):=by simp
 have e2:t=(p++[x]++l1)++(u++(r2++r)):=by rw[e];simp
 have c3':d8 rs (x::(l1++(u++r2))) 1 j=([x]++l1).length:=by
  have:[x]++(l1++(u++r2))=x::(l1++(u++r2)):=rfl;rw[this] at c3;simp at c3 ⊢;omega
 have d6':d8 rs t (p.length+1) j=(p++[x]++l1).length:=by
  have:p++[x]++(l1++(u++r2)++r)=t:=by rw[e];simp
  rw[this] at d6;simp at d6 ⊢;omega
 rw[c3',d6'];conv=>lhs;rw[e1]
 conv=>rhs;rw[e2]
 rw[aAk u1,aAk u1]
def lC(rs t:List Int)(j:Nat):List Int:=eD rs t (d8 rs t 1 j)
theorem aTN{rs t:List Int}(h:aT rs t){a:Nat}(ha:a<t.length){j:Nat}(hj:j<(arS rs (t.getD a default)).toNat):lC rs (eD rs t a) j=eD rs t (d8 rs t (a+1) j):=(aJd h ha).2 j hj
theorem mF{rs t:List Int}(h:aT rs t):eD rs t 0=t:=by
 have h0:=h.2.2;unfold eD;rw[List.drop_zero,h0];simp
theorem j5{rs t:List Int}(h:aT rs t){j:Nat}(hj:j<(arS rs (t.getD 0 default)).toNat):aT rs (lC rs t j)/\(lC rs t j).length<t.length:=by
 have h1:=oU h (show 0<t.length from h.2.1.1) hj;have h2:=oW h h1.2;refine⟨h2,?_⟩;have h3:=aTr h h1.2;have h4:=gQ h h1.2;unfold lC;simp only[Nat.zero_add] at *;omega
def oI(rs t:List Int)(j:Nat):List (List Int):=(List.range j).map (lC rs t)
theorem jV(rs t:List Int)(j:Nat):(oI rs t j).length=j:=by simp[oI]
theorem aLM(rs t:List Int)(j:Nat):oI rs t (j+1)=oI rs t j++[lC rs t j]:=by simp[oI,List.range_succ]
theorem xW(rs t:List Int){j k:Nat}(h:j<k):(oI rs t k).getD j default=lC rs t j:=by simp[oI,List.getD,h]
def MF:Int:=1000000000000
def aRe(cs:List Int)(n:Nat):List Int:=cs++List.replicate (n-cs.length) 0
def fZ(cs ds:List Int)(c:Int):Nat->List Int
 | 0=>aRe cs ds.length
 | j+1=>(fZ cs ds c j).set j ((fZ cs ds c j).getD j default+c*ds.getD j default)
def xM:PolyT:=⟨0,[]⟩
def oR(o a:PolyT)(c:Int):PolyT:=⟨o.const+c*a.const,fZ o.coef a.coef c a.coef.length⟩
def yZ(n:Int):PolyT:=⟨0,(List.replicate (-n).toNat 0).set (-1-n).toNat 1⟩
def okF(o:PolyT):Prop:=(∀x∈o.coef,x≤MF)/\o.const≤MF
def sumF(F:Nat->PolyT×Bool)(p:PolyT):Nat->PolyT
 | 0=>⟨p.const,[]⟩
 | k+1=>oR (sumF F p k) (F k).1 (p.coef.getD k default)
open Classical in
noncomputable def kF(F:Nat->PolyT×Bool)(p:PolyT)(n:Nat):PolyT×Bool:=if (∀j<n,(F j).2=true)/\okF (sumF F p n) then (sumF F p n,true) else (xM,false)
noncomputable def b5(rs:List Int)(ps:List PolyT):Nat->List Int->PolyT×Bool
 | 0,_=>(xM,false)
 | f+1,t=>if t.getD 0 default<0 then (yZ (t.getD 0 default),true) else kF (λj=>b5 rs ps f (lC rs t j)) (ps.getD (t.getD 0 default).toNat default) (arS rs (t.getD 0 default)).toNat
theorem wW{F:Nat->PolyT×Bool}{p:PolyT}{n:Nat}(h:(∀j<n,(F j).2=true)/\okF (sumF F p n)):kF F p n=(sumF F p n,true):=if_pos h
theorem pV{F:Nat->PolyT×Bool}{p:PolyT}{n:Nat}(h:¬((∀j<n,(F j).2=true)/\okF (sumF F p n))):kF F p n=(xM,false):=if_neg h
theorem l8{rs:List Int}{ps:List PolyT}{f:Nat}{t:List Int}(h:t.getD 0 default<0):b5 rs ps (f+1) t=(yZ (t.getD 0 default),true):=if_pos h
theorem nE{rs:List Int}{ps:List PolyT}{f:Nat}{t:List Int}(h:¬t.getD 0 default<0):b5 rs ps (f+1) t=kF (λj=>b5 rs ps f (lC rs t j)) (ps.getD (t.getD 0 default).toNat default) (arS rs (t.getD 0 default)).toNat:=if_neg h
theorem aUo(cs:List Int)(n:Nat):(aRe cs n).length=max cs.length n:=by
 unfold aRe;rw[zK,List.length_replicate];omega
theorem jT(cs ds:List Int)(c:Int):∀j,(fZ cs ds c j).length=max cs.length ds.length
 | 0=>aUo _ _
 | j+1=>by simp only[fZ,List.length_set,jT cs ds c j]
theorem aVw(cs:List Int)(n i:Nat):(aRe cs n).getD i default=cs.getD i default:=by
 unfold aRe;simp only[zD];rcases Nat.lt_or_ge i cs.length with h|h
 ·rw[zL h]
 ·rw[zM h,List.getElem?_eq_none h,List.getElem?_replicate];split<;>rfl
theorem aLY(l:List Int)(j i:Nat)(x:Int):(l.set j x).getD i default=if j=i/\j<l.length then x else l.getD i default:=by
 simp only[zD,List.getElem?_set];by_cases h:j=i
 ·subst h;by_cases h2:j<l.length
  ·simp[h2]
  ·simp[h2,List.getElem?_eq_none (Nat.not_lt.1 h2)]
 ·simp[h]
theorem qR(cs ds:List Int)(c:Int):∀j,j≤ds.length->∀i,(fZ cs ds c j).getD i default=cs.getD i default+if i<j then c*ds.getD i default else 0
 | 0,_,i=>by rw[fZ,aVw,if_neg (Nat.not_lt_zero _),Int.add_zero]
 | j+1,hj,i=>by
  have ih:=qR cs ds c j (by omega);simp only[fZ,aLY,jT,ih];by_cases h:j=i
  ·subst h;rw[if_pos ⟨rfl,by omega⟩,if_neg (by omega),if_pos (by omega)];omega
  ·rw[if_neg (λe=>h e.1)];by_cases h2:i<j
   ·rw[if_pos h2,if_pos (by omega)]
   ·rw[if_neg h2,if_neg (by omega)]
theorem aHR(cs ds:List Int)(c:Int){j:Nat}(hj:ds.length≤j):ds.getD j default=0:=by
 rw[zD,List.getElem?_eq_none hj];rfl
def nX(cs ds:List Int)(c:Int)(i:Nat):List Int:=(fZ cs ds c i).take (max cs.length i)
def lP(cs ds:List Int)(c:Int)(i:Nat):List Int:=(fZ cs ds c i).take (max cs.length (i+1))
theorem aQO(cs ds:List Int)(c:Int){i:Nat}(h:i≤ds.length):(nX cs ds c i).length=max cs.length i:=by unfold nX;rw[List.length_take,jT];omega
theorem aHL(cs ds:List Int)(c:Int){i:Nat}(h:i<ds.length):(lP cs ds c i).length=max cs.length (i+1):=by unfold lP;rw[List.length_take,jT];omega
theorem aM2(cs ds:List Int)(c:Int):nX cs ds c 0=cs:=by
 unfold nX fZ aRe;rw[show max cs.length 0=cs.length by omega,List.take_left]
theorem aQ6(cs ds:List Int)(c:Int){i:Nat}(h:i<ds.length)(hc:cs.length≤i):nX cs ds c i++[0]=lP cs ds c i:=by
 unfold nX lP;rw[show max cs.length i=i by omega,show max cs.length (i+1)=i+1 by omega,List.take_succ_eq_append_getElem (by rw[jT];omega)];congr 2
 have h1:=qR cs ds c i (by omega) i;rw[if_neg (by omega),zD,zB (by rw[jT];omega),Option.getD_some,zD,List.getElem?_eq_none hc] at h1;rw[h1];rfl
theorem aNQ(cs ds:List Int)(c:Int){i:Nat}(hc:i<cs.length):nX cs ds c i=lP cs ds c i:=by
 unfold nX lP;rw[show max cs.length i=max cs.length (i+1) by omega]
theorem aG5(cs ds:List Int)(c:Int)(i:Nat):(lP cs ds c i).getD i default=(fZ cs ds c i).getD i default:=by
 unfold lP;rw[zD,zD,List.getElem?_take,if_pos (by omega)]
theorem aHh(cs ds:List Int)(c:Int)(i:Nat):(lP cs ds c i).set i ((lP cs ds c i).getD i default+c*ds.getD i default)=nX cs ds c (i+1):=by
 rw[aG5];unfold lP nX;rw[fZ,List.take_set]
theorem aQx(cs ds:List Int)(c:Int):nX cs ds c ds.length=fZ cs ds c ds.length:=by
 unfold nX;rw[List.take_of_length_le (by rw[jT];omega)]
open Classical in
noncomputable def aIs(a b:PolyT)(c:Int):PolyT×Bool:=if ∀x∈(oR a b c).coef,x≤MF then (oR a b c,tst ((oR a b c).const≤MF)) else (xM,false)
theorem aFt{a b:PolyT}{c:Int}(h:∀x∈(oR a b c).coef,x≤MF):aIs a b c=(oR a b c,tst ((oR a b c).const≤MF)):=if_pos h
theorem aP2{a b:PolyT}{c:Int}(h:¬ ∀x∈(oR a b c).coef,x≤MF):aIs a b c=(xM,false):=if_neg h
theorem aO1{a b:PolyT}{c:Int}:(aIs a b c).2=true↔okF (oR a b c):=by
 by_cases h:∀x∈(oR a b c).coef,x≤MF
 ·rw[aFt h];exact⟨λe=>⟨h,kM.1 e⟩,λe=>b8 e.2⟩
 ·rw[aP2 h];exact⟨λe=>absurd e (by simp),λe=>absurd e.1 h⟩
def iL(B:Int)(o:PolyT):Prop:=(0≤o.const/\o.const≤B)/\(∀x∈o.coef,0≤x/\x≤B)/\o.coef.length≤24
def gX(n:Int)(p:PolyT):Prop:=((p.coef.length:Int)=n/\0≤p.const/\p.const≤9)/\∀x∈p.coef,0≤x/\x≤9
def dO(rs:List Int)(ps:List PolyT):Prop:=(eQ rs/\ps.length=rs.length)/\∀f<ps.length,gX (rs.getD f default) (ps.getD f default)
theorem kC{xs:List Int}{P:Int->Prop}(h0:P 0)(h:∀x∈xs,P x)(i:Nat):P (xs.getD i default):=by
 rcases Nat.lt_or_ge i xs.length with h1|h1
 ·exact h _ (aX xs i h1)
 ·rw[zD,List.getElem?_eq_none h1];exact h0
theorem p7{xs:List Int}{P:Int->Prop}(h:∀i<xs.length,P (xs.getD i default)):∀x∈xs,P x:=λx hx=>by
 obtain⟨j,hj,rfl⟩:=List.getElem_of_mem hx;have:=h j hj;rwa [zD,zB hj] at this
theorem aTV{B B':Int}{o a:PolyT}{c:Int}(ho:iL B o)(ha:iL B' a)(hc:0≤c/\c≤9)(hB:0≤B)(hB':0≤B'):iL (B+9*B') (oR o a c):=by
 have hmul:∀x,0≤x/\x≤B'->0≤c*x/\c*x≤9*B':=λx hx=>⟨Int.mul_nonneg hc.1 hx.1,Int.mul_le_mul hc.2 hx.2 hx.1 (by omega)⟩;refine⟨?_,p7 λi _=>?_,?_⟩
 ·have:=hmul _ ha.1;have:=ho.1;show 0≤o.const+c*a.const/\o.const+c*a.const≤B+9*B';omega
 ·show 0≤(fZ o.coef a.coef c a.coef.length).getD i default/\(fZ o.coef a.coef c a.coef.length).getD i default≤B+9*B';rw[qR _ _ _ _ (zQ _)];have h1:=kC (P:=λx=>0≤x/\x≤B) ⟨Int.le_refl _,hB⟩ ho.2.1 i;have h2:=hmul _ (kC (P:=λx=>0≤x/\x≤B') ⟨Int.le_refl _,hB'⟩ ha.2.1 i);split<;>omega
 ·show (fZ o.coef a.coef c a.coef.length).length≤24;rw[jT];have:=ho.2.2;have:=ha.2.2;omega
theorem aJc{B B':Int}{o:PolyT}(h:iL B o)(hB:B≤B'):iL B' o:=⟨⟨h.1.1,by have:=h.1.2;omega⟩,λx hx=>⟨(h.2.1 x hx).1,by have:=(h.2.1 x hx).2;omega⟩,h.2.2⟩
theorem aAV{n:Int}{p:PolyT}(h:gX n p)(k:Nat):0≤p.coef.getD k default/\p.coef.getD k default≤9:=kC (P:=λx=>0≤x/\x≤9) ⟨Int.le_refl _,by decide⟩ h.2 k
theorem uQ{F:Nat->PolyT×Bool}{p:PolyT}{m:Int}(hp:gX m p):∀n,(∀j<n,iL MF (F j).1)->iL (9+9*MF*n) (sumF F p n)
 | 0,_=>⟨⟨hp.1.2.1,by show p.const≤9+9*MF*((0:Nat):Int);have:=hp.1.2.2;simp only[MF];omega⟩,(λx hx=>by cases hx),by simp[sumF]⟩
 | n+1,h=>by
  have ih:=uQ hp n λj hj=>h j (by omega);have h1:=aTV ih (h n (by omega)) (aAV hp n) (by simp only[MF];omega) (by decide);refine aJc h1 ?_;simp only[MF];omega
theorem aXb{B B':Int}{o a:PolyT}{c:Int}(ho:iL B o)(ha:iL B' a)(hB':0≤B')(hc:0≤c)(h:okF (oR o a c)):okF o:=by
 have hmul:∀x,0≤x/\x≤B'->0≤c*x:=λx hx=>Int.mul_nonneg hc hx.1;refine⟨p7 λi hi=>?_,?_⟩
 ·have h1:(fZ o.coef a.coef c a.coef.length).getD i default≤MF:=h.1 _ (aX _ i (by show i<(fZ o.coef a.coef c a.coef.length).length;rw[jT];omega));rw[qR _ _ _ _ (zQ _)] at h1;have h2:=hmul _ (kC (P:=λx=>0≤x/\x≤B') ⟨Int.le_refl _,hB'⟩ ha.2.1 i);split at h1<;>omega
 ·have h1:o.const+c*a.const≤MF:=h.2;have:=hmul _ ha.1;omega
theorem aZi{F:Nat->PolyT×Bool}{p:PolyT}{m:Int}(hp:gX m p){n:Nat}(h:∀j<n,iL MF (F j).1)(hok:okF (sumF F p n)):∀k≤n,okF (sumF F p k):=by
 induction n with
 | zero=>intro k hk;rwa [show k=0 by omega]
 | succ n ih =>
  intro k hk;rcases Nat.lt_or_ge k (n+1) with h1|h1
  ·exact ih (λj hj=>h j (by omega)) (aXb (uQ hp n λj hj=>h j (by omega)) (h n (by omega)) (by decide) (aAV hp n).1 hok) k (by omega)
  ·rwa [show k=n+1 by omega]
theorem aVT{p:PolyT}{m:Int}(hp:gX m p):okF ⟨p.const,[]⟩:=⟨(λx hx=>by cases hx),by show p.const≤MF;have:=hp.1.2.2;simp only[MF];omega⟩
theorem aDP{n:Int}(h0:n<0)(h1:-24≤n):iL MF (yZ n):=by
 refine⟨⟨Int.le_refl _,by show (0:Int)≤MF;decide⟩,λx hx=>?_,?_⟩
 ·rcases List.mem_or_eq_of_mem_set hx with h|rfl
  ·rw[(List.mem_replicate.1 h).2];decide
  ·decide
 ·show ((List.replicate (-n).toNat (0:Int)).set (-1-n).toNat 1).length≤24;rw[List.length_set,List.length_replicate];omega
theorem xA:iL MF xM:=⟨⟨Int.le_refl _,by show (0:Int)≤MF;decide⟩,(λx hx=>by cases hx),by simp[xM]⟩
theorem aFJ{F:Nat->PolyT×Bool}{p:PolyT}{m:Int}(hp:gX m p){n:Nat}(h:∀j<n,iL MF (F j).1):iL MF (kF F p n).1:=by
 rcases Classical.em ((∀j<n,(F j).2=true)/\okF (sumF F p n)) with h1|h1
 ·rw[wW h1];have h2:=uQ hp n h;exact⟨⟨h2.1.1,h1.2.2⟩,λx hx=>⟨(h2.2.1 x hx).1,h1.2.1 x hx⟩,h2.2.2⟩
 ·rw[pV h1];exact xA
theorem aIG{rs:List Int}{ps:List PolyT}(h:dO rs ps){n:Int}(h0:0≤n)(h1:n<rs.length):gX (arS rs n) (ps.getD n.toNat default):=by
 rw[lJ (by omega)];exact h.2 n.toNat (by rw[h.1.2];omega)
theorem vW{rs:List Int}{ps:List PolyT}(hP:dO rs ps):∀f t,aT rs t->iL MF (b5 rs ps f t).1
 | 0,_,_=>xA
 | f+1,t,ht=>by
  have hl:=ht.low (show 0<t.length from ht.2.1.1);by_cases h:t.getD 0 default<0
  ·rw[l8 h];exact aDP h hl.1.1
  ·rw[nE h];exact aFJ (aIG hP (by omega) hl.1.2) λj hj=>vW hP f _ (j5 ht hj).1
def xJ(a b:PolyT):Prop:=∀i<a.coef.length,a.coef.getD i default≤b.coef.getD i default
def aNo:List (Nat×List Nat):=[(0,[0]),(1,[0,4]),(2,[2]),(3,[2])]
attribute [go_sem] aNo Tryz.results62 Tryz.ntmps62
end
section
attribute [local irreducible] SW bA bC dM bZ FC
def aAX(rs l r:List Int):Prop:=(aT rs l/\aT rs r/\0≤l.getD 0 default)/\∀j<r.length,r.getD j default<0->r.getD j default∈l
def aSR:List (Nat×List Nat):=[(0,[2,3]),(1,[3,24]),(2,[4]),(3,[3,5]),(4,[3,5,29]),(6,[3,5,48]),(7,[4]),(5,[3,5]),(8,[4])]
attribute [go_sem] aSR Tryz.results74 Tryz.ntmps74
theorem aFX(tk tk1 tk2:Tk)(rs l r:List Int):FC S 74 [] [] [] [.agg [.sl tk (rs.map (.int .i64))],.agg [.sl tk1 (l.map (.int .i64)),.sl tk2 (r.map (.int .i64))]] (.bool (tst (aAX rs l r))) [] []:=by
 have hl1:aT rs l->1≤l.length:=λh=>h.2.1.1;unfold aAX;refine fcb Tryz.func74 λB=>?_;refine b6 0 0 λhb0_0=>?_;refine b6 1 0 λhb1_0=>?_;refine b6 1 1 λhb1_1=>?_;repeat' first|exact h.elim|apply aG|refine aE 0 aSR λK hK=>?_|refine aB ?_|refine aC ?_|(refine hK.n0 ?_;clear hK K)|refine aZ (λh=>?_) λh=>?_|refine aA rfl (λh=>?_) λh=>?_|refine hK.skp rfl rfl ?_|refine hK.c1 rfl rfl rfl (g8 _ _ _ _) ?_|apply tTT
 ·rintro⟨⟨h1,_⟩,_⟩;contradiction
 ·rintro⟨⟨_,h1,_⟩,_⟩;contradiction
 have hl2:=hl1 (by assumption);simp(disch:=apply aR;omega)only[go_sem];repeat' first|exact h.elim|apply aG|refine aE 0 aSR λK hK=>?_|refine aB ?_|refine aC ?_|(refine hK.n0 ?_;clear hK K)|refine aA rfl (λh=>?_) λh=>?_|with_reducible refine aH ?_|apply tTT
 ·rintro⟨⟨_,_,h1⟩,_⟩;omega
 refine aV (ι:=Nat) (λi=>[(5,.int .i64 i)]) (λ_=>[]) (λi=>i≤r.length/\(∀j<i,r.getD j default<0->r.getD j default∈l)) (λi=>r.length-i) 0 cvA ⟨by omega,?_⟩ (λi ⟨hi,hj⟩=>?_);rotate_left
 simp only[go_sem];repeat' first|exact h.elim|apply aG|refine aE 0 aSR λK hK=>?_|refine aU aSR (by kernel_rfl) λK hK=>?_|refine aB ?_|refine aQ ?_|refine aC ?_|(refine hK.n0 ?_;clear hK K)|refine bH (λh=>?_) λh=>?_|refine aA rfl (λh=>?_) λh=>?_|refine hK.skp rfl rfl ?_|refine aJ rfl ?_|apply aF|refine hK.c1 rfl rfl rfl (iI _ _ _) ?_|with_reducible refine aH ?_|apply tTT
 ·rintro⟨_,h2⟩;exact absurd (h2 i (by omega) (by assumption)) h
 ·exact⟨i+1,by(refine aD rfl rfl ?_ ?_ ?_ ?_<;>simp(disch:=apply aR;omega)only[go_sem]<;>(try omega)),⟨by omega,bJ hj λ_=>h⟩,by omega⟩
 ·exact⟨i+1,by(refine aD rfl rfl ?_ ?_ ?_ ?_<;>simp(disch:=apply aR;omega)only[go_sem]<;>(try omega)),⟨by omega,bJ hj λh0=>by omega⟩,by omega⟩
 ·exact⟨⟨by assumption,by assumption,by omega⟩,λj hj'=>hj j (by omega)⟩
 ·intro j hj';omega
def aWB:List (Nat×List Nat):=[(0,[2,3]),(1,[3,25]),(2,[4]),(3,[3,27,28,29]),(4,[3,27,28,29,30]),(5,[3,6,27,28,29]),(6,[3,27,28,29,41]),(7,[4]),(8,[3,27,28,29]),(9,[4])]
attribute [go_sem] aWB Tryz.results97 Tryz.ntmps97
theorem aF1(tk tk1 tk2:Tk)(rs l r:List Int):FC S 97 [] [] [] [.agg [.sl tk (rs.map (.int .i64))],.agg [.sl tk1 (l.map (.int .i64)),.sl tk2 (r.map (.int .i64))]] (.bool (tst (aAX rs l r))) [] []:=by
 have hl1:aT rs l->1≤l.length:=λh=>h.2.1.1;unfold aAX;refine fcb Tryz.func97 λB=>?_;refine b6 0 0 λhb0_0=>?_;refine b6 1 0 λhb1_0=>?_;refine b6 1 1 λhb1_1=>?_;repeat' first|exact h.elim|apply aG|refine aE 0 aWB λK hK=>?_|refine aB ?_|refine aC ?_|(refine hK.n0 ?_;clear hK K)|refine aZ (λh=>?_) λh=>?_|refine aA rfl (λh=>?_) λh=>?_|refine hK.skp rfl rfl ?_|refine hK.c1 rfl rfl rfl (xK _ _ _ _) ?_|apply tTT
 ·rintro⟨⟨h1,_⟩,_⟩;contradiction
 ·rintro⟨⟨_,h1,_⟩,_⟩;contradiction
 have hl2:=hl1 (by assumption);simp(disch:=apply aR;omega)only[go_sem];repeat' first|exact h.elim|apply aG|refine aE 0 aWB λK hK=>?_|refine aB ?_|refine aC ?_|(refine hK.n0 ?_;clear hK K)|refine aA rfl (λh=>?_) λh=>?_|with_reducible refine aH ?_|apply tTT
 ·rintro⟨⟨_,_,h1⟩,_⟩;omega
 refine aV (ι:=Nat) (λi=>[(29,.int .i64 i)]) (λ_=>[]) (λi=>i≤r.length/\(∀j<i,r.getD j default<0->r.getD j default∈l)) (λi=>r.length-i) 0 cvA ⟨by omega,?_⟩ (λi ⟨hi,hj⟩=>?_);rotate_left
 simp only[go_sem];repeat' first|exact h.elim|apply aG|refine aE 0 aWB λK hK=>?_|refine aB ?_|refine aC ?_|(refine hK.n0 ?_;clear hK K)|refine aZ (λh=>?_) λh=>?_|refine aA rfl (λh=>?_) λh=>?_|refine hK.skp rfl rfl ?_|refine aJ rfl ?_|apply aF|refine hK.c1 rfl rfl rfl (tJ _ _ _) ?_|with_reducible refine aH ?_|apply tTT
 ·rintro⟨_,h2⟩;exact absurd (h2 i (by omega) (by assumption)) h
 ·exact⟨i+1,by(refine aD rfl rfl ?_ ?_ ?_ ?_<;>simp(disch:=apply aR;omega)only[go_sem]<;>(try omega)),⟨by omega,bJ hj λ_=>h⟩,by omega⟩
 ·exact⟨i+1,by(refine aD rfl rfl ?_ ?_ ?_ ?_<;>simp(disch:=apply aR;omega)only[go_sem]<;>(try omega)),⟨by omega,bJ hj λh0=>by omega⟩,by omega⟩
 ·exact⟨⟨by assumption,by assumption,by omega⟩,λj hj'=>hj j (by omega)⟩
 ·intro j hj';omega
end
section
attribute [local irreducible] SW bA bC dM bZ FC Ret dX
def jA:Sh:=.slc (.cell .nil)
def dL(p:List Nat)(xs:List Int):D:=.sl (.lab p) (xs.map (.int .i64))
attribute [go_sem] dL
def fY(xs:List Int):Nat:=xs.length
theorem fV(p:List Nat)(xs:List Int):D.le (dL p xs) (.sl .any (xs.map (.int .i64))):=.any
theorem uN(xs:List Int):fY xs≤4*d9 xs:=by unfold fY d9;omega
theorem gH(p:List Nat)(xs:List Int):LT jA p (dL p xs) (fY xs):=aWd p xs
def aPx:Fs:=(.sub jA .nil)
def aTz(p:List Nat)(x:List Int):D:=.agg [dL (p++[0]) x]
attribute [go_sem] aTz
theorem aVs(p:List Nat)(x:List Int):leL (aTz p x).cells (aF6 x).cells:=⟨fV _ _,trivial⟩
theorem aDq(p:List Nat)(x:List Int):D.le (aTz p x) (aF6 x):=by unfold aTz aF6;rw[t7];exact aVs p x
def aC0(p:List Nat)(x:RuleT):D:=.agg [dL (p++[0]) x.l,dL (p++[1]) x.r]
attribute [go_sem] aC0
theorem aHH(p:List Nat)(x:RuleT):leL (aC0 p x).cells (fO x).cells:=⟨fV _ _,fV _ _,trivial⟩
theorem aA6(p:List Nat)(x:RuleT):D.le (aC0 p x) (fO x):=by unfold aC0 fO;rw[t7];exact aHH p x
def aDt:Sh:=.slc (.sub jA (.sub jA .nil))
def aD3(p:List Nat)(xs:List RuleT):D:=.sl (.lab p) (gU (λi y=>aC0 (p++[i]) y) xs)
attribute [go_sem] aD3
theorem p6(p:List Nat)(xs:List RuleT):D.le (aD3 p xs) (.sl .any (xs.map fO)):=aAC xs λj x=>aHH _ _
def aAD(xs:List RuleT):Nat:=(xs.map λx=>(fY x.l+(fY x.r+0))).sum
theorem aON(xs:List RuleT):aAD xs≤4*iH xs:=by unfold aAD iH;exact aXp (λx=>by have:=uN x.l;have:=uN x.r;(try simp only[gP,d9,qT,aKx] at *);omega) xs
theorem nZ(p:List Nat)(xs:List RuleT):LT aDt p (aD3 p xs) (aAD xs):=aIH xs λj x=>by unfold LF;exact⟨_,_,_,_,rfl,rfl,gH _ _,by unfold LF;exact⟨_,_,_,_,rfl,rfl,gH _ _,by unfold LF;exact⟨rfl,rfl⟩⟩⟩
def aAf:Fs:=(.sub jA (.sub aDt .nil))
def wH(p:List Nat)(x:SystemT):D:=.agg [dL (p++[0]) x.sig,aD3 (p++[1]) x.rules]
attribute [go_sem] wH
theorem aKr(p:List Nat)(x:SystemT):leL (wH p x).cells (bR x).cells:=⟨fV _ _,p6 _ _,trivial⟩
theorem qU(p:List Nat)(x:SystemT):D.le (wH p x) (bR x):=by unfold wH bR;rw[t7];exact aKr p x
def aFu(x:SystemT):Nat:=(fY x.sig+(aAD x.rules+0))
theorem uE(x:SystemT):aFu x≤4*iK x:=by have:=uN x.sig;have:=aON x.rules;unfold aFu iK;(try simp only[qT,d9,aXA,aKx] at *);omega
def aXf(k:Int)(x:SystemT):List D:=[HD jA (k) (fY x.sig),HD aDt (k+(fY x.sig:Nat)) (aAD x.rules)]
theorem aQo(i:Nat)(k:Int)(x:SystemT):TA aAf [i] 0 k (wH [i] x).cells (aXf k x) (aFu x):=by unfold TA;exact⟨_,_,_,_,_,rfl,rfl,rfl,gH _ _,by unfold TA;exact⟨_,_,_,_,_,rfl,rfl,rfl,nZ _ _,by unfold TA;exact⟨rfl,rfl,rfl⟩⟩⟩
def lN(p:List Nat)(x:PolyT):D:=.agg [.int .i64 x.const,dL (p++[1]) x.coef]
attribute [go_sem] lN
theorem vS(p:List Nat)(x:PolyT):leL (lN p x).cells (bP x).cells:=⟨.refl _,fV _ _,trivial⟩
theorem aAe(p:List Nat)(x:PolyT):D.le (lN p x) (bP x):=by unfold lN bP;rw[t7];exact vS p x
def aDC:Sh:=.slc (.cell (.sub jA .nil))
def kB(p:List Nat)(xs:List PolyT):D:=.sl (.lab p) (gU (λi y=>lN (p++[i]) y) xs)
attribute [go_sem] kB
theorem nK(p:List Nat)(xs:List PolyT):D.le (kB p xs) (.sl .any (xs.map bP)):=aAC xs λj x=>vS _ _
def m9(xs:List PolyT):Nat:=(xs.map λx=>((fY x.coef+0)+1)).sum
theorem oQ(p:List Nat)(xs:List PolyT):LT aDC p (kB p xs) (m9 xs):=aIH xs λj x=>by unfold LF;exact⟨_,_,_,rfl,rfl,by unfold LF;exact⟨_,_,_,_,rfl,rfl,gH _ _,by unfold LF;exact⟨rfl,rfl⟩⟩⟩
def j3(p:List Nat)(x:PairStepT):D:=.agg [dL (p++[0]) x.part,dL (p++[1]) x.proj,kB (p++[2]) x.polys,dL (p++[3]) x.gone]
attribute [go_sem] j3
theorem xG(p:List Nat)(x:PairStepT):leL (j3 p x).cells (fB x).cells:=⟨fV _ _,fV _ _,nK _ _,fV _ _,trivial⟩
theorem m8(p:List Nat)(x:PairStepT):D.le (j3 p x) (fB x):=by unfold j3 fB;rw[t7];exact xG p x
def uT:Sh:=.slc (.sub jA (.sub jA (.sub aDC (.sub jA .nil))))
def sE(p:List Nat)(xs:List PairStepT):D:=.sl (.lab p) (gU (λi y=>j3 (p++[i]) y) xs)
attribute [go_sem] sE
theorem mM(p:List Nat)(xs:List PairStepT):D.le (sE p xs) (.sl .any (xs.map fB)):=aAC xs λj x=>xG _ _
def kY(xs:List PairStepT):Nat:=(xs.map λx=>(fY x.part+(fY x.proj+(m9 x.polys+(fY x.gone+0))))).sum
theorem iW(p:List Nat)(xs:List PairStepT):LT uT p (sE p xs) (kY xs):=aIH xs λj x=>by unfold LF;exact⟨_,_,_,_,rfl,rfl,gH _ _,by unfold LF;exact⟨_,_,_,_,rfl,rfl,gH _ _,by unfold LF;exact⟨_,_,_,_,rfl,rfl,oQ _ _,by unfold LF;exact⟨_,_,_,_,rfl,rfl,gH _ _,by unfold LF;exact⟨rfl,rfl⟩⟩⟩⟩⟩
end
section
attribute [local irreducible] SW bA bC dM bZ FC
attribute [go_sem] lR iS
def aPb(rs:List Int)(r:RuleT):Prop:=aAX rs r.l r.r
def b9(x:SystemT):Prop:=(eQ x.sig/\x.rules.length≤12)/\∀j<x.rules.length,aPb x.sig (x.rules.getD j default)
theorem b9.len{x:SystemT}(h:b9 x)(j:Nat)(hj:j<x.rules.length):(1≤(x.rules.getD j default).l.length/\(x.rules.getD j default).l.length≤60)/\(1≤(x.rules.getD j default).r.length/\(x.rules.getD j default).r.length≤60) :=
 ⟨(h.2 j hj).1.1.2.1,(h.2 j hj).1.2.1.2.1⟩
def aWL:List (Nat×List Nat):=[(0,[1]),(1,[1,13]),(2,[2]),(3,[1,3]),(4,[1,3,18]),(6,[1,3,29]),(7,[2]),(5,[1,3]),(8,[2])]
attribute [go_sem] aWL Tryz.results43 Tryz.ntmps43
theorem jC(x:SystemT):FC S 43 [] [] [] [bR x] (.bool (tst (b9 x))) [] []:=by
 refine fcb Tryz.func43 λB=>?_;refine b6 0 1 λhb0_1=>?_;repeat' first|exact h.elim|apply aG|refine aE 0 aWL λK hK=>?_|refine aB ?_|refine aC ?_|(refine hK.n0 ?_;clear hK K)|refine aZ (λh=>?_) λh=>?_|refine aA rfl (λh=>?_) λh=>?_|refine hK.c1 rfl rfl rfl (nB _ _) ?_|apply tTT
 ·rintro⟨⟨h1,_⟩,_⟩;contradiction
 ·rintro⟨⟨_,h1⟩,_⟩;omega
 refine aV (ι:=Nat) (λi=>[(3,.int .i64 i)]) (λ_=>[]) (λi=>i≤x.rules.length/\(∀j<i,aPb x.sig (x.rules.getD j default))) (λi=>x.rules.length-i) 0 cvA ⟨by omega,?_⟩ (λi ⟨hi,hj⟩=>?_);rotate_left
 simp only[go_sem];repeat' first|exact h.elim|apply aG|refine aE 0 aWL λK hK=>?_|refine aU aWL (by kernel_rfl) λK hK=>?_|refine aB ?_|refine aQ ?_|refine aC ?_|(refine hK.n0 ?_;clear hK K)|refine aA rfl (λh=>?_) λh=>?_|refine aJ rfl ?_|apply aF|refine hK.c1 rfl rfl rfl (aFX _ _ _ x.sig (x.rules.getD i default).l (x.rules.getD i default).r) ?_|with_reducible refine aH ?_|apply tTT
 ·rintro⟨_,h2⟩;exact h (h2 i (by omega))
 ·exact⟨i+1,by(refine aD rfl rfl ?_ ?_ ?_ ?_<;>simp(disch:=apply aR;omega)only[go_sem]<;>(try omega)),⟨by omega,bJ hj h⟩,by omega⟩
 ·exact⟨⟨by assumption,by omega⟩,λj hj'=>hj j (by omega)⟩
 ·intro j hj';omega
def aZe:List (Nat×List Nat):=[(0,[1]),(1,[1,14]),(2,[2]),(3,[1,16,17,18]),(4,[1,16,17,18,19]),(5,[1,4,16,17,18]),(6,[1,16,17,18,26]),(7,[2]),(8,[1,16,17,18]),(9,[2])]
attribute [go_sem] aZe Tryz.results55 Tryz.ntmps55
theorem sS(x:SystemT):FC S 55 [] [] [] [bR x] (.bool (tst (b9 x))) [] []:=by
 refine fcb Tryz.func55 λB=>?_;refine b6 0 1 λhb0_1=>?_;repeat' first|exact h.elim|apply aG|refine aE 0 aZe λK hK=>?_|refine aB ?_|refine aC ?_|(refine hK.n0 ?_;clear hK K)|refine aZ (λh=>?_) λh=>?_|refine aA rfl (λh=>?_) λh=>?_|refine hK.c1 rfl rfl rfl (qV _ _) ?_|apply tTT
 ·rintro⟨⟨h1,_⟩,_⟩;contradiction
 ·rintro⟨⟨_,h1⟩,_⟩;omega
 refine aV (ι:=Nat) (λi=>[(18,.int .i64 i)]) (λ_=>[]) (λi=>i≤x.rules.length/\(∀j<i,aPb x.sig (x.rules.getD j default))) (λi=>x.rules.length-i) 0 cvA ⟨by omega,?_⟩ (λi ⟨hi,hj⟩=>?_);rotate_left
 simp only[go_sem];repeat' first|exact h.elim|apply aG|refine aE 0 aZe λK hK=>?_|refine aB ?_|refine aC ?_|(refine hK.n0 ?_;clear hK K)|refine aA rfl (λh=>?_) λh=>?_|refine aJ rfl ?_|apply aF|refine hK.c1 rfl rfl rfl (aF1 _ _ _ x.sig (x.rules.getD i default).l (x.rules.getD i default).r) ?_|with_reducible refine aH ?_|apply tTT
 ·rintro⟨_,h2⟩;exact h (h2 i (by omega))
 ·exact⟨i+1,by(refine aD rfl rfl ?_ ?_ ?_ ?_<;>simp(disch:=apply aR;omega)only[go_sem]<;>(try omega)),⟨by omega,bJ hj h⟩,by omega⟩
 ·exact⟨⟨by assumption,by omega⟩,λj hj'=>hj j (by omega)⟩
 ·intro j hj';omega
theorem aSF{α:Type} [Inhabited α] (xs:List α)(i:Nat)(h:i<xs.length):xs.take (i+1)=xs.take i++[xs.getD i default]:=by
 rw[List.take_succ_eq_append_getElem h];simp[List.getD,zB h]
theorem vP(p:List Nat)(hp:p≠[])(tk:Tk)(xs:List Int)(h1:xs≠[])(hl:xs.length≤17592186044416):FC S 62 [] [] [] [.sl tk (xs.map (.int .i64))] (dL p xs) [] []:=by
 have h1':xs.map (D.int .i64)≠[]:=by simpa using h1
 refine FC.args (args':=[.sl .any (xs.map (.int .i64))]) ?_ (by simp only[go_sem]);refine fcb Tryz.func62 λB=>?_;refine bM 0 λhb0=>?_;repeat' first|exact h.elim|(refine xY 2 p (k:=8000) rfl (by simp) hp ?_;simp only[go_sem])|apply aG|refine aE 0 aNo λK hK=>?_|refine aB ?_|refine aC ?_|(refine hK.n0 ?_;clear hK K)|refine aA rfl (λh=>?_) λh=>?_|with_reducible refine aH ?_|apply tTT
end
section
def m6(l:List Int):Prop:=l.Pairwise (· < ·)
theorem yC(n:Int):∀xs:List Int,m6 xs->m6 (eX xs n)
 | [],_=>by simp[m6,eX]
 | x::r,h=>by
  obtain⟨h1,h2⟩:=List.pairwise_cons.1 h;unfold eX;split
  ·rename_i hlt;refine List.pairwise_cons.2 ⟨λy hy=>?_,yC n r h2⟩;rcases (mE y r n).1 hy with hy|rfl
   ·exact h1 y hy
   ·exact hlt
  ·split
   ·exact h
   ·rename_i h3 h4;refine List.pairwise_cons.2 ⟨λy hy=>?_,h⟩;rcases zO.1 hy with rfl|hy
    ·omega
    ·have:=h1 y hy;omega
theorem aAG:∀ {a b:List Int},m6 a->m6 b->(∀x,x∈a↔x∈b)->a=b
 | [],[],_,_,_=>rfl
 | [],y::b,_,_,h=>by have:=(h y).2 zH;cases this
 | x::a,[],_,_,h=>by have:=(h x).1 zH;cases this
 | x::a,y::b,ha,hb,h=>by
  obtain⟨a1,a2⟩:=List.pairwise_cons.1 ha;obtain⟨b1,b2⟩:=List.pairwise_cons.1 hb;have hxy:x=y:=by
   rcases zO.1 ((h x).1 zH) with e|e
   ·exact e
   ·rcases zO.1 ((h y).2 zH) with e'|e'
    ·exact e'.symm
    ·have:=a1 y e';have:=b1 x e;omega
  subst hxy;congr 1
  refine aAG a2 b2 λz=>?_;constructor
  ·intro hz;rcases zO.1 ((h z).1 (zG _ hz)) with e|e
   ·have:=a1 z hz;omega
   ·exact e
  ·intro hz;rcases zO.1 ((h z).2 (zG _ hz)) with e|e
   ·have:=b1 z hz;omega
   ·exact e
def upTo(n:Nat):List Int:=(List.range n).map λ(i:Nat)=>(i:Int)
theorem aCg(n:Nat):m6 (upTo n):=by
 unfold m6 upTo;rw[List.pairwise_map];exact List.pairwise_lt_range.imp λh=>by omega
theorem aEY(n:Nat)(x:Int):x∈upTo n↔0≤x/\x<n:=by
 unfold upTo;rw[zJ];constructor
 ·rintro⟨i,hi,rfl⟩;have:=List.mem_range.1 hi;omega
 ·intro h;exact⟨x.toNat,List.mem_range.2 (by omega),by omega⟩
theorem aHN(n:Nat):upTo (n+1)=upTo n++[(n:Int)]:=by simp[upTo,List.range_succ]
end
section
attribute [local irreducible] SW bA bC dM bZ FC dX
def yF(rules:List RuleT)(i:Nat):List Int:=(rules.take i).foldl (λacc r=>eX acc (r.l.getD 0 default)) []
theorem aBE(rules:List RuleT)(i:Nat)(h:i<rules.length):yF rules (i+1)=eX (yF rules i) ((rules.getD i default).l.getD 0 default):=by
 unfold yF;rw[aSF rules i h,List.foldl_append];rfl
theorem aEi(n:Int):∀xs:List Int,(eX xs n).length≤xs.length+1
 | []=>by simp[eX]
 | x::r=>by
  have ih:=aEi n r;unfold eX;split
  ·simp only[List.length_cons];omega
  ·split<;>simp
theorem aLt(rules:List RuleT):∀i,i≤rules.length->(yF rules i).length≤i
 | 0,_=>by simp[yF]
 | i+1,h=>by
  have ih:=aLt rules i (by omega);rw[aBE rules i (by omega)];have:=aEi ((rules.getD i default).l.getD 0 default) (yF rules i);omega
theorem aLO(rules:List RuleT)(m:Int):∀i,i≤rules.length->(m∈yF rules i↔∃j<i,(rules.getD j default).l.getD 0 default=m)
 | 0,_=>by simp[yF]
 | i+1,h=>by
  rw[aBE rules i (by omega),mE,aLO rules m i (by omega)];constructor
  ·rintro (⟨j,hj,e⟩|e)
   ·exact⟨j,by omega,e⟩
   ·exact⟨i,by omega,e.symm⟩
  ·rintro⟨j,hj,e⟩;rcases Nat.lt_or_ge j i with h1|h1
   ·exact .inl ⟨j,h1,e⟩
   ·rw[show j=i by omega] at e;exact .inr e.symm
theorem aS9(rules:List RuleT)(m:Int):m∈yF rules rules.length↔∃r∈rules,r.l.getD 0 default=m:=by
 rw[aLO rules m _ (zQ _)];constructor
 ·rintro⟨j,hj,e⟩;exact⟨_,aX rules j hj,e⟩
 ·rintro⟨r,hr,e⟩;obtain⟨j,hj,rfl⟩:=List.getElem_of_mem hr;exact⟨j,hj,by rw[←e];simp[List.getD,zB hj]⟩
def aZp:List (Nat×List Nat):=[(0,[1]),(1,[1,3]),(2,[1,3,4]),(3,[1,3,4,10]),(5,[1,3,4]),(4,[1,3,4]),(6,[2])]
attribute [go_sem] aZp Tryz.results75 Tryz.ntmps75
theorem sD(x:SystemT)(hn:x.rules.length≤1000)(h:∀j<x.rules.length,1≤(x.rules.getD j default).l.length):FC S 75 [] [] [] [bR x] (.sl .any ((yF x.rules x.rules.length).map (.int .i64))) [] []:=by
 refine fcb Tryz.func75 λB=>?_;repeat' first|apply aG|refine aE 0 aZp λK hK=>?_|refine aB ?_|(refine hK.n0 ?_;clear hK K)|apply tTT
 refine aV (ι:=Nat) (λp=>[(4,.int .i64 p),(3,.sl .any ((yF x.rules p).map (.int .i64)))]) (λp=>[]) (λp=>p≤x.rules.length) (λp=>x.rules.length-p) 0 cvB ?_ (λp hp=>?_);rotate_left
 simp only[go_sem];have hl:=aLt x.rules p hp;have hs:=aBE x.rules p;have h1:=h p;repeat' first|exact h.elim|apply aG|refine aE 0 aZp λK hK=>?_|refine aB ?_|refine aC ?_|(refine hK.n0 ?_;clear hK K)|refine aA rfl (λh=>?_) λh=>?_|refine aJ rfl ?_|apply aF|refine hK.c1 rfl rfl rfl (pQ _ (yF x.rules p) _ (by omega)) ?_|with_reducible refine aH ?_|apply tTT
 ·exact⟨p+1,(by(refine aD rfl rfl ?_ ?_ ?_ ?_<;>simp(disch:=apply aR;omega)only[go_sem]<;>(try omega));rw[hs (by omega)];exact⟨rfl,by omega⟩),by omega,by omega⟩
 ·rw[show p=x.rules.length by omega]
 ·omega
end
section
def nT(rs t:List Int)(k:Nat)(u:List Int):Prop:=∃a,(k≤a/\a<t.length)/\eD rs t a=u
def aF5(x:SystemT)(n:Int):Prop:=∃r∈x.rules,r.l.getD 0 default=n
def qA(x:SystemT)(r a:Nat):Prop:=(0≤(x.rules.getD r default).r.getD a default/\aF5 x ((x.rules.getD r default).r.getD a default))/\¬nT x.sig (x.rules.getD r default).l 1 (eD x.sig (x.rules.getD r default).r a)
def mkP(x:SystemT)(r a:Nat):DepPairT:=⟨(x.rules.getD r default).l,eD x.sig (x.rules.getD r default).r a,r,a⟩
open Classical in
noncomputable def prR(x:SystemT)(r:Nat):Nat->List DepPairT
 | 0=>[]
 | a+1=>if qA x r a then prR x r a++[mkP x r a] else prR x r a
noncomputable def prA(x:SystemT):Nat->List DepPairT
 | 0=>[]
 | r+1=>prA x r++prR x r (x.rules.getD r default).r.length
theorem aHT{x:SystemT}{r a:Nat}(h:qA x r a):prR x r (a+1)=prR x r a++[mkP x r a]:=if_pos h
theorem aMY{x:SystemT}{r a:Nat}(h:¬qA x r a):prR x r (a+1)=prR x r a:=if_neg h
theorem aDw(x:SystemT)(r:Nat):∀a,(prR x r a).length≤a
 | 0=>zQ _
 | a+1=>by
  have ih:=aDw x r a;rcases Classical.em (qA x r a) with h|h
  ·rw[aHT h,zK];simp;omega
  ·rw[aMY h];omega
theorem aJx{x:SystemT}(hx:b9 x):∀r≤x.rules.length,(prA x r).length≤60*r
 | 0,_=>zQ _
 | r+1,h=>by
  have ih:=aJx hx r (by omega);have h1:=aDw x r (x.rules.getD r default).r.length;have h2:=(hx.2 r (by omega)).1.2.1.2.1;simp only[prA,zK];omega
def kS(rs:List Int)(p:DepPairT):Prop:=(aT rs p.l/\aT rs p.r)/\0≤p.l.getD 0 default/\0≤p.r.getD 0 default
theorem aU8{x:SystemT}(hx:b9 x){r:Nat}(hr:r<x.rules.length):∀a≤(x.rules.getD r default).r.length,∀p∈prR x r a,kS x.sig p
 | 0,_,p,hp=>by cases hp
 | a+1,ha,p,hp=>by
  have ih:=aU8 hx hr a (by omega);have hR:=hx.2 r hr;rcases Classical.em (qA x r a) with h|h
  ·rw[aHT h] at hp;rcases zP.1 hp with hp|hp
   ·exact ih p hp
   ·rw[zN.1 hp];refine⟨⟨hR.1.1,oW hR.1.2.1 (by omega)⟩,hR.1.2.2,?_⟩;show 0≤(eD x.sig (x.rules.getD r default).r a).getD 0 default;rw[(aJd hR.1.2.1 (show a<(x.rules.getD r default).r.length by omega)).1];exact h.1.1
  ·rw[aMY h] at hp;exact ih p hp
theorem aTv{x:SystemT}(hx:b9 x):∀r≤x.rules.length,∀p∈prA x r,kS x.sig p
 | 0,_,p,hp=>by cases hp
 | r+1,h,p,hp=>by
  rcases zP.1 hp with hp|hp
  ·exact aTv hx r (by omega) p hp
  ·exact aU8 hx (by omega) _ (zQ _) p hp
def gK(x:SystemT):Prop:=b9 x/\(prA x x.rules.length).length≤64
noncomputable def bI(x:SystemT):List DepPairT:=prA x x.rules.length
open Classical in
noncomputable def mY(x:SystemT):List DepPairT×Bool:=if gK x then (bI x,true) else ([],false)
theorem fW{x:SystemT}(h:gK x):mY x=(bI x,true):=if_pos h
theorem jG{x:SystemT}(h:¬gK x):mY x=([],false):=if_neg h
theorem mG{x:SystemT}(h:gK x):∀p∈bI x,kS x.sig p:=aTv h.1 _ (zQ _)
def gA(set:List Int)(n:Int):Prop:=∀i<set.length,(0≤set.getD i default/\set.getD i default<n)/\(0<i->set.getD (i-1) default<set.getD i default)
theorem aPF{set:List Int}{n:Int}(h:gA set n):∀i<set.length,(i:Int)≤set.getD i default
 | 0,hi=>by have:=(h 0 hi).1.1;omega
 | i+1,hi=>by
  have ih:=aPF h i (by omega);have:=(h (i+1) hi).2 (by omega);simp only[Nat.add_sub_cancel] at this;omega
theorem l5{set:List Int}{n:Int}(h:gA set n):(set.length:Int)≤n∨set.length=0:=by
 rcases Nat.eq_zero_or_pos set.length with h0|h0
 ·exact .inr h0
 ·have h1:=aPF h (set.length-1) (by omega);have h2:=(h (set.length-1) (by omega)).1.2;left;omega
def fU(rs:List Int)(ps:List PolyT):Prop:=ps.length=2*rs.length/\dO rs (ps.take rs.length)/\dO rs (ps.drop rs.length)
def lL:List (Int×Int)->List Int->List Int×Bool
 | b::bs,x::xs=>if (lL bs xs).2=true then (x::(lL bs xs).1,true) else if x<b.2 then ((x+1)::(lL bs xs).1,true) else (b.1::(lL bs xs).1,false)
 | _,_=>([],false)
def aFV(A:List (List Int))(v:Int):Nat->List (List Int)
 | 0=>A.map (v::·)
 | n+1=>A.map (v::·)++aFV A (v+1) n
def iO:List (Int×Int)->List (List Int)
 | []=>[[]]
 | b::bs=>aFV (iO bs) b.1 (b.2-b.1).toNat
def lF(bs:List (Int×Int)):List Int:=bs.map (·.1)
def pB:List (Int×Int)->List Int->Prop
 | [],[]=>True
 | b::bs,x::xs=>(b.1≤x/\x≤b.2)/\pB bs xs
 | _,_=>False
def aA4(bs:List (Int×Int)):List (List Int)->Prop
 | []=>True
 | [x]=>lL bs x=(lF bs,false)
 | x::y::r=>lL bs x=(y,true)/\aA4 bs (y::r)
theorem lZ(b:Int×Int)(bs:List (Int×Int))(x:Int)(xs:List Int):lL (b::bs) (x::xs)=if (lL bs xs).2=true then (x::(lL bs xs).1,true) else if x<b.2 then ((x+1)::(lL bs xs).1,true) else (b.1::(lL bs xs).1,false):=rfl
theorem kG:∀ {bs:List (Int×Int)} {xs:List Int},pB bs xs->xs.length=bs.length
 | [],[],_=>rfl
 | _::_,_::_,h=>by simp[kG h.2]
 | [],_::_,h=>h.elim
 | _::_,[],h=>h.elim
theorem aJF:∀ {bs:List (Int×Int)} {xs:List Int},pB bs xs->∀i<bs.length,(bs.getD i default).1≤xs.getD i default/\xs.getD i default≤(bs.getD i default).2
 | [],[],_,i,hi=>absurd hi (Nat.not_lt_zero _)
 | _::_,_::_,h,0,_=>h.1
 | _::bs,_::_,h,i+1,hi=>aJF (bs:=bs) h.2 i (by simpa using hi)
 | [],_::_,h,_,_=>h.elim
 | _::_,[],h,_,_=>h.elim
theorem aUF{A:List (List Int)}(hA:A≠[])(v:Int):∀n,∃r,aFV A v n=(v::A.head hA)::r
 | 0=>by
  cases A with
  | nil=>exact absurd rfl hA
  | cons a r=>exact⟨r.map (v::·),rfl⟩
 | n+1=>by
  cases A with
  | nil=>exact absurd rfl hA
  | cons a r=>exact⟨r.map (v::·)++aFV (a::r) (v+1) n,rfl⟩
theorem aJz{b:Int×Int}{bs:List (Int×Int)}(v:Int){R:List (List Int)}(hR:aA4 (b::bs) R)(h:(R=[]/\v=b.2)∨(v<b.2/\∃r,R=((v+1)::lF bs)::r)):∀ {A:List (List Int)},A≠[]->aA4 bs A->aA4 (b::bs) (A.map (v::·)++R)
 | [],hA,_=>absurd rfl hA
 | [x],_,hs=>by
  have hs:lL bs x=(lF bs,false):=hs;rcases h with⟨rfl,hv⟩|⟨hv,r,rfl⟩
  ·show lL (b::bs) (v::x)=_;rw[lZ,hs,if_neg (by simp),if_neg (by omega)];rfl
  ·refine⟨?_,hR⟩;rw[lZ,hs,if_neg (by simp),if_pos hv]
 | x::y::r,_,hs=>by
  refine⟨?_,aJz v hR h (A:=y::r) (by simp) hs.2⟩;rw[lZ,hs.1,if_pos rfl]
theorem aLF{b:Int×Int}{bs:List (Int×Int)}{A:List (List Int)}(hA:A≠[])(hs:aA4 bs A)(hl:A.head hA=lF bs):∀(n:Nat) (v:Int),v+n=b.2->aA4 (b::bs) (aFV A v n)
 | 0,v,h=>by
  have:=aJz (b:=b) v (R:=[]) trivial (.inl ⟨rfl,by omega⟩) hA hs;rwa [List.append_nil] at this
 | n+1,v,h=>by
  have ih:=aLF (b:=b) hA hs hl n (v+1) (by omega);obtain⟨r,hr⟩:=aUF hA (v+1) n;exact aJz (b:=b) v ih (.inr ⟨by omega,r,by rw[hr,hl]⟩) hA hs
theorem pP:∀ {bs:List (Int×Int)},(∀b∈bs,b.1≤b.2)->aA4 bs (iO bs)/\∃r,iO bs=lF bs::r
 | [],_=>⟨rfl,[],rfl⟩
 | b::bs,h=>by
  obtain⟨ih,r,hr⟩:=pP (bs:=bs) λc hc=>h c (zG _ hc);have hb:=h b zH;have hA:iO bs≠[]:=by rw[hr];simp
  have hl:(iO bs).head hA=lF bs:=by simp[hr]
  refine⟨aLF hA ih hl _ _ (by omega),?_⟩;obtain⟨r',hr'⟩:=aUF hA b.1 (b.2-b.1).toNat;exact⟨r',by rw[iO,hr',hl];rfl⟩
theorem aPY{b:Int×Int}{bs:List (Int×Int)}{A:List (List Int)}(hA:∀x∈A,pB bs x):∀(n:Nat) (v:Int),b.1≤v->v+n≤b.2->∀x∈aFV A v n,pB (b::bs) x
 | 0,v,h1,h2,x,hx=>by
  obtain⟨y,hy,rfl⟩:=zJ.1 hx;exact⟨⟨h1,by omega⟩,hA y hy⟩
 | n+1,v,h1,h2,x,hx=>by
  rcases zP.1 hx with hx|hx
  ·obtain⟨y,hy,rfl⟩:=zJ.1 hx;exact⟨⟨h1,by omega⟩,hA y hy⟩
  ·exact aPY hA n (v+1) (by omega) (by omega) x hx
theorem kE:∀ {bs:List (Int×Int)},(∀b∈bs,b.1≤b.2)->∀x∈iO bs,pB bs x
 | [],_,x,hx=>by rw[zN.1 hx];trivial
 | b::bs,h,x,hx=>by
  have hb:=h b zH;exact aPY (kE λc hc=>h c (zG _ hc)) _ _ (by omega) (by omega) x hx
theorem aAo(bs:List (Int×Int)):(lF bs).length=bs.length:=by simp[lF]
theorem pZ:∀ {bs:List (Int×Int)} {xs:List Int},xs.length=bs.length->(lL bs xs).1.length=bs.length/\((lL bs xs).2=false->(lL bs xs).1=lF bs)
 | [],[],_=>⟨rfl,λ_=>rfl⟩
 | b::bs,x::xs,h=>by
  have ih:=pZ (bs:=bs) (xs:=xs) (by simpa using h);rw[lZ];split
  ·exact⟨by simp[ih.1],λh=>by cases h⟩
  ·rename_i h1;have h1:(lL bs xs).2=false:=by simpa using h1
   split
   ·exact⟨by simp[ih.1],λh=>by cases h⟩
   ·exact⟨by simp[ih.1],λ_=>by simp[lF,ih.2 h1]⟩
 | [],_::_,h=>by simp at h
 | _::_,[],h=>by simp at h
def stD(bs:List (Int×Int))(xs:List Int)(p:Nat):List Int:=xs.take p++lF (bs.drop p)
def tG(bs:List (Int×Int))(xs:List Int)(p:Nat):Prop:=(lL (bs.drop p) (xs.drop p)).2=false
theorem aHU{bs:List (Int×Int)}{xs:List Int}(h:xs.length=bs.length){p:Nat}(hp:p≤xs.length):(stD bs xs p).length=xs.length:=by simp[stD,lF];omega
theorem aIw{bs:List (Int×Int)}{xs:List Int}(h:xs.length=bs.length):stD bs xs xs.length=xs:=by
 unfold stD;rw[List.take_length,h,List.drop_length];simp[lF]
theorem aDL{bs:List (Int×Int)}{xs:List Int}(h:xs.length=bs.length):tG bs xs xs.length:=by
 unfold tG;rw[List.drop_length,h,List.drop_length];rfl
theorem aYe:∀ {k:Nat} {bs:List (Int×Int)} {xs:List Int} {r:List Int},xs.length=bs.length->k≤xs.length->lL (bs.drop k) (xs.drop k)=(r,true)->lL bs xs=(xs.take k++r,true)
 | 0,bs,xs,r,_,_,h=>by simpa using h
 | k+1,b::bs,x::xs,r,h,hk,hn=>by
  have ih:=aYe (k:=k) (bs:=bs) (xs:=xs) (r:=r) (by simpa using h) (by simpa using hk) (by simpa using hn);rw[lZ,ih,if_pos rfl];simp
 | _+1,_,[],_,_,hk,_=>by simp at hk
 | _+1,[],_::_,_,h,_,_=>by simp at h
theorem qI{α:Type} [Inhabited α] (xs:List α)(k:Nat)(h:k<xs.length):xs.drop k=xs.getD k default::xs.drop (k+1):=by
 rw[List.drop_eq_getElem_cons h];simp[List.getD,zB h]
theorem aQj{α:Type} [Inhabited α] (xs:List α)(k:Nat)(h:k<xs.length):xs.take (k+1)=xs.take k++[xs.getD k default]:=by
 rw[List.take_succ_eq_append_getElem h];simp[List.getD,zB h]
theorem aGU{bs:List (Int×Int)}{xs:List Int}(h:xs.length=bs.length){k:Nat}(hk:k<xs.length):stD bs xs (k+1)=xs.take k++xs.getD k default::lF (bs.drop (k+1)):=by
 unfold stD;rw[aQj xs k hk,List.append_assoc];rfl
theorem aH3{bs:List (Int×Int)}{xs:List Int}(h:xs.length=bs.length){k:Nat}(hk:k<xs.length):(stD bs xs (k+1)).getD k default=xs.getD k default:=by
 rw[aGU h hk];have:(xs.take k).length=k:=by simp;omega
 simp[List.getD,List.getElem?_append,this]
theorem aPt{bs:List (Int×Int)}{xs:List Int}(h:xs.length=bs.length){k:Nat}(hk:k<xs.length)(v:Int):(stD bs xs (k+1)).set k v=xs.take k++v::lF (bs.drop (k+1)):=by
 rw[aGU h hk];have:(xs.take k).length=k:=by simp;omega
 rw[List.set_append_right _ _ (by omega),this,Nat.sub_self,List.set_cons_zero]
theorem aM7{bs:List (Int×Int)}{xs:List Int}(h:xs.length=bs.length){k:Nat}(hk:k<xs.length)(hn:tG bs xs (k+1))(hx:xs.getD k default<(bs.getD k default).2):lL bs xs=((stD bs xs (k+1)).set k (xs.getD k default+1),true):=by
 have hl:(xs.drop (k+1)).length=(bs.drop (k+1)).length:=by simp;omega
 have he:=(pZ hl).2 hn;rw[aPt h hk];refine aYe h (by omega) ?_;rw[qI xs k hk,qI bs k (by omega),lZ,if_neg (by rw[hn];simp),if_pos hx,he]
theorem aO2{bs:List (Int×Int)}{xs:List Int}(h:xs.length=bs.length){k:Nat}(hk:k<xs.length)(hn:tG bs xs (k+1))(hx:¬xs.getD k default<(bs.getD k default).2):tG bs xs k/\(stD bs xs (k+1)).set k (bs.getD k default).1=stD bs xs k:=by
 refine⟨?_,?_⟩
 ·unfold tG;rw[qI xs k hk,qI bs k (by omega),lZ,if_neg (by rw[hn];simp),if_neg hx]
 ·rw[aPt h hk];unfold stD;rw[qI bs k (by omega)];rfl
theorem aNX{bs:List (Int×Int)}{xs:List Int}(h:xs.length=bs.length)(hn:tG bs xs 0):lL bs xs=(stD bs xs 0,false):=by
 have hn:(lL bs xs).2=false:=by simpa[tG] using hn
 have he:=(pZ h).2 hn;refine Prod.ext ?_ hn;rw[he];simp[stD]
open Classical in
noncomputable def gI(Q:List Int->Prop):List (List Int)->Option (List Int)
 | []=>none
 | x::r=>if Q x then some x else gI Q r
theorem j7{Q:List Int->Prop}{x:List Int}{r:List (List Int)}(h:Q x):gI Q (x::r)=some x:=if_pos h
theorem jK{Q:List Int->Prop}{x:List Int}{r:List (List Int)}(h:¬Q x):gI Q (x::r)=gI Q r:=if_neg h
theorem aGr(Q:List Int->Prop):∀A B:List (List Int),gI Q (A++B)=(gI Q A).or (gI Q B)
 | [],B=>by simp[gI]
 | x::r,B=>by
  by_cases h:Q x
  ·rw[List.cons_append,j7 h,j7 h];rfl
  ·rw[List.cons_append,jK h,jK h,aGr Q r B]
theorem aDN{Q:List Int->Prop}:∀ {A:List (List Int)},(∀x∈A,¬Q x)->gI Q A=none
 | [],_=>rfl
 | x::r,h=>by rw[jK (h x zH)];exact aDN λy hy=>h y (zG _ hy)
theorem aHC{Q P:List Int->Prop}(a:List Int):∀C:List (List Int),(∀c∈C,(Q (a++c)↔P c))->gI Q (C.map (a++·))=(gI P C).map (a++·)
 | [],_=>rfl
 | c::r,h=>by
  have ih:=aHC a r λd hd=>h d (zG _ hd);have hc:=h c zH;by_cases hp:P c
  ·rw[List.map_cons,j7 (hc.2 hp),j7 hp];rfl
  ·rw[List.map_cons,jK λe=>hp (hc.1 e),jK hp,ih]
theorem nM{Q:List Int->Prop}:∀ {A:List (List Int)} {x:List Int},gI Q A=some x->x∈A/\Q x
 | y::r,x,h=>by
  by_cases hy:Q y
  ·rw[j7 hy] at h;obtain rfl:=zA h;exact⟨zH,hy⟩
  ·rw[jK hy] at h;exact⟨zG _ (nM h).1,(nM h).2⟩
noncomputable def tE(F:List Int->Option (List Int)):List (List Int)->Option (List Int)
 | []=>none
 | a::r=>(F a).or (tE F r)
theorem aFf(Q:List Int->Prop)(C:List (List Int))(F:List Int->Option (List Int)):∀A:List (List Int),(∀a∈A,gI Q (C.map (a++·))=F a)->gI Q (A.flatMap λa=>C.map (a++·))=tE F A
 | [],_=>rfl
 | a::r,h=>by
  rw[List.flatMap_cons,aGr,h a zH,aFf Q C F r λb hb=>h b (zG _ hb)];rfl
theorem aJX(C:List (List Int))(A:List (List Int)):∀(n:Nat) (v:Int),(aFV A v n).flatMap (λa=>C.map (a++·))=aFV (A.flatMap λa=>C.map (a++·)) v n
 | 0,v=>by
  simp[aFV,List.flatMap_map,List.map_flatMap];rfl
 | n+1,v=>by
  have ih:=aJX C A n (v+1);simp only[aFV,List.flatMap_append,ih];simp[List.flatMap_map,List.map_flatMap];rfl
theorem aMj:∀(bs cs:List (Int×Int)),iO (bs++cs)=(iO bs).flatMap λa=>(iO cs).map (a++·)
 | [],cs=>by simp[iO]
 | b::bs,cs=>by
  rw[List.cons_append,iO,aMj bs cs,iO,aJX]
def atN(rs:List Int):Nat->Nat
 | 0=>0
 | f+1=>atN rs f+(rs.getD f default).toNat+1
def aBm(rs xs:List Int):Nat->List PolyT
 | 0=>[]
 | f+1=>aBm rs xs f++[⟨xs.getD (atN rs f) default,(xs.drop (atN rs f+1)).take (rs.getD f default).toNat⟩]
def iE(rs xs:List Int):List PolyT:=aBm rs xs rs.length
theorem oK(rs xs:List Int):∀n,(aBm rs xs n).length=n
 | 0=>rfl
 | n+1=>by simp[aBm,oK rs xs n]
theorem aEv(rs xs:List Int):∀n f,f<n->(aBm rs xs n).getD f default=⟨xs.getD (atN rs f) default,(xs.drop (atN rs f+1)).take (rs.getD f default).toNat⟩
 | n+1,f,h=>by
  rcases Nat.lt_or_ge f n with h1|h1
  ·rw[aBm,zD,zL (by rw[oK];exact h1),←zD];exact aEv rs xs n f h1
  ·obtain rfl:f=n:=by omega
   rw[aBm,zD,zM (by rw[oK];omega),oK,Nat.sub_self];rfl
theorem qL(rs:List Int){i j:Nat}(h:i≤j):atN rs i≤atN rs j:=by
 induction j with
 | zero=>rw[show i=0 by omega];exact zQ _
 | succ j ih =>
  rcases Nat.lt_or_ge i (j+1) with h1|h1
  ·have:=ih (by omega);show atN rs i≤atN rs j+_+1;omega
  ·rw[show i=j+1 by omega];exact zQ _
theorem tQ{rs:List Int}(h:eQ rs):∀n≤rs.length,atN rs n≤4*n
 | 0,_=>zQ _
 | n+1,hn=>by
  have ih:=tQ h n (by omega);have:=h.2 n (by omega);show atN rs n+_+1≤_;omega
theorem aTa{rs xs:List Int}(hs:eQ rs)(hl:atN rs rs.length≤xs.length)(hx:∀x∈xs,0≤x/\x≤9):dO rs (iE rs xs):=by
 refine⟨⟨hs,oK _ _ _⟩,λf hf=>?_⟩;have hf:f<rs.length:=by simpa[iE,oK] using hf
 rw[show (iE rs xs).getD f default=_ from aEv rs xs _ f hf];have hr:=hs.2 f hf;have hm:atN rs (f+1)≤atN rs rs.length:=qL rs hf;have hm:atN rs f+(rs.getD f default).toNat+1≤atN rs rs.length:=hm;refine⟨⟨?_,hx _ (aX xs _ (by omega))⟩,λx h=>hx x (List.mem_of_mem_drop (List.mem_of_mem_take h))⟩;simp only[List.length_take,List.length_drop];omega
theorem aH9{rs:List Int}{a c:List Int}(h:a.length=atN rs rs.length):iE rs (a++c)=iE rs a:=by
 have key:∀n,atN rs n≤a.length->aBm rs (a++c) n=aBm rs a n:=λn=>by
  induction n with
  | zero=>intro _;rfl
  | succ n ih =>
   intro hn;have hn:atN rs n+(rs.getD n default).toNat+1≤a.length:=hn;simp only[aBm];rw[ih (by omega),zD,zL (by omega),←zD,List.drop_append_of_le_length (by omega),List.take_append_of_le_length (by rw[List.length_drop];omega)]
 exact key _ (by omega)
theorem aCj{rs:List Int}{a c:List PolyT}(h1:dO rs a)(h2:dO rs c):fU rs (a++c)/\(a++c).take rs.length=a:=by
 have e1:(a++c).take rs.length=a:=by rw[←h1.1.2,List.take_left]
 have e2:(a++c).drop rs.length=c:=by rw[←h1.1.2,List.drop_left]
 refine⟨⟨by rw[zK,h1.1.2,h2.1.2];omega,by rw[e1];exact h1,by rw[e2];exact h2⟩,e1⟩
end
end Go.Proofs.YtmfmgoceeedonaaGreat
