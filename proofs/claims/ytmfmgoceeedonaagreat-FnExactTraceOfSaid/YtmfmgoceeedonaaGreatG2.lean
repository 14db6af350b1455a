/-
  A15s, A15t, A29, A17q, one behind the other.
-/
import Derived.Test.YtmfmgoceeedonaaGreatG1
import Derived.Test.YtmfmgoceeedonaaGreatLgK13
import Derived.Test.YtmfmgoceeedonaaGreatLgK10
import Derived.Test.YtmfmgoceeedonaaGreatLgK12
import Derived.Test.YtmfmgoceeedonaaGreatSet
import Derived.Test.YtmfmgoceeedonaaGreatG0
namespace Go.Proofs.YtmfmgoceeedonaaGreat
open Go Go.Lg
set_option linter.unusedSimpArgs false
set_option linter.unusedVariables false
set_option maxHeartbeats 4000000
section
attribute [local irreducible] SW bA bC dM bZ FC dX toF d7 iC
def aST:List (Nat×List Nat):=[(0,[1,2]),(1,[2,16]),(2,[4]),(3,[2,5]),(4,[2,5,21]),(6,[2,5,30]),(7,[4]),(5,[2,5]),(8,[4])]
attribute [go_sem] aST Tryz.results136 Tryz.ntmps136
theorem aNF(p:PolyT)(n:Int):FC S 136 [] [] [] [bP p,.int .i64 n] (.bool (tst (gX n p))) [] []:=by
 refine fcb Tryz.func136 λB=>?_;refine b6 0 1 λhb0_1=>?_;repeat' first|exact h.elim|apply aG|refine aE 0 aST λK hK=>?_|refine aB ?_|refine aC ?_|(refine hK.n0 ?_;clear hK K)|refine aZ (λh=>?_) λh=>?_|refine aA rfl (λh=>?_) λh=>?_|refine hK.c1 rfl rfl rfl (o6 _ _ _) ?_|apply tTT
 ·exact λh=>absurd h.1 (by omega)
 ·exact λh=>absurd h.1 (by omega)
 refine aV (ι:=Nat) (λi=>[(5,.int .i64 i)]) (λ_=>[]) (λi=>i≤p.coef.length/\(∀j<i,0≤p.coef.getD j default/\p.coef.getD j default≤9)) (λi=>p.coef.length-i) 0 cvA ⟨by omega,?_⟩ (λi ⟨hi,hj⟩=>?_);rotate_left
 simp only[go_sem];repeat' first|exact h.elim|apply aG|refine aE 0 aST λK hK=>?_|refine aB ?_|refine aC ?_|(refine hK.n0 ?_;clear hK K)|refine aA rfl (λh=>?_) λh=>?_|refine aJ rfl ?_|apply aF|refine hK.c1 rfl rfl rfl (o6 _ _ _) ?_|with_reducible refine aH ?_|apply tTT
 ·exact λhp=>h (hp.2 _ (aX _ i (by omega)))
 ·exact⟨i+1,by(refine aD rfl rfl ?_ ?_ ?_ ?_<;>simp(disch:=apply aR;omega)only[go_sem]<;>(try omega)),⟨by omega,bJ hj h⟩,by omega⟩
 ·exact⟨⟨by assumption,by assumption⟩,p7 (P:=λx=>0≤x/\x≤9) λj hj'=>hj j (by omega)⟩
 ·intro j hj';omega
def aP8:List (Nat×List Nat):=[(0,[1,2]),(1,[1,2,16]),(2,[4]),(3,[1,2,5]),(4,[1,2,5,20]),(6,[1,2,5,33]),(7,[4]),(5,[1,2,5]),(8,[4])]
attribute [go_sem] aP8 Tryz.results119 Tryz.ntmps119
theorem jS(tk:Tk)(rs:List Int)(ps:List PolyT):FC S 119 [] [] [] [.agg [.sl .any (rs.map (.int .i64))],.sl tk (ps.map bP)] (.bool (tst (dO rs ps))) [] []:=by
 refine fcb Tryz.func119 λB=>?_;refine bM 1 λhb1=>?_;repeat' first|exact h.elim|apply aG|refine aE 0 aP8 λK hK=>?_|refine aB ?_|refine aC ?_|(refine hK.n0 ?_;clear hK K)|refine aZ (λh=>?_) λh=>?_|refine aA rfl (λh=>?_) λh=>?_|refine hK.c1 rfl rfl rfl (nB _ _) ?_|apply tTT
 ·exact λh=>absurd h.1.1 (by assumption)
 ·exact λh=>absurd h.1.2 (by omega)
 refine aV (ι:=Nat) (λi=>[(5,.int .i64 i)]) (λ_=>[]) (λi=>i≤ps.length/\(∀j<i,gX (rs.getD j default) (ps.getD j default))) (λi=>ps.length-i) 0 cvA ⟨by omega,?_⟩ (λi ⟨hi,hj⟩=>?_);rotate_left
 simp only[go_sem];repeat' first|exact h.elim|apply aG|refine aE 0 aP8 λK hK=>?_|refine aU aP8 (by kernel_rfl) λK hK=>?_|refine aB ?_|refine aQ ?_|refine aC ?_|(refine hK.n0 ?_;clear hK K)|refine aA rfl (λh=>?_) λh=>?_|refine aJ rfl ?_|apply aF|refine hK.c1 rfl rfl rfl (aNF (ps.getD i default) (rs.getD i default)) ?_|with_reducible refine aH ?_|apply tTT
 ·exact λhp=>h (hp.2 i (by omega))
 ·exact⟨i+1,by(refine aD rfl rfl ?_ ?_ ?_ ?_<;>simp(disch:=apply aR;omega)only[go_sem]<;>(try omega)),⟨by omega,bJ hj h⟩,by omega⟩
 ·exact⟨⟨by assumption,by assumption⟩,λj hj'=>hj j (by omega)⟩
 ·intro j hj';omega
def aPB:List (Nat×List Nat):=[(0,[2,3]),(1,[2,3,5]),(2,[2,3,5,10]),(4,[2,3,5,38]),(5,[4]),(3,[2,3,5]),(6,[4])]
attribute [go_sem] aPB Tryz.results138 Tryz.ntmps138
theorem yR(a b:PolyT)(ha:∀x∈a.coef,0≤x)(hb:∀x∈b.coef,0≤x):FC S 138 [] [] [] [bP a,bP b] (.bool (tst (xJ a b))) [] []:=by
 refine fcb Tryz.func138 λB=>?_;refine b6 0 1 λhb0_1=>?_;refine b6 1 1 λhb1_1=>?_;repeat' first|apply aG|refine aE 0 aPB λK hK=>?_|refine aB ?_|(refine hK.n0 ?_;clear hK K)|apply tTT
 refine aV (ι:=Nat) (λi=>[(5,.int .i64 i)]) (λ_=>[]) (λi=>i≤a.coef.length/\(∀j<i,a.coef.getD j default≤b.coef.getD j default)) (λi=>a.coef.length-i) 0 cvA ⟨by omega,?_⟩ (λi ⟨hi,hj⟩=>?_);rotate_left
 simp only[go_sem];have h1:=kC (P:=λx=>0≤x) (Int.le_refl _) ha i;have h2:=kC (P:=λx=>0≤x) (Int.le_refl _) hb i;have h3:b.coef.length≤i->b.coef.getD i default=0:=λh=>aHR a.coef b.coef 0 h;repeat' first|exact h.elim|apply aG|refine aE 0 aPB λK hK=>?_|refine aU aPB (by kernel_rfl) λK hK=>?_|refine aB ?_|refine aQ ?_|refine aC ?_|(refine hK.n0 ?_;clear hK K)|refine bH (λh=>?_) λh=>?_|refine aA rfl (λh=>?_) λh=>?_|refine aJ rfl ?_|apply aF|with_reducible refine aH ?_|apply tTT
 ·exact λhp=>absurd (hp i (by omega)) (by have:=h3 (by omega);omega)
 ·exact λhp=>absurd (hp i (by omega)) (by omega)
 ·exact⟨i+1,by(refine aD rfl rfl ?_ ?_ ?_ ?_<;>simp(disch:=apply aR;omega)only[go_sem]<;>(try omega)),⟨by omega,bJ hj (by omega)⟩,by omega⟩
 ·exact⟨i+1,by(refine aD rfl rfl ?_ ?_ ?_ ?_<;>simp(disch:=apply aR;omega)only[go_sem]<;>(try omega)),⟨by omega,bJ hj (by omega)⟩,by omega⟩
 ·exact λj hj'=>hj j (by omega)
 ·intro j hj';omega
theorem aJH{rs t:List Int}{a i:Nat}{need m:Int}(hi:i<t.length)(h3:1≤need)(h4:eJ rs t a=scan rs (t.drop i) need i)(h0:0≤arS rs (t.getD i default))(hm:m=need+arS rs (t.getD i default)-1):(m=0/\eJ rs t a=((i+1:Nat):Int))∨(1≤m/\eJ rs t a=scan rs (t.drop (i+1)) m (i+1)):=by
 have hb:=aBd rs t need i hi;rw[if_neg (by omega)] at hb;subst hm;by_cases h:need+arS rs (t.getD i default)-1=0
 ·rw[if_pos h] at hb;exact .inl ⟨h,by rw[h4,hb];omega⟩
 ·rw[if_neg h] at hb;exact .inr ⟨by omega,by rw[h4,hb]⟩
def aNd:List (Nat×List Nat):=[(0,[1,2,3]),(1,[1,2,3,7]),(2,[1,2,3,7,9]),(3,[1,2,3,7,14]),(4,[1,2,3,7]),(5,[1,2,3,7]),(6,[1,2,3,7]),(7,[6])]
attribute [go_sem] aNd Tryz.results77 Tryz.ntmps77
theorem qF(rs t:List Int)(a:Nat)(hT:aT rs t)(ha:a<t.length):FC S 77 [] [] [] [.agg [.sl .any (rs.map (.int .i64))],.sl .any (t.map (.int .i64)),.int .i64 a] (.int .i64 (eJ rs t a)) [] []:=by
 have he:=gQ hT ha;have hl:=hT.2.1.2;refine fcb Tryz.func77 λB=>?_;refine bM 1 λhb1=>?_;repeat' first|apply aG|refine aE 0 aNd λK hK=>?_|refine aB ?_|(refine hK.n0 ?_;clear hK K)|apply tTT
 refine aV (ι:=Nat×Int) (λp=>[(2,.int .i64 p.1),(7,.int .i64 p.2)]) (λp=>[]) (λp=>(p.1≤t.length/\0≤p.2/\p.2≤1+3*p.1)/\((p.2=0/\eJ rs t a=p.1)∨(1≤p.2/\eJ rs t a=scan rs (t.drop p.1) p.2 p.1))) (λp=>t.length-p.1) (a,1) cvA ?_ (λp hp=>?_);rotate_left
 simp only[go_sem];obtain⟨i,need⟩:=p;obtain⟨⟨h1,h2,h2'⟩,h3⟩:=hp;dsimp only at h1 h2 h2' h3;have hlt:1≤need->i<t.length:=λh=>Classical.byContradiction λhn=>by
  have hx:=aEI rs t need i (by omega);omega
 have hlow:i<t.length->_:=λh=>hT.low h;have hv:i<t.length->t.getD i default<0->arS rs (t.getD i default)=0:=λhi h=>jZ (by have:=hlow hi;omega);have hsy:0≤t.getD i default->t.getD i default<rs.length->arS rs (t.getD i default)=rs.getD (t.getD i default).toNat default:=λh h'=>lJ (by omega);repeat' first|exact h.elim|apply aG|refine aE 0 aNd λK hK=>?_|refine aU aNd (by kernel_rfl) λK hK=>?_|refine aB ?_|refine aQ ?_|refine aC ?_|(refine hK.n0 ?_;clear hK K)|refine aA rfl (λh=>?_) λh=>?_|refine aJ rfl ?_|apply aF|with_reducible refine aH ?_|apply tTT
 ·have hi:=hlt (by omega);have e:=hsy (by omega) (hlow hi).1.2;have hl0:=(hlow hi).2;exact⟨(i+1,need+rs.getD (t.getD i default).toNat default-1),by(refine aD rfl rfl ?_ ?_ ?_ ?_<;>simp(disch:=apply aR;omega)only[go_sem]<;>(try omega)),⟨⟨by omega,by omega,by omega⟩,aJH (need:=need) (m:=need+rs.getD (t.getD i default).toNat default-1) hi (by omega) (by omega) hl0.1 (by rw[e])⟩,by omega⟩
 ·have hi:=hlt (by omega);have e:=hv hi (by omega);exact⟨(i+1,need-1),by(refine aD rfl rfl ?_ ?_ ?_ ?_<;>simp(disch:=apply aR;omega)only[go_sem]<;>(try omega)),⟨⟨by omega,by omega,by omega⟩,aJH (need:=need) (m:=need-1) hi (by omega) (by omega) (by omega) (by rw[e];omega)⟩,by omega⟩
 ·omega
 ·exact .inr ⟨by simp,rfl⟩
def tB:List (Nat×List Nat):=[(0,[1,2]),(1,[1,2,5]),(2,[1,2,5,13]),(3,[4]),(4,[1,2,5,6]),(5,[1,2,5,6,7]),(6,[1,2,5,6,7,23]),(8,[1,2,5,6,7,8]),(9,[1,2,5,7,8]),(10,[1,2,5,6,7]),(7,[1,2,5,6,7]),(11,[4])]
attribute [go_sem] tB Tryz.results117 Tryz.ntmps117
theorem uP(rs t:List Int)(hT:aT rs t):FC S 117 [] [] [] [.agg [.sl .any (rs.map (.int .i64))],.sl .any (t.map (.int .i64))] (.sl .any ((oI rs t (arS rs (t.getD 0 default)).toNat).map dT)) [] []:=by
 have hl:=hT.2.1;have hlo:=hT.low (show 0<t.length by omega);have hv:t.getD 0 default<0->arS rs (t.getD 0 default)=0:=λh=>jZ (by omega);have hsy:0≤t.getD 0 default->t.getD 0 default<rs.length->arS rs (t.getD 0 default)=rs.getD (t.getD 0 default).toNat default:=λh h'=>lJ (by omega);have hlt:∀j<(arS rs (t.getD 0 default)).toNat,0<d8 rs t 1 j/\d8 rs t 1 j<t.length:=λj hj=>oU hT (by omega) (by omega);have hle:∀j≤(arS rs (t.getD 0 default)).toNat,0<d8 rs t 1 j/\d8 rs t 1 j≤t.length:=λj hj=>aDD hT (by omega) (by omega);generalize hk:(arS rs (t.getD 0 default)).toNat=k at *;refine fcb Tryz.func117 λB=>?_;refine bM 1 λhb1=>?_;repeat' first|exact h.elim|apply aG|refine aE 0 tB λK hK=>?_|refine aB ?_|refine aC ?_|(refine hK.n0 ?_;clear hK K)|refine aA rfl (λh=>?_) λh=>?_|with_reducible refine aH ?_|apply tTT
 ·rw[show k=0 by omega];rfl
 refine eF 5 37000 22 1 rfl (.inr rfl) rfl ?_;simp only[go_sem];refine bG (ι:=Nat) (λj=>[(7,.int .i64 j),(6,.int .i64 (d8 rs t 1 j)),(5,.sl (.own 37000 22 1) ((oI rs t j).map dT))]) (λ_=>[]) (λ_=>[37000]) (λj=>j≤k) (λj=>k-j) 0 cvB (by omega) (λj hj=>?_);simp only[go_sem];have h3:=hle j hj;have h4:=hlt j;have h5:j<k->d8 rs t 1 j<eJ rs t (d8 rs t 1 j)/\eJ rs t (d8 rs t 1 j)≤t.length:=λh=>gQ hT (h4 h).2;have h6:j<k->((eJ rs t (d8 rs t 1 j)).toNat:Int)=eJ rs t (d8 rs t 1 j):=λh=>by have:=h5 h;omega
 have h7:=jV rs t j;have h8:=aLM rs t j;have e:=hsy (by omega) (by omega);by_cases hjk:j<k
 ·repeat' first|exact h.elim|(exfalso;omega)|apply aG|refine aE 0 tB λK hK=>?_|refine aU tB (by kernel_rfl) λK hK=>?_|refine aB ?_|refine aQ ?_|(refine hK.n0 ?_;clear hK K)|refine aA rfl (λh=>?_) λh=>?_|apply aF|refine hK.c1 rfl rfl rfl (qF rs t (d8 rs t 1 j) hT (h4 hjk).2) ?_|with_reducible refine aH ?_|apply tTT
  exact⟨j+1,(by(refine aD rfl rfl ?_ ?_ ?_ ?_<;>simp(disch:=apply aR;omega)only[go_sem]<;>(try omega));rw[h8,List.map_append];exact⟨rfl,(h6 hjk).symm,by omega⟩),by omega,by omega⟩
 ·repeat' first|exact h.elim|(exfalso;omega)|apply aG|refine aE 0 tB λK hK=>?_|refine aU tB (by kernel_rfl) λK hK=>?_|refine aB ?_|refine aQ ?_|refine aC ?_|(refine hK.n0 ?_;clear hK K)|refine aA rfl (λh=>?_) λh=>?_|refine aJ rfl ?_|with_reducible refine aH ?_|apply tTT
  rw[show j=k by omega]
attribute [local irreducible] fZ nX lP
def t8:List (Nat×List Nat):=[(0,[2,3,4,6]),(1,[2,4,6,8]),(2,[2,4,6,8,9]),(3,[2,4,6,8,9,27]),(5,[2,4,6,8,9,34]),(6,[2,4,6,8,9]),(7,[2,4,6,8,9]),(4,[2,4,6,8,9]),(8,[6,8,10]),(9,[6,8,10,61]),(11,[6,8,10,69]),(12,[6,7]),(10,[6,8,10]),(13,[6,7])]
attribute [go_sem] t8 Tryz.results158 Tryz.ntmps158
theorem aOF(a b:PolyT)(c:Int)(ha:iL (100*MF) a)(hb:iL MF b)(hc:0≤c/\c≤9):FC S 158 [] [] [] [.agg [.int .i64 a.const,.sl (.lab [1]) (a.coef.map (.int .i64))],.agg [.int .i64 b.const,.sl (.lab [1]) (b.coef.map (.int .i64))],.int .i64 c] (.tup [bP (aIs a b c).1,.bool (aIs a b c).2]) [] []:=by
 have hla:=ha.2.2;have hlb:=hb.2.2;have hcc:0≤c*b.const/\c*b.const≤9*MF:=⟨Int.mul_nonneg hc.1 hb.1.1,Int.mul_le_mul hc.2 hb.1.2 hb.1.1 (by omega)⟩;have hac:=ha.1;simp only[MF] at hcc hac;refine aYz Tryz.func158 λB N hOff=>?_;repeat' first|(refine aWK 0 t8 13 [11] (id:=1) (by kernel_rfl) (by kernel_rfl) ?_)|apply aG|refine aE 0 t8 λK hK=>?_|refine aB ?_|(refine hK.n0 ?_;clear hK K)|apply tTT
 refine eI.part 10 λK hK=>?_;repeat' first|refine aQ ?_|(refine hK.n0 ?_;clear hK K)|apply tTT
 refine eI.app 22000 rfl rfl rfl rfl rfl ⟨by decide,(λx hx=>by obtain⟨y,_,rfl⟩:=zJ.1 hx;rfl),by simp;omega,by simp;omega⟩ ⟨by simp only[Nat.reduceLT],rfl⟩ ?_;refine eI.go λK hK=>?_;repeat' first|(refine hK.alloc rfl rfl ⟨(by simp only[Nat.reduceLT]),rfl⟩ ?_;simp only[go_sem])|(refine j6 0 ?_;refine λ(K:List Oper->LS->Prop) (hK:KOk S 0 _ _ _ K)=>?_;simp only[go_sem])|apply aG|refine aE 0 t8 λK hK=>?_|refine aB ?_|refine aQ ?_|(refine hK.n0 ?_;clear hK K)|apply tTT
 refine bG (ι:=Nat) (λi=>[(9,.int .i64 i)]) (λi=>[(8,[.int .i64 (a.const+c*b.const),.sl (.own 22000 2 1) ((nX a.coef b.coef c i).map (.int .i64))])]) (λ_=>[22000]) (λi=>i≤b.coef.length) (λi=>b.coef.length-i) 0 (by rw[aM2];(refine aD rfl rfl ?_ ?_ ?_ ?_<;>simp(disch:=apply aR;omega)only[go_sem]<;>(try omega))) (by omega) (λi hi=>?_);simp only[go_sem];have l1:=aQO a.coef b.coef c hi;have hbi:=kC (P:=λx=>0≤x/\x≤MF) ⟨Int.le_refl _,by decide⟩ hb.2.1 i;have hai:=kC (P:=λx=>0≤x/\x≤100*MF) ⟨Int.le_refl _,by decide⟩ ha.2.1 i;have hm:0≤c*b.coef.getD i default/\c*b.coef.getD i default≤9*MF:=⟨Int.mul_nonneg hc.1 hbi.1,Int.mul_le_mul hc.2 hbi.2 hbi.1 (by omega)⟩;have hLi:(lP a.coef b.coef c i).getD i default=a.coef.getD i default:=by rw[aG5,qR _ _ _ _ hi,if_neg (by omega),Int.add_zero]
 simp only[MF] at hai hm;repeat' first|exact h.elim|(refine kL 39000 22000 rfl rfl ?_;simp only[go_sem])|(refine aDE (id:=7) ?_)|apply aG|refine aE 0 t8 λK hK=>?_|refine aB ?_|(refine hK.n0 ?_;clear hK K)|refine aA rfl (λh=>?_) λh=>?_|refine aJ rfl ?_|with_reducible refine aH ?_|apply tTT
 ·refine HoldP.go ?_;rw[aQ6 _ _ _ (by omega) (by omega)];have l2:=aHL a.coef b.coef c (i:=i) (by omega);repeat' first|(refine aIu t8 16 (id:=7) (by kernel_rfl) λK hK=>?_)|refine aQ ?_|(refine hK.n0 ?_;clear hK K)|with_reducible refine aH ?_|apply tTT
  refine aK.storeOwnL [(2,.int .i64 c),(4,.box 4 0),(6,.box 6 0),(8,.box 8 0),(9,.int .i64 i)] [(3,[.int .i64 a.const,.sl (.lab [1]) (a.coef.map (.int .i64))]),(4,[.int .i64 b.const,.sl (.lab [1]) (b.coef.map (.int .i64))]),(6,[.int .i64 0,.sl .nil []]),(8,[.int .i64 (a.const+c*b.const),.sl (.own 22000 2 1) (((lP a.coef b.coef c i).set i ((lP a.coef b.coef c i).getD i default+c*b.coef.getD i default)).map (.int .i64))])] hOff.1 rfl rfl rfl rfl rfl rfl rfl (λ_=>rfl) (by simp) ⟨by omega,by omega⟩ (by simp only[Nat.reduceLT]) ⟨⟨by decide,_,rfl,bW rfl⟩,⟨by decide,_,rfl,bW rfl⟩,⟨by decide,_,rfl,bW rfl⟩,⟨by decide,_,rfl,bW rfl⟩,⟨by decide,_,rfl,bW rfl⟩,trivial⟩ ⟨⟨_,rfl,bW rfl,sK _ _ _,trivial⟩,⟨_,rfl,bW rfl,sK _ _ _,trivial⟩,⟨_,rfl,bW rfl,bW rfl,trivial⟩,⟨_,rfl,bW rfl,aIn,trivial⟩,trivial⟩ ?_;refine aK.nil ?_;rw[aHh];simp only[go_sem];repeat' first|apply aG|refine aE 0 t8 λK hK=>?_|refine aB ?_|(refine hK.n0 ?_;clear hK K)|apply aF|apply tTT
  exact⟨i+1,cvA,by omega,by omega⟩
 ·refine HoldP.go ?_;rw[aNQ _ _ _ (by omega)];have l2:=aHL a.coef b.coef c (i:=i) (by omega);repeat' first|(refine aIu t8 16 (id:=7) (by kernel_rfl) λK hK=>?_)|refine aQ ?_|(refine hK.n0 ?_;clear hK K)|with_reducible refine aH ?_|apply tTT
  refine aK.storeOwnL [(2,.int .i64 c),(4,.box 4 0),(6,.box 6 0),(8,.box 8 0),(9,.int .i64 i)] [(3,[.int .i64 a.const,.sl (.lab [1]) (a.coef.map (.int .i64))]),(4,[.int .i64 b.const,.sl (.lab [1]) (b.coef.map (.int .i64))]),(6,[.int .i64 0,.sl .nil []]),(8,[.int .i64 (a.const+c*b.const),.sl (.own 22000 2 1) (((lP a.coef b.coef c i).set i ((lP a.coef b.coef c i).getD i default+c*b.coef.getD i default)).map (.int .i64))])] hOff.1 rfl rfl rfl rfl rfl rfl rfl (λ_=>rfl) (by simp) ⟨by omega,by omega⟩ (by simp only[Nat.reduceLT]) ⟨⟨by decide,_,rfl,bW rfl⟩,⟨by decide,_,rfl,bW rfl⟩,⟨by decide,_,rfl,bW rfl⟩,⟨by decide,_,rfl,bW rfl⟩,⟨by decide,_,rfl,bW rfl⟩,trivial⟩ ⟨⟨_,rfl,bW rfl,sK _ _ _,trivial⟩,⟨_,rfl,bW rfl,sK _ _ _,trivial⟩,⟨_,rfl,bW rfl,bW rfl,trivial⟩,⟨_,rfl,bW rfl,aIn,trivial⟩,trivial⟩ ?_;refine aK.nil ?_;rw[aHh];simp only[go_sem];repeat' first|apply aG|refine aE 0 t8 λK hK=>?_|refine aB ?_|(refine hK.n0 ?_;clear hK K)|apply aF|apply tTT
  exact⟨i+1,cvA,by omega,by omega⟩
 ·rw[show i=b.coef.length by omega,aQx];have hlz:(fZ a.coef b.coef c b.coef.length).length≤24:=by rw[jT];omega
  have hcoef:(oR a b c).coef=fZ a.coef b.coef c b.coef.length:=rfl;have hconst:(oR a b c).const=a.const+c*b.const:=rfl;generalize hz:fZ a.coef b.coef c b.coef.length=zs at *;refine bG (ι:=Nat) (λi=>[(10,.int .i64 i)]) (λ_=>[]) (λ_=>[22000]) (λi=>i≤zs.length/\∀j<i,zs.getD j default≤MF) (λi=>zs.length-i) 0 cvA ⟨by omega,λj hj=>absurd hj (by omega)⟩ (λi hi=>?_);obtain⟨hi,hj⟩:=hi;simp only[go_sem];repeat' first|exact h.elim|(refine aDE (id:=13) ?_)|apply aG|refine aE 0 t8 λK hK=>?_|refine aB ?_|refine aC ?_|(refine hK.n0 ?_;clear hK K)|refine aA rfl (λh=>?_) λh=>?_|refine aJ rfl ?_|apply aF|with_reducible refine aH ?_|apply tTT
  ·have hn:¬ ∀x∈(oR a b c).coef,x≤MF:=λhall=>absurd (hall _ (by rw[hcoef];exact aX zs i (by omega))) (by simp only[MF];omega);rw[aP2 hn];exact⟨⟨rfl,rfl⟩,rfl⟩
  ·exact⟨i+1,cvA,⟨by omega,bJ hj (by simp only[MF];omega)⟩,by omega⟩
  ·refine HoldP.go ?_;refine aB0 (id:=13) t8 [(false,[]),(false,[]),(false,[1]),(false,[2]),(false,[0,0]),(false,[3,4,0,1,2,3,4])] ⟨75,[(6,.box 6 0),(7,.bool (decide (a.const+c*b.const≤1000000000000)))],[(6,[.int .i64 (a.const+c*b.const),.sl (.own 22000 2 1) (zs.map (.int .i64))])],[],[22000],[]⟩ (by kernel_rfl) ?_ ?_;simp only[List.length_cons,List.length_nil,Nat.reduceAdd];repeat' first|(refine pU ?_;simp only[vX,uY,aGQ,aGF,aG1,aG3,aBk,aBr,aB5,aCs,vL,wG,wU,aBp,aCv,true_and,and_true,Bool.not_false,Bool.not_true,Bool.and_true,Bool.and_false,Bool.true_and,Bool.false_and,Bool.or_false,Bool.false_or,Bool.true_or,Bool.or_true,Nat.reduceBEq,Nat.reduceAdd])|(refine hK.nil (vB ?_);clear hK K)|(refine qK ?_ ?_)|(refine j6 0 ?_;refine λ(K:List Oper->LS->Prop) (hK:KOk S 0 _ _ _ K)=>?_;simp(disch:=apply aR;omega)only[go_sem])|(refine qJ ?_;simp(disch:=apply aR;omega)only[go_sem];(refine aD rfl rfl ?_ ?_ ?_ ?_<;>simp(disch:=apply aR;omega)only[go_sem]<;>(try omega));done)|refine aC ?_|apply tTT
   have hy:∀x∈(oR a b c).coef,x≤MF:=by rw[hcoef];exact p7 (P:=λx=>x≤MF) λj hj'=>hj j (by omega)
   rw[aFt hy];refine⟨⟨hconst.symm,hcoef.symm⟩,?_⟩;rw[hconst];by_cases h1:a.const+c*b.const≤MF
   ·rw[b8 h1];simpa[MF] using h1
   ·rw[bV h1];simpa[MF] using h1
theorem aQU(a b:PolyT)(c:Int)(ha:iL (100*MF) a)(hb:iL MF b)(hc:0≤c/\c≤9):FC S 158 [] [] [] [bP a,bP b,.int .i64 c] (.tup [bP (aIs a b c).1,.bool (aIs a b c).2]) [] []:=by
 refine aVR [1] (by simp) ?_ ?_ ?_
 ·simp[bP,D.okLb,D.okLbL,jY (f:=λx=>D.int .i64 x) λ_=>rfl]
 ·simp[bP,D.noLb,D.noLbL,aBx (f:=λx=>D.int .i64 x) λ_=>rfl]
 ·simp only[bP,D.lbL,D.lb,mP];exact aOF a b c ha hb hc
end
section
attribute [local irreducible] SW bA bC dM bZ FC dX toF d7 iC fZ nX lP b5
theorem aDR(n:Nat)(k:IntKind)(m:Int):(List.replicate n [D.int k m]).flatten=(List.replicate n m).map (.int k):=by rw[iQ,List.map_replicate]
theorem aFA(k:IntKind)(xs:List Int):D.idsL (xs.map (.int k))=[]:=by
 induction xs with
 | nil=>rfl
 | cons x r ih=>simp[D.idsL,D.ids,ih]
attribute [local go_sem] aDR aFA
theorem aTJ{a b:PolyT}{c:Int}(h:(aIs a b c).2=true):(aIs a b c).1=oR a b c:=by
 have h1:=(aO1.1 h).1;rw[aFt h1]
def aHx:List (Nat×List Nat):=[(0,[1,3,4,6,8]),(1,[1,3,4,6,8,10]),(2,[1,3,4,6,8,10,11]),(3,[1,3,4,6,8,10,11,22]),(5,[1,3,4,6,8,10,11,12,13]),(6,[1,3,4,6,8,10,11,12,36]),(7,[8,9]),(8,[1,3,4,6,8,10,11,14,15]),(9,[1,3,4,6,8,10,11,14,50]),(10,[8,9]),(11,[1,3,4,6,8,10,11]),(4,[1,3,4,6,8,10,11]),(12,[8,9])]
attribute [go_sem] aHx Tryz.results153 Tryz.ntmps153
theorem aHl(rs:List Int)(ps:List PolyT)(p:PolyT)(parts:List (List Int))(F:Nat->PolyT×Bool)(hp:gX parts.length p)(hn:parts.length≤3)(hF:∀j<parts.length,iL MF (F j).1)(hform:∀j<parts.length,FC S 152 [] [] [] [.agg [.sl .any (rs.map (.int .i64))],.sl .any (ps.map bP),.sl .any ((parts.getD j default).map (.int .i64))] (.tup [bP (F j).1,.bool (F j).2]) [] []):FC S 153 [] [] [] [.agg [.sl .any (rs.map (.int .i64))],.sl .any (ps.map bP),bP p,.sl .any (parts.map dT)] (.tup [bP (kF F p parts.length).1,.bool (kF F p parts.length).2]) [] []:=by
 have hpl:=hp.1;refine fcb Tryz.func153 λB=>?_;repeat' first|apply aG|refine aE 0 aHx λK hK=>?_|refine aB ?_|(refine hK.n0 ?_;clear hK K)|apply tTT
 refine aAm 10 [.int .i64 p.const,.sl .any (([]:List Int).map (.int .i64))] rfl rfl (aZn (.refl _) .any) ?_;simp only[go_sem];refine bG (ι:=Nat) (λi=>[(11,.int .i64 i)]) (λi=>[(10,[.int .i64 (sumF F p i).const,.sl .any ((sumF F p i).coef.map (.int .i64))])]) (λ_=>[]) (λi=>i≤parts.length/\(∀j<i,(F j).2=true)/\okF (sumF F p i)) (λi=>parts.length-i) 0 cvB ⟨by omega,(λj hj=>absurd hj (by omega)),aVT hp⟩ (λi hi=>?_);obtain⟨hi,hj,hok⟩:=hi;simp only[go_sem];have hs1:sumF F p (i+1)=oR (sumF F p i) (F i).1 (p.coef.getD i default):=rfl;have hci:=aAV hp i;by_cases hil:i<parts.length
 ·have cF:=hform i hil;have hg:=hF i hil;have hgs:=aJc (uQ hp i λj hj=>hF j (by omega)) (show (9+9*MF*(i:Int))≤100*MF by simp only[MF];omega);have cA:=aQU (sumF F p i) (F i).1 (p.coef.getD i default) hgs hg hci;have hok1:=aO1 (a:=sumF F p i) (b:=(F i).1) (c:=p.coef.getD i default);rw[←hs1] at hok1;repeat' first|exact h.elim|(exfalso;omega)|apply aG|refine aE 0 aHx λK hK=>?_|refine aEt 0 aHx 13 (id:=5) (by kernel_rfl) λK hK=>?_|refine aEt 0 aHx 14 (id:=8) (by kernel_rfl) λK hK=>?_|(refine hK.alloc rfl rfl ⟨(by simp only[Nat.reduceLT]),rfl⟩ ?_;simp(disch:=apply aR;omega)only[go_sem])|(refine hK.store rfl rfl rfl ⟨⟨(by simp only[go_sem]),(by simp only[go_sem])⟩,(by simp only[go_sem]),(by simp only[go_sem]),(by simp only[go_sem])⟩ ?_;simp(disch:=apply aR;omega)only[go_sem])|refine λ(K:KT) (hK:KOk S 0 _ _ _ K)=>?_|refine aB ?_|refine aQ ?_|refine aC ?_|(refine hK.n0 ?_;clear hK K)|refine aA rfl (λh=>?_) λh=>?_|apply aF|refine hK.c1 rfl rfl rfl (cF) ?_|refine hK.c1 rfl rfl rfl (cA) ?_|with_reducible refine aH ?_|apply tTT
  ·rw[pV λe=>by have:=e.1 i hil;rw[this] at h;cases h];exact⟨⟨rfl,rfl⟩,rfl⟩
  ·rw[pV λe=>by have:=hok1.2 (aZi hp hF e.2 (i+1) hil);rw[this] at h;cases h];exact⟨⟨rfl,rfl⟩,rfl⟩
  ·have e1:=aTJ h;rw[e1,←hs1];exact⟨i+1,cvA,⟨by omega,bJ hj (by assumption),hok1.1 h⟩,by omega⟩
 ·repeat' first|exact h.elim|(exfalso;omega)|apply aG|refine aE 0 aHx λK hK=>?_|refine aB ?_|refine aC ?_|(refine hK.n0 ?_;clear hK K)|refine aA rfl (λh=>?_) λh=>?_|refine aJ rfl ?_|apply tTT
  obtain rfl:i=parts.length:=by omega
  rw[wW ⟨hj,hok⟩];exact⟨⟨rfl,rfl⟩,rfl⟩
def aHi:List (Nat×List Nat):=[(0,[1,2,3,6]),(1,[1,2,3,6,12]),(2,[2,6,8]),(3,[6,8]),(4,[6,7]),(5,[6,7])]
attribute [go_sem] aHi Tryz.results152 Tryz.ntmps152
theorem yO(rs:List Int)(ps:List PolyT)(hP:dO rs ps):∀f t,aT rs t->t.length≤f->FC S 152 [] [] [] [.agg [.sl .any (rs.map (.int .i64))],.sl .any (ps.map bP),.sl .any (t.map (.int .i64))] (.tup [bP (b5 rs ps f t).1,.bool (b5 rs ps f t).2]) [] []:=by
 intro f;induction f with
 | zero=>intro t ht hl;have:=ht.2.1.1;omega
 | succ f ih =>
  intro t ht hl;have hl2:=ht.2.1;have hlo:=ht.low (show 0<t.length by omega);by_cases h0:t.getD 0 default<0
  ·rw[l8 h0];refine fcb Tryz.func152 λB=>?_;refine bM 2 λhb2=>?_;repeat' first|exact h.elim|(exfalso;omega)|(refine⟨by rw[List.length_replicate];omega,?_⟩)|(refine aDE (id:=4) ?_)|apply aG|refine aE 0 aHi λK hK=>?_|refine iG 0 aHi 7 (id:=3) (by kernel_rfl) λK hK=>?_|refine λ(K:KT) (hK:KOk S 0 _ _ _ K)=>?_|refine aB ?_|refine aQ ?_|(refine hK.n0 ?_;clear hK K)|refine aA rfl (λh=>?_) λh=>?_|with_reducible refine aH ?_|apply tTT
   refine HoldP.go ?_;refine aJp 8 1 1 .any ((yZ (t.getD 0 default)).coef.map (.int .i64)) rfl rfl rfl (by decide) (by rw[dA];unfold yZ;rw[Int.zero_sub]) (by simp[yZ]) (λx hx=>by obtain⟨y,_,rfl⟩:=zJ.1 hx;rfl) (λd hd=>by obtain⟨y,_,rfl⟩:=zJ.1 hd;rfl) (.inl rfl) ?_;simp only[go_sem];repeat' first|refine aE 0 aHi λK hK=>?_|refine aB ?_|refine aC ?_|(refine hK.n0 ?_;clear hK K)|apply tTT
   rfl
  ·have hpp:=aIG hP (n:=t.getD 0 default) (by omega) hlo.1.2;have hk:(((arS rs (t.getD 0 default)).toNat:Nat):Int)=arS rs (t.getD 0 default):=by omega
   have hlen:=jV rs t (arS rs (t.getD 0 default)).toNat;rw[←hk,←hlen] at hpp;have cS:=aHl rs ps (ps.getD (t.getD 0 default).toNat default) (oI rs t (arS rs (t.getD 0 default)).toNat) (λj=>b5 rs ps f (lC rs t j)) hpp (by omega) (λj hj=>vW hP f _ (j5 ht (by omega)).1) (λj hj=>by
    rw[xW rs t (by omega)];have h1:=j5 ht (j:=j) (by omega);exact ih _ h1.1 (by omega))
   have cP:=uP rs t ht;have hpl:(t.getD 0 default).toNat<ps.length:=by have:=hP.1.2;omega
   rw[nE h0];rw[hlen] at cS;refine fcb Tryz.func152 λB=>?_;refine bM 2 λhb2=>?_;repeat' first|exact h.elim|(exfalso;omega)|apply aG|refine aE 0 aHi λK hK=>?_|refine iG 0 aHi 14 (id:=5) (by kernel_rfl) λK hK=>?_|refine λ(K:KT) (hK:KOk S 0 _ _ _ K)=>?_|refine aB ?_|refine aQ ?_|refine aC ?_|(refine hK.n0 ?_;clear hK K)|refine aA rfl (λh=>?_) λh=>?_|refine hK.c1 rfl rfl rfl (cP) ?_|refine hK.c1 rfl rfl rfl (cS) ?_|with_reducible refine aH ?_|apply tTT
open Classical in
noncomputable def aED(rs:List Int)(ps:List PolyT)(t:List Int):PolyT×Bool:=if dO rs ps/\aT rs t then b5 rs ps 60 t else (xM,false)
theorem wA{rs:List Int}{ps:List PolyT}{t:List Int}(h:dO rs ps/\aT rs t):aED rs ps t=b5 rs ps 60 t:=if_pos h
theorem aKd{rs:List Int}{ps:List PolyT}{t:List Int}(h:¬(dO rs ps/\aT rs t)):aED rs ps t=(xM,false):=if_neg h
theorem aDK(rs:List Int)(ps:List PolyT)(t:List Int):iL MF (aED rs ps t).1:=by
 rcases Classical.em (dO rs ps/\aT rs t) with h|h
 ·rw[wA h];exact vW h.1 60 t h.2
 ·rw[aKd h];exact xA
def aU5:List (Nat×List Nat):=[(0,[1,2,3,6]),(1,[1,2,3,6,17]),(2,[6,7]),(3,[6,7])]
attribute [go_sem] aU5 Tryz.results137 Tryz.ntmps137
theorem xS(rs:List Int)(ps:List PolyT)(t:List Int):FC S 137 [] [] [] [.agg [.sl .any (rs.map (.int .i64))],.sl .any (ps.map bP),.sl .any (t.map (.int .i64))] (.tup [bP (aED rs ps t).1,.bool (aED rs ps t).2]) [] []:=by
 rcases Classical.em (dO rs ps/\aT rs t) with⟨h1,h2⟩|hn
 ·rw[wA ⟨h1,h2⟩];refine fcb Tryz.func137 λB=>?_;repeat' first|exact h.elim|apply aG|refine aE 0 aU5 λK hK=>?_|refine aB ?_|refine aC ?_|(refine hK.n0 ?_;clear hK K)|refine aZ (λh=>?_) λh=>?_|refine aA rfl (λh=>?_) λh=>?_|refine hK.skp rfl rfl ?_|refine hK.c1 rfl rfl rfl (jS _ _ _) ?_|refine hK.c1 rfl rfl rfl (g8 _ _ _ _) ?_|refine hK.c1 rfl rfl rfl (yO rs ps h1 60 t h2 h2.2.1.2) ?_|apply tTT
  all_goals first|exact absurd h1 (by assumption)|exact absurd h2 (by assumption)
 ·rw[aKd hn];refine fcb Tryz.func137 λB=>?_;repeat' first|exact h.elim|(exact absurd ⟨(by assumption),(by assumption)⟩ hn)|apply aG|refine aE 0 aU5 λK hK=>?_|refine aB ?_|refine aC ?_|(refine hK.n0 ?_;clear hK K)|refine aZ (λh=>?_) λh=>?_|refine aA rfl (λh=>?_) λh=>?_|refine hK.skp rfl rfl ?_|refine hK.c1 rfl rfl rfl (jS _ _ _) ?_|refine hK.c1 rfl rfl rfl (g8 _ _ _ _) ?_|apply tTT
  all_goals exact⟨rfl,rfl⟩
end
section
attribute [local irreducible] SW bA bC dM bZ FC dX
def aXr:List (Nat×List Nat):=[(0,[0,1]),(1,[0,1,10]),(2,[4]),(3,[0,1,5]),(4,[0,1,5,14]),(6,[0,1,5,25]),(7,[4]),(5,[0,1,5]),(8,[4])]
attribute [go_sem] aXr Tryz.results87 Tryz.ntmps87
theorem sU(tk tk':Tk)(xs ys:List Int):FC S 87 [] [] [] [.sl tk (xs.map (.int .i64)),.sl tk' (ys.map (.int .i64))] (.bool (tst (xs=ys))) [] []:=by
 refine fcb Tryz.func87 λB=>?_;refine bM 0 λhb0=>?_;refine bM 1 λhb1=>?_;repeat' first|exact h.elim|apply aG|refine aE 0 aXr λK hK=>?_|refine aB ?_|refine aC ?_|(refine hK.n0 ?_;clear hK K)|refine aA rfl (λh=>?_) λh=>?_|apply tTT
 ·intro e;exact h (by rw[e])
 refine aV (ι:=Nat) (λi=>[(5,.int .i64 i)]) (λ_=>[]) (λi=>i≤xs.length/\(∀j<i,xs.getD j default=ys.getD j default)) (λi=>xs.length-i) 0 cvA ⟨by omega,?_⟩ (λi ⟨hi,hj⟩=>?_);rotate_left
 simp only[go_sem];repeat' first|exact h.elim|apply aG|refine aE 0 aXr λK hK=>?_|refine aU aXr (by kernel_rfl) λK hK=>?_|refine aB ?_|refine aQ ?_|refine aC ?_|(refine hK.n0 ?_;clear hK K)|refine aA rfl (λh=>?_) λh=>?_|refine aJ rfl ?_|apply aF|with_reducible refine aH ?_|apply tTT
 ·intro e;exact h (by rw[e])
 ·exact⟨i+1,by(refine aD rfl rfl ?_ ?_ ?_ ?_<;>simp(disch:=apply aR;omega)only[go_sem]<;>(try omega)),⟨by omega,bJ hj (by assumption)⟩,by omega⟩
 ·exact p5 (by assumption) λj hj'=>hj j (by omega)
 ·intro j hj';omega
end
section
attribute [local irreducible] SW bA bC dM bZ FC dX toF d7 iC
theorem aD4{x:SystemT}{n:Int}:n∈yF x.rules x.rules.length↔aF5 x n:=aS9 x.rules n
theorem aHy{rs t:List Int}{u:List Int}(h:∀j<t.length,1≤j->eD rs t j≠u):¬nT rs t 1 u:=λ⟨a,h1,e⟩=>h a h1.2 h1.1 e
open Classical in
noncomputable def atR(x:SystemT)(r a:Nat):DepPairT×Bool:=if qA x r a then (mkP x r a,true) else (⟨[],[],0,0⟩,false)
theorem aIT{x:SystemT}{r a:Nat}(h:qA x r a):atR x r a=(mkP x r a,true):=if_pos h
theorem aOr{x:SystemT}{r a:Nat}(h:¬qA x r a):atR x r a=(⟨[],[],0,0⟩,false):=if_neg h
theorem aUC{x:SystemT}{r a:Nat}:((atR x r a).2=true->prR x r (a+1)=prR x r a++[(atR x r a).1])/\((atR x r a).2=false->prR x r (a+1)=prR x r a):=by
 by_cases h:qA x r a
 ·rw[aIT h,aHT h];exact⟨λ_=>rfl,λe=>Bool.noConfusion e⟩
 ·rw[aOr h,aMY h];exact⟨λe=>Bool.noConfusion e,λ_=>rfl⟩
def aXa:List (Nat×List Nat):=[(0,[1,2,3]),(1,[1,2,3,7]),(2,[1,2,3,7,11]),(4,[1,2,3,7,22]),(5,[6]),(3,[1,2,3,7]),(6,[6])]
attribute [go_sem] aXa Tryz.results78 Tryz.ntmps78
theorem xX(rs t u:List Int)(hT:aT rs t):FC S 78 [] [] [] [.agg [.sl .any (rs.map (.int .i64))],.sl .any (t.map (.int .i64)),.sl .any (u.map (.int .i64))] (.bool (tst (nT rs t 1 u))) [] []:=by
 have hl:=hT.2.1;refine fcb Tryz.func78 λB=>?_;repeat' first|apply aG|refine aE 0 aXa λK hK=>?_|refine aB ?_|(refine hK.n0 ?_;clear hK K)|apply tTT
 refine aV (ι:=Nat) (λp=>[(7,.int .i64 p)]) (λp=>[]) (λp=>(1≤p/\p≤t.length)/\∀j<p,1≤j->eD rs t j≠u) (λp=>t.length-p) 1 cvA ?_ (λp hp=>?_);rotate_left
 simp only[go_sem];obtain⟨hp,hj⟩:=hp;by_cases hil:p<t.length
 ·have h5:=gQ hT hil;have h6:((eJ rs t p).toNat:Int)=eJ rs t p:=by omega
  repeat' first|exact h.elim|(exfalso;omega)|apply aG|refine aE 0 aXa λK hK=>?_|refine aB ?_|refine aC ?_|(refine hK.n0 ?_;clear hK K)|refine aA rfl (λh=>?_) λh=>?_|apply aF|refine hK.c1 rfl rfl rfl (qF rs t p hT hil) ?_|refine hK.c1 rfl rfl rfl (sU _ _ (eD rs t p) u) ?_|with_reducible refine aH ?_|apply tTT
  ·exact⟨p,⟨hp.1,hil⟩,h⟩
  ·exact⟨p+1,cvA,⟨by omega,bJ hj λ_=>h⟩,by omega⟩
 ·repeat' first|exact h.elim|(exfalso;omega)|apply aG|refine aE 0 aXa λK hK=>?_|refine aB ?_|refine aC ?_|(refine hK.n0 ?_;clear hK K)|refine aA rfl (λh=>?_) λh=>?_|refine aJ rfl ?_|apply tTT
  exact aHy λj hj'=>hj j (by omega)
 ·exact⟨⟨by omega,by omega⟩,λj h1 h2=>absurd h1 (by omega)⟩
theorem oJ(tk:Tk)(xs:List Int)(hl:xs.length≤17592186044416):FC S 76 [] [] [] [.sl tk (xs.map (.int .i64))] (.sl .any (xs.map (.int .i64))) [] []:=by
 refine FC.args (args':=[.sl .any (xs.map (.int .i64))]) ?_ (by simp only[go_sem]);refine fcb Tryz.func76 λB=>?_;refine bM 0 λhb0=>?_;repeat' first|apply aG|refine aE 0 aZy λK hK=>?_|refine aB ?_|refine aC ?_|(refine hK.n0 ?_;clear hK K)|with_reducible refine aH ?_|apply tTT
def aUQ:List (Nat×List Nat):=[(0,[1,2,3,6]),(1,[1,2,3,6,8]),(2,[1,2,3,6,8,31]),(3,[6,7]),(4,[1,2,3,6,8,9]),(5,[1,2,6,8,9,49]),(6,[6,7]),(7,[6,7])]
attribute [go_sem] aUQ Tryz.results44 Tryz.ntmps44
theorem aSN(x:SystemT)(hx:b9 x)(r a:Nat)(hr:r<x.rules.length)(ha:a<(x.rules.getD r default).r.length):FC S 44 [] [] [] [bR x,.int .i64 r,.int .i64 a] (.tup [bN (atR x r a).1,.bool (atR x r a).2]) [] []:=by
 have hR:=hx.2 r hr;have h12:=hx.1.2;have hT:=hR.1.2.1;have h5:=gQ hT ha;have h6:((eJ x.sig (x.rules.getD r default).r a).toNat:Int)=eJ x.sig (x.rules.getD r default).r a:=by omega
 have hl:=hT.2.1;have hl1:=hR.1.1.2.1;have hsl:(eD x.sig (x.rules.getD r default).r a).length≤60:=(oW hT ha).2.1.2;have h0:∀j<x.rules.length,1≤(x.rules.getD j default).l.length:=λj hj=>(hx.2 j hj).1.1.2.1.1;rcases Classical.em (qA x r a) with hPA|hPA
 ·rw[aIT hPA];have hh:=hPA.1;refine fcb Tryz.func44 λB=>?_;repeat' first|exact h.elim|(exfalso;omega)|apply aG|refine aE 0 aUQ λK hK=>?_|refine aU aUQ (by kernel_rfl) λK hK=>?_|refine aB ?_|refine aQ ?_|refine aC ?_|(refine hK.n0 ?_;clear hK K)|refine bH (λh=>?_) λh=>?_|refine aA rfl (λh=>?_) λh=>?_|refine hK.c1 rfl rfl rfl (sD x (by omega) h0) ?_|refine hK.c1 rfl rfl rfl (iI _ _ _) ?_|refine hK.c1 rfl rfl rfl (qF x.sig (x.rules.getD r default).r a hT ha) ?_|refine hK.c1 rfl rfl rfl (oJ _ (eD x.sig (x.rules.getD r default).r a) (by omega)) ?_|refine hK.c1 rfl rfl rfl (xX x.sig (x.rules.getD r default).l (eD x.sig (x.rules.getD r default).r a) hR.1.1) ?_|refine hK.c1 rfl rfl rfl (oJ _ (x.rules.getD r default).l (by omega)) ?_|with_reducible refine aH ?_|apply tTT
  all_goals first|exact absurd (aD4.2 hh.2) (by assumption)|exact absurd (by assumption) hPA.2|exact⟨rfl,rfl,rfl,rfl⟩|skip
 ·rw[aOr hPA];refine fcb Tryz.func44 λB=>?_;repeat' first|exact h.elim|apply aG|refine aE 0 aUQ λK hK=>?_|refine aU aUQ (by kernel_rfl) λK hK=>?_|refine aB ?_|refine aQ ?_|refine aC ?_|(refine hK.n0 ?_;clear hK K)|refine bH (λh=>?_) λh=>?_|refine aA rfl (λh=>?_) λh=>?_|refine hK.skp rfl rfl ?_|refine hK.c1 rfl rfl rfl (sD x (by omega) h0) ?_|refine hK.c1 rfl rfl rfl (iI _ _ _) ?_|refine hK.c1 rfl rfl rfl (qF x.sig (x.rules.getD r default).r a hT ha) ?_|refine hK.c1 rfl rfl rfl (oJ _ (eD x.sig (x.rules.getD r default).r a) (by omega)) ?_|refine hK.c1 rfl rfl rfl (xX x.sig (x.rules.getD r default).l (eD x.sig (x.rules.getD r default).r a) hR.1.1) ?_|refine hK.c1 rfl rfl rfl (oJ _ (x.rules.getD r default).l (by omega)) ?_|with_reducible refine aH ?_|apply tTT
  all_goals first|exact absurd (show qA x r a from⟨⟨(by assumption),aD4.1 (by assumption)⟩,(by assumption)⟩) hPA|skip
def aMN:List (Nat×List Nat):=[(0,[1]),(1,[1,4]),(2,[1,4,12]),(3,[2,3]),(4,[1,4,5]),(5,[1,4,5,18]),(7,[1,4,5,6]),(8,[1,4,5,6,29]),(10,[1,4,5,6,7,8]),(11,[1,4,5,6,7,39]),(12,[1,4,5,6]),(9,[1,4,5,6]),(6,[1,4,5]),(13,[4,46]),(14,[2,3]),(15,[2,3])]
attribute [go_sem] aMN Tryz.results15 Tryz.ntmps15
theorem jO(x:SystemT):FC S 15 [] [] [] [bR x] (.tup [.sl .any ((mY x).1.map bN),.bool (mY x).2]) [] []:=by
 rcases Classical.em (b9 x) with hx|hx
 ·have h12:=hx.1.2;have hA:(prA x x.rules.length).length≤64->mY x=(bI x,true):=λh=>fW ⟨hx,h⟩;have hB:¬(prA x x.rules.length).length≤64->mY x=([],false):=λh=>jG λe=>h e.2;refine fcb Tryz.func15 λB=>?_;repeat' first|exact h.elim|(exact absurd hx (by assumption))|apply aG|refine aE 0 aMN λK hK=>?_|refine aB ?_|(refine hK.n0 ?_;clear hK K)|refine aA rfl (λh=>?_) λh=>?_|refine hK.c1 rfl rfl rfl (jC _) ?_|apply tTT
  refine eF 4 44000 78 4 rfl (.inr rfl) rfl ?_;simp only[go_sem];refine bG (ι:=Nat) (λr=>[(5,.int .i64 r),(4,.sl (.own 44000 78 4) ((prA x r).map bN))]) (λ_=>[]) (λ_=>[44000]) (λr=>r≤x.rules.length) (λr=>x.rules.length-r) 0 cvB (by omega) (λr hr=>?_);simp only[go_sem];have hl1:=aJx hx r hr;by_cases hrl:r<x.rules.length
  ·have hT:=(hx.2 r hrl).1.2.1;have hTl:=hT.2.1;repeat' first|exact h.elim|(exfalso;omega)|apply aG|refine aE 0 aMN λK hK=>?_|refine aB ?_|(refine hK.n0 ?_;clear hK K)|refine aA rfl (λh=>?_) λh=>?_|apply tTT
   refine bG (ι:=Nat) (λa=>[(6,.int .i64 a),(4,.sl (.own 44000 78 4) ((prA x r++prR x r a).map bN))]) (λ_=>[]) (λ_=>[44000]) (λa=>a≤(x.rules.getD r default).r.length) (λa=>(x.rules.getD r default).r.length-a) 0 (by(refine aD rfl rfl ?_ ?_ ?_ ?_<;>simp(disch:=apply aR;omega)only[go_sem]<;>(try omega));all_goals first|rfl|(rw[show prR x r 0=[] from rfl,List.append_nil];exact⟨rfl,rfl⟩)|(rw[show prR x r 0=[] from rfl,List.append_nil])) (by omega) (λa ha=>?_);simp only[go_sem];have hl2:=aDw x r a;have hl3:(prA x r++prR x r a).length≤60*r+a:=by rw[zK];omega
   by_cases hal:a<(x.rules.getD r default).r.length
   ·have hst:=@aUC x r a;repeat' first|exact h.elim|(exfalso;omega)|apply aG|refine aE 0 aMN λK hK=>?_|refine aB ?_|(refine hK.n0 ?_;clear hK K)|refine aA rfl (λh=>?_) λh=>?_|apply aF|refine hK.c1 rfl rfl rfl (aSN x hx r a hrl hal) ?_|with_reducible refine aH ?_|((with_reducible refine And.intro ?_ ?_);· first|(intro x hx;subst hx;rfl)|(intro x;refine And.intro ?_ ?_<;>(intros;subst_vars;rfl)))|apply tTT
    ·exact⟨a+1,(by(refine aD rfl rfl ?_ ?_ ?_ ?_<;>simp(disch:=apply aR;omega)only[go_sem]<;>(try omega));rw[hst.1 h,←List.append_assoc,List.map_append (l₁:=prA x r++prR x r a),List.map_append (l₁:=prA x r)];exact⟨rfl,by omega⟩),by omega,by omega⟩
    ·exact⟨a+1,(by(refine aD rfl rfl ?_ ?_ ?_ ?_<;>simp(disch:=apply aR;omega)only[go_sem]<;>(try omega));rw[hst.2 h];exact⟨rfl,by omega⟩),by omega,by omega⟩
   ·repeat' first|exact h.elim|(exfalso;omega)|apply aG|refine aE 0 aMN λK hK=>?_|refine aB ?_|(refine hK.n0 ?_;clear hK K)|refine aA rfl (λh=>?_) λh=>?_|refine aJ rfl ?_|apply aF|with_reducible refine aH ?_|apply tTT
    exact⟨r+1,(by(refine aD rfl rfl ?_ ?_ ?_ ?_<;>simp(disch:=apply aR;omega)only[go_sem]<;>(try omega));rw[show prA x (r+1)=prA x r++prR x r (x.rules.getD r default).r.length from rfl,show a=(x.rules.getD r default).r.length by omega];exact⟨rfl,by omega⟩),by omega,by omega⟩
  ·obtain rfl:r=x.rules.length:=by omega
   repeat' first|exact h.elim|(exfalso;omega)|apply aG|refine aE 0 aMN λK hK=>?_|refine aB ?_|refine aC ?_|(refine hK.n0 ?_;clear hK K)|refine aA rfl (λh=>?_) λh=>?_|refine aJ rfl ?_|apply tTT
   ·rw[hB (by omega)];exact⟨rfl,rfl⟩
   ·rw[hA (by omega)];exact⟨rfl,rfl⟩
 ·rw[jG λh=>hx h.1];refine fcb Tryz.func15 λB=>?_;repeat' first|exact h.elim|(exact absurd (by assumption) hx)|apply aG|refine aE 0 aMN λK hK=>?_|refine aB ?_|refine aC ?_|(refine hK.n0 ?_;clear hK K)|refine aA rfl (λh=>?_) λh=>?_|refine hK.c1 rfl rfl rfl (jC _) ?_|apply tTT
def aA3(set:List Int)(p:Nat):Int:=if p=0 then -1 else set.getD (p-1) default
theorem aOh(set:List Int)(p:Nat):aA3 set (p+1)=set.getD p default:=rfl
def aYJ:List (Nat×List Nat):=[(0,[0,1]),(1,[0,1,5]),(2,[0,1,5,6]),(3,[0,1,5,6,10]),(5,[0,1,6,22]),(6,[4]),(7,[0,1,5,6]),(4,[0,1,5,6]),(8,[4])]
attribute [go_sem] aYJ Tryz.results83 Tryz.ntmps83
theorem jF(set:List Int)(n:Nat)(hn:n≤1000):FC S 83 [] [] [] [.sl .any (set.map (.int .i64)),.int .i64 n] (.bool (tst (gA set n))) [] []:=by
 refine fcb Tryz.func83 λB=>?_;refine bM 0 λhb0=>?_;repeat' first|apply aG|refine aE 0 aYJ λK hK=>?_|refine aB ?_|(refine hK.n0 ?_;clear hK K)|apply tTT
 refine aV (ι:=Nat) (λp=>[(6,.int .i64 p),(5,.int .i64 (aA3 set p))]) (λp=>[]) (λp=>p≤set.length/\∀j<p,(0≤set.getD j default/\set.getD j default<n)/\(0<j->set.getD (j-1) default<set.getD j default)) (λp=>set.length-p) 0 cvB ?_ (λp hp=>?_);rotate_left
 simp only[go_sem];obtain⟨hp,hj⟩:=hp;have hL:-1≤aA3 set p/\aA3 set p<1000/\(p=0->aA3 set p=-1)/\(0<p->aA3 set p=set.getD (p-1) default/\0≤aA3 set p):=by
  unfold aA3;split
  ·omega
  ·have:=(hj (p-1) (by omega)).1;omega
 have hC:(aA3 set p+1≤set.getD p default/\set.getD p default≤(n:Int)-1)↔((0≤set.getD p default/\set.getD p default<n)/\(0<p->set.getD (p-1) default<set.getD p default)):=by
  rcases Nat.eq_zero_or_pos p with h0|h0
  ·have:=hL.2.2.1 h0;omega
  ·have:=hL.2.2.2 h0;omega
 repeat' first|exact h.elim|apply aG|refine aE 0 aYJ λK hK=>?_|refine aB ?_|refine aC ?_|(refine hK.n0 ?_;clear hK K)|refine aA rfl (λh=>?_) λh=>?_|refine aJ rfl ?_|apply aF|refine hK.c1 rfl rfl rfl (o6 _ _ _) ?_|with_reducible refine aH ?_|apply tTT
 ·intro hS;exact h (hC.2 (hS p (by omega)))
 ·exact⟨p+1,(by(refine aD rfl rfl ?_ ?_ ?_ ?_<;>simp(disch:=apply aR;omega)only[go_sem]<;>(try omega));exact⟨(aOh set p).symm,by omega⟩),⟨by omega,bJ hj (hC.1 h)⟩,by omega⟩
 ·exact λj hj'=>hj j (by omega)
 ·exact λj hj'=>absurd hj' (by omega)
theorem aCm{rs:List Int}{ps:List PolyT}(h:fU rs ps){n:Int}(h0:0≤n)(h1:n<rs.length):gX (arS rs n) (ps.getD (rs.length+n).toNat default):=by
 have:=aIG h.2.2 h0 h1;rwa [zD,List.getElem?_drop,←zD,show rs.length+n.toNat=(rs.length+n).toNat by omega] at this
def aYy:List (Nat×List Nat):=[(0,[1,2]),(1,[1,2,5]),(2,[4])]
attribute [go_sem] aYy Tryz.results94 Tryz.ntmps94
theorem jD(rs:List Int)(ps:List PolyT)(hn:rs.length≤1000):FC S 94 [] [] [] [.agg [.sl .any (rs.map (.int .i64))],.sl .any (ps.map bP)] (.bool (tst (fU rs ps))) [] []:=by
 refine fcb Tryz.func94 λB=>?_;refine b6 0 0 λhb0_0=>?_;refine bM 1 λhb1=>?_;repeat' first|exact h.elim|apply aG|refine aE 0 aYy λK hK=>?_|refine aU aYy (by kernel_rfl) λK hK=>?_|refine aB ?_|refine aQ ?_|refine aC ?_|(refine hK.n0 ?_;clear hK K)|refine bH (λh=>?_) λh=>?_|refine hK.skp rfl rfl ?_|refine hK.c1 rfl rfl rfl (jS _ rs (ps.take rs.length)) ?_|refine hK.c1 rfl rfl rfl (jS _ rs (ps.drop rs.length)) ?_|with_reducible refine aH ?_|apply tTT
 all_goals first|exact λhm=>absurd hm.1 (by omega)|exact λhm=>absurd hm.2.1 (by assumption)|exact λhm=>absurd hm.2.2 (by assumption)|exact⟨by omega,by assumption,by assumption⟩|exact⟨λh=>⟨by omega,by assumption,h⟩,λh=>h.2.2⟩|skip
noncomputable def aPC(rs:List Int)(ps:List PolyT)(t:List Int)(j:Nat):PolyT×Bool:=b5 rs (ps.take rs.length) 60 (lC rs t j)
noncomputable def fL(rs:List Int)(ps:List PolyT)(t:List Int):PolyT×Bool:=if t.getD 0 default<0 then (yZ (t.getD 0 default),true) else kF (aPC rs ps t) (ps.getD (rs.length+t.getD 0 default).toNat default) (arS rs (t.getD 0 default)).toNat
theorem aB6{rs:List Int}{ps:List PolyT}{t:List Int}(h:t.getD 0 default<0):fL rs ps t=(yZ (t.getD 0 default),true):=if_pos h
theorem aCq{rs:List Int}{ps:List PolyT}{t:List Int}(h:¬t.getD 0 default<0):fL rs ps t=kF (aPC rs ps t) (ps.getD (rs.length+t.getD 0 default).toNat default) (arS rs (t.getD 0 default)).toNat:=if_neg h
theorem aFl{rs:List Int}{ps:List PolyT}(hM:fU rs ps){t:List Int}(hT:aT rs t):∀j<(arS rs (t.getD 0 default)).toNat,iL MF (aPC rs ps t j).1:=λj hj=>vW hM.2.1 60 _ (j5 hT hj).1
theorem sM{rs:List Int}{ps:List PolyT}(hM:fU rs ps){t:List Int}(hT:aT rs t):iL MF (fL rs ps t).1:=by
 have hl:=hT.low (show 0<t.length from hT.2.1.1);by_cases h:t.getD 0 default<0
 ·rw[aB6 h];exact aDP h hl.1.1
 ·rw[aCq h];exact aFJ (aCm hM (by omega) hl.1.2) (aFl hM hT)
def aLl:List (Nat×List Nat):=[(0,[1,2,3,6]),(1,[1,2,3,6,18]),(2,[6,7]),(3,[1,2,3,6,8]),(4,[1,2,3,6,8,26]),(5,[6,7]),(6,[6,7])]
attribute [go_sem] aLl Tryz.results139 Tryz.ntmps139
theorem kJ(rs:List Int)(ps:List PolyT)(t:List Int)(hM:fU rs ps)(hT:aT rs t):FC S 139 [] [] [] [.agg [.sl .any (rs.map (.int .i64))],.sl .any (ps.map bP),.sl .any (t.map (.int .i64))] (.tup [bP (fL rs ps t).1,.bool (fL rs ps t).2]) [] []:=by
 have hl:=hT.low (show 0<t.length from hT.2.1.1);have hl2:=hT.2.1;have hs:=hT.1.1;have hm:=hM.1;by_cases h0:t.getD 0 default<0
 ·have cF:=yO rs (ps.take rs.length) hM.2.1 60 t hT hT.2.1.2;rw[l8 h0] at cF;rw[aB6 h0];refine fcb Tryz.func139 λB=>?_;repeat' first|exact h.elim|(exfalso;omega)|(exact absurd hM (by assumption))|(exact absurd hT (by assumption))|apply aG|refine aE 0 aLl λK hK=>?_|refine iG 0 aLl 8 (id:=5) (by kernel_rfl) λK hK=>?_|refine λ(K:KT) (hK:KOk S 0 _ _ _ K)=>?_|refine aB ?_|refine aQ ?_|refine aC ?_|(refine hK.n0 ?_;clear hK K)|refine aZ (λh=>?_) λh=>?_|refine aA rfl (λh=>?_) λh=>?_|refine hK.c1 rfl rfl rfl (jD _ _ (by omega)) ?_|refine hK.c1 rfl rfl rfl (g8 _ _ _ _) ?_|refine hK.c1 rfl rfl rfl (cF) ?_|with_reducible refine aH ?_|apply tTT
 ·rw[aCq h0];have hk:(arS rs (t.getD 0 default)).toNat≤3:=by omega
  have cS:=aHl rs (ps.take rs.length) (ps.getD (rs.length+t.getD 0 default).toNat default) (oI rs t (arS rs (t.getD 0 default)).toNat) (aPC rs ps t) (by rw[jV,show (((arS rs (t.getD 0 default)).toNat:Nat):Int)=arS rs (t.getD 0 default) by omega];exact aCm hM (by omega) hl.1.2) (by rw[jV];exact hk) (λj hj=>by rw[jV] at hj;exact aFl hM hT j hj) (λj hj=>by
   rw[jV] at hj;rw[xW rs t hj];have h:=(j5 hT hj).1;exact yO rs (ps.take rs.length) hM.2.1 60 _ h h.2.1.2)
  rw[jV] at cS;refine fcb Tryz.func139 λB=>?_;repeat' first|exact h.elim|(exfalso;omega)|(exact absurd hM (by assumption))|(exact absurd hT (by assumption))|apply aG|refine aE 0 aLl λK hK=>?_|refine iG 0 aLl 18 (id:=6) (by kernel_rfl) λK hK=>?_|refine λ(K:KT) (hK:KOk S 0 _ _ _ K)=>?_|refine aB ?_|refine aQ ?_|refine aC ?_|(refine hK.n0 ?_;clear hK K)|refine aZ (λh=>?_) λh=>?_|refine aA rfl (λh=>?_) λh=>?_|refine hK.c1 rfl rfl rfl (jD _ _ (by omega)) ?_|refine hK.c1 rfl rfl rfl (g8 _ _ _ _) ?_|refine hK.c1 rfl rfl rfl (uP rs t hT) ?_|refine hK.c1 rfl rfl rfl (cS) ?_|with_reducible refine aH ?_|apply tTT
def xO(rs:List Int)(ps:List PolyT)(p:DepPairT):Prop:=((fL rs ps p.r).2=true/\(fL rs ps p.l).2=true)/\xJ (fL rs ps p.r).1 (fL rs ps p.l).1/\(fL rs ps p.r).1.const<(fL rs ps p.l).1.const
def aCS(rs:List Int)(ps:List PolyT)(p:DepPairT):Prop:=((fL rs ps p.r).2=true/\(fL rs ps p.l).2=true)/\xJ (fL rs ps p.r).1 (fL rs ps p.l).1/\(fL rs ps p.r).1.const≤(fL rs ps p.l).1.const
def aYg:List (Nat×List Nat):=[(0,[1,3,5]),(1,[1,3,5,7,8]),(2,[7,8,9,10]),(3,[6])]
attribute [go_sem] aYg Tryz.results122 Tryz.ntmps122
theorem aLK(rs:List Int)(ps:List PolyT)(p:DepPairT)(hM:fU rs ps)(hp:kS rs p):FC S 122 [] [] [] [.agg [.sl .any (rs.map (.int .i64))],.sl .any (ps.map bP),bN p] (.bool (tst (xO rs ps p))) [] []:=by
 have c1:=kJ rs ps p.r hM hp.1.2;have c2:=kJ rs ps p.l hM hp.1.1;have g1:=sM hM hp.1.2;have g2:=sM hM hp.1.1;unfold xO;generalize fL rs ps p.r=a at *;generalize fL rs ps p.l=b at *;obtain⟨a,oa⟩:=a;obtain⟨b,ob⟩:=b;dsimp only at c1 c2 g1 g2 ⊢;have cM:=yR a b (λx hx=>(g1.2.1 x hx).1) (λx hx=>(g2.2.1 x hx).1);refine fcb Tryz.func122 λB=>?_;repeat' first|exact h.elim|apply aG|refine aE 0 aYg λK hK=>?_|refine aB ?_|refine aC ?_|(refine hK.n0 ?_;clear hK K)|refine aZ (λh=>?_) λh=>?_|refine hK.skp rfl rfl ?_|refine hK.c1 rfl rfl rfl (c1) ?_|refine hK.c1 rfl rfl rfl (c2) ?_|refine hK.c1 rfl rfl rfl (cM) ?_|apply tTT
 all_goals (first|omega|grind)
def aXX:List (Nat×List Nat):=[(0,[1,3,5]),(1,[1,3,5,7,8]),(2,[7,8,9,10]),(3,[6])]
attribute [go_sem] aXX Tryz.results121 Tryz.ntmps121
theorem aF7(rs:List Int)(ps:List PolyT)(p:DepPairT)(hM:fU rs ps)(hp:kS rs p):FC S 121 [] [] [] [.agg [.sl .any (rs.map (.int .i64))],.sl .any (ps.map bP),bN p] (.bool (tst (aCS rs ps p))) [] []:=by
 have c1:=kJ rs ps p.r hM hp.1.2;have c2:=kJ rs ps p.l hM hp.1.1;have g1:=sM hM hp.1.2;have g2:=sM hM hp.1.1;unfold aCS;generalize fL rs ps p.r=a at *;generalize fL rs ps p.l=b at *;obtain⟨a,oa⟩:=a;obtain⟨b,ob⟩:=b;dsimp only at c1 c2 g1 g2 ⊢;have cM:=yR a b (λx hx=>(g1.2.1 x hx).1) (λx hx=>(g2.2.1 x hx).1);refine fcb Tryz.func121 λB=>?_;repeat' first|exact h.elim|apply aG|refine aE 0 aXX λK hK=>?_|refine aB ?_|refine aC ?_|(refine hK.n0 ?_;clear hK K)|refine aZ (λh=>?_) λh=>?_|refine hK.skp rfl rfl ?_|refine hK.c1 rfl rfl rfl (c1) ?_|refine hK.c1 rfl rfl rfl (c2) ?_|refine hK.c1 rfl rfl rfl (cM) ?_|apply tTT
 all_goals (first|omega|grind)
def o9(rs:List Int)(ps:List PolyT)(s t:List Int):Prop:=((b5 rs ps 60 s).2=true/\(b5 rs ps 60 t).2=true)/\xJ (b5 rs ps 60 s).1 (b5 rs ps 60 t).1/\(b5 rs ps 60 s).1.const≤(b5 rs ps 60 t).1.const
def aYf:List (Nat×List Nat):=[(0,[1,2,3,4]),(1,[1,3,4,9,10]),(2,[9,10,11,12]),(3,[8])]
attribute [go_sem] aYf Tryz.results120 Tryz.ntmps120
theorem y2(rs:List Int)(ps:List PolyT)(s t:List Int)(hP:dO rs ps)(hs:aT rs s)(ht:aT rs t):FC S 120 [] [] [] [.agg [.sl .any (rs.map (.int .i64))],.sl .any (ps.map bP),.sl .any (s.map (.int .i64)),.sl .any (t.map (.int .i64))] (.bool (tst (o9 rs ps s t))) [] []:=by
 have c1:=xS rs ps s;have c2:=xS rs ps t;have g1:=aDK rs ps s;have g2:=aDK rs ps t;unfold o9;rw[←wA ⟨hP,hs⟩,←wA ⟨hP,ht⟩];generalize aED rs ps s=a at *;generalize aED rs ps t=b at *;obtain⟨a,oa⟩:=a;obtain⟨b,ob⟩:=b;dsimp only at c1 c2 g1 g2 ⊢;have cM:=yR a b (λx hx=>(g1.2.1 x hx).1) (λx hx=>(g2.2.1 x hx).1);refine fcb Tryz.func120 λB=>?_;repeat' first|exact h.elim|apply aG|refine aE 0 aYf λK hK=>?_|refine aB ?_|refine aC ?_|(refine hK.n0 ?_;clear hK K)|refine aZ (λh=>?_) λh=>?_|refine hK.skp rfl rfl ?_|refine hK.c1 rfl rfl rfl (c1) ?_|refine hK.c1 rfl rfl rfl (c2) ?_|refine hK.c1 rfl rfl rfl (cM) ?_|apply tTT
 all_goals (first|omega|grind)
def mD(x:SystemT)(ps:List PolyT):Prop:=(b9 x/\dO x.sig ps)/\∀j<x.rules.length,o9 x.sig ps (x.rules.getD j default).r (x.rules.getD j default).l
def aVK:List (Nat×List Nat):=[(0,[1,2]),(1,[1,2,15]),(2,[4]),(3,[1,2,5]),(4,[1,2,5,20]),(6,[1,2,5,39]),(7,[4]),(5,[1,2,5]),(8,[4])]
attribute [go_sem] aVK Tryz.results91 Tryz.ntmps91
theorem gY(x:SystemT)(ps:List PolyT):FC S 91 [] [] [] [bR x,.sl .any (ps.map bP)] (.bool (tst (mD x ps))) [] []:=by
 refine fcb Tryz.func91 λB=>?_;repeat' first|exact h.elim|apply aG|refine aE 0 aVK λK hK=>?_|refine aB ?_|refine aC ?_|(refine hK.n0 ?_;clear hK K)|refine aZ (λh=>?_) λh=>?_|refine aA rfl (λh=>?_) λh=>?_|refine hK.skp rfl rfl ?_|refine hK.c1 rfl rfl rfl (jC _) ?_|refine hK.c1 rfl rfl rfl (jS _ _ _) ?_|apply tTT
 ·exact λh=>absurd h.1.1 (by assumption)
 ·exact λh=>absurd h.1.2 (by assumption)
 refine aV (ι:=Nat) (λi=>[(5,.int .i64 i)]) (λ_=>[]) (λi=>i≤x.rules.length/\(∀j<i,o9 x.sig ps (x.rules.getD j default).r (x.rules.getD j default).l)) (λi=>x.rules.length-i) 0 cvA ⟨by omega,?_⟩ (λi ⟨hi,hj⟩=>?_);rotate_left
 simp only[go_sem];have hR:i<x.rules.length->aPb x.sig (x.rules.getD i default):=λh=>(by assumption:b9 x).2 i h;have h12:=(by assumption:b9 x).1.2;by_cases hil:i<x.rules.length
 ·have hr:=hR hil;repeat' first|exact h.elim|(exfalso;omega)|apply aG|refine aE 0 aVK λK hK=>?_|refine aU aVK (by kernel_rfl) λK hK=>?_|refine aB ?_|refine aQ ?_|refine aC ?_|(refine hK.n0 ?_;clear hK K)|refine aA rfl (λh=>?_) λh=>?_|apply aF|refine hK.c1 rfl rfl rfl (y2 x.sig ps (x.rules.getD i default).r (x.rules.getD i default).l (by assumption:dO x.sig ps) hr.1.2.1 hr.1.1) ?_|with_reducible refine aH ?_|apply tTT
  ·exact λhO=>h (hO.2 i hil)
  ·exact⟨i+1,cvA,⟨by omega,bJ hj h⟩,by omega⟩
 ·repeat' first|exact h.elim|(exfalso;omega)|apply aG|refine aE 0 aVK λK hK=>?_|refine aB ?_|refine aC ?_|(refine hK.n0 ?_;clear hK K)|refine aA rfl (λh=>?_) λh=>?_|refine aJ rfl ?_|apply tTT
  exact⟨⟨by assumption,by assumption⟩,λj hj'=>hj j (by omega)⟩
 ·intro j hj';omega
open Classical in
noncomputable def wL(rs:List Int)(P:List DepPairT)(set:List Int)(ps:List PolyT):Nat->List Int
 | 0=>[]
 | i+1=>if xO rs ps (P.getD (set.getD i default).toNat default) then wL rs P set ps i++[set.getD i default] else wL rs P set ps i
theorem aJl{rs:List Int}{P:List DepPairT}{set:List Int}{ps:List PolyT}{i:Nat}(h:xO rs ps (P.getD (set.getD i default).toNat default)):wL rs P set ps (i+1)=wL rs P set ps i++[set.getD i default]:=if_pos h
theorem aO9{rs:List Int}{P:List DepPairT}{set:List Int}{ps:List PolyT}{i:Nat}(h:¬xO rs ps (P.getD (set.getD i default).toNat default)):wL rs P set ps (i+1)=wL rs P set ps i:=if_neg h
theorem aJi(rs:List Int)(P:List DepPairT)(set:List Int)(ps:List PolyT):∀i,(wL rs P set ps i).length≤i
 | 0=>zQ _
 | i+1=>by
  have ih:=aJi rs P set ps i;by_cases h:xO rs ps (P.getD (set.getD i default).toNat default)
  ·rw[aJl h,zK];simp;omega
  ·rw[aO9 h];omega
def aTC(rs:List Int)(P:List DepPairT)(set:List Int)(ps:List PolyT):Prop:=∀i<set.length,aCS rs ps (P.getD (set.getD i default).toNat default)
open Classical in
noncomputable def wR(rs:List Int)(P:List DepPairT)(set:List Int)(ps:List PolyT):List Int×Bool:=if aTC rs P set ps then (wL rs P set ps set.length,true) else ([],false)
theorem aDQ{rs:List Int}{P:List DepPairT}{set:List Int}{ps:List PolyT}(h:aTC rs P set ps):wR rs P set ps=(wL rs P set ps set.length,true):=if_pos h
theorem aUP{rs:List Int}{P:List DepPairT}{set:List Int}{ps:List PolyT}(h:¬aTC rs P set ps):wR rs P set ps=([],false):=if_neg h
def aTt:List (Nat×List Nat):=[(0,[1,2,3,4]),(1,[1,2,3,4,10]),(2,[1,2,3,4,10,11]),(3,[1,2,3,4,10,11,16]),(5,[1,2,3,4,10,11,30]),(6,[8,9]),(7,[1,2,3,4,10,11,42]),(8,[1,2,3,4,10,11]),(4,[1,2,3,4,10,11]),(9,[8,9])]
attribute [go_sem] aTt Tryz.results95 Tryz.ntmps95
theorem xQ(x:SystemT)(P:List DepPairT)(set:List Int)(ps:List PolyT)(hM:fU x.sig ps)(hP:∀p∈P,kS x.sig p)(hS:gA set P.length)(hl:P.length≤64):FC S 95 [] [] [] [bR x,.sl .any (P.map bN),.sl .any (set.map (.int .i64)),.sl .any (ps.map bP)] (.tup [.sl .any ((wR x.sig P set ps).1.map (.int .i64)),.bool (wR x.sig P set ps).2]) [] []:=by
 have hsl:=l5 hS;have hat:∀i<set.length,(0≤set.getD i default/\set.getD i default<P.length)/\kS x.sig (P.getD (set.getD i default).toNat default):=λi hi=>by
  have h:=(hS i hi).1;exact⟨h,hP _ (aX P _ (by omega))⟩
 refine fcb Tryz.func95 λB=>?_;repeat' first|apply aG|refine aE 0 aTt λK hK=>?_|refine aB ?_|(refine hK.n0 ?_;clear hK K)|apply tTT
 refine eF 10 50000 2 1 rfl (.inr rfl) rfl ?_;simp only[go_sem];refine bG (ι:=Nat) (λi=>[(11,.int .i64 i),(10,.sl (.own 50000 2 1) ((wL x.sig P set ps i).map (.int .i64)))]) (λ_=>[]) (λ_=>[50000]) (λi=>i≤set.length/\∀j<i,aCS x.sig ps (P.getD (set.getD j default).toNat default)) (λi=>set.length-i) 0 cvB ⟨by omega,λj hj=>absurd hj (by omega)⟩ (λi hi=>?_);obtain⟨hi,hj⟩:=hi;simp only[go_sem];have hwl:=aJi x.sig P set ps i;by_cases hil:i<set.length
 ·have hp:=hat i hil;have h1:=hp.1;repeat' first|exact h.elim|(exfalso;omega)|apply aG|refine aE 0 aTt λK hK=>?_|refine aU aTt (by kernel_rfl) λK hK=>?_|refine aB ?_|refine aQ ?_|refine aC ?_|(refine hK.n0 ?_;clear hK K)|refine aA rfl (λh=>?_) λh=>?_|apply aF|refine hK.c1 rfl rfl rfl (aF7 x.sig ps (P.getD (set.getD i default).toNat default) hM hp.2) ?_|refine hK.c1 rfl rfl rfl (aLK x.sig ps (P.getD (set.getD i default).toNat default) hM hp.2) ?_|with_reducible refine aH ?_|apply tTT
  ·rw[aUP λe=>h (e i hil)];exact⟨rfl,rfl⟩
  ·exact⟨i+1,(by(refine aD rfl rfl ?_ ?_ ?_ ?_<;>simp(disch:=apply aR;omega)only[go_sem]<;>(try omega));rw[aJl (by assumption)];exact⟨rfl,by omega⟩),⟨by omega,bJ hj (by assumption)⟩,by omega⟩
  ·exact⟨i+1,(by(refine aD rfl rfl ?_ ?_ ?_ ?_<;>simp(disch:=apply aR;omega)only[go_sem]<;>(try omega));rw[aO9 (by assumption)];exact⟨rfl,by omega⟩),⟨by omega,bJ hj (by assumption)⟩,by omega⟩
 ·repeat' first|exact h.elim|(exfalso;omega)|apply aG|refine aE 0 aTt λK hK=>?_|refine aB ?_|refine aC ?_|(refine hK.n0 ?_;clear hK K)|refine aA rfl (λh=>?_) λh=>?_|refine aJ rfl ?_|apply tTT
  rw[aDQ λj hj'=>hj j (by omega),show i=set.length by omega];exact⟨rfl,rfl⟩
def aFp(x:SystemT)(set:List Int)(ps:List PolyT):Prop:=((gK x/\gA set (bI x).length)/\fU x.sig ps)/\mD x (ps.take x.sig.length)
open Classical in
noncomputable def aJC(x:SystemT)(set:List Int)(ps:List PolyT):List Int×Bool:=if aFp x set ps then wR x.sig (bI x) set ps else ([],false)
theorem aEG{x:SystemT}{set:List Int}{ps:List PolyT}(h:aFp x set ps):aJC x set ps=wR x.sig (bI x) set ps:=if_pos h
theorem aRS{x:SystemT}{set:List Int}{ps:List PolyT}(h:¬aFp x set ps):aJC x set ps=([],false):=if_neg h
def aIq:List (Nat×List Nat):=[(0,[1,2,3]),(1,[1,2,3,8,9]),(2,[1,2,3,8,41]),(3,[6,7]),(4,[6,7])]
attribute [go_sem] aIq Tryz.results52 Tryz.ntmps52
theorem aBt(x:SystemT)(set:List Int)(ps:List PolyT):FC S 52 [] [] [] [bR x,.sl .any (set.map (.int .i64)),.sl .any (ps.map bP)] (.tup [.sl .any ((aJC x set ps).1.map (.int .i64)),.bool (aJC x set ps).2]) [] []:=by
 have cP:=jO x;rcases Classical.em (aFp x set ps) with hW|hW
 ·rw[aEG hW];obtain⟨⟨⟨hx,hS⟩,hM⟩,hA⟩:=hW;rw[fW hx] at cP;have h12:=hx.1.1.2;have hsg:=hx.1.1.1.1;have hm:=hM.1;have h64:(bI x).length≤64:=hx.2;refine fcb Tryz.func52 λB=>?_;repeat' first|exact h.elim|(exact absurd hS (by assumption))|(exact absurd hM (by assumption))|(exact absurd hA (by assumption))|apply aG|refine aE 0 aIq λK hK=>?_|refine aU aIq (by kernel_rfl) λK hK=>?_|refine aB ?_|refine aQ ?_|refine aC ?_|(refine hK.n0 ?_;clear hK K)|refine bH (λh=>?_) λh=>?_|refine aA rfl (λh=>?_) λh=>?_|refine hK.c1 rfl rfl rfl (cP) ?_|refine hK.c1 rfl rfl rfl (jF set _ (by omega)) ?_|refine hK.c1 rfl rfl rfl (jD _ _ (by omega)) ?_|refine hK.c1 rfl rfl rfl (gY x (ps.take x.sig.length)) ?_|refine hK.c1 rfl rfl rfl (xQ x (bI x) set ps hM (mG hx) hS h64) ?_|with_reducible refine aH ?_|apply tTT
 ·rw[aRS hW];rcases Classical.em (gK x) with hx|hx
  ·rw[fW hx] at cP;have h64:(bI x).length≤64:=hx.2;have h12:=hx.1.1.2;have hsg:=hx.1.1.1.1;rcases Classical.em (fU x.sig ps) with hM|hM
   ·have hm:=hM.1;refine fcb Tryz.func52 λB=>?_;repeat' first|exact h.elim|(exact absurd (show aFp x set ps from⟨⟨⟨hx,by assumption⟩,hM⟩,by assumption⟩) hW)|(exact absurd hM (by assumption))|apply aG|refine aE 0 aIq λK hK=>?_|refine aU aIq (by kernel_rfl) λK hK=>?_|refine aB ?_|refine aQ ?_|refine aC ?_|(refine hK.n0 ?_;clear hK K)|refine bH (λh=>?_) λh=>?_|refine aA rfl (λh=>?_) λh=>?_|refine hK.skp rfl rfl ?_|refine hK.c1 rfl rfl rfl (cP) ?_|refine hK.c1 rfl rfl rfl (jF set _ (by omega)) ?_|refine hK.c1 rfl rfl rfl (jD _ _ (by omega)) ?_|refine hK.c1 rfl rfl rfl (gY x (ps.take x.sig.length)) ?_|with_reducible refine aH ?_|apply tTT
    all_goals exact⟨rfl,rfl⟩
   ·skip
    refine fcb Tryz.func52 λB=>?_;repeat' first|exact h.elim|(exact absurd (by assumption) hM)|apply aG|refine aE 0 aIq λK hK=>?_|refine aU aIq (by kernel_rfl) λK hK=>?_|refine aB ?_|refine aQ ?_|refine aC ?_|(refine hK.n0 ?_;clear hK K)|refine bH (λh=>?_) λh=>?_|refine aA rfl (λh=>?_) λh=>?_|refine hK.skp rfl rfl ?_|refine hK.c1 rfl rfl rfl (cP) ?_|refine hK.c1 rfl rfl rfl (jF set _ (by omega)) ?_|refine hK.c1 rfl rfl rfl (jD _ _ (by omega)) ?_|apply tTT
    all_goals exact⟨rfl,rfl⟩
  ·rw[jG hx] at cP;refine fcb Tryz.func52 λB=>?_;repeat' first|exact h.elim|apply aG|refine aE 0 aIq λK hK=>?_|refine aU aIq (by kernel_rfl) λK hK=>?_|refine aB ?_|refine aQ ?_|refine aC ?_|(refine hK.n0 ?_;clear hK K)|refine aA rfl (λh=>?_) λh=>?_|refine hK.skp rfl rfl ?_|refine hK.c1 rfl rfl rfl (cP) ?_|apply tTT
   all_goals exact⟨rfl,rfl⟩
end
end Go.Proofs.YtmfmgoceeedonaaGreat
