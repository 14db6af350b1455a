/-
  A05p, A15p, A06, LTy, A06s, A15s, one behind the other.
-/
import Derived.Test.YtohnfgligddanaaGreatG1
import Derived.Test.YtohnfgligddanaaGreatSet
import Derived.Test.YtohnfgligddanaaGreatG0
import Derived.Test.YtohnfgligddanaaGreatLgK7
import Derived.Test.YtohnfgligddanaaGreatLgK13
import Derived.Test.YtohnfgligddanaaGreatLgK10
import Derived.Test.YtohnfgligddanaaGreatLgK12
section
namespace Go.Proofs.YtohnfgligddanaaGreat
open Go Go.Lg
def SameHd (a b:List Int):Prop:=a.getD 0 default=b.getD 0 default∧0≤a.getD 0 default
instance (a b:List Int):Decidable (SameHd a b):=inferInstanceAs (Decidable (_∧_))
theorem subS_len {rs t:List Int} (h:TermOkP rs t) {a:Nat} (ha:a<t.length):(subS rs t a).length+a=(endS rs t a).toNat:=by
 have:=endS_ge h ha
 unfold subS
 rw[List.length_drop,List.length_take]
 omega
theorem sub_sub {rs t:List Int} (h:TermOkP rs t) {i:Nat} (hi:i<t.length):(subS rs t i).getD 0 default=t.getD i default∧∀j<(arS rs (t.getD i default)).toNat,subS rs (subS rs t i) (nthB rs (subS rs t i) 1 j)=subS rs t (nthB rs t (i+1) j):=by
 obtain⟨p,l,r,e,rfl,h0,hl⟩:=args_cut h hi
 have hu:Fl rs 1 (t.getD p.length default::l):=by
  have:Fl rs (0+1) (t.getD p.length default::l):=.cons h0 (by rw[Nat.zero_add];exact hl)
  rwa [Nat.zero_add] at this
 have es:subS rs t p.length=t.getD p.length default::l:=by
  conv=>lhs;rw[e]
  exact subS_app hu
 rw[es]
 refine⟨rfl,fun j hj=>?_⟩
 generalize hx:t.getD p.length default=x at *
 obtain⟨l1,l2,rfl,c1,c2,c3⟩:=Fl.cut [x] [] j _ l hl (by omega)
 obtain⟨d1,d2,d3,d4,d5,d6⟩:=Fl.cut (p++[x]) r j _ (l1++l2) hl (by omega)
 obtain⟨rfl,rfl⟩:=c1.uniq d4 d3
 obtain⟨u,r2,rfl,u1,_⟩:=Fl.split l2 1 (_-(j+1)) (by rw[show 1+((arS rs x).toNat-(j+1))=(arS rs x).toNat-j by omega];exact c2)
 simp only[List.append_nil,List.length_append,List.length_cons,List.length_nil] at c3 d6
 have e1:x::(l1++(u++r2))=([x]++l1)++(u++r2):=by simp
 have e2:t=(p++[x]++l1)++(u++(r2++r)):=by rw[e];simp
 have c3':nthB rs (x::(l1++(u++r2))) 1 j=([x]++l1).length:=by
  have:[x]++(l1++(u++r2))=x::(l1++(u++r2)):=rfl
  rw[this] at c3
  simp at c3 ⊢;omega
 have d6':nthB rs t (p.length+1) j=(p++[x]++l1).length:=by
  have:p++[x]++(l1++(u++r2)++r)=t:=by rw[e];simp
  rw[this] at d6
  simp at d6 ⊢;omega
 rw[c3',d6']
 conv=>lhs;rw[e1]
 conv=>rhs;rw[e2]
 rw[subS_app u1,subS_app u1]
end Go.Proofs.YtohnfgligddanaaGreat
end
section
namespace Go.Proofs.YtohnfgligddanaaGreat
open Go Go.Lg
set_option linter.unusedSimpArgs false
set_option linter.unusedVariables false
def argU (rs t:List Int) (j:Nat):List Int:=subS rs t (nthB rs t 1 j)
theorem argU_sub {rs t:List Int} (h:TermOkP rs t) {a:Nat} (ha:a<t.length) {j:Nat} (hj:j<(arS rs (t.getD a default)).toNat):argU rs (subS rs t a) j=subS rs t (nthB rs t (a+1) j):=(sub_sub h ha).2 j hj
theorem subS_zeroU {rs t:List Int} (h:TermOkP rs t):subS rs t 0=t:=by
 have h0:=h.2.2
 unfold subS
 rw[List.drop_zero,h0]
 simp
theorem argU_ok {rs t:List Int} (h:TermOkP rs t) {j:Nat} (hj:j<(arS rs (t.getD 0 default)).toNat):TermOkP rs (argU rs t j)∧(argU rs t j).length<t.length:=by
 have h1:=nthB_lt h (show 0<t.length from h.2.1.1) hj
 have h2:=subS_ok h h1.2
 refine⟨h2,?_⟩
 have h3:=subS_len h h1.2
 have h4:=endS_ge h h1.2
 unfold argU
 simp only[Nat.zero_add] at *
 omega
def partsU (rs t:List Int) (j:Nat):List (List Int):=(List.range j).map (argU rs t)
theorem partsU_len (rs t:List Int) (j:Nat):(partsU rs t j).length=j:=by simp[partsU]
theorem partsU_succ (rs t:List Int) (j:Nat):partsU rs t (j+1)=partsU rs t j++[argU rs t j]:=by simp[partsU,List.range_succ]
theorem partsU_get (rs t:List Int) {j k:Nat} (h:j<k):(partsU rs t k).getD j default=argU rs t j:=by simp[partsU,List.getD,h]
def MF:Int:=1000000000000
def padC (cs:List Int) (n:Nat):List Int:=cs++List.replicate (n-cs.length) 0
def addJ (cs ds:List Int) (c:Int):Nat→List Int
 | 0=>padC cs ds.length
 | j+1=>(addJ cs ds c j).set j ((addJ cs ds c j).getD j default+c*ds.getD j default)
def zeroF:PolyT:=⟨0,[]⟩
def addF (o a:PolyT) (c:Int):PolyT:=⟨o.const+c*a.const,addJ o.coef a.coef c a.coef.length⟩
def varF (n:Int):PolyT:=⟨0,(List.replicate (-n).toNat 0).set (-1-n).toNat 1⟩
def okF (o:PolyT):Prop:=(∀x∈o.coef,x≤MF)∧o.const≤MF
def sumF (F:Nat→PolyT×Bool) (p:PolyT):Nat→PolyT
 | 0=>⟨p.const,[]⟩
 | k+1=>addF (sumF F p k) (F k).1 (p.coef.getD k default)
open Classical in
noncomputable def appF1 (F:Nat→PolyT×Bool) (p:PolyT) (n:Nat):PolyT×Bool:=if (∀j<n,(F j).2=true)∧okF (sumF F p n) then (sumF F p n,true) else (zeroF,false)
noncomputable def formM (rs:List Int) (ps:List PolyT):Nat→List Int→PolyT×Bool
 | 0,_=>(zeroF,false)
 | f+1,t=>if t.getD 0 default<0 then (varF (t.getD 0 default),true) else appF1 (fun j=>formM rs ps f (argU rs t j)) (ps.getD (t.getD 0 default).toNat default) (arS rs (t.getD 0 default)).toNat
theorem appF1_yes {F:Nat→PolyT×Bool} {p:PolyT} {n:Nat} (h:(∀j<n,(F j).2=true)∧okF (sumF F p n)):appF1 F p n=(sumF F p n,true):=if_pos h
theorem appF1_no {F:Nat→PolyT×Bool} {p:PolyT} {n:Nat} (h:¬((∀j<n,(F j).2=true)∧okF (sumF F p n))):appF1 F p n=(zeroF,false):=if_neg h
theorem formM_var {rs:List Int} {ps:List PolyT} {f:Nat} {t:List Int} (h:t.getD 0 default<0):formM rs ps (f+1) t=(varF (t.getD 0 default),true):=if_pos h
theorem formM_app {rs:List Int} {ps:List PolyT} {f:Nat} {t:List Int} (h:¬t.getD 0 default<0):formM rs ps (f+1) t=appF1 (fun j=>formM rs ps f (argU rs t j)) (ps.getD (t.getD 0 default).toNat default) (arS rs (t.getD 0 default)).toNat:=if_neg h
theorem padC_len (cs:List Int) (n:Nat):(padC cs n).length=max cs.length n:=by
 unfold padC;rw[List.length_append,List.length_replicate];omega
theorem addJ_len (cs ds:List Int) (c:Int):∀j,(addJ cs ds c j).length=max cs.length ds.length
 | 0=>padC_len _ _
 | j+1=>by simp only[addJ,List.length_set,addJ_len cs ds c j]
theorem padC_get (cs:List Int) (n i:Nat):(padC cs n).getD i default=cs.getD i default:=by
 unfold padC
 simp only[List.getD_eq_getElem?_getD]
 rcases Nat.lt_or_ge i cs.length with h|h
 ·rw[List.getElem?_append_left h]
 ·rw[List.getElem?_append_right h,List.getElem?_eq_none h,List.getElem?_replicate]
  split<;>rfl
theorem getD_set_if (l:List Int) (j i:Nat) (x:Int):(l.set j x).getD i default=if j=i∧j<l.length then x else l.getD i default:=by
 simp only[List.getD_eq_getElem?_getD,List.getElem?_set]
 by_cases h:j=i
 ·subst h
  by_cases h2:j<l.length
  ·simp[h2]
  ·simp[h2,List.getElem?_eq_none (Nat.not_lt.1 h2)]
 ·simp[h]
theorem addJ_get (cs ds:List Int) (c:Int):∀j,j≤ds.length→∀i,(addJ cs ds c j).getD i default=cs.getD i default+if i<j then c*ds.getD i default else 0
 | 0,_,i=>by rw[addJ,padC_get,if_neg (Nat.not_lt_zero _),Int.add_zero]
 | j+1,hj,i=>by
  have ih:=addJ_get cs ds c j (by omega)
  simp only[addJ,getD_set_if,addJ_len,ih]
  by_cases h:j=i
  ·subst h
   rw[if_pos ⟨rfl,by omega⟩,if_neg (by omega),if_pos (by omega)]
   omega
  ·rw[if_neg (fun e=>h e.1)]
   by_cases h2:i<j
   ·rw[if_pos h2,if_pos (by omega)]
   ·rw[if_neg h2,if_neg (by omega)]
theorem addJ_past (cs ds:List Int) (c:Int) {j:Nat} (hj:ds.length≤j):ds.getD j default=0:=by
 rw[List.getD_eq_getElem?_getD,List.getElem?_eq_none hj];rfl
def specJ (cs ds:List Int) (c:Int) (i:Nat):List Int:=(addJ cs ds c i).take (max cs.length i)
def specL (cs ds:List Int) (c:Int) (i:Nat):List Int:=(addJ cs ds c i).take (max cs.length (i+1))
theorem specJ_len (cs ds:List Int) (c:Int) {i:Nat} (h:i≤ds.length):(specJ cs ds c i).length=max cs.length i:=by unfold specJ;rw[List.length_take,addJ_len];omega
theorem specL_len (cs ds:List Int) (c:Int) {i:Nat} (h:i<ds.length):(specL cs ds c i).length=max cs.length (i+1):=by unfold specL;rw[List.length_take,addJ_len];omega
theorem specJ_zero (cs ds:List Int) (c:Int):specJ cs ds c 0=cs:=by
 unfold specJ addJ padC
 rw[show max cs.length 0=cs.length by omega,List.take_left]
theorem specJ_pad (cs ds:List Int) (c:Int) {i:Nat} (h:i<ds.length) (hc:cs.length≤i):specJ cs ds c i++[0]=specL cs ds c i:=by
 unfold specJ specL
 rw[show max cs.length i=i by omega,show max cs.length (i+1)=i+1 by omega,List.take_succ_eq_append_getElem (by rw[addJ_len];omega)]
 congr 2
 have h1:=addJ_get cs ds c i (by omega) i
 rw[if_neg (by omega),List.getD_eq_getElem?_getD,List.getElem?_eq_getElem (by rw[addJ_len];omega),Option.getD_some,List.getD_eq_getElem?_getD,List.getElem?_eq_none hc] at h1
 rw[h1];rfl
theorem specJ_stay (cs ds:List Int) (c:Int) {i:Nat} (hc:i<cs.length):specJ cs ds c i=specL cs ds c i:=by
 unfold specJ specL
 rw[show max cs.length i=max cs.length (i+1) by omega]
theorem specL_get (cs ds:List Int) (c:Int) (i:Nat):(specL cs ds c i).getD i default=(addJ cs ds c i).getD i default:=by
 unfold specL
 rw[List.getD_eq_getElem?_getD,List.getD_eq_getElem?_getD,List.getElem?_take,if_pos (by omega)]
theorem specL_set (cs ds:List Int) (c:Int) (i:Nat):(specL cs ds c i).set i ((specL cs ds c i).getD i default+c*ds.getD i default)=specJ cs ds c (i+1):=by
 rw[specL_get]
 unfold specL specJ
 rw[addJ,List.take_set]
theorem specJ_end (cs ds:List Int) (c:Int):specJ cs ds c ds.length=addJ cs ds c ds.length:=by
 unfold specJ
 rw[List.take_of_length_le (by rw[addJ_len];omega)]
open Classical in
noncomputable def addR (a b:PolyT) (c:Int):PolyT×Bool:=if ∀x∈(addF a b c).coef,x≤MF then (addF a b c,tst ((addF a b c).const≤MF)) else (zeroF,false)
theorem addR_yes {a b:PolyT} {c:Int} (h:∀x∈(addF a b c).coef,x≤MF):addR a b c=(addF a b c,tst ((addF a b c).const≤MF)):=if_pos h
theorem addR_no {a b:PolyT} {c:Int} (h:¬ ∀x∈(addF a b c).coef,x≤MF):addR a b c=(zeroF,false):=if_neg h
theorem addR_ok {a b:PolyT} {c:Int}:(addR a b c).2=true↔okF (addF a b c):=by
 by_cases h:∀x∈(addF a b c).coef,x≤MF
 ·rw[addR_yes h]
  exact⟨fun e=>⟨h,tst_iff.1 e⟩,fun e=>tst_true e.2⟩
 ·rw[addR_no h]
  exact⟨fun e=>absurd e (by simp),fun e=>absurd e.1 h⟩
def GoodB (B:Int) (o:PolyT):Prop:=(0≤o.const∧o.const≤B)∧(∀x∈o.coef,0≤x∧x≤B)∧o.coef.length≤24
def PolyOkP (n:Int) (p:PolyT):Prop:=((p.coef.length:Int)=n∧0≤p.const∧p.const≤9)∧∀x∈p.coef,0≤x∧x≤9
def PolysOkP (rs:List Int) (ps:List PolyT):Prop:=(SigOkP rs∧ps.length=rs.length)∧∀f<ps.length,PolyOkP (rs.getD f default) (ps.getD f default)
theorem mem_getD {xs:List Int} {P:Int→Prop} (h0:P 0) (h:∀x∈xs,P x) (i:Nat):P (xs.getD i default):=by
 rcases Nat.lt_or_ge i xs.length with h1|h1
 ·exact h _ (getD_mem xs i h1)
 ·rw[List.getD_eq_getElem?_getD,List.getElem?_eq_none h1];exact h0
theorem all_getD {xs:List Int} {P:Int→Prop} (h:∀i<xs.length,P (xs.getD i default)):∀x∈xs,P x:=fun x hx=>by
 obtain⟨j,hj,rfl⟩:=List.getElem_of_mem hx
 have:=h j hj
 rwa [List.getD_eq_getElem?_getD,List.getElem?_eq_getElem hj] at this
theorem good_add {B B':Int} {o a:PolyT} {c:Int} (ho:GoodB B o) (ha:GoodB B' a) (hc:0≤c∧c≤9) (hB:0≤B) (hB':0≤B'):GoodB (B+9*B') (addF o a c):=by
 have hmul:∀x,0≤x∧x≤B'→0≤c*x∧c*x≤9*B':=fun x hx=>⟨Int.mul_nonneg hc.1 hx.1,Int.mul_le_mul hc.2 hx.2 hx.1 (by omega)⟩
 refine⟨?_,all_getD fun i _=>?_,?_⟩
 ·have:=hmul _ ha.1;have:=ho.1
  show 0≤o.const+c*a.const∧o.const+c*a.const≤B+9*B'
  omega
 ·show 0≤(addJ o.coef a.coef c a.coef.length).getD i default∧(addJ o.coef a.coef c a.coef.length).getD i default≤B+9*B'
  rw[addJ_get _ _ _ _ (Nat.le_refl _)]
  have h1:=mem_getD (P:=fun x=>0≤x∧x≤B) ⟨Int.le_refl _,hB⟩ ho.2.1 i
  have h2:=hmul _ (mem_getD (P:=fun x=>0≤x∧x≤B') ⟨Int.le_refl _,hB'⟩ ha.2.1 i)
  split<;>omega
 ·show (addJ o.coef a.coef c a.coef.length).length≤24
  rw[addJ_len]
  have:=ho.2.2;have:=ha.2.2;omega
theorem good_le {B B':Int} {o:PolyT} (h:GoodB B o) (hB:B≤B'):GoodB B' o:=⟨⟨h.1.1,by have:=h.1.2;omega⟩,fun x hx=>⟨(h.2.1 x hx).1,by have:=(h.2.1 x hx).2;omega⟩,h.2.2⟩
theorem coef_get {n:Int} {p:PolyT} (h:PolyOkP n p) (k:Nat):0≤p.coef.getD k default∧p.coef.getD k default≤9:=mem_getD (P:=fun x=>0≤x∧x≤9) ⟨Int.le_refl _,by decide⟩ h.2 k
theorem good_sum {F:Nat→PolyT×Bool} {p:PolyT} {m:Int} (hp:PolyOkP m p):∀n,(∀j<n,GoodB MF (F j).1)→GoodB (9+9*MF*n) (sumF F p n)
 | 0,_=>⟨⟨hp.1.2.1,by show p.const≤9+9*MF*((0:Nat):Int);have:=hp.1.2.2;simp only[MF];omega⟩,(fun x hx=>by cases hx),by simp[sumF]⟩
 | n+1,h=>by
  have ih:=good_sum hp n fun j hj=>h j (by omega)
  have h1:=good_add ih (h n (by omega)) (coef_get hp n) (by simp only[MF];omega) (by decide)
  refine good_le h1 ?_
  simp only[MF];omega
theorem ok_less {B B':Int} {o a:PolyT} {c:Int} (ho:GoodB B o) (ha:GoodB B' a) (hB':0≤B') (hc:0≤c) (h:okF (addF o a c)):okF o:=by
 have hmul:∀x,0≤x∧x≤B'→0≤c*x:=fun x hx=>Int.mul_nonneg hc hx.1
 refine⟨all_getD fun i hi=>?_,?_⟩
 ·have h1:(addJ o.coef a.coef c a.coef.length).getD i default≤MF:=h.1 _ (getD_mem _ i (by show i<(addJ o.coef a.coef c a.coef.length).length;rw[addJ_len];omega))
  rw[addJ_get _ _ _ _ (Nat.le_refl _)] at h1
  have h2:=hmul _ (mem_getD (P:=fun x=>0≤x∧x≤B') ⟨Int.le_refl _,hB'⟩ ha.2.1 i)
  split at h1<;>omega
 ·have h1:o.const+c*a.const≤MF:=h.2
  have:=hmul _ ha.1
  omega
theorem ok_sum {F:Nat→PolyT×Bool} {p:PolyT} {m:Int} (hp:PolyOkP m p) {n:Nat} (h:∀j<n,GoodB MF (F j).1) (hok:okF (sumF F p n)):∀k≤n,okF (sumF F p k):=by
 induction n with
 | zero=>intro k hk;rwa [show k=0 by omega]
 | succ n ih =>
  intro k hk
  rcases Nat.lt_or_ge k (n+1) with h1|h1
  ·exact ih (fun j hj=>h j (by omega)) (ok_less (good_sum hp n fun j hj=>h j (by omega)) (h n (by omega)) (by decide) (coef_get hp n).1 hok) k (by omega)
  ·rwa [show k=n+1 by omega]
theorem okF_zero {p:PolyT} {m:Int} (hp:PolyOkP m p):okF ⟨p.const,[]⟩:=⟨(fun x hx=>by cases hx),by show p.const≤MF;have:=hp.1.2.2;simp only[MF];omega⟩
theorem good_var {n:Int} (h0:n<0) (h1:-24≤n):GoodB MF (varF n):=by
 refine⟨⟨Int.le_refl _,by show (0:Int)≤MF;decide⟩,fun x hx=>?_,?_⟩
 ·rcases List.mem_or_eq_of_mem_set hx with h|rfl
  ·rw[(List.mem_replicate.1 h).2];decide
  ·decide
 ·show ((List.replicate (-n).toNat (0:Int)).set (-1-n).toNat 1).length≤24
  rw[List.length_set,List.length_replicate];omega
theorem good_zero:GoodB MF zeroF:=⟨⟨Int.le_refl _,by show (0:Int)≤MF;decide⟩,(fun x hx=>by cases hx),by simp[zeroF]⟩
theorem good_app {F:Nat→PolyT×Bool} {p:PolyT} {m:Int} (hp:PolyOkP m p) {n:Nat} (h:∀j<n,GoodB MF (F j).1):GoodB MF (appF1 F p n).1:=by
 rcases Classical.em ((∀j<n,(F j).2=true)∧okF (sumF F p n)) with h1|h1
 ·rw[appF1_yes h1]
  have h2:=good_sum hp n h
  exact⟨⟨h2.1.1,h1.2.2⟩,fun x hx=>⟨(h2.2.1 x hx).1,h1.2.1 x hx⟩,h2.2.2⟩
 ·rw[appF1_no h1];exact good_zero
theorem poly_at {rs:List Int} {ps:List PolyT} (h:PolysOkP rs ps) {n:Int} (h0:0≤n) (h1:n<rs.length):PolyOkP (arS rs n) (ps.getD n.toNat default):=by
 rw[arS_sym (by omega)]
 exact h.2 n.toNat (by rw[h.1.2];omega)
theorem form_good {rs:List Int} {ps:List PolyT} (hP:PolysOkP rs ps):∀f t,TermOkP rs t→GoodB MF (formM rs ps f t).1
 | 0,_,_=>good_zero
 | f+1,t,ht=>by
  have hl:=ht.low (show 0<t.length from ht.2.1.1)
  by_cases h:t.getD 0 default<0
  ·rw[formM_var h];exact good_var h hl.1.1
  ·rw[formM_app h]
   exact good_app (poly_at hP (by omega) hl.1.2) fun j hj=>form_good hP f _ (argU_ok ht hj).1
def MostP (a b:PolyT):Prop:=∀i<a.coef.length,a.coef.getD i default≤b.coef.getD i default
end Go.Proofs.YtohnfgligddanaaGreat
end
section
namespace Go.Proofs.YtohnfgligddanaaGreat
open Go Go.Lg
set_option linter.unusedSimpArgs false
set_option maxHeartbeats 4000000
attribute [local irreducible] SW runL runQ runG runQG FC
def RuleOkP (rs l r:List Int):Prop:=(TermOkP rs l∧TermOkP rs r∧0≤l.getD 0 default)∧∀j<r.length,r.getD j default<0→r.getD j default∈l
def kp60:List (Nat×List Nat):=[(0,[2,3]),(1,[3,24]),(2,[4]),(3,[3,5]),(4,[3,5,29]),(6,[3,5,48]),(7,[4]),(5,[3,5]),(8,[4])]
attribute [go_sem] kp60
theorem specRuleOk_fc (tk tk1 tk2:Tk) (rs l r:List Int):FC S 60 [] [] [] [.agg [.sl tk (rs.map (.int .i64))],.agg [.sl tk1 (l.map (.int .i64)),.sl tk2 (r.map (.int .i64))]] (.bool (tst (RuleOkP rs l r))) [] []:=by
 have hl1:TermOkP rs l→1≤l.length:=fun h=>h.2.1.1
 unfold RuleOkP
 refine fc_body Tryz.func60 rfl (by kernel_rfl) (by simp[Tryz.f60]) fun B=>?_
 simp only[Tryz.ntmps60,enumD,lst0,Nat.reduceAdd]
 refine sw_bnd_agg 0 0 rfl rfl fun hb0_0=>?_
 simp only[D.bnd,List.length_map] at hb0_0
 refine sw_bnd_agg 1 0 rfl rfl fun hb1_0=>?_
 simp only[D.bnd,List.length_map] at hb1_0
 refine sw_bnd_agg 1 1 rfl rfl fun hb1_1=>?_
 simp only[D.bnd,List.length_map] at hb1_1
 repeat' first|refine sw_seq ?_|refine sw_go 0 kp60 fun K hK=>?_|((first|refine runL_go ?_|refine runQ_go ?_|refine sw_ret (ret0 ?_)|refine sw_ret ?_);simp (disch:=(refine Om.mk ?_;omega)) only[go_sem,Tryz.results60])|(refine hK.nil ?_;clear hK K;simp only[go_sem])|((first|refine runG_fork rfl rfl rfl rfl rfl ?_ ?_|refine runQG_fork rfl rfl rfl rfl rfl ?_ ?_|refine sw_cond rfl ?_ ?_)<;>intro h<;>try simp (disch:=(refine Om.mk ?_;omega)) only[go_sem] at h)|refine hK.skp rfl rfl ?_|refine hK.c0 rfl rfl rfl (specTermOk_fc _ _ _ _) rfl rfl rfl ?_|fail
 ·rintro⟨⟨h1,_⟩,_⟩;contradiction
 ·rintro⟨⟨_,h1,_⟩,_⟩;contradiction
 have hl2:=hl1 (by assumption)
 simp (disch:=(refine Om.mk ?_;omega)) only[go_sem]
 repeat' first|refine sw_seq ?_|refine sw_block ?_|refine sw_skip ?_|refine sw_go 0 kp60 fun K hK=>?_|((first|refine runL_go ?_|refine runQ_go ?_|refine sw_ret (ret0 ?_)|refine sw_ret ?_);simp (disch:=(refine Om.mk ?_;omega)) only[go_sem,Tryz.results60])|(refine hK.nil ?_;clear hK K;simp only[go_sem])|((first|refine runG_fork rfl rfl rfl rfl rfl ?_ ?_|refine runQG_fork rfl rfl rfl rfl rfl ?_ ?_|refine sw_cond rfl ?_ ?_)<;>intro h<;>try simp (disch:=(refine Om.mk ?_;omega)) only[go_sem] at h)|(with_reducible refine And.intro (by first|omega|(simp only[lens];omega)) ?_)|fail
 ·rintro⟨⟨_,_,h1⟩,_⟩;omega
 refine sw_loopU (ι:=Nat) (fun i=>[(5,.int .i64 i)]) (fun _=>[]) (fun i=>i≤r.length∧(∀j<i,r.getD j default<0→r.getD j default∈l)) (fun i=>r.length-i) 0 (by(refine covers_mk0 rfl rfl ?_ ?_ ?_ ?_<;>simp (disch:=(refine Om.mk ?_;omega)) only[go_sem]<;>(try omega))) ⟨by omega,?_⟩ (fun i ⟨hi,hj⟩=>?_)
 rotate_left
 simp only[go_sem]
 repeat' first|refine sw_seq ?_|refine sw_block ?_|refine sw_inBlock ?_|refine sw_skip ?_|refine sw_go 0 kp60 fun K hK=>?_|refine sw_goD kp60 (by kernel_rfl) fun K hK=>?_|((first|refine runL_go ?_|refine runQ_go ?_|refine sw_ret (ret0 ?_)|refine sw_ret ?_);simp (disch:=(refine Om.mk ?_;omega)) only[go_sem,Tryz.results60])|(refine hK.nil ?_;clear hK K;simp only[go_sem])|((first|refine runG_fork rfl rfl rfl rfl rfl ?_ ?_|refine runQG_fork rfl rfl rfl rfl rfl ?_ ?_|refine sw_cond rfl ?_ ?_)<;>intro h<;>try simp (disch:=(refine Om.mk ?_;omega)) only[go_sem] at h)|refine hK.skp rfl rfl ?_|refine sw_exit rfl ?_|refine sw_loopEnd ?_|refine hK.c0 rfl rfl rfl (l1Has_fc _ _ _) rfl rfl rfl ?_|(with_reducible refine And.intro (by first|omega|(simp only[lens];omega)) ?_)|fail
 ·rintro⟨_,h2⟩;exact absurd (h2 i (by omega) (by assumption)) h
 ·exact⟨i+1,by(refine covers_mk0 rfl rfl ?_ ?_ ?_ ?_<;>simp (disch:=(refine Om.mk ?_;omega)) only[go_sem]<;>(try omega)),⟨by omega,upto_succ hj fun _=>h⟩,by omega⟩
 ·exact⟨i+1,by(refine covers_mk0 rfl rfl ?_ ?_ ?_ ?_<;>simp (disch:=(refine Om.mk ?_;omega)) only[go_sem]<;>(try omega)),⟨by omega,upto_succ hj fun h0=>by omega⟩,by omega⟩
 ·exact⟨⟨by assumption,by assumption,by omega⟩,fun j hj'=>hj j (by omega)⟩
 ·intro j hj';omega
def kp77:List (Nat×List Nat):=[(0,[2,3]),(1,[3,25]),(2,[4]),(3,[3,27,28,29]),(4,[3,27,28,29,30]),(5,[3,6,27,28,29]),(6,[3,27,28,29,41]),(7,[4]),(8,[3,27,28,29]),(9,[4])]
attribute [go_sem] kp77
theorem implRuleOk_fc (tk tk1 tk2:Tk) (rs l r:List Int):FC S 77 [] [] [] [.agg [.sl tk (rs.map (.int .i64))],.agg [.sl tk1 (l.map (.int .i64)),.sl tk2 (r.map (.int .i64))]] (.bool (tst (RuleOkP rs l r))) [] []:=by
 have hl1:TermOkP rs l→1≤l.length:=fun h=>h.2.1.1
 unfold RuleOkP
 refine fc_body Tryz.func77 rfl (by kernel_rfl) (by simp[Tryz.f77]) fun B=>?_
 simp only[Tryz.ntmps77,enumD,lst0,Nat.reduceAdd]
 refine sw_bnd_agg 0 0 rfl rfl fun hb0_0=>?_
 simp only[D.bnd,List.length_map] at hb0_0
 refine sw_bnd_agg 1 0 rfl rfl fun hb1_0=>?_
 simp only[D.bnd,List.length_map] at hb1_0
 refine sw_bnd_agg 1 1 rfl rfl fun hb1_1=>?_
 simp only[D.bnd,List.length_map] at hb1_1
 repeat' first|refine sw_seq ?_|refine sw_go 0 kp77 fun K hK=>?_|((first|refine runL_go ?_|refine sw_ret (ret0 ?_)|refine sw_ret ?_);simp (disch:=(refine Om.mk ?_;omega)) only[go_sem,Tryz.results77])|(refine hK.nil ?_;clear hK K;simp only[go_sem])|((first|refine runG_fork rfl rfl rfl rfl rfl ?_ ?_|refine sw_cond rfl ?_ ?_)<;>intro h<;>try simp (disch:=(refine Om.mk ?_;omega)) only[go_sem] at h)|refine hK.skp rfl rfl ?_|refine hK.c0 rfl rfl rfl (implTermOk_fc _ _ _ _) rfl rfl rfl ?_|fail
 ·rintro⟨⟨h1,_⟩,_⟩;contradiction
 ·rintro⟨⟨_,h1,_⟩,_⟩;contradiction
 have hl2:=hl1 (by assumption)
 simp (disch:=(refine Om.mk ?_;omega)) only[go_sem]
 repeat' first|refine sw_seq ?_|refine sw_block ?_|refine sw_skip ?_|refine sw_go 0 kp77 fun K hK=>?_|((first|refine runL_go ?_|refine sw_ret (ret0 ?_)|refine sw_ret ?_);simp (disch:=(refine Om.mk ?_;omega)) only[go_sem,Tryz.results77])|(refine hK.nil ?_;clear hK K;simp only[go_sem])|((first|refine runG_fork rfl rfl rfl rfl rfl ?_ ?_|refine sw_cond rfl ?_ ?_)<;>intro h<;>try simp (disch:=(refine Om.mk ?_;omega)) only[go_sem] at h)|(with_reducible refine And.intro (by first|omega|(simp only[lens];omega)) ?_)|fail
 ·rintro⟨⟨_,_,h1⟩,_⟩;omega
 refine sw_loopU (ι:=Nat) (fun i=>[(29,.int .i64 i)]) (fun _=>[]) (fun i=>i≤r.length∧(∀j<i,r.getD j default<0→r.getD j default∈l)) (fun i=>r.length-i) 0 (by(refine covers_mk0 rfl rfl ?_ ?_ ?_ ?_<;>simp (disch:=(refine Om.mk ?_;omega)) only[go_sem]<;>(try omega))) ⟨by omega,?_⟩ (fun i ⟨hi,hj⟩=>?_)
 rotate_left
 simp only[go_sem]
 repeat' first|refine sw_seq ?_|refine sw_block ?_|refine sw_inBlock ?_|refine sw_skip ?_|refine sw_go 0 kp77 fun K hK=>?_|((first|refine runL_go ?_|refine sw_ret (ret0 ?_)|refine sw_ret ?_);simp (disch:=(refine Om.mk ?_;omega)) only[go_sem,Tryz.results77])|(refine hK.nil ?_;clear hK K;simp only[go_sem])|((first|refine runG_fork rfl rfl rfl rfl rfl ?_ ?_|refine sw_cond rfl ?_ ?_)<;>intro h<;>try simp (disch:=(refine Om.mk ?_;omega)) only[go_sem] at h)|refine hK.skp rfl rfl ?_|refine sw_exit rfl ?_|refine sw_loopEnd ?_|refine hK.c0 rfl rfl rfl (contains_fc _ _ _) rfl rfl rfl ?_|(with_reducible refine And.intro (by first|omega|(simp only[lens];omega)) ?_)|fail
 ·rintro⟨_,h2⟩;exact absurd (h2 i (by omega) (by assumption)) h
 ·exact⟨i+1,by(refine covers_mk0 rfl rfl ?_ ?_ ?_ ?_<;>simp (disch:=(refine Om.mk ?_;omega)) only[go_sem]<;>(try omega)),⟨by omega,upto_succ hj fun _=>h⟩,by omega⟩
 ·exact⟨i+1,by(refine covers_mk0 rfl rfl ?_ ?_ ?_ ?_<;>simp (disch:=(refine Om.mk ?_;omega)) only[go_sem]<;>(try omega)),⟨by omega,upto_succ hj fun h0=>by omega⟩,by omega⟩
 ·exact⟨⟨by assumption,by assumption,by omega⟩,fun j hj'=>hj j (by omega)⟩
 ·intro j hj';omega
end Go.Proofs.YtohnfgligddanaaGreat
end
section
namespace Go.Proofs.YtohnfgligddanaaGreat
open Go Go.Lg
set_option linter.unusedSimpArgs false
set_option linter.unusedVariables false
set_option maxHeartbeats 4000000
attribute [local irreducible] SW runL runQ runG runQG FC Ret Ret1
def Int64SL (p:List Nat) (xs:List Int):D:=.sl (.lab p) (xs.map (.int .i64))
attribute [go_sem] Int64SL
theorem le_Int64SL (p:List Nat) (xs:List Int):D.le (Int64SL p xs) (.sl .any (xs.map (.int .i64))):=.any
end Go.Proofs.YtohnfgligddanaaGreat
end
section
namespace Go.Proofs.YtohnfgligddanaaGreat
open Go Go.Lg
set_option linter.unusedSimpArgs false
set_option linter.unusedVariables false
set_option maxHeartbeats 4000000
attribute [local irreducible] SW runL runQ runG runQG FC
attribute [go_sem] upR_length mapR_length mapR_getDm
def RuleP (rs:List Int) (r:RuleT):Prop:=RuleOkP rs r.l r.r
def SystemOkP (x:SystemT):Prop:=(SigOkP x.sig∧x.rules.length≤12)∧∀j<x.rules.length,RuleP x.sig (x.rules.getD j default)
theorem SystemOkP.len {x:SystemT} (h:SystemOkP x) (j:Nat) (hj:j<x.rules.length):(1≤(x.rules.getD j default).l.length∧(x.rules.getD j default).l.length≤60)∧(1≤(x.rules.getD j default).r.length∧(x.rules.getD j default).r.length≤60) :=
 ⟨(h.2 j hj).1.1.2.1,(h.2 j hj).1.2.1.2.1⟩
def kp33:List (Nat×List Nat):=[(0,[1]),(1,[1,13]),(2,[2]),(3,[1,3]),(4,[1,3,18]),(6,[1,3,29]),(7,[2]),(5,[1,3]),(8,[2])]
attribute [go_sem] kp33
theorem specSystemOk_fc (x:SystemT):FC S 33 [] [] [] [SystemD x] (.bool (tst (SystemOkP x))) [] []:=by
 refine fc_body Tryz.func33 rfl (by kernel_rfl) (by simp[Tryz.f33]) fun B=>?_
 simp only[Tryz.ntmps33,enumD,lst0,Nat.reduceAdd]
 refine sw_bnd_agg 0 1 rfl rfl fun hb0_1=>?_
 simp only[D.bnd,List.length_map] at hb0_1
 repeat' first|refine sw_seq ?_|refine sw_block ?_|refine sw_skip ?_|refine sw_go 0 kp33 fun K hK=>?_|((first|refine runL_go ?_|refine runQ_go ?_|refine sw_ret (ret0 ?_)|refine sw_ret ?_);simp (disch:=(refine Om.mk ?_;omega)) only[go_sem,Tryz.results33])|(refine hK.nil ?_;clear hK K;simp only[go_sem])|((first|refine runG_fork rfl rfl rfl rfl rfl ?_ ?_|refine runQG_fork rfl rfl rfl rfl rfl ?_ ?_|refine sw_cond rfl ?_ ?_)<;>intro h<;>try simp (disch:=(refine Om.mk ?_;omega)) only[go_sem] at h)|refine hK.c0 rfl rfl rfl (specSigOk_fc _ _) rfl rfl rfl ?_|fail
 ·rintro⟨⟨h1,_⟩,_⟩;contradiction
 ·rintro⟨⟨_,h1⟩,_⟩;omega
 refine sw_loopU (ι:=Nat) (fun i=>[(3,.int .i64 i)]) (fun _=>[]) (fun i=>i≤x.rules.length∧(∀j<i,RuleP x.sig (x.rules.getD j default))) (fun i=>x.rules.length-i) 0 (by(refine covers_mk0 rfl rfl ?_ ?_ ?_ ?_<;>simp (disch:=(refine Om.mk ?_;omega)) only[go_sem]<;>(try omega))) ⟨by omega,?_⟩ (fun i ⟨hi,hj⟩=>?_)
 rotate_left
 simp only[go_sem]
 repeat' first|refine sw_seq ?_|refine sw_block ?_|refine sw_inBlock ?_|refine sw_skip ?_|refine sw_go 0 kp33 fun K hK=>?_|refine sw_goD kp33 (by kernel_rfl) fun K hK=>?_|((first|refine runL_go ?_|refine runQ_go ?_|refine sw_ret (ret0 ?_)|refine sw_ret ?_);simp (disch:=(refine Om.mk ?_;omega)) only[go_sem,Tryz.results33])|(refine hK.nil ?_;clear hK K;simp only[go_sem])|((first|refine runG_fork rfl rfl rfl rfl rfl ?_ ?_|refine runQG_fork rfl rfl rfl rfl rfl ?_ ?_|refine sw_cond rfl ?_ ?_)<;>intro h<;>try simp (disch:=(refine Om.mk ?_;omega)) only[go_sem] at h)|refine sw_exit rfl ?_|refine sw_loopEnd ?_|refine hK.c0 rfl rfl rfl (specRuleOk_fc _ _ _ x.sig (x.rules.getD i default).l (x.rules.getD i default).r) rfl rfl rfl ?_|(with_reducible refine And.intro (by first|omega|(simp only[lens];omega)) ?_)|fail
 ·rintro⟨_,h2⟩;exact h (h2 i (by omega))
 ·exact⟨i+1,by(refine covers_mk0 rfl rfl ?_ ?_ ?_ ?_<;>simp (disch:=(refine Om.mk ?_;omega)) only[go_sem]<;>(try omega)),⟨by omega,upto_succ hj h⟩,by omega⟩
 ·exact⟨⟨by assumption,by omega⟩,fun j hj'=>hj j (by omega)⟩
 ·intro j hj';omega
def kp44:List (Nat×List Nat):=[(0,[1]),(1,[1,14]),(2,[2]),(3,[1,16,17,18]),(4,[1,16,17,18,19]),(5,[1,4,16,17,18]),(6,[1,16,17,18,26]),(7,[2]),(8,[1,16,17,18]),(9,[2])]
attribute [go_sem] kp44
theorem implSystemOk_fc (x:SystemT):FC S 44 [] [] [] [SystemD x] (.bool (tst (SystemOkP x))) [] []:=by
 refine fc_body Tryz.func44 rfl (by kernel_rfl) (by simp[Tryz.f44]) fun B=>?_
 simp only[Tryz.ntmps44,enumD,lst0,Nat.reduceAdd]
 refine sw_bnd_agg 0 1 rfl rfl fun hb0_1=>?_
 simp only[D.bnd,List.length_map] at hb0_1
 repeat' first|refine sw_seq ?_|refine sw_block ?_|refine sw_skip ?_|refine sw_go 0 kp44 fun K hK=>?_|((first|refine runL_go ?_|refine sw_ret (ret0 ?_)|refine sw_ret ?_);simp (disch:=(refine Om.mk ?_;omega)) only[go_sem,Tryz.results44])|(refine hK.nil ?_;clear hK K;simp only[go_sem])|((first|refine runG_fork rfl rfl rfl rfl rfl ?_ ?_|refine sw_cond rfl ?_ ?_)<;>intro h<;>try simp (disch:=(refine Om.mk ?_;omega)) only[go_sem] at h)|refine hK.c0 rfl rfl rfl (implSigOk_fc _ _) rfl rfl rfl ?_|fail
 ·rintro⟨⟨h1,_⟩,_⟩;contradiction
 ·rintro⟨⟨_,h1⟩,_⟩;omega
 refine sw_loopU (ι:=Nat) (fun i=>[(18,.int .i64 i)]) (fun _=>[]) (fun i=>i≤x.rules.length∧(∀j<i,RuleP x.sig (x.rules.getD j default))) (fun i=>x.rules.length-i) 0 (by(refine covers_mk0 rfl rfl ?_ ?_ ?_ ?_<;>simp (disch:=(refine Om.mk ?_;omega)) only[go_sem]<;>(try omega))) ⟨by omega,?_⟩ (fun i ⟨hi,hj⟩=>?_)
 rotate_left
 simp only[go_sem]
 repeat' first|refine sw_seq ?_|refine sw_block ?_|refine sw_inBlock ?_|refine sw_skip ?_|refine sw_go 0 kp44 fun K hK=>?_|((first|refine runL_go ?_|refine sw_ret (ret0 ?_)|refine sw_ret ?_);simp (disch:=(refine Om.mk ?_;omega)) only[go_sem,Tryz.results44])|(refine hK.nil ?_;clear hK K;simp only[go_sem])|((first|refine runG_fork rfl rfl rfl rfl rfl ?_ ?_|refine sw_cond rfl ?_ ?_)<;>intro h<;>try simp (disch:=(refine Om.mk ?_;omega)) only[go_sem] at h)|refine sw_exit rfl ?_|refine sw_loopEnd ?_|refine hK.c0 rfl rfl rfl (implRuleOk_fc _ _ _ x.sig (x.rules.getD i default).l (x.rules.getD i default).r) rfl rfl rfl ?_|(with_reducible refine And.intro (by first|omega|(simp only[lens];omega)) ?_)|fail
 ·rintro⟨_,h2⟩;exact h (h2 i (by omega))
 ·exact⟨i+1,by(refine covers_mk0 rfl rfl ?_ ?_ ?_ ?_<;>simp (disch:=(refine Om.mk ?_;omega)) only[go_sem]<;>(try omega)),⟨by omega,upto_succ hj h⟩,by omega⟩
 ·exact⟨⟨by assumption,by omega⟩,fun j hj'=>hj j (by omega)⟩
 ·intro j hj';omega
end Go.Proofs.YtohnfgligddanaaGreat
end
section
namespace Go.Proofs.YtohnfgligddanaaGreat
open Go Go.Lg
set_option linter.unusedSimpArgs false
set_option linter.unusedVariables false
set_option maxHeartbeats 4000000
attribute [local irreducible] SW runL runQ runG runQG FC Ret1 toF redoL anyB
def kp112:List (Nat×List Nat):=[(0,[1,2]),(1,[2,16]),(2,[4]),(3,[2,5]),(4,[2,5,21]),(6,[2,5,30]),(7,[4]),(5,[2,5]),(8,[4])]
attribute [go_sem] kp112
theorem l15Poly_fc (p:PolyT) (n:Int):FC S 112 [] [] [] [PolyD p,.int .i64 n] (.bool (tst (PolyOkP n p))) [] []:=by
 refine fc_body Tryz.func112 rfl (by kernel_rfl) (by simp[Tryz.f112]) fun B=>?_
 simp only[Tryz.ntmps112,enumD,lst0,Nat.reduceAdd]
 refine sw_bnd_agg 0 1 rfl rfl fun hb0_1=>?_
 simp only[D.bnd,List.length_map] at hb0_1
 repeat' first|refine sw_seq ?_|refine sw_block ?_|refine sw_skip ?_|refine sw_go 0 kp112 fun K hK=>?_|((first|refine runL_go ?_|refine sw_ret (ret0 ?_)|refine sw_ret ?_);simp (disch:=(refine Om.mk ?_;omega)) only[go_sem,Tryz.results112])|(refine hK.nil ?_;clear hK K;simp only[go_sem])|((first|refine runG_fork rfl rfl rfl rfl rfl ?_ ?_|refine sw_cond rfl ?_ ?_)<;>intro h<;>try simp (disch:=(refine Om.mk ?_;omega)) only[go_sem] at h)|refine hK.c0 rfl rfl rfl (l1In_fc _ _ _) rfl rfl rfl ?_|fail
 ·exact fun h=>absurd h.1 (by omega)
 ·exact fun h=>absurd h.1 (by omega)
 refine sw_loopU (ι:=Nat) (fun i=>[(5,.int .i64 i)]) (fun _=>[]) (fun i=>i≤p.coef.length∧(∀j<i,0≤p.coef.getD j default∧p.coef.getD j default≤9)) (fun i=>p.coef.length-i) 0 (by(refine covers_mk0 rfl rfl ?_ ?_ ?_ ?_<;>simp (disch:=(refine Om.mk ?_;omega)) only[go_sem]<;>(try omega))) ⟨by omega,?_⟩ (fun i ⟨hi,hj⟩=>?_)
 rotate_left
 simp only[go_sem]
 repeat' first|refine sw_seq ?_|refine sw_block ?_|refine sw_inBlock ?_|refine sw_skip ?_|refine sw_go 0 kp112 fun K hK=>?_|((first|refine runL_go ?_|refine sw_ret (ret0 ?_)|refine sw_ret ?_);simp (disch:=(refine Om.mk ?_;omega)) only[go_sem,Tryz.results112])|(refine hK.nil ?_;clear hK K;simp only[go_sem])|((first|refine runG_fork rfl rfl rfl rfl rfl ?_ ?_|refine sw_cond rfl ?_ ?_)<;>intro h<;>try simp (disch:=(refine Om.mk ?_;omega)) only[go_sem] at h)|refine sw_exit rfl ?_|refine sw_loopEnd ?_|refine hK.c0 rfl rfl rfl (l1In_fc _ _ _) rfl rfl rfl ?_|(with_reducible refine And.intro (by first|omega|(simp only[lens];omega)) ?_)|fail
 ·exact fun hp=>h (hp.2 _ (getD_mem _ i (by omega)))
 ·exact⟨i+1,by(refine covers_mk0 rfl rfl ?_ ?_ ?_ ?_<;>simp (disch:=(refine Om.mk ?_;omega)) only[go_sem]<;>(try omega)),⟨by omega,upto_succ hj h⟩,by omega⟩
 ·exact⟨⟨by assumption,by assumption⟩,all_getD (P:=fun x=>0≤x∧x≤9) fun j hj'=>hj j (by omega)⟩
 ·intro j hj';omega
def kp95:List (Nat×List Nat):=[(0,[1,2]),(1,[1,2,16]),(2,[4]),(3,[1,2,5]),(4,[1,2,5,20]),(6,[1,2,5,33]),(7,[4]),(5,[1,2,5]),(8,[4])]
attribute [go_sem] kp95
theorem specPolysOk_fc (tk:Tk) (rs:List Int) (ps:List PolyT):FC S 95 [] [] [] [.agg [.sl .any (rs.map (.int .i64))],.sl tk (ps.map PolyD)] (.bool (tst (PolysOkP rs ps))) [] []:=by
 refine fc_body Tryz.func95 rfl (by kernel_rfl) (by simp[Tryz.f95]) fun B=>?_
 simp only[Tryz.ntmps95,enumD,lst0,Nat.reduceAdd]
 refine sw_bnd 1 rfl fun hb1=>?_
 simp only[D.bnd,List.length_map] at hb1
 repeat' first|refine sw_seq ?_|refine sw_block ?_|refine sw_skip ?_|refine sw_go 0 kp95 fun K hK=>?_|((first|refine runL_go ?_|refine runQ_go ?_|refine sw_ret (ret0 ?_)|refine sw_ret ?_);simp (disch:=(refine Om.mk ?_;omega)) only[go_sem,Tryz.results95])|(refine hK.nil ?_;clear hK K;simp only[go_sem])|((first|refine runG_fork rfl rfl rfl rfl rfl ?_ ?_|refine runQG_fork rfl rfl rfl rfl rfl ?_ ?_|refine sw_cond rfl ?_ ?_)<;>intro h<;>try simp (disch:=(refine Om.mk ?_;omega)) only[go_sem] at h)|refine hK.c0 rfl rfl rfl (specSigOk_fc _ _) rfl rfl rfl ?_|fail
 ·exact fun h=>absurd h.1.1 (by assumption)
 ·exact fun h=>absurd h.1.2 (by omega)
 refine sw_loopU (ι:=Nat) (fun i=>[(5,.int .i64 i)]) (fun _=>[]) (fun i=>i≤ps.length∧(∀j<i,PolyOkP (rs.getD j default) (ps.getD j default))) (fun i=>ps.length-i) 0 (by(refine covers_mk0 rfl rfl ?_ ?_ ?_ ?_<;>simp (disch:=(refine Om.mk ?_;omega)) only[go_sem]<;>(try omega))) ⟨by omega,?_⟩ (fun i ⟨hi,hj⟩=>?_)
 rotate_left
 simp only[go_sem]
 repeat' first|refine sw_seq ?_|refine sw_block ?_|refine sw_inBlock ?_|refine sw_skip ?_|refine sw_go 0 kp95 fun K hK=>?_|refine sw_goD kp95 (by kernel_rfl) fun K hK=>?_|((first|refine runL_go ?_|refine runQ_go ?_|refine sw_ret (ret0 ?_)|refine sw_ret ?_);simp (disch:=(refine Om.mk ?_;omega)) only[go_sem,Tryz.results95])|(refine hK.nil ?_;clear hK K;simp only[go_sem])|((first|refine runG_fork rfl rfl rfl rfl rfl ?_ ?_|refine runQG_fork rfl rfl rfl rfl rfl ?_ ?_|refine sw_cond rfl ?_ ?_)<;>intro h<;>try simp (disch:=(refine Om.mk ?_;omega)) only[go_sem] at h)|refine sw_exit rfl ?_|refine sw_loopEnd ?_|refine hK.c0 rfl rfl rfl (l15Poly_fc (ps.getD i default) (rs.getD i default)) rfl rfl rfl ?_|(with_reducible refine And.intro (by first|omega|(simp only[lens];omega)) ?_)|fail
 ·exact fun hp=>h (hp.2 i (by omega))
 ·exact⟨i+1,by(refine covers_mk0 rfl rfl ?_ ?_ ?_ ?_<;>simp (disch:=(refine Om.mk ?_;omega)) only[go_sem]<;>(try omega)),⟨by omega,upto_succ hj h⟩,by omega⟩
 ·exact⟨⟨by assumption,by assumption⟩,fun j hj'=>hj j (by omega)⟩
 ·intro j hj';omega
def kp114:List (Nat×List Nat):=[(0,[2,3]),(1,[2,3,5]),(2,[2,3,5,10]),(4,[2,3,5,38]),(5,[4]),(3,[2,3,5]),(6,[4])]
attribute [go_sem] kp114
theorem l15Most_fc (a b:PolyT) (ha:∀x∈a.coef,0≤x) (hb:∀x∈b.coef,0≤x):FC S 114 [] [] [] [PolyD a,PolyD b] (.bool (tst (MostP a b))) [] []:=by
 refine fc_body Tryz.func114 rfl (by kernel_rfl) (by simp[Tryz.f114]) fun B=>?_
 simp only[Tryz.ntmps114,enumD,lst0,Nat.reduceAdd]
 refine sw_bnd_agg 0 1 rfl rfl fun hb0_1=>?_
 simp only[D.bnd,List.length_map] at hb0_1
 refine sw_bnd_agg 1 1 rfl rfl fun hb1_1=>?_
 simp only[D.bnd,List.length_map] at hb1_1
 repeat' first|refine sw_seq ?_|refine sw_block ?_|refine sw_go 0 kp114 fun K hK=>?_|((first|refine runL_go ?_|refine runQ_go ?_|refine sw_ret (ret0 ?_)|refine sw_ret ?_);simp (disch:=(refine Om.mk ?_;omega)) only[go_sem,Tryz.results114])|(refine hK.nil ?_;clear hK K;simp only[go_sem])|fail
 refine sw_loopU (ι:=Nat) (fun i=>[(5,.int .i64 i)]) (fun _=>[]) (fun i=>i≤a.coef.length∧(∀j<i,a.coef.getD j default≤b.coef.getD j default)) (fun i=>a.coef.length-i) 0 (by(refine covers_mk0 rfl rfl ?_ ?_ ?_ ?_<;>simp (disch:=(refine Om.mk ?_;omega)) only[go_sem]<;>(try omega))) ⟨by omega,?_⟩ (fun i ⟨hi,hj⟩=>?_)
 rotate_left
 simp only[go_sem]
 have h1:=mem_getD (P:=fun x=>0≤x) (Int.le_refl _) ha i
 have h2:=mem_getD (P:=fun x=>0≤x) (Int.le_refl _) hb i
 have h3:b.coef.length≤i→b.coef.getD i default=0:=fun h=>addJ_past a.coef b.coef 0 h
 repeat' first|refine sw_seq ?_|refine sw_block ?_|refine sw_inBlock ?_|refine sw_skip ?_|refine sw_go 0 kp114 fun K hK=>?_|refine sw_goD kp114 (by kernel_rfl) fun K hK=>?_|((first|refine runL_go ?_|refine runQ_go ?_|refine sw_ret (ret0 ?_)|refine sw_ret ?_);simp (disch:=(refine Om.mk ?_;omega)) only[go_sem,Tryz.results114])|(refine hK.nil ?_;clear hK K;simp only[go_sem])|((first|refine runG_fork rfl rfl rfl rfl rfl ?_ ?_|refine runQG_fork rfl rfl rfl rfl rfl ?_ ?_|refine sw_cond rfl ?_ ?_)<;>intro h<;>try simp (disch:=(refine Om.mk ?_;omega)) only[go_sem] at h)|refine sw_exit rfl ?_|refine sw_loopEnd ?_|(with_reducible refine And.intro (by first|omega|(simp only[lens];omega)) ?_)|fail
 ·exact fun hp=>absurd (hp i (by omega)) (by have:=h3 (by omega);omega)
 ·exact fun hp=>absurd (hp i (by omega)) (by omega)
 ·exact⟨i+1,by(refine covers_mk0 rfl rfl ?_ ?_ ?_ ?_<;>simp (disch:=(refine Om.mk ?_;omega)) only[go_sem]<;>(try omega)),⟨by omega,upto_succ hj (by omega)⟩,by omega⟩
 ·exact⟨i+1,by(refine covers_mk0 rfl rfl ?_ ?_ ?_ ?_<;>simp (disch:=(refine Om.mk ?_;omega)) only[go_sem]<;>(try omega)),⟨by omega,upto_succ hj (by omega)⟩,by omega⟩
 ·exact fun j hj'=>hj j (by omega)
 ·intro j hj';omega
theorem end_step {rs t:List Int} {a i:Nat} {need m:Int} (hi:i<t.length) (h3:1≤need) (h4:endS rs t a=scan rs (t.drop i) need i) (h0:0≤arS rs (t.getD i default)) (hm:m=need+arS rs (t.getD i default)-1):(m=0∧endS rs t a=((i+1:Nat):Int))∨(1≤m∧endS rs t a=scan rs (t.drop (i+1)) m (i+1)):=by
 have hb:=scan_step rs t need i hi
 rw[if_neg (by omega)] at hb
 subst hm
 by_cases h:need+arS rs (t.getD i default)-1=0
 ·rw[if_pos h] at hb
  exact .inl ⟨h,by rw[h4,hb];omega⟩
 ·rw[if_neg h] at hb
  exact .inr ⟨by omega,by rw[h4,hb]⟩
def kp63:List (Nat×List Nat):=[(0,[1,2,3]),(1,[1,2,3,7]),(2,[1,2,3,7,9]),(3,[1,2,3,7,14]),(4,[1,2,3,7]),(5,[1,2,3,7]),(6,[1,2,3,7]),(7,[6])]
attribute [go_sem] kp63
theorem l13End_fc (rs t:List Int) (a:Nat) (hT:TermOkP rs t) (ha:a<t.length):FC S 63 [] [] [] [.agg [.sl .any (rs.map (.int .i64))],.sl .any (t.map (.int .i64)),.int .i64 a] (.int .i64 (endS rs t a)) [] []:=by
 have he:=endS_ge hT ha
 have hl:=hT.2.1.2
 refine fc_body Tryz.func63 rfl (by kernel_rfl) (by simp[Tryz.f63]) fun B=>?_
 simp only[Tryz.ntmps63,enumD,lst0,Nat.reduceAdd]
 refine sw_bnd 1 rfl fun hb1=>?_
 simp only[D.bnd,List.length_map] at hb1
 repeat' first|refine sw_seq ?_|refine sw_block ?_|refine sw_go 0 kp63 fun K hK=>?_|((first|refine runL_go ?_|refine runQ_go ?_|refine sw_ret (ret0 ?_)|refine sw_ret ?_);simp (disch:=(refine Om.mk ?_;omega)) only[go_sem,Tryz.results63])|(refine hK.nil ?_;clear hK K;simp only[go_sem])|fail
 refine sw_loopU (ι:=Nat×Int) (fun p=>[(2,.int .i64 p.1),(7,.int .i64 p.2)]) (fun p=>[]) (fun p=>(p.1≤t.length∧0≤p.2∧p.2≤1+3*p.1)∧((p.2=0∧endS rs t a=p.1)∨(1≤p.2∧endS rs t a=scan rs (t.drop p.1) p.2 p.1))) (fun p=>t.length-p.1) (a,1) (by(refine covers_mk0 rfl rfl ?_ ?_ ?_ ?_<;>simp (disch:=(refine Om.mk ?_;omega)) only[go_sem]<;>(try omega))) ?_ (fun p hp=>?_)
 rotate_left
 simp only[go_sem]
 obtain⟨i,need⟩:=p
 obtain⟨⟨h1,h2,h2'⟩,h3⟩:=hp
 dsimp only at h1 h2 h2' h3
 have hlt:1≤need→i<t.length:=fun h=>Classical.byContradiction fun hn=>by
  have hx:=scan_end rs t need i (by omega)
  omega
 have hlow:i<t.length→_:=fun h=>hT.low h
 have hv:i<t.length→t.getD i default<0→arS rs (t.getD i default)=0:=fun hi h=>arS_var (by have:=hlow hi;omega)
 have hsy:0≤t.getD i default→t.getD i default<rs.length→arS rs (t.getD i default)=rs.getD (t.getD i default).toNat default:=fun h h'=>arS_sym (by omega)
 repeat' first|refine sw_seq ?_|refine sw_block ?_|refine sw_inBlock ?_|refine sw_skip ?_|refine sw_go 0 kp63 fun K hK=>?_|refine sw_goD kp63 (by kernel_rfl) fun K hK=>?_|((first|refine runL_go ?_|refine runQ_go ?_|refine sw_ret (ret0 ?_)|refine sw_ret ?_);simp (disch:=(refine Om.mk ?_;omega)) only[go_sem,Tryz.results63])|(refine hK.nil ?_;clear hK K;simp only[go_sem])|((first|refine sw_cond rfl ?_ ?_)<;>intro h<;>try simp (disch:=(refine Om.mk ?_;omega)) only[go_sem] at h)|refine sw_exit rfl ?_|refine sw_loopEnd ?_|(with_reducible refine And.intro (by first|omega|(simp only[lens];omega)) ?_)|fail
 ·have hi:=hlt (by omega)
  have e:=hsy (by omega) (hlow hi).1.2
  have hl0:=(hlow hi).2
  exact⟨(i+1,need+rs.getD (t.getD i default).toNat default-1),by(refine covers_mk0 rfl rfl ?_ ?_ ?_ ?_<;>simp (disch:=(refine Om.mk ?_;omega)) only[go_sem]<;>(try omega)),⟨⟨by omega,by omega,by omega⟩,end_step (need:=need) (m:=need+rs.getD (t.getD i default).toNat default-1) hi (by omega) (by omega) hl0.1 (by rw[e])⟩,by omega⟩
 ·have hi:=hlt (by omega)
  have e:=hv hi (by omega)
  exact⟨(i+1,need-1),by(refine covers_mk0 rfl rfl ?_ ?_ ?_ ?_<;>simp (disch:=(refine Om.mk ?_;omega)) only[go_sem]<;>(try omega)),⟨⟨by omega,by omega,by omega⟩,end_step (need:=need) (m:=need-1) hi (by omega) (by omega) (by omega) (by rw[e];omega)⟩,by omega⟩
 ·omega
 ·exact .inr ⟨by simp,rfl⟩
def kp94:List (Nat×List Nat):=[(0,[1,2]),(1,[1,2,5]),(2,[1,2,5,13]),(3,[4]),(4,[1,2,5,6]),(5,[1,2,5,6,7]),(6,[1,2,5,6,7,23]),(8,[1,2,5,6,7,8]),(9,[1,2,5,7,8]),(10,[1,2,5,6,7]),(7,[1,2,5,6,7]),(11,[4])]
attribute [go_sem] kp94
theorem l13Parts_fc (rs t:List Int) (hT:TermOkP rs t):FC S 94 [] [] [] [.agg [.sl .any (rs.map (.int .i64))],.sl .any (t.map (.int .i64))] (.sl .any ((partsU rs t (arS rs (t.getD 0 default)).toNat).map IntsD)) [] []:=by
 have hl:=hT.2.1
 have hlo:=hT.low (show 0<t.length by omega)
 have hv:t.getD 0 default<0→arS rs (t.getD 0 default)=0:=fun h=>arS_var (by omega)
 have hsy:0≤t.getD 0 default→t.getD 0 default<rs.length→arS rs (t.getD 0 default)=rs.getD (t.getD 0 default).toNat default:=fun h h'=>arS_sym (by omega)
 have hlt:∀j<(arS rs (t.getD 0 default)).toNat,0<nthB rs t 1 j∧nthB rs t 1 j<t.length:=fun j hj=>nthB_lt hT (by omega) (by omega)
 have hle:∀j≤(arS rs (t.getD 0 default)).toNat,0<nthB rs t 1 j∧nthB rs t 1 j≤t.length:=fun j hj=>nthB_le hT (by omega) (by omega)
 generalize hk:(arS rs (t.getD 0 default)).toNat=k at *
 refine fc_body Tryz.func94 rfl (by kernel_rfl) (by simp[Tryz.f94]) fun B=>?_
 simp only[Tryz.ntmps94,enumD,lst0,Nat.reduceAdd]
 refine sw_bnd 1 rfl fun hb1=>?_
 simp only[D.bnd,List.length_map] at hb1
 repeat' first|refine sw_seq ?_|refine sw_block ?_|refine sw_skip ?_|refine sw_go 0 kp94 fun K hK=>?_|((first|refine runL_go ?_|refine runQ_go ?_|refine sw_ret (ret0 ?_)|refine sw_ret ?_);simp (disch:=(refine Om.mk ?_;omega)) only[go_sem,Tryz.results94])|(refine hK.nil ?_;clear hK K;simp only[go_sem])|((first|refine sw_cond rfl ?_ ?_)<;>intro h<;>try simp (disch:=(refine Om.mk ?_;omega)) only[go_sem] at h)|(with_reducible refine And.intro (by first|omega|(simp only[lens];omega)) ?_)|fail
 ·rw[show k=0 by omega];rfl
 refine sw_tok 5 37000 22 1 rfl (.inr rfl) rfl ?_
 simp only[go_sem]
 refine sw_loopT (ι:=Nat) (fun j=>[(7,.int .i64 j),(6,.int .i64 (nthB rs t 1 j)),(5,.sl (.own 37000 22 1) ((partsU rs t j).map IntsD))]) (fun _=>[]) (fun _=>[37000]) (fun j=>j≤k) (fun j=>k-j) 0 (by(refine covers_mk0 rfl rfl ?_ ?_ ?_ ?_<;>simp (disch:=(refine Om.mk ?_;omega)) only[go_sem]<;>(try omega));all_goals exact⟨rfl,rfl,rfl⟩) (by omega) (fun j hj=>?_)
 simp only[go_sem]
 have h3:=hle j hj
 have h4:=hlt j
 have h5:j<k→nthB rs t 1 j<endS rs t (nthB rs t 1 j)∧endS rs t (nthB rs t 1 j)≤t.length:=fun h=>endS_ge hT (h4 h).2
 have h6:j<k→((endS rs t (nthB rs t 1 j)).toNat:Int)=endS rs t (nthB rs t 1 j):=fun h=>by have:=h5 h;omega
 have h7:=partsU_len rs t j
 have h8:=partsU_succ rs t j
 have e:=hsy (by omega) (by omega)
 by_cases hjk:j<k
 ·repeat' first|((exfalso;omega))|refine sw_seq ?_|refine sw_block ?_|refine sw_inBlock ?_|refine sw_skip ?_|refine sw_go 0 kp94 fun K hK=>?_|refine sw_goD kp94 (by kernel_rfl) fun K hK=>?_|((first|refine runL_go ?_|refine runQ_go ?_|refine sw_ret (ret0 ?_)|refine sw_ret ?_);simp (disch:=(refine Om.mk ?_;omega)) only[go_sem,Tryz.results94])|(refine hK.nil ?_;clear hK K;simp only[go_sem])|((first|refine sw_cond rfl ?_ ?_)<;>intro h<;>try simp (disch:=(refine Om.mk ?_;omega)) only[go_sem] at h)|refine sw_loopEnd ?_|refine hK.c0 rfl rfl rfl (l13End_fc rs t (nthB rs t 1 j) hT (h4 hjk).2) rfl rfl rfl ?_|(with_reducible refine And.intro (by first|omega|(simp only[lens];omega)) ?_)|fail
  exact⟨j+1,(by(refine covers_mk0 rfl rfl ?_ ?_ ?_ ?_<;>simp (disch:=(refine Om.mk ?_;omega)) only[go_sem]<;>(try omega));rw[h8,List.map_append];exact⟨rfl,(h6 hjk).symm,by omega⟩),by omega,by omega⟩
 ·repeat' first|((exfalso;omega))|refine sw_seq ?_|refine sw_go 0 kp94 fun K hK=>?_|refine sw_goD kp94 (by kernel_rfl) fun K hK=>?_|((first|refine runL_go ?_|refine runQ_go ?_|refine sw_ret (ret0 ?_)|refine sw_ret ?_);simp (disch:=(refine Om.mk ?_;omega)) only[go_sem,Tryz.results94])|(refine hK.nil ?_;clear hK K;simp only[go_sem])|((first|refine sw_cond rfl ?_ ?_)<;>intro h<;>try simp (disch:=(refine Om.mk ?_;omega)) only[go_sem] at h)|refine sw_exit rfl ?_|(with_reducible refine And.intro (by first|omega|(simp only[lens];omega)) ?_)|fail
  rw[show j=k by omega]
attribute [local irreducible] addJ specJ specL
def kp136:List (Nat×List Nat):=[(0,[2,3,4,6]),(1,[2,4,6,8]),(2,[2,4,6,8,9]),(3,[2,4,6,8,9,27]),(5,[2,4,6,8,9,34]),(6,[2,4,6,8,9]),(7,[2,4,6,8,9]),(4,[2,4,6,8,9]),(8,[6,8,10]),(9,[6,8,10,61]),(11,[6,8,10,69]),(12,[6,7]),(10,[6,8,10]),(13,[6,7])]
attribute [go_sem] kp136
theorem l15AddL_fc (a b:PolyT) (c:Int) (ha:GoodB (100*MF) a) (hb:GoodB MF b) (hc:0≤c∧c≤9):FC S 136 [] [] [] [.agg [.int .i64 a.const,.sl (.lab [1]) (a.coef.map (.int .i64))],.agg [.int .i64 b.const,.sl (.lab [1]) (b.coef.map (.int .i64))],.int .i64 c] (.tup [PolyD (addR a b c).1,.bool (addR a b c).2]) [] []:=by
 have hla:=ha.2.2
 have hlb:=hb.2.2
 have hcc:0≤c*b.const∧c*b.const≤9*MF:=⟨Int.mul_nonneg hc.1 hb.1.1,Int.mul_le_mul hc.2 hb.1.2 hb.1.1 (by omega)⟩
 have hac:=ha.1
 simp only[MF] at hcc hac
 refine fc_bodyF Tryz.func136 rfl (by kernel_rfl) (by simp[Tryz.f136]) fun B N hOff=>?_
 simp only[Tryz.ntmps136,enumD,lst0,Nat.reduceAdd]
 repeat' first|((refine sw_goXL 0 kp136 13 [11] (id:=1) (by kernel_rfl) (by kernel_rfl) ?_))|refine sw_seq ?_|refine sw_go 0 kp136 fun K hK=>?_|((first|refine runL_go ?_|refine runQ_go ?_|refine sw_ret (ret0 ?_)|refine sw_ret ?_);simp (disch:=(refine Om.mk ?_;omega)) only[go_sem,Tryz.results136])|(refine hK.nil ?_;clear hK K;simp only[go_sem])|fail
 refine LexX.part 10 fun K hK=>?_
 repeat' first|((first|refine runL_go ?_|refine runQ_go ?_|refine sw_ret (ret0 ?_)|refine sw_ret ?_);simp (disch:=(refine Om.mk ?_;omega)) only[go_sem,Tryz.results136])|(refine hK.nil ?_;clear hK K;simp only[go_sem])|fail
 refine LexX.app 22000 rfl rfl rfl rfl rfl ⟨by decide,(fun x hx=>by obtain⟨y,_,rfl⟩:=List.mem_map.1 hx;rfl),by simp;omega,by simp;omega⟩ ⟨by simp only[Nat.reduceLT],rfl⟩ ?_
 refine LexX.go fun K hK=>?_
 repeat' first|((refine hK.alloc rfl rfl ⟨(by simp only[Nat.reduceLT]),rfl⟩ ?_;simp only[go_sem]))|((refine lops_go 0 ?_;refine fun (K:List Oper→LS→Prop) (hK:KOk S 0 _ _ _ K)=>?_;simp only[go_sem]))|refine sw_seq ?_|refine sw_block ?_|refine sw_go 0 kp136 fun K hK=>?_|((first|refine runL_go ?_|refine runQ_go ?_|refine sw_ret (ret0 ?_)|refine sw_ret ?_);simp (disch:=(refine Om.mk ?_;omega)) only[go_sem,Tryz.results136])|(refine hK.nil ?_;clear hK K;simp only[go_sem])|fail
 refine sw_loopT (ι:=Nat) (fun i=>[(9,.int .i64 i)]) (fun i=>[(8,[.int .i64 (a.const+c*b.const),.sl (.own 22000 2 1) ((specJ a.coef b.coef c i).map (.int .i64))])]) (fun _=>[22000]) (fun i=>i≤b.coef.length) (fun i=>b.coef.length-i) 0 (by rw[specJ_zero];(refine covers_mk0 rfl rfl ?_ ?_ ?_ ?_<;>simp (disch:=(refine Om.mk ?_;omega)) only[go_sem]<;>(try omega))) (by omega) (fun i hi=>?_)
 simp only[go_sem]
 have l1:=specJ_len a.coef b.coef c hi
 have hbi:=mem_getD (P:=fun x=>0≤x∧x≤MF) ⟨Int.le_refl _,by decide⟩ hb.2.1 i
 have hai:=mem_getD (P:=fun x=>0≤x∧x≤100*MF) ⟨Int.le_refl _,by decide⟩ ha.2.1 i
 have hm:0≤c*b.coef.getD i default∧c*b.coef.getD i default≤9*MF:=⟨Int.mul_nonneg hc.1 hbi.1,Int.mul_le_mul hc.2 hbi.2 hbi.1 (by omega)⟩
 have hLi:(specL a.coef b.coef c i).getD i default=a.coef.getD i default:=by rw[specL_get,addJ_get _ _ _ _ hi,if_neg (by omega),Int.add_zero]
 simp only[MF] at hai hm
 repeat' first|((refine sw_renC 39000 22000 rfl rfl ?_;simp only[go_sem]))|((refine sw_hold (id:=7) ?_))|refine sw_seq ?_|refine sw_block ?_|refine sw_skip ?_|refine sw_go 0 kp136 fun K hK=>?_|((first|refine runL_go ?_|refine runQ_go ?_|refine sw_ret (ret0 ?_)|refine sw_ret ?_);simp (disch:=(refine Om.mk ?_;omega)) only[go_sem,Tryz.results136])|(refine hK.nil ?_;clear hK K;simp only[go_sem])|((first|refine sw_cond rfl ?_ ?_)<;>intro h<;>try simp (disch:=(refine Om.mk ?_;omega)) only[go_sem] at h)|refine sw_exit rfl ?_|(with_reducible refine And.intro (by first|omega|(simp only[lens];omega)) ?_)|fail
 ·refine HoldP.go ?_
  rw[specJ_pad _ _ _ (by omega) (by omega)]
  have l2:=specL_len a.coef b.coef c (i:=i) (by omega)
  repeat' first|((refine sw_goTW kp136 16 (id:=7) (by kernel_rfl) fun K hK=>?_))|((first|refine runL_go ?_|refine runQ_go ?_|refine sw_ret (ret0 ?_)|refine sw_ret ?_);simp (disch:=(refine Om.mk ?_;omega)) only[go_sem,Tryz.results136])|(refine hK.nil ?_;clear hK K;simp only[go_sem])|(with_reducible refine And.intro (by first|omega|(simp only[lens];omega)) ?_)|fail
  refine LopsW.storeOwnL [(2,.int .i64 c),(4,.box 4 0),(6,.box 6 0),(8,.box 8 0),(9,.int .i64 i)] [(3,[.int .i64 a.const,.sl (.lab [1]) (a.coef.map (.int .i64))]),(4,[.int .i64 b.const,.sl (.lab [1]) (b.coef.map (.int .i64))]),(6,[.int .i64 0,.sl .nil []]),(8,[.int .i64 (a.const+c*b.const),.sl (.own 22000 2 1) (((specL a.coef b.coef c i).set i ((specL a.coef b.coef c i).getD i default+c*b.coef.getD i default)).map (.int .i64))])] hOff.1 rfl rfl rfl rfl rfl rfl rfl (fun _=>rfl) (by simp) ⟨by omega,by omega⟩ (by simp only[Nat.reduceLT]) ⟨⟨by decide,_,rfl,sto_plain rfl⟩,⟨by decide,_,rfl,sto_plain rfl⟩,⟨by decide,_,rfl,sto_plain rfl⟩,⟨by decide,_,rfl,sto_plain rfl⟩,⟨by decide,_,rfl,sto_plain rfl⟩,trivial⟩ ⟨⟨_,rfl,sto_plain rfl,sto_lab _ _ _,trivial⟩,⟨_,rfl,sto_plain rfl,sto_lab _ _ _,trivial⟩,⟨_,rfl,sto_plain rfl,sto_plain rfl,trivial⟩,⟨_,rfl,sto_plain rfl,sto_own,trivial⟩,trivial⟩ ?_
  refine LopsW.nil ?_
  rw[specL_set]
  simp only[go_sem]
  repeat' first|refine sw_inBlock ?_|refine sw_go 0 kp136 fun K hK=>?_|((first|refine runL_go ?_|refine runQ_go ?_|refine sw_ret (ret0 ?_)|refine sw_ret ?_);simp (disch:=(refine Om.mk ?_;omega)) only[go_sem,Tryz.results136])|(refine hK.nil ?_;clear hK K;simp only[go_sem])|refine sw_loopEnd ?_|fail
  exact⟨i+1,(by(refine covers_mk0 rfl rfl ?_ ?_ ?_ ?_<;>simp (disch:=(refine Om.mk ?_;omega)) only[go_sem]<;>(try omega))),by omega,by omega⟩
 ·refine HoldP.go ?_
  rw[specJ_stay _ _ _ (by omega)]
  have l2:=specL_len a.coef b.coef c (i:=i) (by omega)
  repeat' first|((refine sw_goTW kp136 16 (id:=7) (by kernel_rfl) fun K hK=>?_))|((first|refine runL_go ?_|refine runQ_go ?_|refine sw_ret (ret0 ?_)|refine sw_ret ?_);simp (disch:=(refine Om.mk ?_;omega)) only[go_sem,Tryz.results136])|(refine hK.nil ?_;clear hK K;simp only[go_sem])|(with_reducible refine And.intro (by first|omega|(simp only[lens];omega)) ?_)|fail
  refine LopsW.storeOwnL [(2,.int .i64 c),(4,.box 4 0),(6,.box 6 0),(8,.box 8 0),(9,.int .i64 i)] [(3,[.int .i64 a.const,.sl (.lab [1]) (a.coef.map (.int .i64))]),(4,[.int .i64 b.const,.sl (.lab [1]) (b.coef.map (.int .i64))]),(6,[.int .i64 0,.sl .nil []]),(8,[.int .i64 (a.const+c*b.const),.sl (.own 22000 2 1) (((specL a.coef b.coef c i).set i ((specL a.coef b.coef c i).getD i default+c*b.coef.getD i default)).map (.int .i64))])] hOff.1 rfl rfl rfl rfl rfl rfl rfl (fun _=>rfl) (by simp) ⟨by omega,by omega⟩ (by simp only[Nat.reduceLT]) ⟨⟨by decide,_,rfl,sto_plain rfl⟩,⟨by decide,_,rfl,sto_plain rfl⟩,⟨by decide,_,rfl,sto_plain rfl⟩,⟨by decide,_,rfl,sto_plain rfl⟩,⟨by decide,_,rfl,sto_plain rfl⟩,trivial⟩ ⟨⟨_,rfl,sto_plain rfl,sto_lab _ _ _,trivial⟩,⟨_,rfl,sto_plain rfl,sto_lab _ _ _,trivial⟩,⟨_,rfl,sto_plain rfl,sto_plain rfl,trivial⟩,⟨_,rfl,sto_plain rfl,sto_own,trivial⟩,trivial⟩ ?_
  refine LopsW.nil ?_
  rw[specL_set]
  simp only[go_sem]
  repeat' first|refine sw_inBlock ?_|refine sw_go 0 kp136 fun K hK=>?_|((first|refine runL_go ?_|refine runQ_go ?_|refine sw_ret (ret0 ?_)|refine sw_ret ?_);simp (disch:=(refine Om.mk ?_;omega)) only[go_sem,Tryz.results136])|(refine hK.nil ?_;clear hK K;simp only[go_sem])|refine sw_loopEnd ?_|fail
  exact⟨i+1,(by(refine covers_mk0 rfl rfl ?_ ?_ ?_ ?_<;>simp (disch:=(refine Om.mk ?_;omega)) only[go_sem]<;>(try omega))),by omega,by omega⟩
 ·rw[show i=b.coef.length by omega,specJ_end]
  have hlz:(addJ a.coef b.coef c b.coef.length).length≤24:=by rw[addJ_len];omega
  have hcoef:(addF a b c).coef=addJ a.coef b.coef c b.coef.length:=rfl
  have hconst:(addF a b c).const=a.const+c*b.const:=rfl
  generalize hz:addJ a.coef b.coef c b.coef.length=zs at *
  refine sw_loopT (ι:=Nat) (fun i=>[(10,.int .i64 i)]) (fun _=>[]) (fun _=>[22000]) (fun i=>i≤zs.length∧∀j<i,zs.getD j default≤MF) (fun i=>zs.length-i) 0 (by(refine covers_mk0 rfl rfl ?_ ?_ ?_ ?_<;>simp (disch:=(refine Om.mk ?_;omega)) only[go_sem]<;>(try omega))) ⟨by omega,fun j hj=>absurd hj (by omega)⟩ (fun i hi=>?_)
  obtain⟨hi,hj⟩:=hi
  simp only[go_sem]
  repeat' first|((refine sw_hold (id:=13) ?_))|refine sw_seq ?_|refine sw_block ?_|refine sw_inBlock ?_|refine sw_skip ?_|refine sw_go 0 kp136 fun K hK=>?_|((first|refine runL_go ?_|refine runQ_go ?_|refine sw_ret (ret0 ?_)|refine sw_ret ?_);simp (disch:=(refine Om.mk ?_;omega)) only[go_sem,Tryz.results136])|(refine hK.nil ?_;clear hK K;simp only[go_sem])|((first|refine sw_cond rfl ?_ ?_)<;>intro h<;>try simp (disch:=(refine Om.mk ?_;omega)) only[go_sem] at h)|refine sw_exit rfl ?_|refine sw_loopEnd ?_|(with_reducible refine And.intro (by first|omega|(simp only[lens];omega)) ?_)|fail
  ·have hn:¬ ∀x∈(addF a b c).coef,x≤MF:=fun hall=>absurd (hall _ (by rw[hcoef];exact getD_mem zs i (by omega))) (by simp only[MF];omega)
   rw[addR_no hn]
   exact⟨⟨rfl,rfl⟩,rfl⟩
  ·exact⟨i+1,(by(refine covers_mk0 rfl rfl ?_ ?_ ?_ ?_<;>simp (disch:=(refine Om.mk ?_;omega)) only[go_sem]<;>(try omega))),⟨by omega,upto_succ hj (by simp only[MF];omega)⟩,by omega⟩
  ·refine HoldP.go ?_
   refine sw_any (id:=13) kp136 [(false,[]),(false,[]),(false,[1]),(false,[2]),(false,[0,0]),(false,[3,4,0,1,2,3,4])] ⟨75,[(6,.box 6 0),(7,.bool (decide (a.const+c*b.const≤1000000000000)))],[(6,[.int .i64 (a.const+c*b.const),.sl (.own 22000 2 1) (zs.map (.int .i64))])],[],[22000],[]⟩ (by kernel_rfl) ?_ ?_;simp only[List.length_cons,List.length_nil,Nat.reduceAdd]
   repeat' first|((refine anyB_unf ?_;simp only[stepF_n,stepF_c,goR_n,goR_c,exR_n,exR_c,memB_n,memB_c,subB_n,subB_c,moveY_m,moveY_f,moveY_i,cond_t,cond_f,true_and,and_true,Bool.not_false,Bool.not_true,Bool.and_true,Bool.and_false,Bool.true_and,Bool.false_and,Bool.or_false,Bool.false_or,Bool.true_or,Bool.or_true,Nat.reduceBEq,Nat.reduceAdd]))|((refine hK.nil (anyB_id ?_);clear hK K))|((refine lops_and ?_ ?_))|((refine lops_go 0 ?_;refine fun (K:List Oper→LS→Prop) (hK:KOk S 0 _ _ _ K)=>?_;simp (disch:=(refine Om.mk ?_;omega)) only[go_sem]))|((refine anyB_end ?_;simp (disch:=(refine Om.mk ?_;omega)) only[go_sem];(refine covers_mk0 rfl rfl ?_ ?_ ?_ ?_<;>simp (disch:=(refine Om.mk ?_;omega)) only[go_sem]<;>(try omega));done))|((first|refine runL_go ?_|refine runQ_go ?_|refine sw_ret (ret0 ?_)|refine sw_ret ?_);simp (disch:=(refine Om.mk ?_;omega)) only[go_sem,Tryz.results136])|fail
   have hy:∀x∈(addF a b c).coef,x≤MF:=by rw[hcoef];exact all_getD (P:=fun x=>x≤MF) fun j hj'=>hj j (by omega)
   rw[addR_yes hy]
   refine⟨⟨hconst.symm,hcoef.symm⟩,?_⟩
   rw[hconst]
   by_cases h1:a.const+c*b.const≤MF
   ·rw[tst_true h1];simpa[MF] using h1
   ·rw[tst_false h1];simpa[MF] using h1
theorem l15Add_fc (a b:PolyT) (c:Int) (ha:GoodB (100*MF) a) (hb:GoodB MF b) (hc:0≤c∧c≤9):FC S 136 [] [] [] [PolyD a,PolyD b,.int .i64 c] (.tup [PolyD (addR a b c).1,.bool (addR a b c).2]) [] []:=by
 refine fc_old [1] (by simp) ?_ ?_ ?_
 ·simp[PolyD,D.okLb,D.okLbL,okLbL_map (f:=fun x=>D.int .i64 x) fun _=>rfl]
 ·simp[PolyD,D.noLb,D.noLbL,noLbL_map (f:=fun x=>D.int .i64 x) fun _=>rfl]
 ·simp only[PolyD,D.lbL,D.lb,lbL_ints]
  exact l15AddL_fc a b c ha hb hc
end Go.Proofs.YtohnfgligddanaaGreat
end
