/-
  P18a, P18p, P24p, P24, P25, A17i, one behind the other.
-/
import Derived.Test.YtohnfgligddanaaGreatG4
import Derived.Test.YtohnfgligddanaaGreatG1
import Derived.Test.YtohnfgligddanaaGreatLgK16
import Derived.Test.YtohnfgligddanaaGreatG2
import Derived.Test.YtohnfgligddanaaGreatG3
import Derived.Test.YtohnfgligddanaaGreatLgK18
import Derived.Test.YtohnfgligddanaaGreatLgK10
section
namespace Go.Proofs.YtohnfgligddanaaGreat
open Go Go.Lg
set_option linter.unusedSimpArgs false
set_option linter.unusedVariables false
set_option maxHeartbeats 4000000
attribute [local irreducible] SW runL runQ runG runQG FC Ret1 toF redoL
def bRow (n:Nat) (f:Nat→Bool):List D:=(List.range n).map fun q=>.bool (f q)
theorem bRow_get {n:Nat} {f:Nat→Bool} {q:Nat} (h:Om (q<n)):(List.drop q (bRow n f)).head?=some (.bool (f q)):=by
 rw[List.head?_drop,bRow,List.getElem?_map,List.getElem?_range h.1];rfl
theorem bRow_set (n:Nat) (f:Nat→Bool) (q:Nat) (b:Bool):(bRow n f).set q (.bool b)=bRow n (fun x=>if x=q then b else f x):=by
 refine List.ext_getElem (by simp[bRow]) fun j h1 h2=>?_
 simp only[bRow,List.getElem_set,List.getElem_map,List.getElem_range]
 by_cases e:q=j
 ·subst e;simp
 ·rw[if_neg e,if_neg (fun h=>e h.symm)]
theorem bRow_len (n:Nat) (f:Nat→Bool):(bRow n f).length=n:=by simp[bRow]
theorem bRow_rep (n:Nat):List.replicate n (D.bool false)=bRow n fun _=>false:=by
 refine List.ext_getElem (by simp[bRow]) fun j h1 h2=>?_
 simp[bRow]
def gCells (n:Nat) (ps:List Nat):List D:=(List.range n).map fun p=>if p∈ps then .ms (p+5000) n else .sl .nil []
theorem gCells_get {n:Nat} {ps:List Nat} {p:Nat} (h:Om (p<n∧1≤mk1 ps p)):(List.drop p (gCells n ps)).head?=some (.ms (p+5000) n):=by
 rw[List.head?_drop,gCells,List.getElem?_map,List.getElem?_range h.1.1]
 simp[mk1_iff.1 h.1.2]
theorem gCells_len (n:Nat) (ps:List Nat):(gCells n ps).length=n:=by simp[gCells]
theorem gCells_rep (n:Nat):List.replicate n (D.sl .nil [])=gCells n []:=by
 refine List.ext_getElem (by simp[gCells]) fun j h1 h2=>?_
 simp[gCells]
def natS (set:List Int):List Nat:=set.map Int.toNat
def rowsR (n:Nat) (ps:List Nat) (r:Nat→Nat→Bool):List (Nat×List D):=rowsB 5000 ps fun x=>bRow n (r x)
def nd1 (ps:List Nat):Nat:=if ps.Nodup then 1 else 0
theorem nd1_iff {ps:List Nat}:1≤nd1 ps↔ps.Nodup:=by unfold nd1;split<;>simp_all
theorem look_rowsR {n:Nat} {ps:List Nat} {r:Nat→Nat→Bool} {p:Nat} (h:Om (1≤mk1 ps p)):Lg.look (rowsR n ps r) (p+5000)=some (bRow n (r p)):=look_rowsM h
theorem setA_rowsR {n:Nat} {ps:List Nat} {r:Nat→Nat→Bool} {p:Nat} {f:Nat→Bool} (h:Om (1≤mk1 ps p∧1≤nd1 ps)):setA (rowsR n ps r) (p+5000) (bRow n f)=rowsR n ps fun x=>if x=p then f else r x:=by
 unfold rowsR
 rw[setA_rows (nd1_iff.1 h.1.2) (mk1_iff.1 h.1.1)]
 congr 1
 funext x
 unfold updR
 by_cases e:x=p
 ·simp only[if_pos e]
 ·simp only[if_neg e]
theorem boxLe_of {bx:List (Nat×List D)}:∀ {r:List (Nat×List D)},(∀p∈r,Lg.look bx p.1=some p.2)→boxLe bx r
 | [],_=>trivial
 | (k,c)::r,h=>⟨by rw[h (k,c) List.mem_cons_self];exact rfl,boxLe_of fun p hp=>h p (List.mem_cons_of_mem _ hp)⟩
theorem rowsR_self {n:Nat} {ps:List Nat} (hn:ps.Nodup) {r:Nat→Nat→Bool} (g:List D):boxLe ((26,g)::rowsR n ps r) ((26,g)::rowsR n ps r):=boxLe_of fun q hq=>by
 rcases List.mem_cons.1 hq with rfl|hq
 ·rfl
 ·unfold rowsR rowsB at hq
  obtain⟨x,hx,rfl⟩:=List.mem_map.1 hq
  show Lg.look ((26,g)::rowsR n ps r) (x+5000)=_
  simp only[Lg.look]
  rw[if_neg (by omega)]
  exact look_rows hx
theorem rows_ids {n:Nat} {ps:List Nat} {r:Nat→Nat→Bool} {q:Nat×List D} (h:q∈rowsR n ps r):5000≤q.1∧∃x∈ps,q=(x+5000,bRow n (r x)):=by
 unfold rowsR rowsB at h
 obtain⟨x,hx,rfl⟩:=List.mem_map.1 h
 exact⟨by simp,x,hx,rfl⟩
theorem bRow_ids (n:Nat) (f:Nat→Bool):D.idsL (bRow n f)=[]:=by
 unfold bRow
 induction (List.range n) with
 | nil=>rfl
 | cons x l ih=>simp only[List.map_cons,D.idsL,D.ids,ih,List.append_nil]
theorem gCells_ids {n:Nat} {ps:List Nat} {t:Nat} (h:t<5000):(D.idsL (gCells n ps)).contains t=false:=by
 have:∀l:List Nat,t∉D.idsL (l.map fun p=>if p∈ps then D.ms (p+5000) n else .sl .nil []):=by
  intro l
  induction l with
  | nil=>simp[D.idsL]
  | cons x l ih =>
   simp only[List.map_cons,D.idsL,List.mem_append,not_or]
   refine⟨?_,ih⟩
   split
   ·simp only[D.ids,List.mem_singleton];omega
   ·simp[D.ids]
 have:=this (List.range n)
 simpa[gCells] using this
theorem keep_rows {n:Nat} {ps:List Nat} {r:Nat→Nat→Bool} {t:Nat}:keepA (noIdL t) (rowsR n ps r)=rowsR n ps r:=by
 have:∀l:List (Nat×List D),(∀q∈l,noIdL t q.2=true)→keepA (noIdL t) l=l:=by
  intro l
  induction l with
  | nil=>intro _;rfl
  | cons q l ih =>
   intro h
   obtain⟨k,c⟩:=q
   unfold keepA
   rw[if_pos (h (k,c) List.mem_cons_self),ih fun q hq=>h q (List.mem_cons_of_mem _ hq)]
 refine this _ fun q hq=>?_
 obtain⟨_,x,_,rfl⟩:=rows_ids hq
 simp[noIdL,bRow_ids]
theorem erase_rows {n:Nat} {ps:List Nat} {r:Nat→Nat→Bool} {t:Nat} (h:Om (t<5000)):eraseK t (rowsR n ps r)=rowsR n ps r:=by
 have:∀l:List (Nat×List D),(∀q∈l,q.1≠t)→eraseK t l=l:=by
  intro l
  induction l with
  | nil=>intro _;rfl
  | cons q l ih =>
   intro h
   obtain⟨k,c⟩:=q
   unfold eraseK
   rw[if_neg (h (k,c) List.mem_cons_self),ih fun q hq=>h q (List.mem_cons_of_mem _ hq)]
 refine this _ fun q hq=>?_
 have:=(rows_ids hq).1
 have:=h.1
 omega
theorem set_rows {n:Nat} {ps:List Nat} {r:Nat→Nat→Bool} {t:Nat} {c:List D} (h:Om (t<5000)):setA (rowsR n ps r) t c=rowsR n ps r++[(t,c)]:=by
 have:∀l:List (Nat×List D),(∀q∈l,q.1≠t)→setA l t c=l++[(t,c)]:=by
  intro l
  induction l with
  | nil=>intro _;rfl
  | cons q l ih =>
   intro h
   obtain⟨k,c'⟩:=q
   unfold setA
   rw[if_neg (h (k,c') List.mem_cons_self),ih fun q hq=>h q (List.mem_cons_of_mem _ hq)]
   rfl
 refine this _ fun q hq=>?_
 have:=(rows_ids hq).1
 have:=h.1
 omega
theorem gC_pu (n:Nat) (ps:List Nat) (p:Nat→Bool):(gCells n ps).map (D.pu1 p)=gCells n ps:=by
 unfold gCells
 rw[List.map_map]
 refine List.map_congr_left fun x _=>?_
 simp only[Function.comp]
 split<;>rfl
theorem gC_tks (n:Nat) (ps:List Nat):D.tksL (gCells n ps)=[]:=by
 unfold gCells
 induction (List.range n) with
 | nil=>rfl
 | cons x l ih =>
  simp only[List.map_cons,D.tksL,ih,List.append_nil]
  split<;>rfl
theorem bRow_pu (n:Nat) (f:Nat→Bool) (p:Nat→Bool):(bRow n f).map (D.pu1 p)=bRow n f:=by
 unfold bRow
 rw[List.map_map]
 exact List.map_congr_left fun x _=>rfl
theorem bRow_tks (n:Nat) (f:Nat→Bool):D.tksL (bRow n f)=[]:=by
 unfold bRow
 induction (List.range n) with
 | nil=>rfl
 | cons x l ih=>simp only[List.map_cons,D.tksL,D.tks,ih,List.append_nil]
theorem rows_pu (n:Nat) (ps:List Nat) (r:Nat→Nat→Bool) (p:Nat→Bool):mapA (List.map (D.pu1 p)) (rowsR n ps r)=rowsR n ps r:=by
 unfold rowsR rowsB
 induction ps with
 | nil=>rfl
 | cons x l ih=>simp only[List.map_cons,mapA,bRow_pu] at ih ⊢;rw[ih]
theorem rows_tks (n:Nat) (ps:List Nat) (r:Nat→Nat→Bool) (f:Nat→Bool):((rowsR n ps r).all fun q=>(D.tksL q.2).all f)=true:=by
 refine List.all_eq_true.2 fun q hq=>?_
 obtain⟨_,x,_,rfl⟩:=rows_ids hq
 rw[bRow_tks];rfl
theorem tks_mapR (g:Nat→List Int→List Nat) (xs:List (List Int)):True:=trivial
theorem rep_bRow (n:Nat):(List.replicate n [D.bool false]).flatten=bRow n fun _=>false:=by
 rw[←bRow_rep];simp
theorem look_app {α:Type} (a b:List (Nat×α)) (t:Nat):Lg.look (a++b) t=match Lg.look a t with|some d=>some d|none=>Lg.look b t:=by
 induction a with
 | nil=>rfl
 | cons q a ih =>
  obtain⟨k,c⟩:=q
  simp only[List.cons_append,Lg.look]
  split
  ·rfl
  ·exact ih
theorem rows_none (n:Nat) (r:Nat→Nat→Bool) (q:Nat×List D):q∉rowsR n (natS []) r:=fun h=>by
 obtain⟨_,x,hx,_⟩:=rows_ids h
 cases hx
theorem ren_rows {n q:Nat} {ps:List Nat} {r:Nat→Nat→Bool} (hqn:q∉ps):∀p∈(26,gCells n (ps++[q]))::rowsR n (ps++[q]) (fun x=>if x=q then fun _=>false else r x),
  (p.1=q+5000∧∃cs,Lg.look ((26,(gCells n ps).set q (.ms 37 n))::(rowsR n ps r++[(37,bRow n fun _=>false)])) 37=some cs∧p.2.length≤cs.length∧∀(j:Nat) d d',cs[j]?=some d→p.2[j]?=some d'→RenB 37 (q+5000) d d')∨(p.1≠q+5000∧p.1≠37∧∃cs,Lg.look ((26,(gCells n ps).set q (.ms 37 n))::(rowsR n ps r++[(37,bRow n fun _=>false)])) p.1=some cs∧p.2.length≤cs.length∧∀(j:Nat) d d',cs[j]?=some d→p.2[j]?=some d'→RenB 37 (q+5000) d d'):=by
 have hb:∀(f:Nat→Bool) (j:Nat) (d d':D),(bRow n f)[j]?=some d→(bRow n f)[j]?=some d'→RenB 37 (q+5000) d d':=fun f j d d' h1 h2=>by
  rw[h1] at h2
  obtain rfl:=Option.some.inj h2
  refine RenB.keep ?_
  have:=List.mem_of_getElem? h1
  unfold bRow at this
  obtain⟨x,_,rfl⟩:=List.mem_map.1 this
  rfl
 have hnone:∀t,t<5000→Lg.look (rowsR n ps r) t=none:=fun t ht=>look_rows_none fun p _=>by omega
 intro p hp
 rcases List.mem_cons.1 hp with rfl|hp
 ·refine .inr ⟨?_,?_,_,rfl,by rw[List.length_set,gCells_len,gCells_len];exact Nat.le_refl _,fun j d d' h1 h2=>?_⟩
  ·show 26≠q+5000;omega
  ·show (26:Nat)≠37;omega
  ·unfold gCells at h1 h2
   have hj:j<n:=by have:=(List.getElem?_eq_some_iff.1 h2).1;simpa using this
   rw[List.getElem?_map,List.getElem?_range hj] at h2
   obtain rfl:=Option.some.inj h2
   rw[List.getElem?_set] at h1
   by_cases e:q=j
   ·subst e
    rw[if_pos rfl,if_pos (by simpa using hj)] at h1
    obtain rfl:=Option.some.inj h1
    exact .inr (.inl ⟨n,rfl,by simp⟩)
   ·rw[if_neg e,List.getElem?_map,List.getElem?_range hj] at h1
    obtain rfl:=Option.some.inj h1
    have e2:(j∈ps++[q])=(j∈ps):=by
     rw[List.mem_append,List.mem_singleton]
     exact propext ⟨fun h=>h.resolve_right fun h=>e h.symm,.inl⟩
    simp only[e2]
    split
    ·refine .inl ⟨?_,?_,rfl⟩<;>simp only[D.ids,List.mem_singleton]<;>omega
    ·exact RenB.keep rfl
 ·obtain⟨h5,x,hx,rfl⟩:=rows_ids hp
  by_cases e:x=q
  ·subst e
   refine .inl ⟨rfl,bRow n fun _=>false,?_,?_,?_⟩
   ·simp only[Lg.look]
    rw[if_neg (by omega),look_app,hnone 37 (by omega)]
    rfl
   ·simp only[if_true];exact Nat.le_refl _
   ·simp only[if_true];exact hb _
  ·have hx:x∈ps:=by
    rw[List.mem_append,List.mem_singleton] at hx
    exact hx.resolve_right e
   refine .inr ⟨?_,?_,bRow n (r x),?_,?_,?_⟩
   ·show x+5000≠q+5000;omega
   ·show x+5000≠37;omega
   ·simp only[Lg.look]
    rw[if_neg (by omega),look_app]
    have:Lg.look (rowsR n ps r) (x+5000)=some (bRow n (r x)):=look_rows hx
    rw[this]
   ·simp only[if_neg e];exact Nat.le_refl _
   ·simp only[if_neg e];exact hb _
attribute [local irreducible] bRow gCells rowsB rowsR
attribute [local go_sem] bRow_get bRow_set gCells_get look_rowsR setA_rowsR gCells_len bRow_len keep_rows erase_rows set_rows rep_bRow gC_pu rows_pu gC_tks rows_tks
theorem gC37 (n:Nat) (ps:List Nat):(D.idsL (gCells n ps)).contains 37=false:=gCells_ids (by omega)
attribute [local go_sem] gC37
noncomputable def r0 (edges:List (List Int)) (set:List Int) (p q:Nat):Bool:=tst ((q:Int)∈edges.getD p default∧(q:Int)∈set)
noncomputable def rJ (edges:List (List Int)) (set:List Int) (p j q:Nat):Bool:=tst ((q:Int)∈(edges.getD p default).take j∧(q:Int)∈set)
theorem rJ_zero (edges:List (List Int)) (set:List Int) (p:Nat):rJ edges set p 0=fun _=>false:=by
 funext q
 unfold rJ
 exact tst_false (fun h=>by rw[List.take_zero] at h;cases h.1)
theorem take_snocP {xs:List Int} {j:Nat} (h:j<xs.length):xs.take (j+1)=xs.take j++[xs.getD j default]:=by
 rw[List.take_add_one,List.getElem?_eq_getElem h]
 simp[List.getD_eq_getElem?_getD,h]
theorem rJ_succ {edges:List (List Int)} {set:List Int} {p j:Nat} (hj:j<(edges.getD p default).length) (h0:0≤(edges.getD p default).getD j default):(fun x=>if x=((edges.getD p default).getD j default).toNat then tst ((edges.getD p default).getD j default∈set) else rJ edges set p j x)=rJ edges set p (j+1):=by
 funext x
 have ht:=take_snocP hj
 unfold rJ
 rw[ht]
 by_cases e:x=((edges.getD p default).getD j default).toNat
 ·rw[if_pos e]
  have e2:(x:Int)=(edges.getD p default).getD j default:=by omega
  rw[e2]
  exact tst_congr ⟨fun h=>⟨List.mem_append_right _ (List.mem_singleton.2 rfl),h⟩,fun h=>h.2⟩
 ·rw[if_neg e]
  refine tst_congr ⟨fun h=>⟨List.mem_append_left _ h.1,h.2⟩,fun h=>⟨?_,h.2⟩⟩
  rcases List.mem_append.1 h.1 with h1|h1
  ·exact h1
  ·rw[List.mem_singleton] at h1
   omega
theorem rJ_end (edges:List (List Int)) (set:List Int) (p:Nat):rJ edges set p (edges.getD p default).length=r0 edges set p:=by
 funext x
 unfold rJ r0
 rw[List.take_length]
theorem rows_eq {n:Nat} {ps:List Nat} (hn:ps.Nodup) (g:List D) {r r':Nat→Nat→Bool} (h:∀x,r x=r' x):boxLe ((26,g)::rowsR n ps r) ((26,g)::rowsR n ps r'):=by
 have:r=r':=funext h
 subst this
 exact rowsR_self hn g
theorem natS_len (set:List Int):(natS set).length=set.length:=List.length_map _
theorem natS_get {set:List Int} {k:Nat} (h:k<set.length):(natS set).getD k default=(set.getD k default).toNat:=by
 simp[natS,List.getD_eq_getElem?_getD,h]
def wQ (r:Nat→Nat→Bool) (m p:Nat) (ps:List Nat):Nat→Nat→Nat→Bool
 | 0=>r
 | k+1=>fun x=>if x=p then fun y=>if y=ps.getD k default then wQ r m p ps k p (ps.getD k default)||(wQ r m p ps k p m&&wQ r m p ps k m (ps.getD k default)) else wQ r m p ps k x y else wQ r m p ps k x
theorem wQ_succ (r:Nat→Nat→Bool) (m p:Nat) (ps:List Nat) (k:Nat):∀x,wQ r m p ps (k+1) x=if x=p then fun y=>if y=ps.getD k default then wQ r m p ps k p (ps.getD k default)||(wQ r m p ps k p m&&wQ r m p ps k m (ps.getD k default)) else wQ r m p ps k x y else wQ r m p ps k x:=fun _=>rfl
def wP (r:Nat→Nat→Bool) (m:Nat) (ps:List Nat):Nat→Nat→Nat→Bool
 | 0=>r
 | j+1=>wQ (wP r m ps j) m (ps.getD j default) ps ps.length
def wM (ps:List Nat) (r:Nat→Nat→Bool):Nat→Nat→Nat→Bool
 | 0=>r
 | i+1=>wP (wM ps r i) (ps.getD i default) ps ps.length
def bothC (C:Nat→Nat→Bool) (p q:Nat):Bool:=C p q&&C q p
def prtJ (C:Nat→Nat→Bool) (p:Nat) (qs:List Int) (j:Nat):List Int:=(qs.take j).filter fun q=>bothC C p q.toNat
def okC (C:Nat→Nat→Bool) (set:List Int) (i:Nat):Prop:=C (set.getD i default).toNat (set.getD i default).toNat=true∧∀l<i,bothC C (set.getD i default).toNat (set.getD l default).toNat=false
open Classical in
noncomputable def cmp (C:Nat→Nat→Bool) (set:List Int):Nat→List (List Int)
 | 0=>[]
 | i+1=>if okC C set i then cmp C set i++[prtJ C (set.getD i default).toNat (set.drop i) (set.length-i)] else cmp C set i
theorem cmp_yes {C:Nat→Nat→Bool} {set:List Int} {i:Nat} (h:okC C set i):cmp C set (i+1)=cmp C set i++[prtJ C (set.getD i default).toNat (set.drop i) (set.length-i)]:=if_pos h
theorem cmp_no {C:Nat→Nat→Bool} {set:List Int} {i:Nat} (h:¬okC C set i):cmp C set (i+1)=cmp C set i:=if_neg h
theorem cmp_len (C:Nat→Nat→Bool) (set:List Int):∀i,(cmp C set i).length≤i
 | 0=>Nat.le_refl _
 | i+1=>by
  have:=cmp_len C set i
  rcases Classical.em (okC C set i) with h|h
  ·rw[cmp_yes h,List.length_append];simp only[List.length_cons,List.length_nil];omega
  ·rw[cmp_no h];omega
noncomputable def partsR (edges:List (List Int)) (set:List Int):List (List Int):=cmp (wM (natS set) (r0 edges set) set.length) set set.length
theorem prtJ_len (C:Nat→Nat→Bool) (p:Nat) (qs:List Int) (j:Nat):(prtJ C p qs j).length≤j:=by
 unfold prtJ
 exact Nat.le_trans (List.length_filter_le _ _) (by rw[List.length_take];omega)
theorem prtJ_yes {C:Nat→Nat→Bool} {p:Nat} {qs:List Int} {j:Nat} (hj:j<qs.length) (h1:C p (qs.getD j default).toNat=true) (h2:C (qs.getD j default).toNat p=true):prtJ C p qs (j+1)=prtJ C p qs j++[qs.getD j default]:=by
 unfold prtJ
 rw[take_snocP hj,List.filter_append,List.filter_cons_of_pos (by unfold bothC;rw[h1,h2];rfl),List.filter_nil]
theorem prtJ_no {C:Nat→Nat→Bool} {p:Nat} {qs:List Int} {j:Nat} (hj:j<qs.length) (h:C p (qs.getD j default).toNat=false∨C (qs.getD j default).toNat p=false):prtJ C p qs (j+1)=prtJ C p qs j:=by
 unfold prtJ
 rw[take_snocP hj,List.filter_append,List.filter_cons_of_neg (by unfold bothC;rcases h with h|h<;>rw[h]<;>simp),List.filter_nil,List.append_nil]
theorem mapR_memP {α:Type} [Inhabited α] {g:Nat→α→D} {xs:List α} {P:D→Prop} (h:∀j x,P (g j x)):∀d∈mapR g xs,P d:=fun d hd=>by
 obtain⟨j,_,rfl⟩:=List.mem_map.1 hd
 exact h j _
theorem mapR_snocP {α:Type} [Inhabited α] (g:Nat→α→D) (xs:List α) (x:α):mapR g (xs++[x])=mapR g xs++[g xs.length x]:=by
 unfold mapR
 rw[List.length_append,List.length_singleton,List.range_succ,List.map_append]
 congr 1
 ·refine List.map_congr_left fun j hj=>?_
  have hj:=List.mem_range.1 hj
  simp[List.getD,List.getElem?_append_left hj]
 ·simp[List.getD]
def kp47:List (Nat×List Nat):=[(0,[0,1]),(1,[0,1,5]),(2,[0,1,5,27,28,29]),(3,[0,1,5,27,28,29,30]),(4,[0,1,5,7,27,28,29]),(5,[0,1,5,7,27,28,29]),(6,[0,1,5,7,27,28,29,42,43,44]),(7,[0,1,5,7,27,28,29,42,43,44,45]),(8,[0,1,5,7,9,27,28,29,42,43,44]),(9,[0,1,5,7,27,28,29,42,43,44]),(10,[0,1,5,7,27,28,29,42,43,44]),(11,[0,1,5,27,28,29]),(12,[1,5,59,60,61]),(13,[1,5,59,60,61,62]),(14,[1,5,11,59,60,61]),(15,[1,5,11,59,60,61,65,66,67]),(16,[1,5,11,59,60,61,65,66,67,68]),(17,[1,5,11,13,59,60,61,65,66,67]),(18,[1,5,11,13,59,60,61,65,66,67,71,72,73]),(19,[1,5,11,13,59,60,61,65,66,67,71,72,73,74]),(20,[1,5,11,13,15,59,60,61,65,66,67,71,72,73]),(21,[1,5,11,13,59,60,61,65,66,67,71,72,73]),(22,[1,5,11,13,59,60,61,65,66,67,71,72,73]),(23,[1,5,11,59,60,61,65,66,67]),(24,[1,5,59,60,61]),(25,[1,5,16]),(26,[1,5,16,111,112,113]),(27,[1,5,16,111,112,113,114]),(28,[1,5,16,17,18,111,112,113]),(29,[1,5,16,17,18,111,112,113,125]),(30,[1,5,16,17,18,111,112,113,128,129,130]),(31,[1,5,16,17,18,111,112,113,128,129,130,131]),(32,[1,5,16,17,18,20,111,112,113,128,129,130]),(33,[1,5,16,17,18,111,112,113,128,129,130,149]),(34,[1,5,16,17,18,111,112,113,128,129,130]),(35,[1,5,16,17,18,21,111,112,113]),(36,[1,5,16,18,21,111,112,113,153,154,155]),(37,[1,5,16,18,21,111,112,113,153,154,155,156]),(38,[1,5,16,18,21,23,111,112,113,153,154,155]),(39,[1,5,16,18,21,23,111,112,113,153,154,155,174]),(40,[1,5,16,18,21,111,112,113,153,154,155]),(41,[1,5,16,18,21,111,112,113,153,154,155]),(42,[1,5,16,111,112,113]),(43,[1,5,16,111,112,113]),(44,[4])]
attribute [go_sem] kp47
end Go.Proofs.YtohnfgligddanaaGreat
end
section
namespace Go.Proofs.YtohnfgligddanaaGreat
open Go Go.Lg
set_option linter.unusedVariables false
inductive TC (r:Nat→Nat→Bool):Nat→Nat→Prop
 | one {p q:Nat} (h:r p q=true):TC r p q
 | step {p m q:Nat} (h:r p m=true) (t:TC r m q):TC r p q
theorem TC.trans {r:Nat→Nat→Bool} {p m q:Nat} (h:TC r p m) (h':TC r m q):TC r p q:=by
 induction h with
 | one h=>exact .step h h'
 | step h _ ih=>exact .step h (ih h')
theorem TC.snoc {r:Nat→Nat→Bool} {p m q:Nat} (h:TC r p m) (h':r m q=true):TC r p q:=h.trans (.one h')
def leR (r r':Nat→Nat→Bool):Prop:=∀a b,r a b=true→r' a b=true
theorem leR.refl (r:Nat→Nat→Bool):leR r r:=fun _ _ h=>h
theorem leR.trans {r r' r'':Nat→Nat→Bool} (h:leR r r') (h':leR r' r''):leR r r'':=fun a b x=>h' a b (h a b x)
theorem wQ_mono (r:Nat→Nat→Bool) (m p:Nat) (ps:List Nat) (k:Nat):leR (wQ r m p ps k) (wQ r m p ps (k+1)):=fun a b h=>by
 rw[wQ_succ]
 by_cases e:a=p
 ·rw[if_pos e]
  by_cases e2:b=ps.getD k default
  ·show (if b=_ then _ else _)=true
   rw[if_pos e2]
   subst e;subst e2
   rw[h];rfl
  ·show (if b=_ then _ else _)=true
   rw[if_neg e2];exact h
 ·rw[if_neg e];exact h
theorem wQ_le (r:Nat→Nat→Bool) (m p:Nat) (ps:List Nat):∀k d,leR (wQ r m p ps k) (wQ r m p ps (k+d))
 | _,0=>leR.refl _
 | k,d+1=>(wQ_le r m p ps k d).trans (wQ_mono r m p ps (k+d))
theorem wQ_hit {r:Nat→Nat→Bool} {m p:Nat} {ps:List Nat} {k n:Nat} (hk:k<n) (h1:r p m=true) (h2:r m (ps.getD k default)=true):wQ r m p ps n p (ps.getD k default)=true:=by
 have a1:=wQ_le r m p ps 0 k p m h1
 have a2:=wQ_le r m p ps 0 k m (ps.getD k default) h2
 rw[Nat.zero_add] at a1 a2
 have:wQ r m p ps (k+1) p (ps.getD k default)=true:=by
  rw[wQ_succ,if_pos rfl]
  show (if ps.getD k default=ps.getD k default then _ else _)=true
  rw[if_pos rfl,a1,a2]
  cases wQ r m p ps k p (ps.getD k default)<;>rfl
 have h3:=wQ_le r m p ps (k+1) (n-(k+1)) _ _ this
 rwa [show k+1+(n-(k+1))=n by omega] at h3
theorem wP_le (r:Nat→Nat→Bool) (m:Nat) (ps:List Nat):∀j d,leR (wP r m ps j) (wP r m ps (j+d))
 | _,0=>leR.refl _
 | j,d+1=>(wP_le r m ps j d).trans (by
   have:=wQ_le (wP r m ps (j+d)) m (ps.getD (j+d) default) ps 0 ps.length
   rw[Nat.zero_add] at this
   exact this)
theorem wP_hit {r:Nat→Nat→Bool} {m:Nat} {ps:List Nat} {j n k:Nat} (hj:j<n) (hk:k<ps.length) (h1:r (ps.getD j default) m=true) (h2:r m (ps.getD k default)=true):wP r m ps n (ps.getD j default) (ps.getD k default)=true:=by
 have a1:=wP_le r m ps 0 j _ _ h1
 have a2:=wP_le r m ps 0 j _ _ h2
 rw[Nat.zero_add] at a1 a2
 have:wP r m ps (j+1) (ps.getD j default) (ps.getD k default)=true:=wQ_hit hk a1 a2
 have h3:=wP_le r m ps (j+1) (n-(j+1)) _ _ this
 rwa [show j+1+(n-(j+1))=n by omega] at h3
def Via (r:Nat→Nat→Bool) (ps:List Nat):Nat→Nat→Nat→Prop
 | 0,p,q=>r p q=true
 | i+1,p,q=>Via r ps i p q∨(Via r ps i p (ps.getD i default)∧Via r ps i (ps.getD i default) q)
theorem wM_via {r:Nat→Nat→Bool} {ps:List Nat}:∀i,i≤ps.length→∀a b,a<ps.length→b<ps.length→Via r ps i (ps.getD a default) (ps.getD b default)→wM ps r i (ps.getD a default) (ps.getD b default)=true
 | 0,_,a,b,_,_,h=>h
 | i+1,hi,a,b,ha,hb,h=>by
  have le:=wP_le (wM ps r i) (ps.getD i default) ps 0 ps.length
  rw[Nat.zero_add] at le
  rcases h with h|⟨h1,h2⟩
  ·exact le _ _ (wM_via i (by omega) a b ha hb h)
  ·exact wP_hit ha hb (wM_via i (by omega) a i ha (by omega) h1) (wM_via i (by omega) i b (by omega) hb h2)
theorem via_trans {r:Nat→Nat→Bool} {ps:List Nat}:∀i,∀l<i,∀p q,Via r ps i p (ps.getD l default)→Via r ps i (ps.getD l default) q→Via r ps i p q
 | 0,l,hl,_,_,_,_=>by omega
 | i+1,l,hl,p,q,h1,h2=>by
  have ih:=@via_trans r ps i
  by_cases e:l=i
  ·subst e
   have a1:Via r ps l p (ps.getD l default):=h1.elim id fun h=>h.1
   have a2:Via r ps l (ps.getD l default) q:=h2.elim id fun h=>h.2
   exact .inr ⟨a1,a2⟩
  ·have hl:l<i:=by omega
   rcases h1 with h1|⟨h1,h1'⟩<;>rcases h2 with h2|⟨h2,h2'⟩
   ·exact .inl (ih l hl _ _ h1 h2)
   ·exact .inr ⟨ih l hl _ _ h1 h2,h2'⟩
   ·exact .inr ⟨h1,ih l hl _ _ h1' h2⟩
   ·exact .inr ⟨h1,h2'⟩
theorem via_le {r:Nat→Nat→Bool} {ps:List Nat}:∀i p q,r p q=true→Via r ps i p q
 | 0,_,_,h=>h
 | i+1,p,q,h=>.inl (via_le i p q h)
theorem tc_via {r:Nat→Nat→Bool} {ps:List Nat} (hr:∀p q,r p q=true→q∈ps) {p q:Nat} (h:TC r p q):Via r ps ps.length p q:=by
 induction h with
 | one h=>exact via_le _ _ _ h
 | @step p m q h _ ih =>
  obtain⟨l,hl,e⟩:=List.getElem_of_mem (hr _ _ h)
  have e2:ps.getD l default=m:=by rw[List.getD_eq_getElem?_getD,List.getElem?_eq_getElem hl];exact e
  have h1:Via r ps ps.length p (ps.getD l default):=by rw[e2];exact via_le _ _ _ h
  have h2:Via r ps ps.length (ps.getD l default) q:=by rw[e2];exact ih
  exact via_trans _ l hl _ _ h1 h2
def sndR (r r':Nat→Nat→Bool):Prop:=∀a b,r' a b=true→TC r a b
theorem wQ_snd {r0 r:Nat→Nat→Bool} (h:sndR r0 r) (m p:Nat) (ps:List Nat):∀k,sndR r0 (wQ r m p ps k)
 | 0=>h
 | k+1=>fun a b hab=>by
  have ih:=wQ_snd h m p ps k
  rw[wQ_succ] at hab
  by_cases e:a=p
  ·rw[if_pos e] at hab
   have h2:(if b=ps.getD k default then wQ r m p ps k p (ps.getD k default)||(wQ r m p ps k p m&&wQ r m p ps k m (ps.getD k default)) else wQ r m p ps k a b)=true:=hab
   clear hab
   by_cases e2:b=ps.getD k default
   ·rw[if_pos e2] at h2
    rw[e,e2]
    rcases (Bool.or_eq_true _ _).mp h2 with h3|h3
    ·exact ih _ _ h3
    ·obtain⟨h4,h5⟩:=(Bool.and_eq_true _ _).mp h3
     exact(ih _ _ h4).trans (ih _ _ h5)
   ·rw[if_neg e2] at h2
    exact ih _ _ h2
  ·rw[if_neg e] at hab
   exact ih _ _ hab
theorem wP_snd {r0 r:Nat→Nat→Bool} (h:sndR r0 r) (m:Nat) (ps:List Nat):∀j,sndR r0 (wP r m ps j)
 | 0=>h
 | j+1=>wQ_snd (wP_snd h m ps j) m _ ps _
theorem wM_snd (r:Nat→Nat→Bool) (ps:List Nat):∀i,sndR r (wM ps r i)
 | 0=>fun _ _ h=>.one h
 | i+1=>wP_snd (wM_snd r ps i) _ ps _
theorem wM_tc {r:Nat→Nat→Bool} {ps:List Nat} (hr:∀p q,r p q=true→q∈ps) {a b:Nat} (ha:a∈ps) (hb:b∈ps):wM ps r ps.length a b=true↔TC r a b:=by
 refine⟨wM_snd r ps _ a b,fun h=>?_⟩
 obtain⟨i,hi,rfl⟩:=List.getElem_of_mem ha
 obtain⟨j,hj,rfl⟩:=List.getElem_of_mem hb
 have hv:=tc_via hr h
 have e1:ps.getD i default=ps[i]:=by rw[List.getD_eq_getElem?_getD,List.getElem?_eq_getElem hi];rfl
 have e2:ps.getD j default=ps[j]:=by rw[List.getD_eq_getElem?_getD,List.getElem?_eq_getElem hj];rfl
 rw[←e1,←e2] at hv ⊢
 exact wM_via _ (Nat.le_refl _) i j hi hj hv
theorem r0_mem {edges:List (List Int)} {set:List Int} {p q:Nat} (h:r0 edges set p q=true):q∈natS set:=by
 unfold r0 at h
 rw[tst_iff] at h
 exact List.mem_map.2 ⟨_,h.2,by simp⟩
end Go.Proofs.YtohnfgligddanaaGreat
end
section
namespace Go.Proofs.YtohnfgligddanaaGreat
open Go Go.Lg
set_option linter.unusedVariables false
theorem intoL_new {n:Int}:∀ {xs:List Int},n∉xs→(intoL xs n).length=xs.length+1
 | [],_=>rfl
 | x::r,h=>by
  unfold intoL
  split
  ·simp only[List.length_cons,intoL_new (xs:=r) fun e=>h (List.mem_cons_of_mem _ e)]
  ·split
   ·rename_i e;exact absurd (e ▸ List.mem_cons_self) h
   ·rfl
theorem sort_sub {out set:List Int} (h:SortP out) (hs:SortP set) (hh:∀q∈out,q∈set):out.length≤set.length:=by
 have e:out=set.filter fun q=>decide (q∈out):=sort_ext h (List.Pairwise.filter _ hs) fun x=>by
  rw[List.mem_filter]
  exact⟨fun hx=>⟨hh x hx,decide_eq_true hx⟩,fun hx=>of_decide_eq_true hx.2⟩
 rw[e];exact List.length_filter_le _ _
noncomputable def aftR (edges:List (List Int)) (set:List Int) (a:Int):List Int:=set.filter fun q=>tst (TC (r0 edges set) a.toNat q.toNat)
theorem mem_aft {edges:List (List Int)} {set:List Int} {a q:Int}:q∈aftR edges set a↔q∈set∧TC (r0 edges set) a.toNat q.toNat:=by
 unfold aftR
 rw[List.mem_filter,tst_iff]
def Clo (edges:List (List Int)) (set out:List Int) (p:Int):Prop:=∀q∈set,q∈edges.getD p.toNat default→q∈out
structure AftI (edges:List (List Int)) (set:List Int) (a:Int) (out todo:List Int):Prop where
 srt:SortP out
 sub:∀q∈out,q∈set∧TC (r0 edges set) a.toNat q.toNat
 tod:∀q∈todo,q=a∨q∈out
 clo:∀p,(p=a∨p∈out)→p∈todo∨Clo edges set out p
structure AftJ (edges:List (List Int)) (set:List Int) (a p:Int) (i:Nat) (out todo:List Int):Prop where
 srt:SortP out
 sub:∀q∈out,q∈set∧TC (r0 edges set) a.toNat q.toNat
 tod:∀q∈todo,q=a∨q∈out
 pin:p=a∨p∈out
 clo:∀p',(p'=a∨p'∈out)→p'=p∨p'∈todo∨Clo edges set out p'
 pre:∀q∈set,q∈(edges.getD p.toNat default).take i→q∈out
def mAft (set out todo:List Int):Nat:=2*(set.length-out.length)+todo.length
section
variable {edges:List (List Int)} {set:List Int} {a:Int}
theorem AftI.start:AftI edges set a [] [a] :=
 ⟨List.Pairwise.nil,fun q hq=>(by cases hq),fun q hq=>.inl (List.mem_singleton.1 hq),fun p hp=>by
  rcases hp with rfl|hp
  ·exact .inl (List.mem_singleton.2 rfl)
  ·cases hp⟩
theorem AftI.pop {out todo:List Int} {p:Int} (h:AftI edges set a out (p::todo)):AftJ edges set a p 0 out todo :=
 ⟨h.srt,h.sub,fun q hq=>h.tod q (List.mem_cons_of_mem _ hq),h.tod p List.mem_cons_self,fun p' hp'=>by
  rcases h.clo p' hp' with h1|h1
  ·rcases List.mem_cons.1 h1 with h1|h1
   ·exact .inl h1
   ·exact .inr (.inl h1)
  ·exact .inr (.inr h1),fun q _ hq=>by rw[List.take_zero] at hq;cases hq⟩
theorem AftJ.done {out todo:List Int} {p:Int} {i:Nat} (h:AftJ edges set a p i out todo) (hi:(edges.getD p.toNat default).length≤i):AftI edges set a out todo :=
 ⟨h.srt,h.sub,h.tod,fun p' hp'=>by
  rcases h.clo p' hp' with rfl|h1|h1
  ·exact .inr fun q hq hg=>h.pre q hq (by rw[List.take_of_length_le hi];exact hg)
  ·exact .inl h1
  ·exact .inr h1⟩
theorem AftJ.skip {out todo:List Int} {p:Int} {i:Nat} (h:AftJ edges set a p i out todo) (hi:i<(edges.getD p.toNat default).length) (hq:(edges.getD p.toNat default).getD i default∈set→(edges.getD p.toNat default).getD i default∈out):AftJ edges set a p (i+1) out todo :=
 ⟨h.srt,h.sub,h.tod,h.pin,h.clo,fun q h1 h2=>by
  rw[take_snocP hi] at h2
  rcases List.mem_append.1 h2 with h2|h2
  ·exact h.pre q h1 h2
  ·rw[List.mem_singleton.1 h2] at h1 ⊢;exact hq h1⟩
theorem AftJ.push {out todo:List Int} {p:Int} {i:Nat} (h:AftJ edges set a p i out todo) (ha:0≤a) (hp:∀q∈set,0≤q) (hi:i<(edges.getD p.toNat default).length) (hq:(edges.getD p.toNat default).getD i default∈set):AftJ edges set a p (i+1) (intoL out ((edges.getD p.toNat default).getD i default)) (todo++[(edges.getD p.toNat default).getD i default]):=by
 have hmem:∀x,x∈intoL out ((edges.getD p.toNat default).getD i default)↔x∈out∨x=(edges.getD p.toNat default).getD i default:=fun x=>mem_intoL x _ _
 have hin:(edges.getD p.toNat default).getD i default∈edges.getD p.toNat default:=getD_mem _ _ hi
 have hr:r0 edges set p.toNat ((edges.getD p.toNat default).getD i default).toNat=true:=by
  unfold r0
  rw[tst_iff,Int.toNat_of_nonneg (hp _ hq)]
  exact⟨hin,hq⟩
 have hT:TC (r0 edges set) a.toNat ((edges.getD p.toNat default).getD i default).toNat:=by
  rcases h.pin with rfl|h1
  ·exact .one hr
  ·exact(h.sub p h1).2.snoc hr
 refine⟨sort_intoL _ _ h.srt,fun q h1=>?_,fun q h1=>?_,h.pin.imp id fun h1=>(hmem p).2 (.inl h1),fun p' h1=>?_,fun q h1 h2=>?_⟩
 ·rcases (hmem q).1 h1 with h1|rfl
  ·exact h.sub q h1
  ·exact⟨hq,hT⟩
 ·rcases List.mem_append.1 h1 with h1|h1
  ·exact(h.tod q h1).imp id fun h2=>(hmem q).2 (.inl h2)
  ·rw[List.mem_singleton.1 h1];exact .inr ((hmem _).2 (.inr rfl))
 ·have h2:p'=(edges.getD p.toNat default).getD i default∨(p'=a∨p'∈out):=by
   rcases h1 with h1|h1
   ·exact .inr (.inl h1)
   ·rcases (hmem p').1 h1 with h1|h1
    ·exact .inr (.inr h1)
    ·exact .inl h1
  rcases h2 with h2|h2
  ·exact .inr (.inl (by rw[h2];simp))
  ·rcases h.clo p' h2 with h3|h3|h3
   ·exact .inl h3
   ·exact .inr (.inl (List.mem_append_left _ h3))
   ·exact .inr (.inr fun q k1 k2=>(hmem q).2 (.inl (h3 q k1 k2)))
 ·rw[take_snocP hi] at h2
  rcases List.mem_append.1 h2 with h2|h2
  ·exact(hmem q).2 (.inl (h.pre q h1 h2))
  ·exact(hmem q).2 (.inr (List.mem_singleton.1 h2))
theorem AftI.reach {out:List Int} (h:AftI edges set a out []) (ha:0≤a) {p q:Nat} (ht:TC (r0 edges set) p q):((p:Int)=a∨(p:Int)∈out)→(q:Int)∈out:=by
 have key:∀ {p m:Nat},r0 edges set p m=true→((p:Int)=a∨(p:Int)∈out)→(m:Int)∈out:=fun {p m} hr hp=>by
  unfold r0 at hr
  rw[tst_iff] at hr
  rcases h.clo p hp with h1|h1
  ·cases h1
  ·exact h1 m hr.2 (by rw[Int.toNat_natCast];exact hr.1)
 induction ht with
 | one hr=>exact key hr
 | step hr _ ih=>exact fun hp=>ih (.inr (key hr hp))
theorem AftI.eq {out:List Int} (h:AftI edges set a out []) (ha:0≤a) (hs:SortP set) (hp:∀q∈set,0≤q):out=aftR edges set a :=
 sort_ext h.srt (List.Pairwise.filter _ hs) fun q=>by
  show q∈out↔q∈aftR edges set a
  rw[mem_aft]
  refine⟨h.sub q,fun hq=>?_⟩
  have:=h.reach ha hq.2 (.inl (Int.toNat_of_nonneg ha))
  rwa [Int.toNat_of_nonneg (hp q hq.1)] at this
end
noncomputable def CM (edges:List (List Int)) (set:List Int):Nat→Nat→Bool:=wM (natS set) (r0 edges set) set.length
section
variable {edges:List (List Int)} {set:List Int}
theorem natS_mem {q:Int} (h:q∈set):q.toNat∈natS set:=List.mem_map.2 ⟨q,h,rfl⟩
theorem CM_tc {p q:Int} (hp:p∈set) (hq:q∈set):CM edges set p.toNat q.toNat=true↔TC (r0 edges set) p.toNat q.toNat:=by
 unfold CM
 rw[←natS_len]
 exact wM_tc (fun _ _ h=>r0_mem h) (natS_mem hp) (natS_mem hq)
theorem CM_aft {p q:Int} (hp:p∈set) (hq:q∈set):q∈aftR edges set p↔CM edges set p.toNat q.toNat=true:=by
 rw[mem_aft,CM_tc hp hq]
 exact⟨fun h=>h.2,fun h=>⟨hq,h⟩⟩
theorem CM_trans {p m q:Int} (hp:p∈set) (hm:m∈set) (hq:q∈set) (h1:CM edges set p.toNat m.toNat=true) (h2:CM edges set m.toNat q.toNat=true):CM edges set p.toNat q.toNat=true :=
 (CM_tc hp hq).2 (((CM_tc hp hm).1 h1).trans ((CM_tc hm hq).1 h2))
theorem both_iff {C:Nat→Nat→Bool} {p q:Nat}:bothC C p q=true↔C p q=true∧C q p=true:=by unfold bothC;simp
theorem both_symm {C:Nat→Nat→Bool} {p q:Nat}:bothC C p q=bothC C q p:=by unfold bothC;rw[Bool.and_comm]
theorem both_trans {p m q:Int} (hp:p∈set) (hm:m∈set) (hq:q∈set) (h1:bothC (CM edges set) p.toNat m.toNat=true) (h2:bothC (CM edges set) m.toNat q.toNat=true):bothC (CM edges set) p.toNat q.toNat=true:=by
 rw[both_iff] at *
 exact⟨CM_trans hp hm hq h1.1 h2.1,CM_trans hq hm hp h2.2 h1.2⟩
def DoneI (edges:List (List Int)) (set:List Int) (i:Nat) (done:List Int):Prop:=∀q∈set,q∈done↔∃l<i,okC (CM edges set) set l∧bothC (CM edges set) (set.getD l default).toNat q.toNat=true
theorem DoneI.start:DoneI edges set 0 []:=fun q _=>⟨fun h=>(by cases h),fun⟨l,h,_⟩=>absurd h (by omega)⟩
theorem DoneI.ok {i:Nat} {done:List Int} (h:DoneI edges set i done) (hi:i<set.length):okC (CM edges set) set i↔(set.getD i default∈aftR edges set (set.getD i default)∧set.getD i default∉done):=by
 have hm:set.getD i default∈set:=getD_mem set i hi
 rw[CM_aft hm hm,h _ hm]
 constructor
 ·rintro⟨h1,h2⟩
  refine⟨h1,?_⟩
  rintro⟨l,hl,_,h3⟩
  rw[both_symm,h2 l hl] at h3
  cases h3
 ·rintro⟨h1,h2⟩
  refine⟨h1,fun l hl=>?_⟩
  have key:∀n l,l≤n→l<i→bothC (CM edges set) (set.getD i default).toNat (set.getD l default).toNat=true→False:=by
   intro n
   induction n with
   | zero =>
    intro l hl hli hb
    obtain rfl:l=0:=by omega
    have hml:set.getD 0 default∈set:=getD_mem set 0 (by omega)
    refine h2 ⟨0,hli,⟨?_,fun l' hl'=>absurd hl' (by omega)⟩,by rw[both_symm];exact hb⟩
    have hb':=both_iff.1 hb
    exact CM_trans hml hm hml hb'.2 hb'.1
   | succ n ih =>
    intro l hl hli hb
    have hml:set.getD l default∈set:=getD_mem set l (by omega)
    by_cases hex:∃l',l'<l∧bothC (CM edges set) (set.getD l default).toNat (set.getD l' default).toNat=true
    ·obtain⟨l',h3,h4⟩:=hex
     exact ih l' (by omega) (by omega) (both_trans hm hml (getD_mem set l' (by omega)) hb h4)
    ·refine h2 ⟨l,hli,⟨?_,fun l' hl'=>?_⟩,by rw[both_symm];exact hb⟩
     ·have hb':=both_iff.1 hb
      exact CM_trans hml hm hml hb'.2 hb'.1
     ·cases hb2:bothC (CM edges set) (set.getD l default).toNat (set.getD l' default).toNat with
      | false=>rfl
      | true=>exact absurd ⟨l',hl',hb2⟩ hex
  cases hb:bothC (CM edges set) (set.getD i default).toNat (set.getD l default).toNat with
  | false=>rfl
  | true=>exact(key l l (Nat.le_refl _) hl hb).elim
theorem DoneI.no {i:Nat} {done:List Int} (h:DoneI edges set i done) (ho:¬okC (CM edges set) set i):DoneI edges set (i+1) done:=fun q hq=>by
 rw[h q hq]
 constructor
 ·rintro⟨l,h1,h2⟩;exact⟨l,by omega,h2⟩
 ·rintro⟨l,h1,h2,h3⟩
  rcases Nat.lt_or_ge l i with h4|h4
  ·exact⟨l,h4,h2,h3⟩
  ·obtain rfl:l=i:=by omega
   exact absurd h2 ho
noncomputable def prS (edges:List (List Int)) (set:List Int) (i k:Nat):List Int:=(set.take k).filter fun q=>bothC (CM edges set) (set.getD i default).toNat q.toNat
theorem prS_yes {i k:Nat} (hk:k<set.length) (h:bothC (CM edges set) (set.getD i default).toNat (set.getD k default).toNat=true):prS edges set i (k+1)=prS edges set i k++[set.getD k default]:=by
 unfold prS
 rw[take_snocP hk,List.filter_append]
 simp only[List.filter_cons,List.filter_nil,h,if_true]
theorem prS_no {i k:Nat} (hk:k<set.length) (h:¬bothC (CM edges set) (set.getD i default).toNat (set.getD k default).toNat=true):prS edges set i (k+1)=prS edges set i k:=by
 unfold prS
 rw[take_snocP hk,List.filter_append]
 simp only[List.filter_cons,List.filter_nil,if_neg h,List.append_nil]
theorem prS_zero (i:Nat):prS edges set i 0=[]:=by unfold prS;rw[List.take_zero];rfl
theorem prS_len (i k:Nat):(prS edges set i k).length≤k:=by
 unfold prS
 exact Nat.le_trans (List.length_filter_le _ _) (by rw[List.length_take];omega)
theorem DoneI.yes {i:Nat} {done:List Int} (h:DoneI edges set i done) (ho:okC (CM edges set) set i) {k:Nat} (hk:set.length≤k):DoneI edges set (i+1) (done++prS edges set i k):=fun q hq=>by
 unfold prS
 rw[List.take_of_length_le hk,List.mem_append,List.mem_filter,h q hq]
 constructor
 ·rintro (⟨l,h1,h2⟩|⟨_,h2⟩)
  ·exact⟨l,by omega,h2⟩
  ·exact⟨i,by omega,ho,h2⟩
 ·rintro⟨l,h1,h2,h3⟩
  rcases Nat.lt_or_ge l i with h4|h4
  ·exact .inl ⟨l,h4,h2,h3⟩
  ·obtain rfl:l=i:=by omega
   exact .inr ⟨hq,h3⟩
theorem prS_eq {i:Nat} (hi:i<set.length) (ho:okC (CM edges set) set i) {k:Nat} (hk:set.length≤k):prS edges set i k=prtJ (CM edges set) (set.getD i default).toNat (set.drop i) (set.length-i):=by
 unfold prS prtJ
 rw[List.take_of_length_le hk,List.take_of_length_le (by rw[List.length_drop];omega)]
 have hsp:∀f:Int→Bool,set.filter f=(set.take i).filter f++(set.drop i).filter f:=fun f=>by rw[←List.filter_append,List.take_append_drop]
 rw[hsp]
 have:(set.take i).filter (fun q=>bothC (CM edges set) (set.getD i default).toNat q.toNat)=[]:=by
  rw[List.filter_eq_nil_iff]
  intro q hq
  obtain⟨l,hl,rfl⟩:=List.getElem_of_mem hq
  rw[List.length_take] at hl
  rw[List.getElem_take]
  have:=ho.2 l (by omega)
  rw[List.getD_eq_getElem?_getD (l:=set) (i:=l),List.getElem?_eq_getElem (by omega)] at this
  simpa using this
 rw[this,List.nil_append]
end
end Go.Proofs.YtohnfgligddanaaGreat
end
section
namespace Go.Proofs.YtohnfgligddanaaGreat
open Go Go.Lg
set_option linter.unusedSimpArgs false
set_option linter.unusedVariables false
set_option maxHeartbeats 4000000
attribute [local irreducible] SW runL runQ runG runQG FC Ret1 aftR CM
def kp36:List (Nat×List Nat):=[(0,[0,1,2]),(1,[0,1,2,7]),(2,[0,1,7,8]),(3,[0,1,7,8,17]),(4,[0,1,7,8,9]),(5,[0,1,7,8,9]),(6,[0,1,7,8,9,10]),(7,[0,1,7,8,9,10,29]),(9,[0,1,7,8,9,10,11]),(10,[0,1,7,8,9,10,11,47]),(11,[0,1,7,8,9,10,11]),(12,[0,1,7,8,9,10]),(8,[0,1,7,8,9,10]),(13,[6])]
attribute [go_sem] kp36
theorem l18After_fc (edges:List (List Int)) (set:List Int) (a:Int) (hn:edges.length≤1000) (hin:∀q∈set,0≤q∧q<edges.length) (ha:0≤a∧a<edges.length) (hEl:∀i<edges.length,(edges.getD i default).length≤1000) (hs:SortP set) (hsl:set.length≤1000):FC S 36 [] [] [] [.sl .any (edges.map IntsD),.sl .any (set.map (.int .i64)),.int .i64 a] (.sl .any ((aftR edges set a).map (.int .i64))) [] []:=by
 have hp0:∀q∈set,0≤q:=fun q hq=>(hin q hq).1
 refine fc_body Tryz.func36 rfl (by kernel_rfl) (by simp[Tryz.f36]) fun B=>?_
 simp only[Tryz.ntmps36,enumD,lst0,Nat.reduceAdd]
 repeat' first|((refine sw_goB (id:=2) 0 kp36 1 55000 rfl fun K hK=>?_))|((refine⟨_,_,_,rfl,rfl,rfl,⟨⟨by simp only[Nat.reduceLT],by decide,by decide,by decide⟩,rfl,by simp[D.strip,strip1,D.cells,D.memOk,TyI.size]⟩,rfl,by simp only[Nat.reduceLT],?_⟩;simp only[go_sem]))|refine sw_seq ?_|refine sw_block ?_|refine sw_go 0 kp36 fun K hK=>?_|((first|refine runL_go ?_|refine sw_ret (ret0 ?_)|refine sw_ret ?_);simp (disch:=(refine Om.mk ?_;omega)) only[go_sem,Tryz.results36])|(refine hK.nil ?_;clear hK K;simp only[go_sem])|fail
 refine sw_toQue 8 rfl ?_
 simp only[go_sem]
 refine sw_loopT (ι:=List Int×List Int) (fun p=>[(0,.sl .any (edges.map IntsD)),(1,.sl .any (set.map (.int .i64))),(7,.sl .any (p.1.map (.int .i64))),(8,.sl (.que 55000 2) (p.2.map (.int .i64)))]) (fun _=>[]) (fun _=>[55000]) (fun p=>AftI edges set a p.1 p.2∧mAft set p.1 p.2≤2001) (fun p=>mAft set p.1 p.2) ([],[a]) (by(refine covers_mk0 rfl rfl ?_ ?_ ?_ ?_<;>simp (disch:=(refine Om.mk ?_;omega)) only[go_sem]<;>(try omega))) ⟨AftI.start,by show 2*(set.length-0)+1≤2001;omega⟩ (fun p hp=>?_)
 obtain⟨out,todo⟩:=p
 obtain⟨hp,hM⟩:=hp
 dsimp only at hp hM
 simp only[go_sem]
 rcases todo with _|⟨p,todo⟩
 ·repeat' first|((exfalso;omega))|refine sw_seq ?_|refine sw_go 0 kp36 fun K hK=>?_|((first|refine runL_go ?_|refine sw_ret (ret0 ?_)|refine sw_ret ?_);simp (disch:=(refine Om.mk ?_;omega)) only[go_sem,Tryz.results36])|(refine hK.nil ?_;clear hK K;simp only[go_sem])|((first|refine runG_fork rfl rfl rfl rfl rfl ?_ ?_|refine sw_cond rfl ?_ ?_)<;>intro h<;>try simp (disch:=(refine Om.mk ?_;omega)) only[go_sem] at h)|refine sw_exit rfl ?_|fail
  all_goals first|exact hp.eq ha.1 hs hp0|(rw[hp.eq ha.1 hs hp0];done)|trace_state
 ·have hpr:0≤p∧p<edges.length:=by
   rcases hp.tod p List.mem_cons_self with rfl|h
   ·exact ha
   ·exact hin p (hp.sub p h).1
  have hgl:=hEl p.toNat (by omega)
  have hJ:=hp.pop
  have hm0:mAft set out todo+1≤mAft set out (p::todo):=by unfold mAft;simp only[List.length_cons];omega
  generalize hm1:mAft set out (p::todo)=m0 at *
  repeat' first|((exfalso;omega))|((refine sw_goAt (id:=5) 0 kp36 1 rfl fun K hK=>?_))|refine sw_seq ?_|refine sw_block ?_|refine sw_skip ?_|refine sw_go 0 kp36 fun K hK=>?_|((first|refine runL_go ?_|refine sw_ret (ret0 ?_)|refine sw_ret ?_);simp (disch:=(refine Om.mk ?_;omega)) only[go_sem,Tryz.results36])|(refine hK.nil ?_;clear hK K;simp only[go_sem])|((first|refine runG_fork rfl rfl rfl rfl rfl ?_ ?_|refine sw_cond rfl ?_ ?_)<;>intro h<;>try simp (disch:=(refine Om.mk ?_;omega)) only[go_sem] at h)|(with_reducible refine And.intro (by first|omega|(simp only[lens];omega)) ?_)|fail
  refine LopsW.sliceQue (tk:=.que 55000 2) (k:=55000) (xs:=(p::todo).map (.int .i64)) (m:=1) (kd:=.i64) (by simp only[go_sem]) (.inr rfl) (by simp only[go_sem]) rfl rfl rfl ⟨by decide,by rw[List.length_map,List.length_cons];omega⟩ (fun x hx=>by obtain⟨y,_,rfl⟩:=List.mem_map.1 hx;rfl) (by simp only[Nat.reduceLT]) (LopsW.nil ?_)
  simp only[go_sem]
  refine fun (K:List Oper→LS→Prop) (hK:KOk S 0 _ _ _ K)=>?_
  try simp only[go_sem]
  repeat' first|refine sw_seq ?_|refine sw_block ?_|refine sw_go 0 kp36 fun K hK=>?_|((first|refine runL_go ?_|refine sw_ret (ret0 ?_)|refine sw_ret ?_);simp (disch:=(refine Om.mk ?_;omega)) only[go_sem,Tryz.results36])|(refine hK.nil ?_;clear hK K;simp only[go_sem])|fail
  refine sw_loopT (ι:=Nat×List Int×List Int) (fun q=>[(0,.sl .any (edges.map IntsD)),(1,.sl .any (set.map (.int .i64))),(7,.sl .any (q.2.1.map (.int .i64))),(8,.sl (.que 55000 2) (q.2.2.map (.int .i64))),(9,.int .i64 p),(10,.int .i64 q.1)]) (fun _=>[]) (fun _=>[55000]) (fun q=>q.1≤(edges.getD p.toNat default).length∧AftJ edges set a p q.1 q.2.1 q.2.2∧mAft set q.2.1 q.2.2+1≤m0) (fun q=>(edges.getD p.toNat default).length-q.1) (0,out,todo) (by(refine covers_mk0 rfl rfl ?_ ?_ ?_ ?_<;>simp (disch:=(refine Om.mk ?_;omega)) only[go_sem]<;>(try omega));all_goals first|exact⟨rfl,rfl⟩|trace_state) ⟨by simp,hJ,hm0⟩ (fun q hq=>?_)
  obtain⟨i,out',todo'⟩:=q
  obtain⟨h1,h2,h3⟩:=hq
  dsimp only at h1 h2 h3
  simp only[go_sem]
  have hol:=sort_sub h2.srt hs fun q hq=>(h2.sub q hq).1
  have htl:todo'.length≤2001:=by unfold mAft at h3;omega
  by_cases hig:i<(edges.getD p.toNat default).length
  ·have c1:=l1Has_fc .any set ((edges.getD p.toNat default).getD i default)
   have c2:=l1Has_fc .any out' ((edges.getD p.toNat default).getD i default)
   have c3:=l1Into_fc .any out' ((edges.getD p.toNat default).getD i default) (by omega)
   have hi2:i<(edges.getD p.toNat default).length:=hig
   by_cases k1:(edges.getD p.toNat default).getD i default∈set
   ·by_cases k2:(edges.getD p.toNat default).getD i default∈out'
    ·have hS:=h2.skip hi2 (fun _=>k2)
     repeat' first|((exfalso;omega))|((exact absurd k1 (by assumption)))|((exact absurd k2 (by assumption)))|refine sw_seq ?_|refine sw_block ?_|refine sw_inBlock ?_|refine sw_skip ?_|refine sw_go 0 kp36 fun K hK=>?_|((first|refine runL_go ?_|refine sw_ret (ret0 ?_)|refine sw_ret ?_);simp (disch:=(refine Om.mk ?_;omega)) only[go_sem,Tryz.results36])|(refine hK.nil ?_;clear hK K;simp only[go_sem])|((first|refine runG_fork rfl rfl rfl rfl rfl ?_ ?_|refine sw_cond rfl ?_ ?_)<;>intro h<;>try simp (disch:=(refine Om.mk ?_;omega)) only[go_sem] at h)|refine sw_loopEnd ?_|refine hK.c0 rfl rfl rfl (c1) rfl rfl rfl ?_|refine hK.c0 rfl rfl rfl (c2) rfl rfl rfl ?_|(with_reducible refine And.intro (by first|omega|(simp only[lens];omega)) ?_)|fail
     all_goals exact⟨(i+1,out',todo'),(by(refine covers_mk0 rfl rfl ?_ ?_ ?_ ?_<;>simp (disch:=(refine Om.mk ?_;omega)) only[go_sem]<;>(try omega))),⟨by dsimp only;omega,hS,h3⟩,by dsimp only;omega⟩
    ·have hS:=h2.push ha.1 hp0 hi2 k1
     have hnl:=intoL_new k2
     have hol2:=sort_sub hS.srt hs fun q hq=>(hS.sub q hq).1
     have hm2:mAft set (intoL out' ((edges.getD p.toNat default).getD i default)) (todo'++[(edges.getD p.toNat default).getD i default])+1≤m0:=by
      unfold mAft at h3 ⊢
      rw[List.length_append,List.length_singleton]
      omega
     generalize hzo:intoL out' ((edges.getD p.toNat default).getD i default)=zo at *
     repeat' first|((exfalso;omega))|((exact absurd k1 (by assumption)))|((exact absurd (by assumption) k2))|((refine sw_goAt (id:=12) 0 kp36 3 rfl fun K hK=>?_))|refine sw_seq ?_|refine sw_block ?_|refine sw_skip ?_|refine sw_go 0 kp36 fun K hK=>?_|((first|refine runL_go ?_|refine sw_ret (ret0 ?_)|refine sw_ret ?_);simp (disch:=(refine Om.mk ?_;omega)) only[go_sem,Tryz.results36])|(refine hK.nil ?_;clear hK K;simp only[go_sem])|((first|refine runG_fork rfl rfl rfl rfl rfl ?_ ?_|refine sw_cond rfl ?_ ?_)<;>intro h<;>try simp (disch:=(refine Om.mk ?_;omega)) only[go_sem] at h)|refine hK.c0 rfl rfl rfl (c1) rfl rfl rfl ?_|refine hK.c0 rfl rfl rfl (c2) rfl rfl rfl ?_|refine hK.c0 rfl rfl rfl (c3) rfl rfl rfl ?_|(with_reducible refine And.intro (by first|omega|(simp only[lens];omega)) ?_)|fail
     refine LopsW.appQue 55000 (k:=55000) (tk2:=.full) (xs:=todo'.map (.int .i64)) (y:=.int .i64 ((edges.getD p.toNat default).getD i default)) (by simp only[go_sem]) (by simp only[go_sem]) rfl rfl rfl (by simp) (by first|rfl|(simp only[go_sem];done)) (fun x hx=>by obtain⟨y,_,rfl⟩:=List.mem_map.1 hx;rfl) rfl (by rw[List.length_map];simp only[TyI.bytes];omega) (by rw[List.length_map];omega) (by simp only[Nat.reduceLT]) (LopsW.nil ?_)
     simp only[go_sem]
     refine fun (K:List Oper→LS→Prop) (hK:KOk S 0 _ _ _ K)=>?_
     try simp only[go_sem]
     repeat' first|refine sw_inBlock ?_|refine sw_go 0 kp36 fun K hK=>?_|((first|refine runL_go ?_|refine sw_ret (ret0 ?_)|refine sw_ret ?_);simp (disch:=(refine Om.mk ?_;omega)) only[go_sem,Tryz.results36])|(refine hK.nil ?_;clear hK K;simp only[go_sem])|refine sw_loopEnd ?_|fail
     all_goals exact⟨(i+1,zo,todo'++[(edges.getD p.toNat default).getD i default]),(by(refine covers_mk0 rfl rfl ?_ ?_ ?_ ?_<;>simp (disch:=(refine Om.mk ?_;omega)) only[go_sem]<;>(try omega));all_goals first|(simp;done)|trace_state),⟨by dsimp only;omega,hS,hm2⟩,by dsimp only;omega⟩
   ·have hS:=h2.skip hi2 (fun h=>absurd h k1)
    repeat' first|((exfalso;omega))|((exact absurd (by assumption) k1))|refine sw_seq ?_|refine sw_block ?_|refine sw_inBlock ?_|refine sw_skip ?_|refine sw_go 0 kp36 fun K hK=>?_|((first|refine runL_go ?_|refine sw_ret (ret0 ?_)|refine sw_ret ?_);simp (disch:=(refine Om.mk ?_;omega)) only[go_sem,Tryz.results36])|(refine hK.nil ?_;clear hK K;simp only[go_sem])|((first|refine runG_fork rfl rfl rfl rfl rfl ?_ ?_|refine sw_cond rfl ?_ ?_)<;>intro h<;>try simp (disch:=(refine Om.mk ?_;omega)) only[go_sem] at h)|refine hK.skp rfl rfl ?_|refine sw_loopEnd ?_|refine hK.c0 rfl rfl rfl (c1) rfl rfl rfl ?_|(with_reducible refine And.intro (by first|omega|(simp only[lens];omega)) ?_)|fail
    all_goals exact⟨(i+1,out',todo'),(by(refine covers_mk0 rfl rfl ?_ ?_ ?_ ?_<;>simp (disch:=(refine Om.mk ?_;omega)) only[go_sem]<;>(try omega))),⟨by dsimp only;omega,hS,h3⟩,by dsimp only;omega⟩
  ·have hD:=h2.done (by omega)
   repeat' first|((exfalso;omega))|refine sw_seq ?_|refine sw_inBlock ?_|refine sw_go 0 kp36 fun K hK=>?_|((first|refine runL_go ?_|refine sw_ret (ret0 ?_)|refine sw_ret ?_);simp (disch:=(refine Om.mk ?_;omega)) only[go_sem,Tryz.results36])|(refine hK.nil ?_;clear hK K;simp only[go_sem])|((first|refine runG_fork rfl rfl rfl rfl rfl ?_ ?_|refine sw_cond rfl ?_ ?_)<;>intro h<;>try simp (disch:=(refine Om.mk ?_;omega)) only[go_sem] at h)|refine sw_exit rfl ?_|refine sw_loopEnd ?_|(with_reducible refine And.intro (by first|omega|(simp only[lens];omega)) ?_)|fail
   all_goals exact⟨(out',todo'),(by(refine covers_mk0 rfl rfl ?_ ?_ ?_ ?_<;>simp (disch:=(refine Om.mk ?_;omega)) only[go_sem]<;>(try omega))),⟨hD,by dsimp only;omega⟩,by dsimp only;omega⟩
end Go.Proofs.YtohnfgligddanaaGreat
end
section
namespace Go.Proofs.YtohnfgligddanaaGreat
open Go Go.Lg
set_option linter.unusedSimpArgs false
set_option linter.unusedVariables false
set_option maxHeartbeats 4000000
attribute [local irreducible] SW runL runQ runG runQG FC Ret1 aftR CM okC prS
def kp17:List (Nat×List Nat):=[(0,[0,1]),(1,[0,1,5]),(2,[0,1,5,6]),(3,[0,1,5,6,16]),(5,[0,1,5,6]),(4,[0,1,5,6]),(6,[1,5,7]),(7,[1,5,7,8]),(8,[1,5,7,8,9]),(9,[1,5,7,8,9,34]),(11,[1,5,7,8,9,54]),(12,[1,5,7,8,9,10]),(13,[1,5,7,8,9,10,11]),(14,[1,5,7,8,9,10,11,59]),(16,[1,5,7,8,9,10,11,81]),(17,[1,5,7,8,9,10,11]),(18,[1,5,7,8,9,10,11]),(15,[1,5,7,8,9,10,11]),(19,[1,5,7,8,9]),(10,[1,5,7,8,9]),(20,[4])]
attribute [go_sem] kp17
end Go.Proofs.YtohnfgligddanaaGreat
end
section
namespace Go.Proofs.YtohnfgligddanaaGreat
open Go Go.Lg
set_option linter.unusedSimpArgs false
set_option linter.unusedVariables false
set_option maxHeartbeats 4000000
attribute [local irreducible] SW runL runQ runG runQG FC Ret1 toF redoL anyB addJ sumF formM
def kp119:List (Nat×List Nat):=[(0,[1,2]),(1,[3])]
attribute [go_sem] kp119
theorem isDefined1_fc (f:Int) (r:RuleT) (h:1≤r.l.length):FC S 119 [(3,[.int .i64 f])] [] [] ([RuleD r]++[.box 3 0]) (.bool (tst (r.l.getD 0 default=f))) [] []:=by
 refine fc_body Tryz.func119 rfl (by kernel_rfl) (by simp[Tryz.f119]) fun B=>?_
 simp only[Tryz.ntmps119,enumD,lst0,Nat.reduceAdd]
 repeat' first|refine sw_seq ?_|refine sw_go 100 kp119 fun K hK=>?_|refine sw_goD kp119 (by kernel_rfl) fun K hK=>?_|((first|refine runL_go ?_|refine runQ_go ?_|refine sw_ret (ret0 ?_)|refine sw_ret ?_);simp (disch:=(refine Om.mk ?_;omega)) only[go_sem,Tryz.results119])|(refine hK.nil ?_;clear hK K;simp only[go_sem])|(with_reducible refine And.intro (by first|omega|(simp only[lens];omega)) ?_)|fail
def kp100:List (Nat×List Nat):=[(0,[2,3]),(1,[4])]
attribute [go_sem] kp100
theorem isDefined_fc (x:SystemT) (f:Int) (h:∀r∈x.rules,1≤r.l.length):FC S 100 [] [] [] [SystemD x,.int .i64 f] (.bool (tst (DefP x f))) [] []:=by
 refine fc_body Tryz.func100 rfl (by kernel_rfl) (by simp[Tryz.f100]) fun B=>?_
 simp only[Tryz.ntmps100,enumD,lst0,Nat.reduceAdd]
 repeat' first|refine sw_seq ?_|refine sw_go 0 kp100 fun K hK=>?_|((first|refine runL_go ?_|refine sw_ret (ret0 ?_)|refine sw_ret ?_);simp (disch:=(refine Om.mk ?_;omega)) only[go_sem,Tryz.results100])|(refine hK.nil ?_;clear hK K;simp only[go_sem])|refine hK.call rfl rfl rfl (containsFuncRule_fc _ x.rules (fun r=>r.l.getD 0 default=f) _ _ [(3,[.int .i64 f])] (by simp[Lg.look]) (fun r hr=>isDefined1_fc f r (h r hr))) ⟨(by simp[LS.getBox,Lg.look]),rfl,rfl,(by simp only[dstOk,Nat.reduceLT])⟩ ?_|fail
 exact Iff.rfl
def kp83:List (Nat×List Nat):=[(0,[1,2,3,4]),(1,[1,3,4,9]),(2,[1,3,4,9,14]),(4,[1,3,4,9,22]),(5,[8]),(3,[1,3,4,9]),(6,[8])]
attribute [go_sem] kp83
theorem hasSub_fc (rs t u:List Int) (hT:TermOkP rs t):FC S 83 [] [] [] [.agg [.sl .any (rs.map (.int .i64))],.sl .any (t.map (.int .i64)),.int .i64 1,.sl .any (u.map (.int .i64))] (.bool (tst (HasSub rs t 1 u))) [] []:=by
 have hl:=hT.2.1
 refine fc_body Tryz.func83 rfl (by kernel_rfl) (by simp[Tryz.f83]) fun B=>?_
 simp only[Tryz.ntmps83,enumD,lst0,Nat.reduceAdd]
 repeat' first|refine sw_seq ?_|refine sw_block ?_|refine sw_go 0 kp83 fun K hK=>?_|((first|refine runL_go ?_|refine sw_ret (ret0 ?_)|refine sw_ret ?_);simp (disch:=(refine Om.mk ?_;omega)) only[go_sem,Tryz.results83])|(refine hK.nil ?_;clear hK K;simp only[go_sem])|fail
 refine sw_loopU (ι:=Nat) (fun p=>[(9,.int .i64 p)]) (fun p=>[]) (fun p=>(1≤p∧p≤t.length)∧∀j<p,1≤j→subS rs t j≠u) (fun p=>t.length-p) 1 (by(refine covers_mk0 rfl rfl ?_ ?_ ?_ ?_<;>simp (disch:=(refine Om.mk ?_;omega)) only[go_sem]<;>(try omega))) ?_ (fun p hp=>?_)
 rotate_left
 simp only[go_sem]
 obtain⟨hp,hj⟩:=hp
 by_cases hil:p<t.length
 ·repeat' first|((exfalso;omega))|refine sw_seq ?_|refine sw_block ?_|refine sw_inBlock ?_|refine sw_skip ?_|refine sw_go 0 kp83 fun K hK=>?_|((first|refine runL_go ?_|refine sw_ret (ret0 ?_)|refine sw_ret ?_);simp (disch:=(refine Om.mk ?_;omega)) only[go_sem,Tryz.results83])|(refine hK.nil ?_;clear hK K;simp only[go_sem])|((first|refine sw_cond rfl ?_ ?_)<;>intro h<;>try simp (disch:=(refine Om.mk ?_;omega)) only[go_sem] at h)|refine sw_loopEnd ?_|refine hK.c0 rfl rfl rfl (subAt_fc .any .any rs t p hT hil) rfl rfl rfl ?_|refine hK.c0 rfl rfl rfl (equalInt64_fc _ _ (subS rs t p) u) rfl rfl rfl ?_|fail
  ·exact⟨p,⟨hp.1,hil⟩,h⟩
  ·exact⟨p+1,(by(refine covers_mk0 rfl rfl ?_ ?_ ?_ ?_<;>simp (disch:=(refine Om.mk ?_;omega)) only[go_sem]<;>(try omega))),⟨by omega,upto_succ hj fun _=>h⟩,by omega⟩
 ·repeat' first|((exfalso;omega))|refine sw_seq ?_|refine sw_go 0 kp83 fun K hK=>?_|((first|refine runL_go ?_|refine sw_ret (ret0 ?_)|refine sw_ret ?_);simp (disch:=(refine Om.mk ?_;omega)) only[go_sem,Tryz.results83])|(refine hK.nil ?_;clear hK K;simp only[go_sem])|((first|refine sw_cond rfl ?_ ?_)<;>intro h<;>try simp (disch:=(refine Om.mk ?_;omega)) only[go_sem] at h)|refine sw_exit rfl ?_|fail
  exact hasSub_no fun j hj'=>hj j (by omega)
 ·exact⟨⟨by omega,by omega⟩,fun j h1 h2=>absurd h1 (by omega)⟩
def kp78:List (Nat×List Nat):=[(0,[1,2,3,6]),(1,[1,2,3,6,8]),(2,[1,2,3,6,8,30]),(3,[6,7]),(4,[1,2,3,6,8,9]),(5,[1,2,6,8,9,43]),(6,[6,7]),(7,[6,7])]
attribute [go_sem] kp78
theorem pairAt_fc (x:SystemT) (hx:SystemOkP x) (r a:Nat) (hr:r<x.rules.length) (ha:a<(x.rules.getD r default).r.length):FC S 78 [] [] [] [SystemD x,.int .i64 r,.int .i64 a] (.tup [DepPairD (atR x r a).1,.bool (atR x r a).2]) [] []:=by
 have hR:=hx.2 r hr
 have h12:=hx.1.2
 have hT:=hR.1.2.1
 have hl:=hT.2.1
 have hl1:=hR.1.1.2.1
 have hsl:1≤(subS x.sig (x.rules.getD r default).r a).length∧(subS x.sig (x.rules.getD r default).r a).length≤60:=(subS_ok hT ha).2.1
 have hne:∀ {xs:List Int},1≤xs.length→xs≠[]:=fun h e=>by rw[e] at h;exact absurd h (by simp)
 have h0:∀r∈x.rules,1≤r.l.length:=fun r hr=>by
  obtain⟨j,hj,rfl⟩:=List.getElem_of_mem hr
  have:=(hx.2 j hj).1.1.2.1.1
  rwa [List.getD_eq_getElem?_getD,List.getElem?_eq_getElem hj] at this
 rcases Classical.em (PairP x r a) with hPA|hPA
 ·rw[atR_yes hPA]
  have hh:=hPA.1
  refine fc_body Tryz.func78 rfl (by kernel_rfl) (by simp[Tryz.f78]) fun B=>?_
  simp only[Tryz.ntmps78,enumD,lst0,Nat.reduceAdd]
  repeat' first|((exfalso;omega))|refine sw_seq ?_|refine sw_skip ?_|refine sw_go 0 kp78 fun K hK=>?_|refine sw_goD kp78 (by kernel_rfl) fun K hK=>?_|((first|refine runL_go ?_|refine runQ_go ?_|refine sw_ret (ret0 ?_)|refine sw_ret ?_);simp (disch:=(refine Om.mk ?_;omega)) only[go_sem,Tryz.results78])|(refine hK.nil ?_;clear hK K;simp only[go_sem])|((first|refine runG_fork rfl rfl rfl rfl rfl ?_ ?_|refine runQG_fork rfl rfl rfl rfl rfl ?_ ?_|refine sw_cond rfl ?_ ?_)<;>intro h<;>try simp (disch:=(refine Om.mk ?_;omega)) only[go_sem] at h)|refine hK.c0 rfl rfl rfl (isDefined_fc x _ h0) rfl rfl rfl ?_|refine hK.c0 rfl rfl rfl (subAt_fc .any .any x.sig (x.rules.getD r default).r a hT ha) rfl rfl rfl ?_|refine hK.c0 rfl rfl rfl (hasSub_fc x.sig (x.rules.getD r default).l (subS x.sig (x.rules.getD r default).r a) hR.1.1) rfl rfl rfl ?_|refine hK.c0 rfl rfl rfl (cloneL_fc [1] (by simp) _ (subS x.sig (x.rules.getD r default).r a) (hne hsl.1) (by omega)) rfl rfl rfl ?_|refine hK.c0 rfl rfl rfl (cloneL_fc [2] (by simp) _ (x.rules.getD r default).l (hne hl1.1) (by omega)) rfl rfl rfl ?_|(with_reducible refine And.intro (by first|omega|(simp only[lens];omega)) ?_)|fail
  all_goals first|exact absurd hh.2 (by assumption)|exact absurd (by assumption) hPA.2|exact⟨rfl,rfl,rfl,rfl⟩|skip
 ·rw[atR_no hPA]
  refine fc_body Tryz.func78 rfl (by kernel_rfl) (by simp[Tryz.f78]) fun B=>?_
  simp only[Tryz.ntmps78,enumD,lst0,Nat.reduceAdd]
  repeat' first|refine sw_seq ?_|refine sw_skip ?_|refine sw_go 0 kp78 fun K hK=>?_|refine sw_goD kp78 (by kernel_rfl) fun K hK=>?_|((first|refine runL_go ?_|refine runQ_go ?_|refine sw_ret (ret0 ?_)|refine sw_ret ?_);simp (disch:=(refine Om.mk ?_;omega)) only[go_sem,Tryz.results78])|(refine hK.nil ?_;clear hK K;simp only[go_sem])|((first|refine runG_fork rfl rfl rfl rfl rfl ?_ ?_|refine runQG_fork rfl rfl rfl rfl rfl ?_ ?_|refine sw_cond rfl ?_ ?_)<;>intro h<;>try simp (disch:=(refine Om.mk ?_;omega)) only[go_sem] at h)|refine hK.skp rfl rfl ?_|refine hK.c0 rfl rfl rfl (isDefined_fc x _ h0) rfl rfl rfl ?_|refine hK.c0 rfl rfl rfl (subAt_fc .any .any x.sig (x.rules.getD r default).r a hT ha) rfl rfl rfl ?_|refine hK.c0 rfl rfl rfl (hasSub_fc x.sig (x.rules.getD r default).l (subS x.sig (x.rules.getD r default).r a) hR.1.1) rfl rfl rfl ?_|refine hK.c0 rfl rfl rfl (cloneL_fc [1] (by simp) _ (subS x.sig (x.rules.getD r default).r a) (hne hsl.1) (by omega)) rfl rfl rfl ?_|refine hK.c0 rfl rfl rfl (cloneL_fc [2] (by simp) _ (x.rules.getD r default).l (hne hl1.1) (by omega)) rfl rfl rfl ?_|(with_reducible refine And.intro (by first|omega|(simp only[lens];omega)) ?_)|fail
  all_goals first|exact absurd (show PairP x r a from⟨⟨(by assumption),(by assumption)⟩,(by assumption)⟩) hPA|skip
end Go.Proofs.YtohnfgligddanaaGreat
end
