/-
  Lg: LgMk, LgMk3, LgMk7, LgEmp, LgDraw6, LgBsOwn, LgSortA, LgRelab, LgSafe, one behind the other.
-/
import Derived.Test.YtkfkdgginfpdnaaGreatDoorLgK6
import Derived.Test.YtkfkdgginfpdnaaGreatDoorLgK4
import Derived.Test.YtkfkdgginfpdnaaGreatDoorLgK5
import Derived.Sort.Grow
import Derived.Deep.Draws
import Derived.KernelRfl
/-
  Lg, part 32: marks: the int cells that a value reaches, as a list of places; writing them one behind the other; the readings that stand.
-/
namespace Go.Lg
open Go Go.RowKit

mutual
inductive Sh where
 | slc (fs:Fs)
inductive Fs where
 | nil
 | cell (r:Fs)
 | flag (r:Fs)
 | skip (r:Fs)
 | sub (s:Sh) (r:Fs)
end
def Fs.len:Fs→Nat
 | .nil=>0
 | .cell r=>r.len+1
 | .flag r=>r.len+1
 | .skip r=>r.len+1
 | .sub _ r=>r.len+1

def cellAt (w:World) (b o:Nat):Option Value:=w.cell? ⟨b,o,none⟩
def Mkd (v:Value):Prop:=(∃m,v=.int .i64 m)∨∃c,v=.bool c
def mkV:Value→Int→Value
 | .bool _,n=>.bool (n.tmod 3==0)
 | _,n=>.int .i64 n
def MkC (w:World) (p:Nat×Nat):Prop:=∃v,Mkd v∧cellAt w p.1 p.2=some v
def HvC (w:World) (p:Nat×Nat) (n:Int):Prop:=∃v,Mkd v∧cellAt w p.1 p.2=some (mkV v n)
theorem mkd_mkV {v:Value} (n:Int) (h:Mkd v):Mkd (mkV v n):=by
 rcases h with⟨m,rfl⟩|⟨c,rfl⟩
 ·exact .inl ⟨n,rfl⟩
 ·exact .inr ⟨_,rfl⟩
theorem mkV_mkV {v:Value} (n m:Int) (h:Mkd v):mkV (mkV v n) m=mkV v m:=by
 rcases h with⟨m,rfl⟩|⟨c,rfl⟩<;>rfl
theorem MkC.int {w:World} {b o:Nat} {m:Int} (h:cellAt w b o=some (.int .i64 m)):MkC w (b,o):=⟨_,.inl ⟨m,rfl⟩,h⟩
theorem MkC.bool {w:World} {b o:Nat} {c:Bool} (h:cellAt w b o=some (.bool c)):MkC w (b,o):=⟨_,.inr ⟨c,rfl⟩,h⟩
theorem HvC.int {w:World} {p:Nat×Nat} {n m:Int} (h:HvC w p n) (hm:cellAt w p.1 p.2=some (.int .i64 m)):cellAt w p.1 p.2=some (.int .i64 n):=by
 obtain⟨v,h1,h2⟩:=h
 rw[h2] at hm ⊢
 rcases h1 with⟨m',rfl⟩|⟨c,rfl⟩
 ·rfl
 ·simp[mkV] at hm
theorem HvC.bool {w:World} {p:Nat×Nat} {n:Int} {c:Bool} (h:HvC w p n) (hm:cellAt w p.1 p.2=some (.bool c)):cellAt w p.1 p.2=some (.bool (n.tmod 3==0)):=by
 obtain⟨v,h1,h2⟩:=h
 rw[h2] at hm ⊢
 rcases h1 with⟨m',rfl⟩|⟨c,rfl⟩
 ·simp[mkV] at hm
 ·rfl

mutual
def Lv (lim:Nat→Nat) (w:World):Sh→Value→List (Nat×Nat)→Prop
 | .slc fs,v,as=>∃A n c b o,v=.slice A n c∧n≤maxLen∧(n=0∨A=some ⟨b,o,none⟩)∧∃ass:List (List (Nat×Nat)),ass.length=n∧as=ass.flatten∧∀i l,ass[i]?=some l→LvF lim w fs b (o+i*fs.len) l
def LvF (lim:Nat→Nat) (w:World):Fs→Nat→Nat→List (Nat×Nat)→Prop
 | .nil,_,_,as=>as=[]
 | .cell r,b,o,as=>∃l,as=(b,o)::l∧o<lim b∧(∃m,cellAt w b o=some (.int .i64 m))∧LvF lim w r b (o+1) l
 | .flag r,b,o,as=>∃l,as=(b,o)::l∧o<lim b∧(∃c,cellAt w b o=some (.bool c))∧LvF lim w r b (o+1) l
 | .skip r,b,o,as=>LvF lim w r b (o+1) as
 | .sub s r,b,o,as=>∃v l1 l2,as=l1++l2∧o<lim b∧cellAt w b o=some v∧Lv lim w s v l1∧LvF lim w r b (o+1) l2
end
def LvA (lim:Nat→Nat) (w:World):Fs→List Value→List (Nat×Nat)→Prop
 | .nil,_,as=>as=[]
 | .cell _,_,_=>False
 | .flag _,_,_=>False
 | .skip r,vs,as=>LvA lim w r vs.tail as
 | .sub s r,vs,as=>∃v l1 l2,as=l1++l2∧vs.head?=some v∧Lv lim w s v l1∧LvA lim w r vs.tail l2

def IntW (lim lim':Nat→Nat) (w w':World):Prop:=∀b o v,o<lim b→cellAt w b o=some v→o<lim' b∧(cellAt w' b o=some v∨Mkd v∧∃n,cellAt w' b o=some (mkV v n))

theorem Lv.slice {lim:Nat→Nat} {w:World}:∀ {s:Sh} {v as},Lv lim w s v as→∃A n c,v=.slice A n c
 | .slc _,_,_,h=>by unfold Lv at h;obtain⟨A,n,c,_,_,h,_⟩:=h;exact⟨A,n,c,h⟩

mutual
theorem Lv.mono {lim lim':Nat→Nat} {w w':World} (hw:IntW lim lim' w w'):∀(s:Sh) (v:Value) (as:List (Nat×Nat)),Lv lim w s v as→Lv lim' w' s v as
 | .slc fs,v,as,h=>by
  unfold Lv at h ⊢
  obtain⟨A,n,c,b,o,h1,h2,h3,ass,h4,h5,h6⟩:=h
  exact⟨A,n,c,b,o,h1,h2,h3,ass,h4,h5,fun i l hi=>LvF.mono hw fs b _ l (h6 i l hi)⟩
theorem LvF.mono {lim lim':Nat→Nat} {w w':World} (hw:IntW lim lim' w w'):∀(fs:Fs) (b o:Nat) (as:List (Nat×Nat)),LvF lim w fs b o as→LvF lim' w' fs b o as
 | .nil,_,_,as,h=>by unfold LvF at h ⊢;exact h
 | .cell r,b,o,as,h=>by
  unfold LvF at h ⊢
  obtain⟨l,h1,h2,⟨m,h3⟩,h4⟩:=h
  obtain⟨q1,q2⟩:=hw b _ _ h2 h3
  refine⟨l,h1,q1,?_,LvF.mono hw r b _ l h4⟩
  rcases q2 with q2|⟨_,m',q2⟩
  ·exact⟨m,q2⟩
  ·exact⟨m',q2⟩
 | .flag r,b,o,as,h=>by
  unfold LvF at h ⊢
  obtain⟨l,h1,h2,⟨m,h3⟩,h4⟩:=h
  obtain⟨q1,q2⟩:=hw b _ _ h2 h3
  refine⟨l,h1,q1,?_,LvF.mono hw r b _ l h4⟩
  rcases q2 with q2|⟨_,m',q2⟩
  ·exact⟨m,q2⟩
  ·exact⟨_,q2⟩
 | .skip r,b,o,as,h=>by
  unfold LvF at h ⊢
  exact LvF.mono hw r b _ as h
 | .sub s r,b,o,as,h=>by
  unfold LvF at h ⊢
  obtain⟨v,l1,l2,h1,h2,h3,h4,h5⟩:=h
  obtain⟨q1,q2⟩:=hw b _ _ h2 h3
  refine⟨v,l1,l2,h1,q1,?_,Lv.mono hw s v l1 h4,LvF.mono hw r b _ l2 h5⟩
  rcases q2 with q2|⟨q2,_⟩
  ·exact q2
  ·obtain⟨A,n,c,e⟩:=h4.slice
   rw[e] at q2
   rcases q2 with⟨m,q2⟩|⟨m,q2⟩<;>cases q2
end
theorem LvA.mono {lim lim':Nat→Nat} {w w':World} (hw:IntW lim lim' w w'):∀(fs:Fs) (vs:List Value) (as:List (Nat×Nat)),LvA lim w fs vs as→LvA lim' w' fs vs as
 | .nil,_,as,h=>by unfold LvA at h ⊢;exact h
 | .cell _,_,_,h=>by unfold LvA at h;exact h.elim
 | .flag _,_,_,h=>by unfold LvA at h;exact h.elim
 | .skip r,vs,as,h=>by
  unfold LvA at h ⊢
  exact LvA.mono hw r _ as h
 | .sub s r,vs,as,h=>by
  unfold LvA at h ⊢
  obtain⟨v,l1,l2,h1,h2,h3,h4⟩:=h
  exact⟨v,l1,l2,h1,h2,Lv.mono hw s v l1 h3,LvA.mono hw r _ l2 h4⟩

mutual
theorem Lv.ints {lim:Nat→Nat} {w:World}:∀(s:Sh) (v:Value) (as:List (Nat×Nat)),Lv lim w s v as→∀p∈as,p.2<lim p.1∧MkC w p
 | .slc fs,v,as,h=>by
  unfold Lv at h
  obtain⟨A,n,c,b,o,h1,h2,h3,ass,h4,h5,h6⟩:=h
  intro p hp
  rw[h5,List.mem_flatten] at hp
  obtain⟨l,hl,hp⟩:=hp
  obtain⟨i,hi⟩:=List.getElem?_of_mem hl
  exact LvF.ints fs b _ l (h6 i l hi) p hp
theorem LvF.ints {lim:Nat→Nat} {w:World}:∀(fs:Fs) (b o:Nat) (as:List (Nat×Nat)),LvF lim w fs b o as→∀p∈as,p.2<lim p.1∧MkC w p
 | .nil,_,_,as,h=>by unfold LvF at h;subst h;simp
 | .cell r,b,o,as,h=>by
  unfold LvF at h
  obtain⟨l,h1,h2,h3,h4⟩:=h
  subst h1
  intro p hp
  rcases List.mem_cons.1 hp with rfl|hp
  ·obtain⟨m,h3⟩:=h3;exact⟨h2,MkC.int h3⟩
  ·exact LvF.ints r b _ l h4 p hp
 | .flag r,b,o,as,h=>by
  unfold LvF at h
  obtain⟨l,h1,h2,h3,h4⟩:=h
  subst h1
  intro p hp
  rcases List.mem_cons.1 hp with rfl|hp
  ·obtain⟨m,h3⟩:=h3;exact⟨h2,MkC.bool h3⟩
  ·exact LvF.ints r b _ l h4 p hp
 | .skip r,b,o,as,h=>by
  unfold LvF at h
  exact LvF.ints r b _ as h
 | .sub s r,b,o,as,h=>by
  unfold LvF at h
  obtain⟨v,l1,l2,h1,h2,h3,h4,h5⟩:=h
  subst h1
  intro p hp
  rcases List.mem_append.1 hp with hp|hp
  ·exact Lv.ints s v l1 h4 p hp
  ·exact LvF.ints r b _ l2 h5 p hp
end
theorem LvA.ints {lim:Nat→Nat} {w:World}:∀(fs:Fs) (vs:List Value) (as:List (Nat×Nat)),LvA lim w fs vs as→∀p∈as,p.2<lim p.1∧MkC w p
 | .nil,_,as,h=>by unfold LvA at h;subst h;simp
 | .cell _,_,_,h=>by unfold LvA at h;exact h.elim
 | .flag _,_,_,h=>by unfold LvA at h;exact h.elim
 | .skip r,vs,as,h=>by
  unfold LvA at h
  exact LvA.ints r _ as h
 | .sub s r,vs,as,h=>by
  unfold LvA at h
  obtain⟨v,l1,l2,h1,h2,h3,h4⟩:=h
  subst h1
  intro p hp
  rcases List.mem_append.1 hp with hp|hp
  ·exact Lv.ints s v l1 h3 p hp
  ·exact LvA.ints r _ l2 h4 p hp

def Wr (w:World) (p:Nat×Nat):Prop:=∃vs e,w.heap[p.1]?=some (.cells vs e (0,0))∧p.2<vs.size
def wr (w:World) (p:Nat×Nat) (n:Int):World:=match w.heap[p.1]? with
 | some (.cells vs _ _)=>w.setRow p.1 (vs.toList.take p.2++[mkV (vs.getD p.2 undef) n]++vs.toList.drop (p.2+1)).toArray
 | _=>w
def wrs (w:World):List (Nat×Nat)→Int→World
 | [],_=>w
 | p::ps,k=>wrs (wr w p k) ps (k+1)

theorem wr_eq {w:World} {p:Nat×Nat} {n:Int} {vs:Array Value} {e:TypeId} {f:Nat×Nat} (h:w.heap[p.1]?=some (.cells vs e f)):wr w p n=w.setRow p.1 (vs.toList.take p.2++[mkV (vs.getD p.2 undef) n]++vs.toList.drop (p.2+1)).toArray:=by
 unfold wr;rw[h]
theorem wr_other {w:World} {p:Nat×Nat} {n:Int} {b:Nat} (h:b≠p.1):(wr w p n).heap[b]?=w.heap[b]?:=by
 unfold wr
 split
 ·exact setRow_other w p.1 b _ h
 ·rfl
theorem wr_size {w:World} {p:Nat×Nat} {n:Int}:(wr w p n).heap.size=w.heap.size:=by
 unfold wr
 split
 ·simp[World.setRow]
 ·rfl
theorem wr_rest {w:World} {p:Nat×Nat} {n:Int}:(wr w p n).os=w.os∧(wr w p n).tape=w.tape∧(wr w p n).output=w.output:=by
 unfold wr
 split<;>exact⟨rfl,rfl,rfl⟩
theorem wr_drawn {w:World} {p:Nat×Nat} {n:Int}:(wr w p n).drawn=w.drawn:=by
 unfold wr
 split<;>rfl
theorem wr_cells {w:World} {p:Nat×Nat} {n:Int} (h:Wr w p):∀(b:Nat) (vs:Array Value) (e:TypeId),w.heap[b]?=some (.cells vs e (0,0))→∃vs',(wr w p n).heap[b]?=some (.cells vs' e (0,0))∧vs'.size=vs.size:=fun b vs e hb=>by
 by_cases hp:b=p.1
 ·subst hp
  obtain⟨vs0,e0,h1,h2⟩:=h
  rw[hb] at h1
  obtain⟨rfl,rfl⟩:vs=vs0∧e=e0:=by simpa using h1
  refine⟨_,by rw[wr_eq hb];exact setRow_heap w _ _ _ _ _ hb,?_⟩
  simp
  omega
 ·exact⟨vs,by rw[wr_other hp];exact hb,rfl⟩
theorem Wr.wr {w:World} {p q:Nat×Nat} {n:Int} (h:Wr w p) (hq:Wr w q):Wr (Lg.wr w p n) q:=by
 obtain⟨vs,e,h1,h2⟩:=hq
 obtain⟨vs',h3,h4⟩:=wr_cells (n:=n) h _ vs e h1
 exact⟨vs',e,h3,by omega⟩
theorem cellAt_row {w:World} {b o:Nat} {vs:Array Value} {e:TypeId} (h:w.heap[b]?=some (.cells vs e (0,0))):cellAt w b o=vs[o]?:=by
 simp[cellAt,World.cell?,h]
theorem cellAt_wr {w:World} {p:Nat×Nat} {n:Int} (h:Wr w p) (b o:Nat):cellAt (wr w p n) b o=if (b,o)=p then some (mkV ((cellAt w p.1 p.2).getD undef) n) else cellAt w b o:=by
 obtain⟨vs,e,h1,h2⟩:=h
 obtain⟨pb,po⟩:=p
 simp only at h1 h2
 by_cases hb:b=pb
 ·subst hb
  simp only[cellAt]
  rw[wr_eq h1,cell_setRow_same w _ _ vs _ _ _ h1]
  simp only[World.cell?,h1]
  simp only[List.getElem?_toArray,Prod.mk.injEq,true_and,Option.isSome_none,Bool.false_eq_true,if_false]
  have hlen:(vs.toList.take po).length=po:=by simp;omega
  by_cases c1:o<po
  ·rw[if_neg (by omega),List.append_assoc,List.getElem?_append_left (by omega),List.getElem?_take,if_pos c1]
   simp
  ·by_cases c2:o=po
   ·subst c2
    rw[if_pos rfl,List.append_assoc,List.getElem?_append_right (by omega),hlen,List.getElem?_append_left (by simp)]
    simp[Array.getD_eq_getD_getElem?]
   ·rw[if_neg c2,List.getElem?_append_right (by simp;omega),List.getElem?_drop]
    simp only[List.length_append,hlen,List.length_singleton]
    rw[show po+1+(o-(po+1))=o by omega]
    simp
 ·rw[if_neg (by simp[hb])]
  simp only[cellAt]
  exact cell_of_heap (wr_other hb)

theorem wrs_append (w:World) (l1 l2:List (Nat×Nat)) (k:Int):wrs w (l1++l2) k=wrs (wrs w l1 k) l2 (k+l1.length):=by
 induction l1 generalizing w k with
 | nil=>simp[wrs]
 | cons p ps ih =>
  simp only[List.cons_append,wrs,List.length_cons]
  rw[ih,show k+1+(ps.length:Int)=k+((ps.length+1:Nat):Int) by omega]
theorem wrs_size {l:List (Nat×Nat)}:∀ {w:World} {k:Int},(wrs w l k).heap.size=w.heap.size:=by
 induction l with
 | nil=>intro w k;rfl
 | cons p ps ih=>intro w k;simp only[wrs];rw[ih,wr_size]
theorem wrs_rest {l:List (Nat×Nat)}:∀ {w:World} {k:Int},(wrs w l k).os=w.os∧(wrs w l k).tape=w.tape∧(wrs w l k).output=w.output:=by
 induction l with
 | nil=>intro w k;exact⟨rfl,rfl,rfl⟩
 | cons p ps ih =>
  intro w k
  simp only[wrs]
  obtain⟨h1,h2,h3⟩:=ih (w:=wr w p k) (k:=k+1)
  obtain⟨q1,q2,q3⟩:=wr_rest (w:=w) (p:=p) (n:=k)
  exact⟨h1.trans q1,h2.trans q2,h3.trans q3⟩
theorem wrs_drawn {l:List (Nat×Nat)}:∀ {w:World} {k:Int},(wrs w l k).drawn=w.drawn:=by
 induction l with
 | nil=>intro w k;rfl
 | cons p ps ih =>
  intro w k
  simp only[wrs]
  exact(ih (w:=wr w p k) (k:=k+1)).trans wr_drawn
theorem wrs_other {l:List (Nat×Nat)} {b:Nat}:∀ {w:World} {k:Int},(∀p∈l,p.1≠b)→(wrs w l k).heap[b]?=w.heap[b]?:=by
 induction l with
 | nil=>intro w k _;rfl
 | cons p ps ih =>
  intro w k h
  simp only[wrs]
  rw[ih fun q hq=>h q (List.mem_cons_of_mem _ hq),wr_other (Ne.symm (h p List.mem_cons_self))]
theorem wrs_Wr {l:List (Nat×Nat)}:∀ {w:World} {k:Int},(∀p∈l,Wr w p)→∀q,Wr w q→Wr (wrs w l k) q:=by
 induction l with
 | nil=>intro w k _ q hq;exact hq
 | cons p ps ih =>
  intro w k h q hq
  have hp:=h p List.mem_cons_self
  exact ih (fun r hr=>hp.wr (h r (List.mem_cons_of_mem _ hr))) q (hp.wr hq)
theorem wrs_cells {l:List (Nat×Nat)}:∀ {w:World} {k:Int},(∀p∈l,Wr w p)→∀(b:Nat) (vs:Array Value) (e:TypeId),w.heap[b]?=some (.cells vs e (0,0))→∃vs',(wrs w l k).heap[b]?=some (.cells vs' e (0,0))∧vs'.size=vs.size:=by
 induction l with
 | nil=>intro w k _ b vs e h;exact⟨vs,h,rfl⟩
 | cons p ps ih =>
  intro w k h b vs e hb
  have hp:=h p List.mem_cons_self
  obtain⟨vs1,h1,h2⟩:=wr_cells (n:=k) hp b vs e hb
  obtain⟨vs2,h3,h4⟩:=ih (k:=k+1) (fun r hr=>hp.wr (h r (List.mem_cons_of_mem _ hr))) b vs1 e h1
  exact⟨vs2,h3,by omega⟩
theorem wrs_off {l:List (Nat×Nat)} {b o:Nat}:∀ {w:World} {k:Int},(∀p∈l,Wr w p)→(b,o)∉l→cellAt (wrs w l k) b o=cellAt w b o:=by
 induction l with
 | nil=>intro w k _ _;rfl
 | cons p ps ih =>
  intro w k h hn
  have hp:=h p List.mem_cons_self
  simp only[wrs]
  rw[ih (fun r hr=>hp.wr (h r (List.mem_cons_of_mem _ hr))) (fun hm=>hn (List.mem_cons_of_mem _ hm)),cellAt_wr hp,if_neg (fun e:(b,o)=p=>hn (e ▸ List.mem_cons_self))]
theorem wr_mkC {w:World} {p q:Nat×Nat} {n:Int} (h:Wr w p) (hi:MkC w p) (hq:MkC w q):MkC (wr w p n) q:=by
 by_cases e:q=p
 ·subst e
  obtain⟨v,h1,h2⟩:=hi
  exact⟨mkV v n,mkd_mkV n h1,by rw[cellAt_wr h,if_pos rfl,h2];rfl⟩
 ·obtain⟨v,h1,h2⟩:=hq
  exact⟨v,h1,by rw[cellAt_wr h,if_neg (fun e':(q.1,q.2)=p=>e e')];exact h2⟩
theorem wrs_at {l:List (Nat×Nat)}:∀ {w:World} {k:Int},(∀p∈l,Wr w p)→(∀p∈l,MkC w p)→l.Nodup→∀(j:Nat) (p:Nat×Nat),l[j]?=some p→HvC (wrs w l k) p (k+j):=by
 induction l with
 | nil=>intro w k _ _ _ j p h;simp at h
 | cons q ps ih =>
  intro w k h hi hn j p hj
  have hq:=h q List.mem_cons_self
  obtain⟨hn1,hn2⟩:=List.nodup_cons.1 hn
  simp only[wrs]
  cases j with
  | zero =>
   obtain rfl:q=p:=by simpa using hj
   obtain⟨v,e1,e2⟩:=hi q List.mem_cons_self
   refine⟨v,e1,?_⟩
   rw[wrs_off (fun r hr=>hq.wr (h r (List.mem_cons_of_mem _ hr))) hn1,cellAt_wr hq,if_pos rfl,e2]
   simp
  | succ j =>
   have:=ih (w:=wr w q k) (k:=k+1) (fun r hr=>hq.wr (h r (List.mem_cons_of_mem _ hr))) (fun r hr=>wr_mkC hq (hi q List.mem_cons_self) (hi r (List.mem_cons_of_mem _ hr))) hn2 j p (by simpa using hj)
   rwa [show k+1+(j:Int)=k+((j+1:Nat):Int) by omega] at this
theorem wr_intW {lim:Nat→Nat} {w:World} {p:Nat×Nat} {n:Int} (h:Wr w p) (hi:MkC w p):IntW lim lim w (wr w p n):=fun b o v ho hv=>by
 refine⟨ho,?_⟩
 rw[cellAt_wr h]
 split
 ·rename_i e
  subst e
  obtain⟨m,h1,hm⟩:=hi
  rw[hv] at hm
  obtain rfl:=Option.some.inj hm
  exact .inr ⟨h1,n,by rw[hv];rfl⟩
 ·exact .inl hv
theorem wrs_intW {lim:Nat→Nat} {l:List (Nat×Nat)}:∀ {w:World} {k:Int},(∀p∈l,Wr w p)→(∀p∈l,MkC w p)→IntW lim lim w (wrs w l k):=by
 induction l with
 | nil=>intro w k _ _ b o v ho hv;exact⟨ho,.inl hv⟩
 | cons p ps ih =>
  intro w k h hi b o v ho hv
  have hp:=h p List.mem_cons_self
  have s1:=wr_intW (lim:=lim) (n:=k) hp (hi p List.mem_cons_self)
  have hi':∀q∈ps,MkC (wr w p k) q:=fun q hq=>wr_mkC hp (hi p List.mem_cons_self) (hi q (List.mem_cons_of_mem _ hq))
  have s2:=ih (k:=k+1) (fun r hr=>hp.wr (h r (List.mem_cons_of_mem _ hr))) hi'
  simp only[wrs]
  obtain⟨_,q⟩:=s1 b o v ho hv
  refine⟨ho,?_⟩
  rcases q with q|⟨e1,m',e2⟩
  ·exact(s2 b o v ho q).2
  ·rcases (s2 b o _ ho e2).2 with q|⟨_,m2,q⟩
   ·exact .inr ⟨e1,m',q⟩
   ·exact .inr ⟨e1,m2,by rw[q,mkV_mkV _ _ e1]⟩
end Go.Lg
/-
  Lg, part 33: a labelled tree's int cells are places apart from each other; what bears other labels stands when they are written.
-/
namespace Go.Lg
open Go Go.RowKit

def Tk.still:Tk→Bool
 | .own ..=>false
 | .que ..=>false
 | _=>true
def D.plain:D→Bool
 | .int ..|.bool _|.str _=>true
 | _=>false
mutual
def LT:Sh→List Nat→D→Nat→Prop
 | .slc fs,p,d,n=>∃(tk:Tk) (xs:List D) (ns:List Nat),d=.sl tk xs∧tk.still=true∧(xs=[]∨tk=.lab p)∧ns.length=xs.length∧n=ns.sum∧∀(i:Nat) x m,xs[i]?=some x→ns[i]?=some m→LF fs (p++[i]) 0 x.cells m
def LF:Fs→List Nat→Nat→List D→Nat→Prop
 | .nil,_,_,cs,n=>n=0∧cs=[]
 | .cell r,p,j,cs,n=>∃m k t,cs=.int .i64 m::t∧n=k+1∧LF r p (j+1) t k
 | .flag r,p,j,cs,n=>∃c k t,cs=.bool c::t∧n=k+1∧LF r p (j+1) t k
 | .skip r,p,j,cs,n=>∃c t,cs=c::t∧c.plain=true∧LF r p (j+1) t n
 | .sub s r,p,j,cs,n=>∃d k1 k2 t,cs=d::t∧n=k1+k2∧LT s (p++[j]) d k1∧LF r p (j+1) t k2
end
theorem LF.len:∀(fs:Fs) (p:List Nat) (j:Nat) (cs:List D) (n:Nat),LF fs p j cs n→cs.length=fs.len
 | .nil,_,_,_,_,h=>by unfold LF at h;rw[h.2];rfl
 | .cell r,p,j,cs,n,h=>by
  unfold LF at h
  obtain⟨m,k,t,rfl,_,h⟩:=h
  simp[Fs.len,LF.len r p _ t k h]
 | .flag r,p,j,cs,n,h=>by
  unfold LF at h
  obtain⟨m,k,t,rfl,_,h⟩:=h
  simp[Fs.len,LF.len r p _ t k h]
 | .skip r,p,j,cs,n,h=>by
  unfold LF at h
  obtain⟨c,t,rfl,_,h⟩:=h
  simp[Fs.len,LF.len r p _ t n h]
 | .sub s r,p,j,cs,n,h=>by
  unfold LF at h
  obtain⟨d,k1,k2,t,rfl,_,_,h⟩:=h
  simp[Fs.len,LF.len r p _ t k2 h]

theorem plain_rel {G G':Ghost} {w w':World} {d:D} {v:Value} (h:d.plain=true) (hr:Rel G w d v):Rel G' w' d v:=by
 cases d<;>simp[D.plain] at h<;>cases hr
 ·exact .int
 ·exact .bool
 ·exact .str

theorem flat_elem {s:Nat} {xs:List D} (h:∀x∈xs,x.cells.length=s) {q:Nat} {d:D} (hq:(flat xs)[q]?=some d):∃i j x,xs[i]?=some x∧x.cells[j]?=some d∧q=i*s+j∧j<s:=by
 induction xs generalizing q with
 | nil=>simp[flat] at hq
 | cons x xs ih =>
  rw[flat_cons] at hq
  have hx:=h x List.mem_cons_self
  by_cases hl:q<x.cells.length
  ·rw[List.getElem?_append_left hl] at hq
   exact⟨0,q,x,rfl,hq,by omega,by omega⟩
  ·rw[List.getElem?_append_right (by omega)] at hq
   obtain⟨i,j,y,h1,h2,h3,h4⟩:=ih (fun y hy=>h y (List.mem_cons_of_mem _ hy)) hq
   refine⟨i+1,j,y,by simpa using h1,h2,?_,h4⟩
   rw[Nat.add_mul];omega

mutual
theorem LT.keeps {G:Ghost} {w w':World}:∀(s:Sh) (q:List Nat) (d:D) (n:Nat),LT s q d n→q≠[]→(∀b o v,q <+: G.lab b→cellAt w b o=some v→cellAt w' b o=some v)→∀v,Rel G w d v→Rel G w' d v
 | .slc fs,q,d,n,h,hq0,hf,v,hr=>by
  unfold LT at h
  obtain⟨tk,xs,ns,rfl,ht,hx,hn,_,hel⟩:=h
  cases hr with
  | @sl _ _ A m c b o s hlen hc hm htk hA hu hk hst hrr =>
  have htk':TkOk G w' tk xs A m c:=by
   cases tk<;>first|exact htk|(simp[Tk.still] at ht)
  by_cases hxs:xs=[]
  ·subst hxs
   exact .sl (b:=b) (o:=o) (s:=s) hlen hc hm htk' (.inl rfl) hu hk (by simp[flat]) (by simp[flat])
  ·obtain rfl:tk=.lab q:=hx.resolve_left hxs
   obtain⟨g,o',e1,e2,_⟩:=htk.resolve_left hxs
   have hA':=hA.resolve_left hxs
   rw[e1] at hA'
   obtain⟨rfl,rfl⟩:g=b∧o'=o:=by simpa using hA'
   refine .sl (b:=g) (o:=o') (s:=s) hlen hc hm htk' hA hu hk (fun j d hj=>?_) (fun j d u hj hu'=>?_)
   ·obtain⟨h1,u,h2⟩:=hst j d hj
    exact⟨h1,u,hf g _ u (e2 ▸ List.prefix_refl _) h2⟩
   ·obtain⟨h1,u',h2⟩:=hst j d hj
    have h3:=hf g _ u' (e2 ▸ List.prefix_refl _) h2
    rw[show cellAt w' g (o'+j)=some u from hu'] at h3
    obtain rfl:=Option.some.inj h3
    obtain⟨i,j',x,k1,k2,k3,k4⟩:=flat_elem hu hj
    have hi:i<ns.length:=by rw[hn];exact(List.getElem?_eq_some_iff.1 k1).1
    exact LF.keeps fs (q++[i]) 0 x.cells _ (hel i x _ k1 (List.getElem?_eq_getElem hi)) (by simp) (fun b o v hb hv=>hf b o v ((List.prefix_append q [i]).trans hb) hv) j' d k2 u (hrr j d u hj h2)
theorem LF.keeps {G:Ghost} {w w':World}:∀(fs:Fs) (q:List Nat) (j:Nat) (cs:List D) (n:Nat),LF fs q j cs n→q≠[]→(∀b o v,q <+: G.lab b→cellAt w b o=some v→cellAt w' b o=some v)→∀(i:Nat) (d:D),cs[i]?=some d→∀v,Rel G w d v→Rel G w' d v
 | .nil,_,_,cs,_,h,_,_,i,d,hd,v,hr=>by
  unfold LF at h
  rw[h.2] at hd
  simp at hd
 | .cell r,q,j,cs,n,h,hq,hf,i,d,hd,v,hr=>by
  unfold LF at h
  obtain⟨m,k,t,rfl,_,h⟩:=h
  cases i with
  | zero =>
   obtain rfl:D.int .i64 m=d:=by simpa using hd
   exact plain_rel rfl hr
  | succ i=>exact LF.keeps r q _ t k h hq hf i d (by simpa using hd) v hr
 | .flag r,q,j,cs,n,h,hq,hf,i,d,hd,v,hr=>by
  unfold LF at h
  obtain⟨m,k,t,rfl,_,h⟩:=h
  cases i with
  | zero =>
   obtain rfl:D.bool m=d:=by simpa using hd
   exact plain_rel rfl hr
  | succ i=>exact LF.keeps r q _ t k h hq hf i d (by simpa using hd) v hr
 | .skip r,q,j,cs,n,h,hq,hf,i,d,hd,v,hr=>by
  unfold LF at h
  obtain⟨c,t,rfl,hp,h⟩:=h
  cases i with
  | zero =>
   obtain rfl:c=d:=by simpa using hd
   exact plain_rel hp hr
  | succ i=>exact LF.keeps r q _ t n h hq hf i d (by simpa using hd) v hr
 | .sub s r,q,j,cs,n,h,hq,hf,i,d,hd,v,hr=>by
  unfold LF at h
  obtain⟨d0,k1,k2,t,rfl,_,h0,h⟩:=h
  cases i with
  | zero =>
   obtain rfl:d0=d:=by simpa using hd
   exact LT.keeps s (q++[j]) d0 k1 h0 (by simp) (fun b o v hb hv=>hf b o v ((List.prefix_append q [j]).trans hb) hv) v hr
  | succ i=>exact LF.keeps r q _ t k2 h hq hf i d (by simpa using hd) v hr
end

theorem pre_eq {l1 l2 l:List Nat} (h1:l1 <+: l) (h2:l2 <+: l) (h:l1.length=l2.length):l1=l2:=(List.prefix_of_prefix_length_le h1 h2 (by omega)).eq_of_length h

mutual
theorem LT.lv {G:Ghost} {w:World}:∀(s:Sh) (p:List Nat) (d:D) (n:Nat),LT s p d n→p≠[]→∀v,Rel G w d v→∃as,Lv G.lim w s v as∧as.length=n∧as.Nodup∧∀q∈as,p <+: G.lab q.1
 | .slc fs,p,d,n,h,hp0,v,hr=>by
  unfold LT at h
  obtain⟨tk,xs,ns,rfl,ht,hx,hn,hsum,hel⟩:=h
  cases hr with
  | @sl _ _ A m c b o s hlen hc hm htk hA hu hk hst hrr =>
  by_cases hxs:xs=[]
  ·subst hxs
   have h0:m=0:=by simpa using hlen
   have hns:ns=[]:=List.length_eq_zero_iff.1 (by simpa using hn)
   refine⟨[],?_,by rw[hsum,hns];rfl,by simp,by simp⟩
   unfold Lv
   exact⟨A,m,c,b,o,rfl,by omega,.inl h0,[],by simp[h0],rfl,by simp⟩
  ·obtain rfl:tk=.lab p:=hx.resolve_left hxs
   obtain⟨g,o',e1,e2,_⟩:=htk.resolve_left hxs
   have hA':=hA.resolve_left hxs
   rw[e1] at hA'
   obtain⟨rfl,rfl⟩:g=b∧o'=o:=by simpa using hA'
   have hz:s=fs.len:=by
    cases xs with
    | nil=>exact absurd rfl hxs
    | cons x r =>
     have h1:=hu x List.mem_cons_self
     cases ns with
     | nil=>simp at hn
     | cons m0 ns=>rw[←h1];exact LF.len fs _ 0 _ _ (hel 0 x m0 rfl rfl)
   subst hz
   have hone:∀i:Nat,∃l:List (Nat×Nat),i<xs.length→LvF G.lim w fs g (o'+i*fs.len) l∧ns[i]?=some l.length∧l.Nodup∧∀q∈l,(q.1=g∧o'+i*fs.len≤q.2∧q.2<o'+i*fs.len+fs.len)∨∃j,(p++[i]++[j]) <+: G.lab q.1:=fun i=>by
    by_cases hi:i<xs.length
    ·obtain⟨l,h1,h2,h3,h4⟩:=LF.lv (G:=G) (w:=w) fs (p++[i]) 0 xs[i].cells ns[i] (hel i _ _ (List.getElem?_eq_getElem hi) (List.getElem?_eq_getElem (by omega))) p i rfl g (o'+i*fs.len) e2 (fun j d hj=>by
      have:=flat_at hu hi hj
      obtain⟨k1,u,k2⟩:=hst _ d this
      rw[←Nat.add_assoc] at k1 k2
      exact⟨k1,u,k2,hrr _ d u this (by rw[←Nat.add_assoc];exact k2)⟩)
     refine⟨l,fun _=>⟨h1,by rw[h2];exact List.getElem?_eq_getElem (by omega),h3,fun q hq=>?_⟩⟩
     rcases h4 q hq with h|⟨j,_,h⟩
     ·exact .inl h
     ·exact .inr ⟨j,h⟩
    ·exact⟨[],fun h=>absurd h hi⟩
   obtain⟨f,hf⟩:=Classical.axiomOfChoice hone
   have hget:∀i l,((List.range xs.length).map f)[i]?=some l→i<xs.length∧l=f i:=fun i l hil=>by
    rw[List.getElem?_map] at hil
    by_cases hi:i<xs.length
    ·rw[List.getElem?_range hi] at hil
     exact⟨hi,by simpa using hil.symm⟩
    ·rw[List.getElem?_eq_none (by simpa using hi)] at hil
     cases hil
   refine⟨((List.range xs.length).map f).flatten,?_,?_,?_,?_⟩
   ·unfold Lv
    exact⟨A,m,c,g,o',rfl,by omega,.inr e1,(List.range xs.length).map f,by simp[hlen],rfl,fun i l hil=>by
     obtain⟨h1,rfl⟩:=hget i l hil
     exact(hf i h1).1⟩
   ·rw[List.length_flatten,hsum]
    congr 1
    refine List.ext_getElem? fun i=>?_
    rw[List.getElem?_map,List.getElem?_map]
    by_cases hi:i<xs.length
    ·rw[List.getElem?_range hi,(hf i hi).2.1]
     rfl
    ·rw[List.getElem?_eq_none (l:=List.range _) (by simpa using hi),List.getElem?_eq_none (l:=ns) (by omega)]
     rfl
   ·rw[List.Nodup,List.pairwise_flatten]
    refine⟨fun l hl=>?_,?_⟩
    ·obtain⟨i,hi,rfl⟩:=List.mem_map.1 hl
     exact(hf i (List.mem_range.1 hi)).2.2.1
    ·rw[List.pairwise_map]
     refine List.Pairwise.imp_of_mem ?_ List.pairwise_lt_range
     intro i j hi hj hij x hx y hy hxy
     subst hxy
     have hi:=List.mem_range.1 hi
     have hj:=List.mem_range.1 hj
     rcases (hf i hi).2.2.2 x hx with⟨a1,a2,a3⟩|⟨a,ha⟩
     ·rcases (hf j hj).2.2.2 x hy with⟨c1,c2,c3⟩|⟨c,hc⟩
      ·have:(i+1)*fs.len≤j*fs.len:=Nat.mul_le_mul_right _ hij
       rw[Nat.add_mul] at this
       omega
      ·rw[a1,e2] at hc
       have:=hc.length_le
       simp at this
       try omega
     ·rcases (hf j hj).2.2.2 x hy with⟨c1,c2,c3⟩|⟨c,hc⟩
      ·rw[c1,e2] at ha
       have:=ha.length_le
       simp at this
       try omega
      ·have h1:=(List.prefix_append (p++[i]) [a]).trans ha
       have h2:=(List.prefix_append (p++[j]) [c]).trans hc
       have:=pre_eq h1 h2 (by simp)
       simp at this
       omega
   ·intro q hq
    obtain⟨l,hl,hq⟩:=List.mem_flatten.1 hq
    obtain⟨i,hi,rfl⟩:=List.mem_map.1 hl
    rcases (hf i (List.mem_range.1 hi)).2.2.2 q hq with⟨a1,_⟩|⟨a,ha⟩
    ·rw[a1,e2];exact List.prefix_refl _
    ·rw[List.append_assoc] at ha
     exact(List.prefix_append p _).trans ha
theorem LF.lv {G:Ghost} {w:World}:∀(fs:Fs) (p:List Nat) (j:Nat) (cs:List D) (n:Nat),LF fs p j cs n→∀(p0:List Nat) (i0:Nat),p=p0++[i0]→∀(b o:Nat),G.lab b=p0→(∀(i:Nat) d,cs[i]?=some d→o+i<G.lim b∧∃v,cellAt w b (o+i)=some v∧Rel G w d v) →
  ∃as,LvF G.lim w fs b o as∧as.length=n∧as.Nodup∧∀q∈as,(q.1=b∧o≤q.2∧q.2<o+fs.len)∨∃j',j≤j'∧(p++[j']) <+: G.lab q.1
 | .nil,p,j,cs,n,h,p0,i0,hp,b,o,hb,hc=>by
  unfold LF at h
  exact⟨[],by unfold LvF;rfl,by simp[h.1],by simp,by simp⟩
 | .cell r,p,j,cs,n,h,p0,i0,hp,b,o,hb,hc=>by
  unfold LF at h
  obtain⟨m,k,t,rfl,rfl,h⟩:=h
  obtain⟨l,h1,h2,h3,h4⟩:=LF.lv r p (j+1) t k h p0 i0 hp b (o+1) hb (fun i d hd=>by
   have:=hc (i+1) d (by simpa using hd)
   rw[show o+1+i=o+(i+1) by omega];exact this)
  obtain⟨c1,v,c2,c3⟩:=hc 0 _ rfl
  refine⟨(b,o)::l,?_,by simp[h2],List.nodup_cons.2 ⟨fun hm=>?_,h3⟩,fun q hq=>?_⟩
  ·unfold LvF
   refine⟨l,rfl,c1,⟨m,?_⟩,h1⟩
   rw[show cellAt w b o=some v from c2]
   cases c3
   rfl
  ·rcases h4 _ hm with⟨_,q2,_⟩|⟨j',_,hj⟩
   ·simp at q2;omega
   ·simp only[hb,hp] at hj
    have:=hj.length_le
    simp at this
    try omega
    try omega
  ·rcases List.mem_cons.1 hq with rfl|hq
   ·exact .inl ⟨rfl,Nat.le_refl _,by simp[Fs.len]⟩
   ·rcases h4 q hq with⟨q1,q2,q3⟩|⟨j',q1,q2⟩
    ·exact .inl ⟨q1,by omega,by simp only[Fs.len];omega⟩
    ·exact .inr ⟨j',by omega,q2⟩
 | .flag r,p,j,cs,n,h,p0,i0,hp,b,o,hb,hc=>by
  unfold LF at h
  obtain⟨m,k,t,rfl,rfl,h⟩:=h
  obtain⟨l,h1,h2,h3,h4⟩:=LF.lv r p (j+1) t k h p0 i0 hp b (o+1) hb (fun i d hd=>by
   have:=hc (i+1) d (by simpa using hd)
   rw[show o+1+i=o+(i+1) by omega];exact this)
  obtain⟨c1,v,c2,c3⟩:=hc 0 _ rfl
  refine⟨(b,o)::l,?_,by simp[h2],List.nodup_cons.2 ⟨fun hm=>?_,h3⟩,fun q hq=>?_⟩
  ·unfold LvF
   refine⟨l,rfl,c1,⟨m,?_⟩,h1⟩
   rw[show cellAt w b o=some v from c2]
   cases c3
   rfl
  ·rcases h4 _ hm with⟨_,q2,_⟩|⟨j',_,hj⟩
   ·simp at q2;omega
   ·simp only[hb,hp] at hj
    have:=hj.length_le
    simp at this
    try omega
    try omega
  ·rcases List.mem_cons.1 hq with rfl|hq
   ·exact .inl ⟨rfl,Nat.le_refl _,by simp[Fs.len]⟩
   ·rcases h4 q hq with⟨q1,q2,q3⟩|⟨j',q1,q2⟩
    ·exact .inl ⟨q1,by omega,by simp only[Fs.len];omega⟩
    ·exact .inr ⟨j',by omega,q2⟩
 | .skip r,p,j,cs,n,h,p0,i0,hp,b,o,hb,hc=>by
  unfold LF at h
  obtain⟨c,t,rfl,_,h⟩:=h
  obtain⟨l,h1,h2,h3,h4⟩:=LF.lv r p (j+1) t n h p0 i0 hp b (o+1) hb (fun i d hd=>by
   have:=hc (i+1) d (by simpa using hd)
   rw[show o+1+i=o+(i+1) by omega];exact this)
  refine⟨l,by unfold LvF;exact h1,h2,h3,fun q hq=>?_⟩
  rcases h4 q hq with⟨q1,q2,q3⟩|⟨j',q1,q2⟩
  ·exact .inl ⟨q1,by omega,by simp only[Fs.len];omega⟩
  ·exact .inr ⟨j',by omega,q2⟩
 | .sub s r,p,j,cs,n,h,p0,i0,hp,b,o,hb,hc=>by
  unfold LF at h
  obtain⟨d,k1,k2,t,rfl,rfl,h0,h⟩:=h
  obtain⟨l2,h1,h2,h3,h4⟩:=LF.lv r p (j+1) t k2 h p0 i0 hp b (o+1) hb (fun i d hd=>by
   have:=hc (i+1) d (by simpa using hd)
   rw[show o+1+i=o+(i+1) by omega];exact this)
  obtain⟨c1,v,c2,c3⟩:=hc 0 d rfl
  obtain⟨l1,m1,m2,m3,m4⟩:=LT.lv s (p++[j]) d k1 h0 (by simp) v c3
  refine⟨l1++l2,?_,by simp[h2,m2],List.nodup_append.2 ⟨m3,h3,fun x hx y hy hxy=>?_⟩,fun q hq=>?_⟩
  ·unfold LvF
   exact⟨v,l1,l2,rfl,c1,c2,m1,h1⟩
  ·subst hxy
   have a1:=m4 x hx
   rcases h4 x hy with⟨q1,_⟩|⟨j',q1,q2⟩
   ·rw[q1,hb,hp] at a1
    have:=a1.length_le
    simp at this
    try omega
   ·have:=pre_eq a1 q2 (by simp)
    simp at this
    omega
  ·rcases List.mem_append.1 hq with hq|hq
   ·exact .inr ⟨j,Nat.le_refl _,m4 q hq⟩
   ·rcases h4 q hq with⟨q1,q2,q3⟩|⟨j',q1,q2⟩
    ·exact .inl ⟨q1,by omega,by simp only[Fs.len];omega⟩
    ·exact .inr ⟨j',by omega,q2⟩
end
end Go.Lg
/-
  Lg, part 34: functions whose slots hold known values, in a known world (the marks).
-/
namespace Go.Lg
open Go Go.RowKit

structure ME (n:Nat) (E:List (Nat×Value)) (a:Act):Prop where
 defers:a.defers=[]
 size:a.tmps.size=n
 env:∀t v,look E t=some v→a.tmps[t]?=some v

def evV (E:List (Nat×Value)):Operand→Option Value
 | .tmp t=>look E t
 | .const v=>some v
 | _=>none
theorem evV_eval {n:Nat} {E:List (Nat×Value)} {a:Act} (h:ME n E a) {x:Operand} {v:Value} (hx:evV E x=some v):a.eval x=v:=by
 cases x with
 | tmp t=>simp[Act.eval,h.env t v hx]
 | const u=>simpa[evV,Act.eval] using hx
 | _=>cases hx
theorem ME.put {n:Nat} {E:List (Nat×Value)} {a:Act} (h:ME n E a) {t:Nat} (ht:t<n) (v:Value):ME n ((t,v)::E) (a.put (some t) v):=by
 refine⟨h.defers,by simpa[Act.put] using h.size,fun t' v' hv=>?_⟩
 simp only[look] at hv
 by_cases e:t=t'
 ·subst e
  simp only[if_true,Option.some.injEq] at hv
  subst hv
  simp[Act.put,h.size,ht]
 ·rw[if_neg e] at hv
  simp only[Act.put]
  rw[Array.getElem?_setIfInBounds_ne e]
  exact h.env t' v' hv

def OpsM (P:Program) (n:Nat) (ops:Array Oper) (l:List Oper) (E:List (Nat×Value)) (w:World) (K:List (Nat×Value)→World→Prop):Prop :=
 ∀a,ME n E a→∀Q:Exit→Act→World→Prop,(∀E' a' w',K E' w'→ME n E' a'→Q .normal a' w')→wpList P ops Q l a w

section ops
variable {P:Program} {n:Nat} {ops:Array Oper} {l:List Oper} {E:List (Nat×Value)} {w:World} {K:List (Nat×Value)→World→Prop} {t:Nat} {ty:TypeId} {pos:String} {aft:Array Edge}

theorem m_nil (h:K E w):OpsM P n ops [] E w K:=fun a hE _ hQ=>wpList_nil (hQ E a w h hE)
theorem m_val {o:Op} {v:Value} {w':World} (ht:t<n) (hr:∀a,ME n E a→(execOp a.eval ⟨some t,o,ty,pos,aft,none⟩).run P w=.ok (.value v) w') (h:OpsM P n ops l ((t,v)::E) w' K) :
  OpsM P n ops (⟨some t,o,ty,pos,aft,none⟩::l) E w K:=by
 intro a hE Q hQ
 refine wpList_step fun N hN=>?_
 rw[if_pos (show Region.wanted ⟨some t,o,ty,pos,aft,none⟩ (yielded ops a.tmps)=true from rfl)]
 unfold Oper.wp
 rw[hr a hE]
 exact hN _ _ (h _ (hE.put ht v) Q hQ)
theorem m_move {x:Operand} {v:Value} (hx:evV E x=some v) (ht:t<n) (h:OpsM P n ops l ((t,v)::E) w K):OpsM P n ops (⟨some t,.move x,ty,pos,aft,none⟩::l) E w K :=
 m_val ht (fun a hE=>by simp[execOp,evV_eval hE hx]) h
theorem m_assign {x:Operand} {v:Value} (hx:evV E x=some v) (ht:t<n) (h:OpsM P n ops l ((t,v)::E) w K):OpsM P n ops (⟨some t,.assign x,ty,pos,aft,none⟩::l) E w K :=
 m_val ht (fun a hE=>by simp[execOp,evV_eval hE hx]) h
theorem m_len {x:Operand} {A:Option Addr} {m c:Nat} {T e:TypeId} (hx:evV E x=some (.slice A m c)) (hu:P.underlying T=some (.slice e)) (ht:t<n) (h:OpsM P n ops l ((t,.int .i64 m)::E) w K) :
  OpsM P n ops (⟨some t,.call ⟨.builtin .len,#[x],#[T]⟩,ty,pos,aft,none⟩::l) E w K :=
 m_val ht (fun a hE=>by simp[execOp,resolve,invoke,builtin,evV_eval hE hx,Builtin.len_,run_underlying hu,goInt]) h
theorem m_lss {x y:Operand} {k:IntKind} {i j:Int} {T U:TypeId} (hx:evV E x=some (.int k i)) (hy:evV E y=some (.int k j)) (ht:t<n) (h:OpsM P n ops l ((t,.bool (decide (i<j)))::E) w K) :
  OpsM P n ops (⟨some t,.binOp .lss T x y U,ty,pos,aft,none⟩::l) E w K :=
 m_val ht (fun a hE=>by unfold execOp;dsimp only;rw[Sem.run_bind,evV_eval hE hx,evV_eval hE hy];simp[binOp_lss,eqGuard_at_int]) h
theorem m_neq {x y:Operand} {k:IntKind} {i j:Int} {T U:TypeId} (hx:evV E x=some (.int k i)) (hy:evV E y=some (.int k j)) (ht:t<n) (h:OpsM P n ops l ((t,.bool (i != j))::E) w K) :
  OpsM P n ops (⟨some t,.binOp .neq T x y U,ty,pos,aft,none⟩::l) E w K :=
 m_val ht (fun a hE=>by unfold execOp;dsimp only;rw[Sem.run_bind,evV_eval hE hx,evV_eval hE hy];simp[binOp_neq,eqGuard_at_int]) h
theorem m_add {x y:Operand} {i j:Int} {T U:TypeId} (hx:evV E x=some (.int .i64 i)) (hy:evV E y=some (.int .i64 j)) (hb:-9223372036854775808≤i+j∧i+j≤9223372036854775807) (ht:t<n) (h:OpsM P n ops l ((t,.int .i64 (i+j))::E) w K) :
  OpsM P n ops (⟨some t,.binOp .add T x y U,ty,pos,aft,none⟩::l) E w K :=
 m_val ht (fun a hE=>by unfold execOp;dsimp only;rw[Sem.run_bind,evV_eval hE hx,evV_eval hE hy];simp[binOp_add,eqGuard_at_int,Op.intArith,wrap64 hb.1 hb.2]) h
theorem m_indexAddr {x y:Operand} {b o m c i z:Nat} {T e:TypeId} (hx:evV E x=some (.slice (some ⟨b,o,none⟩) m c)) (hy:evV E y=some (.int .i64 i)) (hu:P.underlying T=some (.slice e)) (hz:∀w,(sizeOf e).run P w=.ok z w) (hi:i<m) (ht:t<n)
  (h:OpsM P n ops l ((t,.pointer (some ⟨b,o+i*z,none⟩))::E) w K):OpsM P n ops (⟨some t,.indexAddr T x y,ty,pos,aft,none⟩::l) E w K :=
 m_val ht (fun a hE=>by
  simp[execOp,evV_eval hE hx,evV_eval hE hy,Instr.indexAt,asIntOf,run_underlying hu,hz,hi,add_mk]) h
theorem m_fieldAddr {S:Setup} (hP:S.P=P) {x:Operand} {b o f:Nat} {T:TypeId} {fs:List (Nat×TypeId)} {p:Nat×TypeId} {j:TyI} (hx:evV E x=some (.pointer (some ⟨b,o,none⟩))) (hk:S.kd T=some (.struct fs)) (hp:fs[f]?=some p) (hj:S.tab p.2=some j) (hne:j.size≠0) (ht:t<n)
  (h:OpsM P n ops l ((t,.pointer (some ⟨b,o+p.1,none⟩))::E) w K):OpsM P n ops (⟨some t,.fieldAddr T x f,ty,pos,aft,none⟩::l) E w K:=by
 subst hP
 refine m_val ht (fun a hE=>?_) h
 obtain⟨fields,hu,hfs,_⟩:=kd_struct hk
 obtain⟨fl,hf,ho,hty⟩:=fields_get hfs hp
 have hok:=S.ok p.2 j hj
 have hsz:(sizeOf fl.type).run S.P w=.ok j.size w:=by rw[hty];exact run_sizeOf hok w
 simp[execOp,evV_eval hE hx,Instr.fieldAt,run_underlying hu,hf,Instr.sureAddr,fieldPlace,hsz,hne,add_mk,ho]
theorem m_load {S:Setup} (hP:S.P=P) {x:Operand} {b o:Nat} {v:Value} {T:TypeId} {j:TyI} (hx:evV E x=some (.pointer (some ⟨b,o,none⟩))) (hj:S.tab T=some j) (ha:j.agg=false) (hv:cellAt w b o=some v) (ht:t<n)
  (h:OpsM P n ops l ((t,v)::E) w K):OpsM P n ops (⟨some t,.load T x,ty,pos,aft,none⟩::l) E w K:=by
 subst hP
 refine m_val ht (fun a hE=>?_) h
 have hok:=S.ok T j hj
 have hv':w.cell? ⟨b,o,none⟩=some v:=hv
 simp[execOp,evV_eval hE hx,Instr.loadAt,Instr.sureAddr,loadVar,run_isAgg hok,ha,hv']
theorem m_loadA {S:Setup} (hP:S.P=P) {x:Operand} {b o:Nat} {vs:List Value} {T:TypeId} {j:TyI} (hx:evV E x=some (.pointer (some ⟨b,o,none⟩))) (hj:S.tab T=some j) (ha:j.agg=true) (hl:vs.length=j.size) (hv:∀(i:Nat) v,vs[i]?=some v→cellAt w b (o+i)=some v) (ht:t<n)
  (h:OpsM P n ops l ((t,.agg vs.toArray)::E) w K):OpsM P n ops (⟨some t,.load T x,ty,pos,aft,none⟩::l) E w K:=by
 subst hP
 refine m_val ht (fun a hE=>?_) h
 have hok:=S.ok T j hj
 have:=run_loadCells_list (P:=S.P) w ⟨b,o,none⟩ vs (fun i v hi=>by rw[Addr.add_lit];exact hv i v hi)
 rw[hl] at this
 simp[execOp,evV_eval hE hx,Instr.loadAt,Instr.sureAddr,loadVar,run_isAgg hok,ha,run_sizeOf hok,this]
theorem m_store {S:Setup} (hP:S.P=P) {x y:Operand} {b o:Nat} {m:Int} {T:TypeId} {j:TyI} (hx:evV E x=some (.pointer (some ⟨b,o,none⟩))) (hy:evV E y=some (.int .i64 m)) (hj:S.tab T=some j) (hs:j.size=1) (hw:Wr w (b,o)) {m0:Int} (hc:cellAt w b o=some (.int .i64 m0))
  (h:OpsM P n ops l E (wr w (b,o) m) K):OpsM P n ops (⟨none,.store T x y,ty,pos,aft,none⟩::l) E w K:=by
 subst hP
 intro a hE Q hQ
 refine wpList_step fun N hN=>?_
 rw[if_pos (show Region.wanted ⟨none,.store T x y,ty,pos,aft,none⟩ (yielded ops a.tmps)=true from rfl)]
 have hsz:=run_sizeOf (S.ok T j hj) w
 obtain⟨vs,e,h1,h2⟩:=hw
 have hrow:=run_storeCells_at (P:=S.P) b o e [Value.int .i64 m] 0 vs w h1 (by simp;omega) (by simp[Value.oneCell'])
 simp only[Nat.add_zero,List.length_singleton] at hrow
 have hmk:mkV (vs.getD o undef) m=Value.int .i64 m:=by
  rw[cellAt_row h1] at hc
  simp[Array.getD_eq_getD_getElem?,hc,mkV]
 have hwr:=wr_eq (n:=m) (p:=(b,o)) h1
 dsimp only at hwr
 rw[hmk] at hwr
 rw[←hwr] at hrow
 have hr:(execOp a.eval ⟨none,.store T x y,ty,pos,aft,none⟩).run S.P w=.ok .skip (wr w (b,o) m):=by
  simp[execOp,evV_eval hE hx,evV_eval hE hy,Instr.storeAt,Instr.sureAddr,storeVar,hsz,hs,Value.cells,hrow]
 unfold Oper.wp
 rw[hr]
 exact hN _ _ (h _ hE Q hQ)
theorem m_box {x:Operand} {vs:List Value} {T:TypeId} (hx:evV E x=some (.agg vs.toArray)) (ht:t<n) (h:OpsM P n ops l ((t,.pointer (some ⟨w.heap.size,0,none⟩))::E) (w.alloc (.cells vs.toArray T)) K) :
  OpsM P n ops (⟨some t,.box T x,ty,pos,aft,none⟩::l) E w K :=
 m_val ht (fun a hE=>by simp[execOp,evV_eval hE hx,Instr.box,newVar,newRow,Value.cells]) h
theorem m_call {f:FuncId} {x y:Operand} {u v:Value} {tys:Array TypeId} {R:Ending→World→Prop} (he:Enters P f) (hx:evV E x=some u) (hy:evV E y=some v) (hC:Calls P f #[u,v] w R) (ht:t<n)
  (h:∀e w',R e w'→∃d,e=.returned d∧OpsM P n ops l ((t,d)::E) w' K):OpsM P n ops (⟨some t,.call ⟨.value (.func f),#[x,y],tys⟩,ty,pos,aft,none⟩::l) E w K:=by
 intro a hE Q hQ
 refine wpList_step fun N hN=>?_
 rw[if_pos (show Region.wanted ⟨some t,.call ⟨.value (.func f),#[x,y],tys⟩,ty,pos,aft,none⟩ (yielded ops a.tmps)=true from rfl)]
 have hrun:(execOp a.eval ⟨some t,.call ⟨.value (.func f),#[x,y],tys⟩,ty,pos,aft,none⟩).run P w=.ok (.enter f #[u,v]) w:=by
  simp[execOp,resolve,Act.eval,Deferred.ofValue,invoke,enter_run he]
  simp[←evV_eval hE hx,←evV_eval hE hy,Act.eval]
 unfold Oper.wp
 rw[hrun,Oper.upon_enter]
 refine hC.mono fun e w' hR=>?_
 obtain⟨d,rfl,h'⟩:=h e w' hR
 exact hN _ _ (h' _ (hE.put ht d) Q hQ)
end ops

inductive MItem where
 | code (c:Code)
 | inBlock (id:Nat)
 | loopEnd (J:List (Nat×Value)→World→Prop)
def semM (P:Program) (n:Nat) (R:List (Nat×Value)→World→Prop):List MItem→Exit→Act→World→Prop
 | []=>fun e a w=>(e=.normal∨e=.ret)∧∃E,ME n E a∧R E w
 | .inBlock id::k=>Exit.inBlock id (semM P n R k)
 | .loopEnd J::k=>Exit.then (fun a w=>∃E,ME n E a∧J E w) (semM P n R k)
 | .code c::k=>Exit.then (fun a w=>c.wp P (semM P n R k) a w) (semM P n R k)
def SM (P:Program) (n:Nat) (R:List (Nat×Value)→World→Prop) (k:List MItem) (E:List (Nat×Value)) (w:World):Prop:=∀a,ME n E a→semM P n R k .normal a w

section ctl
variable {P:Program} {n:Nat} {R:List (Nat×Value)→World→Prop} {k:List MItem} {E:List (Nat×Value)} {w:World}
theorem sm_seq {x y:Code} (h:SM P n R (.code x::.code y::k) E w):SM P n R (.code (.seq x y)::k) E w:=fun a hE=>wp_seq (h a hE)
theorem sm_block {id:Nat} {c:Code} (h:SM P n R (.code c::.inBlock id::k) E w):SM P n R (.code (.block id c)::k) E w:=fun a hE=>wp_block (h a hE)
theorem sm_skip (h:SM P n R k E w):SM P n R (.code .skip::k) E w:=fun a hE=>wp_skip (h a hE)
theorem sm_inBlock {id:Nat} (h:SM P n R k E w):SM P n R (.inBlock id::k) E w:=fun a hE=>h a hE
theorem sm_loopEnd {J:List (Nat×Value)→World→Prop} (h:J E w):SM P n R (.loopEnd J::k) E w:=fun _ hE=>⟨E,hE,h⟩
theorem sm_cond {c:Operand} {x y:Code} {b:Bool} (hc:evV E c=some (.bool b)) (h1:b=true→SM P n R (.code x::k) E w) (h0:b=false→SM P n R (.code y::k) E w):SM P n R (.code (.cond c x y)::k) E w:=fun a hE =>
 wp_cond_split (evV_eval hE hc) (fun hb=>h1 hb a hE) (fun hb=>h0 hb a hE)
theorem semM_ret {a:Act} (hE:ME n E a) (h:R E w):∀k:List MItem,semM P n R k .ret a w
 | []=>⟨.inr rfl,E,hE,h⟩
 | .inBlock _::k=>semM_ret hE h k
 | .loopEnd _::k=>semM_ret hE h k
 | .code _::k=>semM_ret hE h k
theorem sm_ret (h:R E w):SM P n R (.code .ret::k) E w:=fun _ hE=>wp_ret (semM_ret hE h k)
def exitM (id:Nat):List MItem→Option (List MItem)
 | []=>none
 | .inBlock id'::k=>if id=id' then some k else exitM id k
 | .loopEnd _::k=>exitM id k
 | .code _::k=>exitM id k
theorem semM_exit {id:Nat} {a:Act}:∀ {k k':List MItem},exitM id k=some k'→semM P n R k' .normal a w→semM P n R k (.exit id) a w
 | [],_,h,_=>by cases h
 | .inBlock id'::k,k',h,hk=>by
  simp only[exitM] at h
  show Exit.inBlock id' (semM P n R k) (.exit id) a w
  simp only[Exit.inBlock]
  split at h
  ·rename_i he
   rw[if_pos he]
   obtain rfl:=Option.some.inj h
   exact hk
  ·rename_i he
   rw[if_neg he]
   exact semM_exit h hk
 | .loopEnd _::k,_,h,hk=>semM_exit (k:=k) h hk
 | .code _::k,_,h,hk=>semM_exit (k:=k) h hk
theorem sm_exit {id:Nat} {k':List MItem} (he:exitM id k=some k') (h:SM P n R k' E w):SM P n R (.code (.exit id)::k) E w:=fun a hE=>wp_exit (semM_exit he (h a hE))
theorem sm_region {id:Nat} {l:List Oper} (h:OpsM P n l.toArray l E w fun E' w'=>SM P n R k E' w'):SM P n R (.code (.region id l.toArray false)::k) E w:=fun a hE =>
 wp_region_lit (h a hE _ fun _ a' _ hK hE'=>hK a' hE')
def coversM (E E':List (Nat×Value)):Prop:=∀p∈E',look E p.1=some p.2
theorem ME.less {E':List (Nat×Value)} {a:Act} (h:ME n E a) (hc:coversM E E'):ME n E' a:=⟨h.defers,h.size,fun t v hv=>h.env t v (hc (t,v) (mem_of_look hv))⟩
theorem sm_loop (F:Nat→List (Nat×Value)) (W:Nat→World) (N:Nat) {c:Code} (hc:coversM E (F 0)) (hw:w=W 0)
  (round:∀i,i≤N→SM P n R (.code c::.loopEnd (fun E' w'=>i<N∧coversM E' (F (i+1))∧w'=W (i+1))::k) (F i) (W i)):SM P n R (.code (.loop c)::k) E w:=fun a hE=>by
 refine wp_loop_ghost (fun m a w=>∃i,N-i=m∧i≤N∧ME n (F i) a∧w=W i) (N-0) ⟨0,rfl,Nat.zero_le _,hE.less hc,hw⟩ ?_
 rintro m a w ⟨i,rfl,hi,hs,rfl⟩
 refine wp_mono (round i hi a hs) fun e a' w' h=>?_
 cases e with
 | normal =>
  obtain⟨E',hs',h1,h2,h3⟩:=h
  exact⟨N-(i+1),by omega,i+1,rfl,h1,hs'.less h2,h3⟩
 | _=>exact h
end ctl

def enumV:Nat→List Value→List (Nat×Value)
 | _,[]=>[]
 | k,d::ds=>(k,d)::enumV (k+1) ds
theorem look_enumV (ds:List Value):∀(k t:Nat),look (enumV k ds) t=if k≤t then ds[t-k]? else none:=by
 induction ds with
 | nil=>intro k t;simp[enumV,look]
 | cons d ds ih =>
  intro k t
  simp only[enumV,look,ih]
  by_cases h:k=t
  ·subst h;simp
  ·by_cases h2:k≤t
   ·rw[if_neg h,if_pos h2,if_pos (by omega),show t-k=(t-(k+1))+1 by omega]
    simp
   ·rw[if_neg h,if_neg h2,if_neg (by omega)]
theorem calls_of_sm {P:Program} {f:FuncId} {fn:Func} {c:Code} {R:List (Nat×Value)→World→Prop} {Rx:Ending→World→Prop} {w:World} {vals:List Value} {t:Nat}
  (hf:P.funcs[f]?=some fn) (hb:fn.body=some c) (hn:vals.length≤fn.ntmps) (hres:fn.results=#[.tmp t])
  (h:SM P fn.ntmps R [.code c] (enumV 0 vals) w)
  (hR:∀E' w',R E' w'→∃v,look E' t=some v∧Rx (.returned v) w'):Calls P f vals.toArray w Rx:=by
 refine calls_of_wp hf hb (wp_mono (h _ ⟨rfl,?_,fun t v hv=>?_⟩) ?_)
 ·simp;omega
 ·rw[look_enumV] at hv
  simp only[Nat.zero_le,if_true,Nat.sub_zero] at hv
  have hlt:t<vals.length:=(List.getElem?_eq_some_iff.1 hv).1
  simp only
  rw[Array.getElem?_append_left (by simpa using hlt)]
  simpa using hv
 ·intro e a' w' he
  have key:∀E',ME fn.ntmps E' a'→R E' w'→a'.defers=[]∧∃v,(results fn a'.tmps).run P w'=.ok v w'∧Rx (.returned v) w':=fun E' hE' hr=>by
   obtain⟨v,h1,h2⟩:=hR E' w' hr
   refine⟨hE'.defers,v,?_,h2⟩
   have:=hE'.env t v h1
   simp[results,hres,this]
  cases e with
  | normal=>obtain⟨_,E',h1,h2⟩:=he;exact key E' h1 h2
  | ret=>obtain⟨_,E',h1,h2⟩:=he;exact key E' h1 h2
  | _=>obtain⟨h0|h0,_⟩:=he<;>cases h0
end Go.Lg
/-
  Lg, part 35: what the marking and the checking functions do, and the frame of their proofs.
-/
namespace Go.Lg
open Go Go.RowKit

structure Grown (w w':World):Prop where
 size:w.heap.size≤w'.heap.size
 old:∀b,b<w.heap.size→w'.heap[b]?=w.heap[b]?
 os:w'.os=w.os
 tape:w'.tape=w.tape
 out:w'.output=w.output
 dr:w.drawn≤w'.drawn
theorem Grown.refl (w:World):Grown w w:=⟨Nat.le_refl _,fun _ _=>rfl,rfl,rfl,rfl,Nat.le_refl _⟩
theorem Grown.of_eq {w w':World} (h:w'=w):Grown w w':=by rw[h];exact Grown.refl _
theorem Grown.trans {w w' w'':World} (h:Grown w w') (h':Grown w' w''):Grown w w'' :=
 ⟨Nat.le_trans h.size h'.size,fun b hb=>(h'.old b (Nat.lt_of_lt_of_le hb h.size)).trans (h.old b hb),h'.os.trans h.os,h'.tape.trans h.tape,h'.out.trans h.out,Nat.le_trans h.dr h'.dr⟩
theorem Grown.alloc (w:World) (c:Array Value) (t:TypeId):Grown w (w.alloc (.cells c t)) :=
 ⟨by simp,fun b hb=>heap_alloc_old w _ hb,rfl,rfl,rfl,Nat.le_refl _⟩
theorem Grown.cellAt {w w':World} (h:Grown w w') {b o:Nat} {v:Value} (hv:Lg.cellAt w b o=some v):Lg.cellAt w' b o=some v:=by
 have hb:=cell_lt (show w.cell? ⟨b,o,none⟩=some v from hv)
 have:w'.cell? ⟨b,o,none⟩=some v:=by rw[cell_of_heap (h.old b hb)];exact hv
 exact this
theorem Grown.intW {w w':World} (h:Grown w w') (lim:Nat→Nat):IntW lim lim w w':=fun _ _ _ ho hv=>⟨ho,.inl (h.cellAt hv)⟩
theorem Grown.Wr {w w':World} (h:Grown w w') {p:Nat×Nat} (hp:Lg.Wr w p):Lg.Wr w' p:=by
 obtain⟨vs,e,h1,h2⟩:=hp
 exact⟨vs,e,by rw[h.old _ (heap_lt h1)];exact h1,h2⟩

structure Marked (w:World) (as:List (Nat×Nat)) (k:Int) (w':World):Prop where
 size:w.heap.size≤w'.heap.size
 other:∀b,b<w.heap.size→(∀q∈as,q.1≠b)→w'.heap[b]?=w.heap[b]?
 cells:∀(b:Nat) (vs:Array Value) (e:TypeId),w.heap[b]?=some (.cells vs e (0,0))→∃vs',w'.heap[b]?=some (.cells vs' e (0,0))∧vs'.size=vs.size
 off:∀b o v,(b,o)∉as→cellAt w b o=some v→cellAt w' b o=some v
 ints:∀b o v,cellAt w b o=some v→cellAt w' b o=some v∨(b,o)∈as∧Mkd v∧∃n,cellAt w' b o=some (mkV v n)
 at_:as.Nodup→∀(j:Nat) q,as[j]?=some q→HvC w' q (k+j)
 os:w'.os=w.os
 tape:w'.tape=w.tape
 out:w'.output=w.output
 dr:w.drawn≤w'.drawn
theorem Marked.of_grown {w w':World} (h:Grown w w') (k:Int):Marked w [] k w' :=
 ⟨h.size,fun b hb _=>h.old b hb,fun b vs e hb=>⟨vs,by rw[h.old b (heap_lt hb)];exact hb,rfl⟩,fun b o v _ hv=>h.cellAt hv,fun b o v hv=>.inl (h.cellAt hv),fun _ j q hq=>by simp at hq,h.os,h.tape,h.out,h.dr⟩
theorem Marked.of_wrs {w:World} {as:List (Nat×Nat)} (k:Int) (h:∀q∈as,Wr w q) (hi:∀q∈as,MkC w q):Marked w as k (wrs w as k) :=
 ⟨by rw[wrs_size];exact Nat.le_refl _,fun b _ hq=>wrs_other hq,wrs_cells h,fun b o v hn hv=>by rw[wrs_off h hn];exact hv,
  fun b o v hv=>by
   by_cases hm:(b,o)∈as
   ·rcases (wrs_intW (lim:=fun _=>o+1) (k:=k) h hi b o v (Nat.lt_succ_self _) hv).2 with q|q
    ·exact .inl q
    ·exact .inr ⟨hm,q⟩
   ·exact .inl (by rw[wrs_off h hm];exact hv),
  fun hn=>wrs_at h hi hn,wrs_rest.1,wrs_rest.2.1,wrs_rest.2.2,Nat.le_of_eq wrs_drawn.symm⟩
theorem Marked.Wr {w w':World} {as:List (Nat×Nat)} {k:Int} (h:Marked w as k w') {p:Nat×Nat} (hp:Lg.Wr w p):Lg.Wr w' p:=by
 obtain⟨vs,e,h1,h2⟩:=hp
 obtain⟨vs',h3,h4⟩:=h.cells _ vs e h1
 exact⟨vs',e,h3,by omega⟩
theorem Marked.intW {w w':World} {as:List (Nat×Nat)} {k:Int} (h:Marked w as k w') (lim:Nat→Nat) (_:∀q∈as,MkC w q):IntW lim lim w w':=fun b o v ho hv=>by
 refine⟨ho,?_⟩
 rcases h.ints b o v hv with q|⟨hm,q⟩
 ·exact .inl q
 ·exact .inr q
theorem Marked.append {w w' w'':World} {l1 l2:List (Nat×Nat)} {k:Int} (h:Marked w l1 k w') (h':Marked w' l2 (k+l1.length) w''):Marked w (l1++l2) k w'':=by
 refine⟨Nat.le_trans h.size h'.size,fun b hb hq=>?_,fun b vs e hb=>?_,fun b o v hn hv=>?_,fun b o v hv=>?_,fun hn j q hj=>?_,h'.os.trans h.os,h'.tape.trans h.tape,h'.out.trans h.out,Nat.le_trans h.dr h'.dr⟩
 ·rw[h'.other b (Nat.lt_of_lt_of_le hb h.size) fun q hq'=>hq q (List.mem_append_right _ hq'),h.other b hb fun q hq'=>hq q (List.mem_append_left _ hq')]
 ·obtain⟨vs1,q1,q2⟩:=h.cells b vs e hb
  obtain⟨vs2,q3,q4⟩:=h'.cells b vs1 e q1
  exact⟨vs2,q3,q4.trans q2⟩
 ·exact h'.off b o v (fun hm=>hn (List.mem_append_right _ hm)) (h.off b o v (fun hm=>hn (List.mem_append_left _ hm)) hv)
 ·rcases h.ints b o v hv with q|⟨hm,hk,m,q⟩
  ·rcases h'.ints b o v q with q|⟨hm,q⟩
   ·exact .inl q
   ·exact .inr ⟨List.mem_append_right _ hm,q⟩
  ·rcases h'.ints b o _ q with q|⟨hm',_,m2,q⟩
   ·exact .inr ⟨List.mem_append_left _ hm,hk,m,q⟩
   ·exact .inr ⟨List.mem_append_left _ hm,hk,m2,by rw[q,mkV_mkV _ _ hk]⟩
 ·obtain⟨n1,n2,n3⟩:=List.nodup_append.1 hn
  by_cases hjl:j<l1.length
  ·rw[List.getElem?_append_left hjl] at hj
   have hm:=List.mem_of_getElem? hj
   obtain⟨v,e1,e2⟩:=h.at_ n1 j q hj
   exact⟨v,e1,h'.off q.1 q.2 _ (fun hm'=>n3 q hm q hm' rfl) e2⟩
  ·rw[List.getElem?_append_right (by omega)] at hj
   have:=h'.at_ n2 _ q hj
   rwa [show k+(l1.length:Int)+((j-l1.length:Nat):Int)=k+(j:Int) by omega] at this

def MKs (P:Program) (f:FuncId) (s:Sh):Prop:=Enters P f∧∀(lim:Nat→Nat) (w:World) (v:Value) (as:List (Nat×Nat)) (k:Int),Lv lim w s v as→(∀q∈as,Wr w q)→0≤k→k+as.length≤4611686018427387904 →
 Calls P f #[v,.int .i64 k] w fun e w'=>e=.returned (.int .i64 (k+as.length))∧w'=wrs w as k
def HDs (P:Program) (f:FuncId) (s:Sh):Prop:=Enters P f∧∀(lim:Nat→Nat) (w:World) (v:Value) (as:List (Nat×Nat)) (k:Int),Lv lim w s v as→(∀(j:Nat) q,as[j]?=some q→HvC w q (k+j))→0≤k→k+as.length≤4611686018427387904 →
 Calls P f #[v,.int .i64 k] w fun e w'=>e=.returned (.int .i64 (k+as.length))∧w'=w
def MKa (P:Program) (f:FuncId) (fs:Fs):Prop:=Enters P f∧∀(lim:Nat→Nat) (w:World) (vs:List Value) (as:List (Nat×Nat)) (k:Int),vs.length=fs.len→LvA lim w fs vs as→(∀q∈as,Wr w q)→0≤k→k+as.length≤4611686018427387904 →
 Calls P f #[.agg vs.toArray,.int .i64 k] w fun e w'=>e=.returned (.int .i64 (k+as.length))∧Marked w as k w'
section steps
variable {lim:Nat→Nat} {w:World}
theorem wrs_LvF {fs:Fs} {b o:Nat} {l1 l2:List (Nat×Nat)} {k:Int} (h:LvF lim w fs b o l2) (hw1:∀q∈l1,Wr w q) (hi1:∀q∈l1,MkC w q):LvF lim (wrs w l1 k) fs b o l2 :=
 LvF.mono (wrs_intW hw1 hi1) fs b o l2 h
theorem LvF.sub_step {s:Sh} {r:Fs} {b o:Nat} {as:List (Nat×Nat)} (h:LvF lim w (.sub s r) b o as):∃v l1 l2,as=l1++l2∧cellAt w b o=some v∧Lv lim w s v l1∧LvF lim w r b (o+1) l2 ∧
  ∀k,(∀q∈l1,Wr w q)→(∀q∈l2,Wr w q)→LvF lim (wrs w l1 k) r b (o+1) l2∧∀q∈l2,Wr (wrs w l1 k) q:=by
 unfold LvF at h
 obtain⟨v,l1,l2,h1,h2,h3,h4,h5⟩:=h
 exact⟨v,l1,l2,h1,h3,h4,h5,fun k q1 q2=>⟨wrs_LvF h5 q1 fun q hq=>(Lv.ints s v l1 h4 q hq).2,fun q hq=>wrs_Wr q1 q (q2 q hq)⟩⟩
theorem LvF.cell_step {r:Fs} {b o:Nat} {as:List (Nat×Nat)} (h:LvF lim w (.cell r) b o as):∃l m,as=(b,o)::l∧cellAt w b o=some (.int .i64 m)∧LvF lim w r b (o+1) l ∧
  ∀k,Wr w (b,o)→(∀q∈l,Wr w q)→LvF lim (wr w (b,o) k) r b (o+1) l∧∀q∈l,Wr (wr w (b,o) k) q:=by
 unfold LvF at h
 obtain⟨l,h1,h2,⟨m,h3⟩,h4⟩:=h
 exact⟨l,m,h1,h3,h4,fun k q1 q2=>⟨LvF.mono (wr_intW q1 (MkC.int h3)) r b _ l h4,fun q hq=>q1.wr (q2 q hq)⟩⟩
theorem LvF.nil_step {b o:Nat} {as:List (Nat×Nat)} (h:LvF lim w .nil b o as):as=[]:=by unfold LvF at h;exact h
theorem LvA.sub_step {s:Sh} {r:Fs} {v:Value} {vs:List Value} {as:List (Nat×Nat)} (h:LvA lim w (.sub s r) (v::vs) as):∃l1 l2,as=l1++l2∧Lv lim w s v l1∧LvA lim w r vs l2:=by
 unfold LvA at h
 obtain⟨v',l1,l2,h1,h2,h3,h4⟩:=h
 obtain rfl:v=v':=by simpa using h2
 exact⟨l1,l2,h1,h3,h4⟩
theorem LvA.nil_step {vs:List Value} {as:List (Nat×Nat)} (h:LvA lim w .nil vs as):as=[]:=by unfold LvA at h;exact h
theorem holds_left {l1 l2:List (Nat×Nat)} {k:Int} (h:∀(j:Nat) q,(l1++l2)[j]?=some q→HvC w q (k+j)):∀(j:Nat) q,l1[j]?=some q→HvC w q (k+j):=fun j q hj =>
 h j q (by rw[List.getElem?_append_left (List.getElem?_eq_some_iff.1 hj).1];exact hj)
theorem holds_right {l1 l2:List (Nat×Nat)} {k:Int} (h:∀(j:Nat) q,(l1++l2)[j]?=some q→HvC w q (k+j)):∀(j:Nat) q,l2[j]?=some q→HvC w q (k+l1.length+j):=fun j q hj=>by
 have:=h (l1.length+j) q (by rw[List.getElem?_append_right (by omega),Nat.add_sub_cancel_left];exact hj)
 rwa [show k+((l1.length+j:Nat):Int)=k+(l1.length:Int)+(j:Int) by omega] at this
theorem holds_head {p:Nat×Nat} {l:List (Nat×Nat)} {k:Int} (h:∀(j:Nat) q,(p::l)[j]?=some q→HvC w q (k+j)):HvC w p k:=by
 have:=h 0 p rfl
 simpa using this
theorem holds_tail {p:Nat×Nat} {l:List (Nat×Nat)} {k:Int} (h:∀(j:Nat) q,(p::l)[j]?=some q→HvC w q (k+j)):∀(j:Nat) q,l[j]?=some q→HvC w q (k+1+j):=fun j q hj=>by
 have:=h (j+1) q (by simpa using hj)
 rwa [show k+((j+1:Nat):Int)=k+1+(j:Int) by omega] at this
end steps

theorem cellAt_alloc (w:World) (c:Array Value) (t:TypeId) (o:Nat):cellAt (w.alloc (.cells c t)) w.heap.size o=c[o]?:=by
 unfold cellAt World.cell?
 simp only
 rw[heap_alloc_new]
 rfl
theorem box_stands {w w1 w2:World} {l:List (Nat×Nat)} {k:Int} {vs:List Value} (hb:∀(j:Nat) u,vs[j]?=some u→cellAt w1 w.heap.size j=some u) (hm:Marked w1 l k w2) (hl:∀q∈l,Wr w q):∀(j:Nat) u,vs[j]?=some u→cellAt w2 w.heap.size j=some u:=fun j u hj =>
 hm.off _ _ _ (fun hmem=>by
  obtain⟨_,_,h1,_⟩:=hl _ hmem
  have:=heap_lt h1
  simp at this) (hb j u hj)
theorem int_eq {a b:Int} (h:a=b):some (Value.int .i64 a)=some (Value.int .i64 b):=by rw[h]
theorem take_flat {α:Type} {ass:List (List α)} {i:Nat} {l:List α} (h:ass[i]?=some l):(ass.take (i+1)).flatten=(ass.take i).flatten++l:=by
 rw[List.take_add_one,h]
 simp

theorem sm_mark_loop {P:Program} {n:Nat} {R:List (Nat×Value)→World→Prop} {kk:List MItem} {E:List (Nat×Value)} {lim:Nat→Nat} {w:World} {fs:Fs} {v:Value} {as:List (Nat×Nat)} {k:Int} {c:Code}
  (h:Lv lim w (.slc fs) v as) (hW:∀q∈as,Wr w q) (h0:0≤k) (hb:k+as.length≤4611686018427387904) (hc:coversM E [(0,v),(1,.int .i64 k),(5,.int .i64 0)])
  (round:∀(A:Option Addr) (m cp:Nat),v=.slice A m cp→m≤maxLen→∀(i:Nat) (k':Int) (wi:World) (J:List (Nat×Value)→World→Prop),0≤k'→k'≤4611686018427387904→i≤m→(i<m→∃b o l,A=some ⟨b,o,none⟩∧LvF lim wi fs b (o+i*fs.len) l∧(∀q∈l,Wr wi q)∧k'+l.length≤4611686018427387904 ∧
    ∀E',coversM E' [(0,.slice A m cp),(1,.int .i64 (k'+l.length)),(5,.int .i64 ((i:Int)+1))]→J E' (wrs wi l k'))→(i=m→k'=k+as.length∧wi=wrs w as k) →
   SM P n R (.code c::.loopEnd J::kk) [(0,.slice A m cp),(1,.int .i64 k'),(5,.int .i64 i)] wi):SM P n R (.code (.loop c)::kk) E w:=by
 unfold Lv at h
 obtain⟨A,m,cp,b,o,rfl,hm,hA,ass,h4,rfl,h6⟩:=h
 refine sm_loop (fun i=>[(0,.slice A m cp),(1,.int .i64 (k+(ass.take i).flatten.length)),(5,.int .i64 i)]) (fun i=>wrs w (ass.take i).flatten k) m (by simpa using hc) (by simp[wrs]) fun i hi=>?_
 have hlen:((ass.take i).flatten.length:Int)≤ass.flatten.length:=by
  have:ass.flatten=(ass.take i).flatten++(ass.drop i).flatten:=by rw[←List.flatten_append,List.take_append_drop]
  rw[this,List.length_append];omega
 refine round A m cp rfl hm i _ _ _ (by omega) (by omega) hi (fun hlt=>?_) (fun he=>?_)
 ·have hl:ass[i]?=some ass[i]:=List.getElem?_eq_getElem (by omega)
  have hmem1:∀q∈(ass.take i).flatten,q∈ass.flatten:=fun q hq=>by
   obtain⟨l,h1,h2⟩:=List.mem_flatten.1 hq
   exact List.mem_flatten.2 ⟨l,List.mem_of_mem_take h1,h2⟩
  have hmem2:∀q∈ass[i],q∈ass.flatten:=fun q hq=>List.mem_flatten.2 ⟨_,List.getElem_mem _,hq⟩
  have hint:∀q∈(ass.take i).flatten,MkC w q:=fun q hq=>by
   obtain⟨l,h1,h2⟩:=List.mem_flatten.1 hq
   obtain⟨j,hj⟩:=List.getElem?_of_mem (List.mem_of_mem_take h1)
   exact(LvF.ints fs b _ l (h6 j l hj) q h2).2
  have hw1:∀q∈(ass.take i).flatten,Wr w q:=fun q hq=>hW q (hmem1 q hq)
  refine⟨b,o,ass[i],hA.resolve_left (by omega),wrs_LvF (h6 i _ hl) hw1 hint,fun q hq=>wrs_Wr hw1 q (hW q (hmem2 q hq)),?_,fun E' hE'=>⟨hlt,?_,?_⟩⟩
  ·have:((ass.take (i+1)).flatten.length:Int)≤ass.flatten.length:=by
    have:ass.flatten=(ass.take (i+1)).flatten++(ass.drop (i+1)).flatten:=by rw[←List.flatten_append,List.take_append_drop]
    rw[this,List.length_append];omega
   rw[take_flat hl,List.length_append] at this
   omega
  ·rw[take_flat hl,List.length_append]
   rw[show k+((((ass.take i).flatten.length+ass[i].length:Nat)):Int)=k+((ass.take i).flatten.length:Int)+(ass[i].length:Int) by omega]
   exact hE'
  ·rw[take_flat hl,wrs_append]
 ·have:ass.take i=ass:=List.take_of_length_le (by omega)
  rw[this]
  exact⟨rfl,rfl⟩

theorem sm_held_loop {P:Program} {n:Nat} {R:List (Nat×Value)→World→Prop} {kk:List MItem} {E:List (Nat×Value)} {lim:Nat→Nat} {w:World} {fs:Fs} {v:Value} {as:List (Nat×Nat)} {k:Int} {c:Code}
  (h:Lv lim w (.slc fs) v as) (hW:∀(j:Nat) q,as[j]?=some q→HvC w q (k+j)) (h0:0≤k) (hb:k+as.length≤4611686018427387904) (hc:coversM E [(0,v),(1,.int .i64 k),(5,.int .i64 0)])
  (round:∀(A:Option Addr) (m cp:Nat),v=.slice A m cp→m≤maxLen→∀(i:Nat) (k':Int) (J:List (Nat×Value)→World→Prop),0≤k'→k'≤4611686018427387904→i≤m→(i<m→∃b o l,A=some ⟨b,o,none⟩∧LvF lim w fs b (o+i*fs.len) l∧(∀(j:Nat) q,l[j]?=some q→HvC w q (k'+j))∧k'+l.length≤4611686018427387904 ∧
    ∀E',coversM E' [(0,.slice A m cp),(1,.int .i64 (k'+l.length)),(5,.int .i64 ((i:Int)+1))]→J E' w)→(i=m→k'=k+as.length) →
   SM P n R (.code c::.loopEnd J::kk) [(0,.slice A m cp),(1,.int .i64 k'),(5,.int .i64 i)] w):SM P n R (.code (.loop c)::kk) E w:=by
 unfold Lv at h
 obtain⟨A,m,cp,b,o,rfl,hm,hA,ass,h4,rfl,h6⟩:=h
 refine sm_loop (fun i=>[(0,.slice A m cp),(1,.int .i64 (k+(ass.take i).flatten.length)),(5,.int .i64 i)]) (fun _=>w) m (by simpa using hc) rfl fun i hi=>?_
 have hsplit:ass.flatten=(ass.take i).flatten++(ass.drop i).flatten:=by rw[←List.flatten_append,List.take_append_drop]
 have hlen:((ass.take i).flatten.length:Int)≤ass.flatten.length:=by
  rw[hsplit,List.length_append];omega
 refine round A m cp rfl hm i _ _ (by omega) (by omega) hi (fun hlt=>?_) (fun he=>?_)
 ·have hl:ass[i]?=some ass[i]:=List.getElem?_eq_getElem (by omega)
  have hsplit2:ass.flatten=(ass.take i).flatten++(ass[i]++(ass.drop (i+1)).flatten):=by
   rw[←List.append_assoc,←take_flat hl,←List.flatten_append,List.take_append_drop]
  refine⟨b,o,ass[i],hA.resolve_left (by omega),h6 i _ hl,?_,?_,fun E' hE'=>⟨hlt,?_,rfl⟩⟩
  ·rw[hsplit2] at hW
   exact holds_left (holds_right hW)
  ·have:=congrArg List.length hsplit2
   simp only[List.length_append] at this
   omega
  ·rw[take_flat hl,List.length_append]
   rw[show k+((((ass.take i).flatten.length+ass[i].length:Nat)):Int)=k+((ass.take i).flatten.length:Int)+(ass[i].length:Int) by omega]
   exact hE'
 ·have:ass.take i=ass:=List.take_of_length_le (by omega)
  rw[this]
end Go.Lg
/-
  Lg, part 36: marks in a statement's own body: a fresh start (what is old stays as it was), the regions that mark, what is known of what was marked.
-/
namespace Go.Lg
open Go Go.RowKit

structure Base.cl (B:Base) (N:Nat):Prop where
 ab:∀b,¬B.ab b
 ids:B.ids=[]
 lab:∀b i r,B.lab b=i::r→i<N
 lablt:∀b,B.lab b≠[]→b<B.w.heap.size

def B0 (B:Base):Ghost:=⟨B.lim,B.lab,fun _=>none,fun _=>none⟩
def KnI (B:Base) (d:D):Ghost→World→Value→Prop:=fun G w v=>Rel (B0 B) B.w d v∧Mono (B0 B) G B.w w
def KD (B:Base) (d:D):D:=.pred (KnI B d)
theorem KD_le {B:Base} {d:D} (hi:d.ids=[]) (ht:d.tks=[]):D.le (KD B d) d:=.kn fun G w v h=>by
 cases h with
 | pred hv h =>
  obtain⟨h1,h2⟩:=h G w (Mono.refl G w)
  exact h1.mono h2 (by rw[hi];simp) (by rw[ht];simp)
theorem mono_of_simW {B:Base} {N:Nat} (hc:B.cl N) {bx ro:List (Nat×List D)} {tk:List Nat} {G:Ghost} {w:World} (h:SimW B bx ro tk G w):Mono (B0 B) G B.w w :=
 ⟨fun b o v h1 h2=>by
  have hb:=cell_lt h2
  obtain⟨q1,q2⟩:=h.olda b hb
  exact⟨Nat.lt_of_lt_of_le h1 q1,q2 o v h1 h2⟩,fun b hb=>h.oldl b (hc.lablt b hb) hb,fun b es c hb=>(h.old b (heap_lt hb) (hc.ab b)).1.trans hb⟩

def Keep (B:Base) (i:Nat) (d:D):Prop:=∀(G:Ghost) (w w':World) (v:Value),Mono (B0 B) G B.w w'→(∀b o u,¬([i] <+: G.lab b)→cellAt w b o=some u→cellAt w' b o=some u)→Rel G w d v→Rel G w' d v
theorem keep_plain {B:Base} {i:Nat} {d:D} (h:d.plain=true):Keep B i d:=fun _ _ _ _ _ _ hr=>plain_rel h hr
theorem keep_int (B:Base) (i:Nat) (k:IntKind) (n:Int):Keep B i (.int k n):=keep_plain rfl
theorem keep_bool (B:Base) (i:Nat) (b:Bool):Keep B i (.bool b):=keep_plain rfl
theorem keep_box (B:Base) (i:Nat) (id off:Nat):Keep B i (.box id off):=fun _ _ _ _ _ _ hr=>by cases hr with|box hb=>exact .box hb
theorem keep_KD (B:Base) (i:Nat) (d:D):Keep B i (KD B d):=fun G w w' v hm _ hr=>by
 cases hr with
 | pred hv h=>exact .pred hv fun G2 w2 hm2=>⟨(h G w (Mono.refl G w)).1,hm.trans hm2⟩
theorem keep_LT {B:Base} {i j:Nat} {s:Sh} {q:List Nat} {d:D} {n:Nat} (h:LT s (j::q) d n) (hij:i≠j):Keep B i d:=fun G w w' v _ hf hr =>
 LT.keeps s (j::q) d n h (by simp) (fun b o u hb hu=>hf b o u (fun hp=>hij (by
  have h1:=pre_eq hp ((List.prefix_append [j] q).trans hb) rfl
  simpa using h1)) hu) v hr

theorem marked_sim {B:Base} {L:LS} {G:Ghost} {a:Act} {w w':World} {qs:List (Nat×Nat)} {k:Int} (hs:Sim B L G a w) (hm:Marked w qs k w') (hnew:∀q∈qs,B.w.heap.size≤q.1) (hlab:∀q∈qs,G.lab q.1≠[])
  {L':LS} (hL:L'.n=L.n∧L'.fix=L.fix∧L'.toks=[]) (henv:∀t d,look L'.env t=some d→∃v,a.tmps[t]?=some v∧Rel G w' d v)
  (hbx:∀id cs,look L'.boxes id=some cs→∃cs0,look L.boxes id=some cs0∧cs0.length=cs.length∧∀(g:Nat) (vs:Array Value) (e:TypeId),G.β id=some g→w.heap[g]?=some (.cells vs e (0,0))→(∀(j:Nat) d v,cs0[j]?=some d→vs[j]?=some v→Rel G w d v)→∀(j:Nat) d v,cs[j]?=some d→vs[j]?=some v→Rel G w' d v)
  (hro:∀id cs,look L'.ro id=some cs→∃cs0,look L.ro id=some cs0∧cs0.length=cs.length∧∀(vl:List Value),(∀(j:Nat) d v,cs0[j]?=some d→vl[j]?=some v→Rel G w d v)→∀(j:Nat) d v,cs[j]?=some d→vl[j]?=some v→Rel G w' d v):Sim B L' G a w':=by
 have hW:=hs.W
 have hβ:∀i g,G.β i=some g→∀q∈qs,q.1≠g:=fun i g hi q hq e=>hlab q hq (by rw[e];exact hW.blab i g hi)
 have hold:∀b,b<B.w.heap.size→w'.heap[b]?=w.heap[b]?:=fun b hb=>hm.other b (Nat.lt_of_lt_of_le hb hW.sz) fun q hq e=>by have:=hnew q hq;omega
 refine⟨hs.defers,by rw[hL.1];exact hs.size,henv,?_,by rw[hL.2.1];exact hs.fixed⟩
 exact {
  boxes:=fun id cs hl=>by
   obtain⟨cs0,h0,h1,h2⟩:=hbx id cs hl
   obtain⟨g,q1,⟨vs,e,e1,e2,e3⟩,q3⟩:=hW.boxes id cs0 h0
   exact⟨g,q1,⟨vs,e,by rw[hm.other g (heap_lt e1) (hβ id g q1)];exact e1,by rw[←h1];exact e2,h2 g vs e q1 e1 e3⟩,q3⟩
  robs:=fun id cs hl=>by
   obtain⟨cs0,h0,h1,h2⟩:=hro id cs hl
   obtain⟨g,q1,⟨vs,e,e1,e2,e3⟩,q3⟩:=hW.robs id cs0 h0
   exact⟨g,q1,⟨vs,e,by rw[hm.other g (heap_lt e1) (hβ id g q1)];exact e1,by rw[←h1];exact e2,fun j d v hd hv=>h2 vs.toList (fun j d v hd hv=>e3 j d v hd (by simpa using hv)) j d v hd (by simpa using hv)⟩,q3⟩
  toks:=fun k hk=>by rw[hL.2.2] at hk;cases hk
  tau:=fun k g e z hk=>by
   obtain⟨h1,h2,⟨cur,h3,h4⟩,h5⟩:=hW.tau k g e z hk
   obtain⟨cur',h6,h7⟩:=hm.cells g cur e h3
   exact⟨h1,h2,⟨cur',h6,by omega⟩,h5⟩
  tinj:=hW.tinj
  binj:=hW.binj
  blt:=fun i g hi=>Nat.lt_of_lt_of_le (hW.blt i g hi) hm.size
  lablt:=fun b hb=>Nat.lt_of_lt_of_le (hW.lablt b hb) hm.size
  old:=fun b hb hab=>by rw[hold b hb];exact hW.old b hb hab
  olda:=fun b hb=>by
   obtain⟨q1,q2⟩:=hW.olda b hb
   exact⟨q1,fun o v ho hv=>by rw[cell_of_heap (hold b hb)];exact q2 o v ho hv⟩
  oldl:=hW.oldl
  tlab:=hW.tlab
  blab:=hW.blab
  oldu:=hW.oldu
  labw:=fun b hb hor=>by
   obtain⟨vs,e,h1⟩:=hW.labw b hb hor
   obtain⟨vs',h2,_⟩:=hm.cells b vs e h1
   exact⟨vs',e,h2⟩
  ids:=hW.ids
  sz:=Nat.le_trans hW.sz hm.size
  os:=hm.os.trans hW.os
  tape:=hm.tape.trans hW.tape
  out:=hm.out.trans hW.out
  dr:=dr_t hW.dr hm.dr}

theorem lab_new {B:Base} {N i:Nat} {bx ro:List (Nat×List D)} {tk:List Nat} {G:Ghost} {w:World} (hc:B.cl N) (hW:SimW B bx ro tk G w) (hi:N≤i) {b:Nat} (hb:[i] <+: G.lab b):B.w.heap.size≤b∧G.lab b≠[]∧∃vs e,w.heap[b]?=some (.cells vs e (0,0)):=by
 have hne:G.lab b≠[]:=fun e=>by rw[e] at hb;simpa using hb.length_le
 have hge:B.w.heap.size≤b:=by
  refine Nat.le_of_not_lt fun hlt=>?_
  by_cases hl:B.lab b=[]
  ·exact hne (hW.oldu b hlt (hc.ab b) hl)
  ·have h1:=hW.oldl b hlt hl
   obtain⟨r,hr⟩:=hb
   have:=hc.lab b i r (by rw[←h1,←hr];rfl)
   omega
 exact⟨hge,hne,hW.labw b hne (.inl hge)⟩
theorem lab_Wr {B:Base} {N i:Nat} {bx ro:List (Nat×List D)} {tk:List Nat} {G:Ghost} {w:World} (hc:B.cl N) (hW:SimW B bx ro tk G w) (hi:N≤i) {q:Nat×Nat} (hb:[i] <+: G.lab q.1) {m:Value} (hv:cellAt w q.1 q.2=some m):Wr w q:=by
 obtain⟨_,_,vs,e,h⟩:=lab_new hc hW hi hb
 refine⟨vs,e,h,?_⟩
 simp only[cellAt,World.cell?,h] at hv
 exact(Array.getElem?_eq_some_iff.1 (by simpa using hv)).1

def HeldI (s:Sh) (k:Int) (n:Nat):Ghost→World→Value→Prop:=fun G w v=>∃qs,Lv G.lim w s v qs∧qs.length=n∧∀(j:Nat) q,qs[j]?=some q→HvC w q (k+j)
theorem HeldI.mono {s:Sh} {k:Int} {n:Nat} {G G':Ghost} {w w':World} {v:Value} (hm:Mono G G' w w') (h:HeldI s k n G w v):HeldI s k n G' w' v:=by
 obtain⟨qs,h1,h2,h3⟩:=h
 refine⟨qs,Lv.mono (fun b o v h1 h2=>⟨(hm.cell b o v h1 h2).1,.inl (hm.cell b o v h1 h2).2⟩) s v qs h1,h2,fun j q hj=>?_⟩
 obtain⟨v0,e1,e2⟩:=h3 j q hj
 exact⟨v0,e1,(hm.cell _ _ _ (Lv.ints s v qs h1 q (List.mem_of_getElem? hj)).1 e2).2⟩
def HD (s:Sh) (k:Int) (n:Nat):D:=.pred (HeldI s k n)
theorem Lv.noagg {lim:Nat→Nat} {w:World} {s:Sh} {v:Value} {qs:List (Nat×Nat)} (h:Lv lim w s v qs):∀cs,v≠.agg cs:=fun cs e=>by
 obtain⟨A,n,c,h⟩:=h.slice
 rw[h] at e;cases e
def TA:Fs→List Nat→Nat→Int→List D→List D→Nat→Prop
 | .nil,_,_,_,cs,cs',n=>cs=[]∧cs'=[]∧n=0
 | .cell _,_,_,_,_,_,_=>False
 | .flag _,_,_,_,_,_,_=>False
 | .skip r,p,j,k,cs,cs',n=>∃c t t',cs=c::t∧cs'=c::t'∧c.plain=true∧TA r p (j+1) k t t' n
 | .sub s r,p,j,k,cs,cs',n=>∃d m n' t t',cs=d::t∧cs'=HD s k m::t'∧n=m+n'∧LT s (p++[j]) d m∧TA r p (j+1) (k+m) t t' n'
theorem TA.len:∀(fs:Fs) (p:List Nat) (j:Nat) (k:Int) (cs cs':List D) (n:Nat),TA fs p j k cs cs' n→cs.length=fs.len∧cs'.length=cs.length
 | .nil,p,j,k,cs,cs',n,h=>by
  unfold TA at h
  obtain⟨rfl,rfl,_⟩:=h
  exact⟨rfl,rfl⟩
 | .cell _,_,_,_,_,_,_,h=>by unfold TA at h;exact h.elim
 | .flag _,_,_,_,_,_,_,h=>by unfold TA at h;exact h.elim
 | .skip r,p,j,k,cs,cs',n,h=>by
  unfold TA at h
  obtain⟨c,t,t',rfl,rfl,_,h⟩:=h
  obtain⟨h1,h2⟩:=TA.len r _ _ _ _ _ _ h
  simp[Fs.len,h1,h2]
 | .sub s r,p,j,k,cs,cs',n,h=>by
  unfold TA at h
  obtain⟨d,m,n',t,t',rfl,rfl,_,_,h⟩:=h
  obtain⟨h1,h2⟩:=TA.len r _ _ _ _ _ _ h
  simp[Fs.len,h1,h2]
theorem TA.lv {G:Ghost} {w:World}:∀(fs:Fs) (p:List Nat) (j:Nat) (k:Int) (cs cs':List D) (n:Nat),TA fs p j k cs cs' n→∀vl:List Value,vl.length=cs.length→(∀(i:Nat) d v,cs[i]?=some d→vl[i]?=some v→Rel G w d v) →
  ∃qs,LvA G.lim w fs vl qs∧qs.length=n∧qs.Nodup∧(∀q∈qs,∃j',j≤j'∧(p++[j']) <+: G.lab q.1) ∧
   ∀w',IntW G.lim G.lim w w'→(∀(i:Nat) q,qs[i]?=some q→HvC w' q (k+i))→∀(i:Nat) d v,cs'[i]?=some d→vl[i]?=some v→Rel G w' d v
 | .nil,p,j,k,cs,cs',n,h,vl,hl,hr=>by
  unfold TA at h
  obtain⟨rfl,rfl,rfl⟩:=h
  exact⟨[],by unfold LvA;rfl,rfl,by simp,by simp,fun _ _ _ i d v hd=>by simp at hd⟩
 | .cell _,_,_,_,_,_,_,h,_,_,_=>by unfold TA at h;exact h.elim
 | .flag _,_,_,_,_,_,_,h,_,_,_=>by unfold TA at h;exact h.elim
 | .skip r,p,j,k,cs,cs',n,h,vl,hl,hr=>by
  unfold TA at h
  obtain⟨c,t,t',rfl,rfl,hp,h⟩:=h
  cases vl with
  | nil=>simp at hl
  | cons v0 vl =>
   obtain⟨qs,h1,h2,h3,h4,h5⟩:=TA.lv r p (j+1) k t t' n h vl (by simpa using hl) (fun i d v hd hv=>hr (i+1) d v (by simpa using hd) (by simpa using hv))
   refine⟨qs,by unfold LvA;exact h1,h2,h3,fun q hq=>let ⟨j',a,b⟩:=h4 q hq;⟨j',by omega,b⟩,fun w' hI hc i d v hd hv=>?_⟩
   cases i with
   | zero =>
    simp at hd hv
    subst hd;subst hv
    exact plain_rel hp (hr 0 _ _ rfl rfl)
   | succ i=>exact h5 w' hI hc i d v (by simpa using hd) (by simpa using hv)
 | .sub s r,p,j,k,cs,cs',n,h,vl,hl,hr=>by
  unfold TA at h
  obtain⟨d,m,n',t,t',rfl,rfl,rfl,hT,h⟩:=h
  cases vl with
  | nil=>simp at hl
  | cons v0 vl =>
   obtain⟨l2,h1,h2,h3,h4,h5⟩:=TA.lv r p (j+1) (k+m) t t' n' h vl (by simpa using hl) (fun i d v hd hv=>hr (i+1) d v (by simpa using hd) (by simpa using hv))
   obtain⟨l1,m1,m2,m3,m4⟩:=LT.lv (G:=G) (w:=w) s (p++[j]) d m hT (by simp) v0 (hr 0 _ _ rfl rfl)
   refine⟨l1++l2,?_,by simp[m2,h2],List.nodup_append.2 ⟨m3,h3,fun x hx y hy hxy=>?_⟩,fun q hq=>?_,fun w' hI hc i d' v hd hv=>?_⟩
   ·unfold LvA
    exact⟨v0,l1,l2,rfl,rfl,m1,h1⟩
   ·subst hxy
    obtain⟨j',q1,q2⟩:=h4 x hy
    have:=pre_eq (m4 x hx) q2 (by simp)
    simp at this
    omega
   ·rcases List.mem_append.1 hq with hq|hq
    ·exact⟨j,Nat.le_refl _,m4 q hq⟩
    ·obtain⟨j',q1,q2⟩:=h4 q hq
     exact⟨j',by omega,q2⟩
   ·cases i with
    | zero =>
     simp at hd hv
     subst hd;subst hv
     refine .pred m1.noagg fun G2 w2 hm2=>HeldI.mono hm2 ⟨l1,Lv.mono hI s _ l1 m1,m2,holds_left hc⟩
    | succ i =>
     refine h5 w' hI (fun i q hi=>?_) i d' v (by simpa using hd) (by simpa using hv)
     have:=holds_right hc i q hi
     rw[m2] at this
     exact this

theorem simW_grown {B:Base} {bx ro:List (Nat×List D)} {tk:List Nat} {G:Ghost} {w w':World} (h:SimW B bx ro tk G w) (hg:Grown w w'):SimW B bx ro tk G w':=by
 have hmn:Mono G G w w':=⟨fun b o v h1 h2=>⟨h1,by
  have:w'.cell? ⟨b,o,none⟩=some v:=hg.cellAt h2
  exact this⟩,fun _ _=>rfl,fun b es c hb=>(hg.old b (heap_lt hb)).trans hb⟩
 have rG:∀ {d v},Rel G w d v→Rel G w' d v:=fun hr=>hr.mono hmn (fun _ _ _ h=>h) (fun k _=>.inr ⟨rfl,fun g e z hk=>⟨rfl,by
  obtain⟨_,_,⟨cur,h3,_⟩,_⟩:=h.tau k g e z hk
  exact shape_of_heap (hg.old g (heap_lt h3))⟩⟩)
 have hbox:∀ {g cs},BoxAt G w g cs→BoxAt G w' g cs:=fun⟨vs,e,e1,e2,e3⟩=>⟨vs,e,by rw[hg.old _ (heap_lt e1)];exact e1,e2,fun j d v hd hv=>rG (e3 j d v hd hv)⟩
 exact {
  boxes:=fun id cs hl=>let ⟨g,q1,q2,q3⟩:=h.boxes id cs hl;⟨g,q1,hbox q2,q3⟩
  robs:=fun id cs hl=>let ⟨g,q1,q2,q3⟩:=h.robs id cs hl;⟨g,q1,hbox q2,q3⟩
  toks:=h.toks
  tau:=fun k g e z hk=>by
   obtain⟨h1,h2,⟨cur,h3,h4⟩,h5⟩:=h.tau k g e z hk
   exact⟨h1,h2,⟨cur,by rw[hg.old _ (heap_lt h3)];exact h3,h4⟩,h5⟩
  tinj:=h.tinj
  binj:=h.binj
  blt:=fun i g hi=>Nat.lt_of_lt_of_le (h.blt i g hi) hg.size
  lablt:=fun b hb=>Nat.lt_of_lt_of_le (h.lablt b hb) hg.size
  old:=fun b hb hab=>by rw[hg.old b (Nat.lt_of_lt_of_le hb h.sz)];exact h.old b hb hab
  olda:=fun b hb=>by
   obtain⟨q1,q2⟩:=h.olda b hb
   exact⟨q1,fun o v ho hv=>by rw[cell_of_heap (hg.old b (Nat.lt_of_lt_of_le hb h.sz))];exact q2 o v ho hv⟩
  oldl:=h.oldl
  tlab:=h.tlab
  blab:=h.blab
  oldu:=h.oldu
  labw:=fun b hb hor=>by
   obtain⟨vs,e,h1⟩:=h.labw b hb hor
   exact⟨vs,e,by rw[hg.old _ (heap_lt h1)];exact h1⟩
  ids:=h.ids
  sz:=Nat.le_trans h.sz hg.size
  os:=hg.os.trans h.os
  tape:=hg.tape.trans h.tape
  out:=hg.out.trans h.out
  dr:=dr_t h.dr hg.dr}
theorem sim_ret {B:Base} {L:LS} {G:Ghost} {a:Act} {w w':World} (h:Sim B L G a w) (hg:Grown w w') {v:Value} {d:D} (hr:Rel G w' d v):Sim B ⟨1,[(0,d)],[],[],[],L.fix⟩ G ⟨#[v],[]⟩ w' :=
 by
  refine⟨rfl,rfl,fun t d' hd=>?_,(simW_grown h.W hg).less (bx':=[]) (ro':=[]) (tk':=[]) (by simp) (by simp) (by simp),h.fixed⟩
  simp only[look] at hd
  split at hd
  ·rename_i e
   subst e
   obtain rfl:=Option.some.inj hd
   exact⟨v,rfl,hr⟩
  ·cases hd
theorem held_fc {S:Setup} {f:FuncId} {s:Sh} (hd:HDs S.P f s) {k:Int} {n:Nat} (h0:0≤k) (hb:k+n≤4611686018427387904):FC S f [] [] [] [HD s k n,.int .i64 k] (.int .i64 (k+n)) [] [] :=
 ⟨hd.1,fun w G vals hs=>by
  obtain⟨v0,e0,r0⟩:=hs.env 0 (HD s k n) rfl
  obtain⟨v1,e1,r1⟩:=hs.env 1 (.int .i64 k) rfl
  cases r1
  cases r0 with
  | pred hv h =>
  obtain⟨qs,q1,q2,q3⟩:=h G w (Mono.refl G w)
  have hsz:vals.size=2:=hs.size
  have hvals:vals=#[v0,.int .i64 k]:=by
   apply Array.ext_getElem?
   intro i
   match i with
   | 0=>rw[e0];rfl
   | 1=>rw[e1];rfl
   | i+2=>rw[Array.getElem?_eq_none (by omega),Array.getElem?_eq_none (by simp)]
  subst hvals
  have hn:k+(qs.length:Int)≤4611686018427387904:=by rw[q2];exact hb
  refine(hd.2 G.lim w v0 qs k q1 q3 h0 hn).mono ?_
  rintro e w' ⟨rfl,rfl⟩
  exact⟨_,G,rfl,sim_ret hs (Grown.refl _) (by rw[q2];exact .int)⟩⟩
end Go.Lg
/-
  Lg, part 37: the fresh start of a statement's body, and the regions that mark.
-/
namespace Go.Lg
open Go Go.RowKit

def kdc (B:Base):D→D
 | .sl tk xs=>KD B (.sl tk xs)
 | d=>d
def LS.rebase (L:LS) (B:Base):LS:=⟨L.n,mapA (kdc B) L.env,[],mapA (List.map (kdc B)) (L.boxes++L.ro),[],L.fix⟩

theorem lab_bound (G:Ghost) (n:Nat) (h:∀b,G.lab b≠[]→b<n):∃N,∀b i r,G.lab b=i::r→i<N:=by
 have:∀m,∃N,∀b,b<m→∀i r,G.lab b=i::r→i<N:=fun m=>by
  induction m with
  | zero=>exact⟨0,fun b hb=>absurd hb (Nat.not_lt_zero _)⟩
  | succ m ih =>
   obtain⟨N,hN⟩:=ih
   cases hm:G.lab m with
   | nil =>
    refine⟨N,fun b hb i r hl=>?_⟩
    by_cases e:b=m
    ·subst e;rw[hm] at hl;cases hl
    ·exact hN b (by omega) i r hl
   | cons i0 r0 =>
    refine⟨max N (i0+1),fun b hb i r hl=>?_⟩
    by_cases e:b=m
    ·subst e;rw[hm] at hl
     obtain rfl:i0=i:=by simpa using (List.cons.inj hl).1
     omega
    ·have:=hN b (by omega) i r hl
     omega
 obtain⟨N,hN⟩:=this n
 exact⟨N,fun b i r hl=>hN b (h b (by rw[hl];simp)) i r hl⟩

theorem look_append' {α:Type} (l1 l2:List (Nat×α)) (t:Nat):look (l1++l2) t=match look l1 t with|some d=>some d|none=>look l2 t:=by
 induction l1 with
 | nil=>rfl
 | cons p r ih =>
  obtain⟨k,x⟩:=p
  by_cases h:k=t<;>simp[look,h,ih]

def noLoop:List VItem→Bool
 | []=>true
 | .loopEnd _::_=>false
 | _::k=>noLoop k
theorem semQ_base {P:Program} {B B1:Base} {R R1:LS→Prop} (hN:∀c,¬B1.pan c) (hT:∀G L a w,Sim B1 L G a w→R1 L→∃G' L',Sim B L' G' a w∧R L'):∀(k:List VItem),noLoop k=true→∀e a w,semQ P B1 R1 k e a w→semQ P B R k e a w
 | [],_,e,a,w,h=>by
  rcases h with⟨h1,G,L,h2,h3⟩|⟨c,_,hc,_⟩
  ·exact .inl ⟨h1,hT G L a w h2 h3⟩
  ·exact absurd hc (hN c)
 | .loopEnd _::_,hk,_,_,_,_=>by cases hk
 | .inBlock id::k,hk,e,a,w,h=>by
  have ih:=semQ_base (P:=P) hN hT k hk
  show Exit.inBlock id (semQ P B R k) e a w
  change Exit.inBlock id (semQ P B1 R1 k) e a w at h
  cases e<;>simp only[Exit.inBlock] at h ⊢<;>first
   | exact ih _ a w h
   | (split at h<;>rename_i hc<;>(first|rw[if_pos hc]|rw[if_neg hc])<;>exact ih _ a w h)
 | .code c::k,hk,e,a,w,h=>by
  have ih:=semQ_base (P:=P) hN hT k hk
  show Exit.then (fun a w=>c.wp P (semQ P B R k) a w) (semQ P B R k) e a w
  change Exit.then (fun a w=>c.wp P (semQ P B1 R1 k) a w) (semQ P B1 R1 k) e a w at h
  cases e with
  | normal=>exact wp_mono h fun e' a' w' h'=>ih e' a' w' h'
  | _=>exact ih _ a w h

theorem sw_rebaseQ {S:Setup} {B:Base} {k:List VItem} {L:LS} {t:Nat} {b:Bool} (hB:B.ids=[]∧∀b,¬B.ab b) (hk:noLoop k=true) (h:∀B1 N,B1.cl N→(B.wk→B1.wk)→(∀T,B.has T→B1.has T)→SW S B1 (Ret S [.tmp t] (.bool b) []) k (L.rebase B1)):SW S B (Ret S [.tmp t] (.bool b) []) k L:=by
 intro G a w hs
 obtain⟨N,hN⟩:=lab_bound G w.heap.size hs.W.lablt
 let B1:Base:=⟨w,G.lim,G.lab,fun _=>False,[],fun _=>False,B.wk⟩
 have hcl:B1.cl N:=⟨fun _ h=>h,rfl,hN,hs.W.lablt⟩
 let G1:Ghost:={G with τ:=fun _=>none}
 have rG:∀ {d v},Rel G w d v→Rel G1 w d v:=fun hr=>hr.mono (show Mono G G1 w w from⟨fun _ _ _ h1 h2=>⟨h1,h2⟩,fun _ _=>rfl,fun _ _ _ h=>h⟩) (fun _ _ _ h=>h) (fun _ _=>.inl rfl)
 have rK:∀ {d v},Rel G w d v→Rel G1 w (kdc B1 d) v:=fun {d v} hr=>by
  cases d with
  | sl tk xs =>
   have h0:Rel (B0 B1) w (.sl tk xs) v:=hr.mono (show Mono G (B0 B1) w w from⟨fun _ _ _ h1 h2=>⟨h1,h2⟩,fun _ _=>rfl,fun _ _ _ h=>h⟩) (fun i hi=>by simp[D.ids] at hi) (fun _ _=>.inl rfl)
   refine .pred (fun cs e=>?_) fun G2 w2 hm=>⟨h0,⟨fun b o v h1 h2=>hm.cell b o v h1 h2,fun b hb=>hm.lab b hb,hm.mp⟩⟩
   subst e;cases hr
  | _=>exact rG hr
 have bK:∀ {g cs},BoxAt G w g cs→BoxAt G1 w g (cs.map (kdc B1)):=fun {g cs} ⟨vs,e,e1,e2,e3⟩=>⟨vs,e,e1,by simpa using e2,fun j d v hd hv=>by
  simp only[List.getElem?_map,Option.map_eq_some_iff] at hd
  obtain⟨d0,hd,rfl⟩:=hd
  exact rK (e3 j d0 v hd hv)⟩
 have hs1:Sim B1 (L.rebase B1) G1 a w:=by
  refine⟨hs.defers,hs.size,fun t d hd=>?_,?_,by simp[B1]⟩
  ·simp only[LS.rebase,look_mapA,Option.map_eq_some_iff] at hd
   obtain⟨d0,hd,rfl⟩:=hd
   obtain⟨v,h1,h2⟩:=hs.env t d0 hd
   exact⟨v,h1,rK h2⟩
  ·exact {
    boxes:=fun id cs hl=>by cases hl
    robs:=fun id cs hl=>by
     simp only[LS.rebase,look_mapA,Option.map_eq_some_iff,look_append'] at hl
     obtain⟨cs0,hl,rfl⟩:=hl
     cases hbx:look L.boxes id with
     | some c =>
      rw[hbx] at hl
      obtain rfl:=Option.some.inj hl
      obtain⟨g,q1,q2,_⟩:=hs.W.boxes id _ hbx
      exact⟨g,q1,bK q2,hs.W.blt _ _ q1,fun h=>h⟩
     | none =>
      rw[hbx] at hl
      obtain⟨g,q1,q2,_⟩:=hs.W.robs id _ hl
      exact⟨g,q1,bK q2,hs.W.blt _ _ q1,fun h=>h⟩
    toks:=fun k hk=>by cases hk
    tau:=fun k g e z hk=>by cases hk
    tinj:=fun k k' g e z e' z' hk=>by cases hk
    binj:=hs.W.binj
    blt:=hs.W.blt
    lablt:=hs.W.lablt
    old:=fun b _ _=>⟨rfl,rfl⟩
    olda:=fun b _=>⟨Nat.le_refl _,fun o v _ hv=>hv⟩
    oldl:=fun b _ _=>rfl
    tlab:=fun k g e z hk=>by cases hk
    blab:=hs.W.blab
    oldu:=fun b _ _ hb=>hb
    labw:=fun b hb hor=>by
     rcases hor with h|h
     ·have:=hs.W.lablt b hb
      exact absurd this (Nat.not_lt.2 h)
     ·exact h.elim
    ids:=fun p hp=>by cases hp
    sz:=Nat.le_refl _
    os:=rfl
    tape:=rfl
    out:=rfl
    dr:=by first|exact Nat.le_refl _|exact Nat.le_succ _|exact .inr (Nat.le_refl _)|exact .inr (Nat.le_succ _)}
 refine semQ_base (fun _ h=>h) (fun G2 L2 a2 w2 h2 hR=>?_) k hk .normal a w (h B1 N hcl (fun h=>h) (fun T hT w2 h2 hsz=>hT w2 (fun b hlt hab=>(h2 b (Nat.lt_of_lt_of_le hlt hs.W.sz) (fun h=>h)).trans (hs.W.old b hlt hab).1) (Nat.le_trans hs.W.sz hsz)) G1 a w hs1)
 obtain⟨d0,hd0,hle,_⟩:=someK_get (show someK (L2.get t) _ from hR)
 obtain⟨v,e1,e2⟩:=h2.env t d0 hd0
 have e3:Rel G2 w2 (.bool b) v:=e2.le hle
 cases e3
 have W:=h2.W
 have hsz:=hs.W.sz
 refine⟨⟨G2.lim,fun b=>if b<B.w.heap.size then G2.lab b else [],fun _=>none,fun _=>none⟩,⟨L2.n,[(t,.bool b)],[],[],[],[]⟩,⟨h2.defers,h2.size,fun t' d' hd=>?_,?_,by rw[hB.1];simp⟩,?_⟩
 ·simp only[look] at hd
  split at hd
  ·rename_i e;subst e
   obtain rfl:=Option.some.inj hd
   exact⟨_,e1,.bool⟩
  ·cases hd
 ·have ho:∀b,b<B.w.heap.size→w2.heap[b]?=B.w.heap[b]?∧G2.lim b=B.lim b:=fun b hb=>by
   obtain⟨q1,q2⟩:=W.old b (Nat.lt_of_lt_of_le hb hsz) (fun h=>h)
   obtain⟨q3,q4⟩:=hs.W.old b hb (hB.2 b)
   exact⟨q1.trans q3,q2.trans q4⟩
  exact {
   boxes:=fun id cs hl=>by cases hl
   robs:=fun id cs hl=>by cases hl
   toks:=fun k hk=>by cases hk
   tau:=fun k g e z hk=>by cases hk
   tinj:=fun k k' g e z e' z' hk=>by cases hk
   binj:=fun i j g hi=>by cases hi
   blt:=fun i g hi=>by cases hi
   lablt:=fun b hb=>by
    simp only at hb
    split at hb
    ·exact W.lablt b hb
    ·exact absurd rfl hb
   old:=fun b hb _=>ho b hb
   olda:=fun b hb=>⟨Nat.le_of_eq (ho b hb).2.symm,fun o v _ hv=>by rw[cell_of_heap (ho b hb).1];exact hv⟩
   oldl:=fun b hb hl=>by
    simp only[if_pos hb]
    have h3:=hs.W.oldl b hb hl
    rw[W.oldl b (Nat.lt_of_lt_of_le hb hsz) (show G.lab b≠[] by rw[h3];exact hl)]
    exact h3
   tlab:=fun k g e z hk=>by cases hk
   blab:=fun i g hi=>by cases hi
   oldu:=fun b hb hab hl=>by
    simp only[if_pos hb]
    exact W.oldu b (Nat.lt_of_lt_of_le hb hsz) (fun h=>h) (hs.W.oldu b hb hab hl)
   labw:=fun b hb hor=>by
    simp only at hb
    split at hb
    ·rename_i hlt
     rcases hor with h|h
     ·omega
     ·exact absurd h (hB.2 b)
    ·exact absurd rfl hb
   ids:=fun p hp=>by rw[hB.1] at hp;cases hp
   sz:=Nat.le_trans hsz W.sz
   os:=W.os.trans hs.W.os
   tape:=W.tape.trans hs.W.tape
   out:=W.out.trans hs.W.out
   dr:=dr_c hs.W.dr W.dr (fun h=>h)}
 ·show someK _ _
  simp[LS.get,look,someK,resYs,tupD]
  exact .refl _

theorem sw_rebaseW {S:Setup} {B:Base} {k:List VItem} {L:LS} {t:Nat} {b:Bool} (hB:B.ids=[]∧∀b,¬B.ab b) (hk:noLoop k=true) (hw:B.wk) {T:World→Prop} (hT:B.has T) (h:∀B1 N,B1.cl N→B1.wk→B1.has T→SW S B1 (Ret S [.tmp t] (.bool b) []) k (L.rebase B1)):SW S B (Ret S [.tmp t] (.bool b) []) k L:=sw_rebaseQ hB hk fun B1 N hN hq hh=>h B1 N hN (hq hw) (hh T hT)

theorem sim_skip {B:Base} {L:LS} {G:Ghost} {a:Act} {w:World} (h:Sim B L G a w) {t:Nat} (v:Value) (ht:∀q∈L.env,q.1≠t):Sim B L G (a.put (some t) v) w:=by
 refine⟨h.defers,by simpa[Act.put] using h.size,fun t' d hd=>?_,h.W,h.fixed⟩
 obtain⟨u,h1,h2⟩:=h.env t' d hd
 refine⟨u,?_,h2⟩
 have:=ht _ (mem_of_look hd)
 simp only[Act.put]
 rw[Array.getElem?_setIfInBounds_ne (Ne.symm this)]
 exact h1

def MkEnv (B:Base) (i:Nat) (L:LS) (A:Nat) (H:D) (env:List (Nat×D)):Prop:=∀q∈env,(∃d0,L.get q.1=some d0∧q.2=d0∧Keep B i d0)∨q.1=A∧q.2=H
def MkBox (B:Base) (i:Nat) (bx:List (Nat×List D)) (bx':List (Nat×List D)):Prop:=∀q∈bx',look bx q.1=some q.2∧∀d∈q.2,Keep B i d

section regions
variable {S:Setup} {B:Base} {R:LS→Prop} {kk:List VItem} {L L':LS} {A M t1 t2 t3 id:Nat} {ty1 ty2 ty3 ty4:TypeId} {p1 p2 p3 p4:String} {a1 a2 a3 a4:Array Edge} {tys:Array TypeId} {f:FuncId} {i n N:Nat} {k:Int}

theorem sw_markS {s:Sh} {d:D} (hc:B.cl N) (hi:N≤i) (mk:MKs S.P f s) (hA:L.get A=some d) (hT:LT s [i] d n) (hM:L.get M=some (.int .i64 k)) (h0:0≤k) (hb:k+n≤4611686018427387904)
  (hlt:(t1<L.n∧t2<L.n∧t3<L.n∧M<L.n)∧t1≠t2∧t1≠M) (hL:L'.n=L.n∧L'.fix=L.fix∧L'.toks=[]) (hne:∀q∈L'.env,q.1≠t1∧q.1≠t2∧q.1≠t3∧q.1≠M)
  (henv:MkEnv B i L A (HD s k n) L'.env) (hbx:MkBox B i L.boxes L'.boxes) (hro:MkBox B i L.ro L'.ro) (h:SW S B R kk (L'.put M (.int .i64 (k+n)))) :
  SW S B R (.code (.region id [⟨some t1,.move (.tmp A),ty1,p1,a1,none⟩,⟨some t2,.move (.tmp M),ty2,p2,a2,none⟩,⟨some t3,.call ⟨.value (.func f),#[.tmp t1,.tmp t2],tys⟩,ty3,p3,a3,none⟩,⟨some M,.assign (.tmp t3),ty4,p4,a4,none⟩].toArray false)::kk) L:=by
 intro G a w hs
 obtain⟨vA,eA,rA⟩:=hs.env A d hA
 obtain⟨vM,eM,rM⟩:=hs.env M _ hM
 cases rM
 obtain⟨qs,q1,q2,q3,q4⟩:=LT.lv (G:=G) (w:=w) s [i] d n hT (by simp) vA rA
 have hWr:∀q∈qs,Wr w q:=fun q hq=>by
  obtain⟨_,m,_,hm⟩:=Lv.ints s vA qs q1 q hq
  exact lab_Wr hc hs.W hi (q4 q hq) hm
 have hints:∀q∈qs,MkC w q:=fun q hq=>(Lv.ints s vA qs q1 q hq).2
 refine wp_region_lit ?_
 refine wpList_step fun N1 hN1=>?_
 rw[if_pos (show Region.wanted _ _=true from rfl)]
 have hr1:(execOp a.eval ⟨some t1,.move (.tmp A),ty1,p1,a1,none⟩).run S.P w=.ok (.value vA) w:=by simp[execOp,Act.eval,eA]
 unfold Oper.wp
 rw[hr1]
 refine hN1 _ _ ?_
 refine wpList_step fun N2 hN2=>?_
 rw[if_pos (show Region.wanted _ _=true from rfl)]
 have hsz:=hs.size
 have eM1:(a.put (some t1) vA).tmps[M]?=some (.int .i64 k):=by
  simp only[Act.put]
  rw[Array.getElem?_setIfInBounds_ne hlt.2.2]
  exact eM
 have hr2:(execOp (a.put (some t1) vA).eval ⟨some t2,.move (.tmp M),ty2,p2,a2,none⟩).run S.P w=.ok (.value (.int .i64 k)) w:=by simp[execOp,Act.eval,eM1]
 unfold Oper.wp
 rw[hr2]
 refine hN2 _ _ ?_
 refine wpList_step fun N3 hN3=>?_
 rw[if_pos (show Region.wanted _ _=true from rfl)]
 have e1:((a.put (some t1) vA).put (some t2) (.int .i64 k)).tmps[t1]?=some vA:=by
  simp only[Act.put]
  rw[Array.getElem?_setIfInBounds_ne (Ne.symm hlt.2.1)]
  simp[hsz,hlt.1.1]
 have e2:((a.put (some t1) vA).put (some t2) (.int .i64 k)).tmps[t2]?=some (.int .i64 k):=by simp[Act.put,hsz,hlt.1.2.1]
 have hr3:(execOp ((a.put (some t1) vA).put (some t2) (.int .i64 k)).eval ⟨some t3,.call ⟨.value (.func f),#[.tmp t1,.tmp t2],tys⟩,ty3,p3,a3,none⟩).run S.P w=.ok (.enter f #[vA,.int .i64 k]) w:=by
  simp[execOp,resolve,Act.eval,Deferred.ofValue,invoke,enter_run mk.1,e1,e2]
 unfold Oper.wp
 rw[hr3,Oper.upon_enter]
 refine(mk.2 G.lim w vA qs k q1 hWr h0 (by rw[q2];exact hb)).mono ?_
 rintro e w' ⟨rfl,rfl⟩
 refine hN3 _ _ ?_
 refine wpList_step fun N4 hN4=>?_
 rw[if_pos (show Region.wanted _ _=true from rfl)]
 have e3:(((a.put (some t1) vA).put (some t2) (.int .i64 k)).put (some t3) (.int .i64 (k+qs.length))).tmps[t3]?=some (.int .i64 (k+qs.length)):=by simp[Act.put,hsz,hlt.1.2.2.1]
 have hr4:(execOp (((a.put (some t1) vA).put (some t2) (.int .i64 k)).put (some t3) (.int .i64 (k+qs.length))).eval ⟨some M,.assign (.tmp t3),ty4,p4,a4,none⟩).run S.P (wrs w qs k)=.ok (.value (.int .i64 (k+qs.length))) (wrs w qs k):=by simp[execOp,Act.eval,e3]
 unfold Oper.wp
 rw[hr4]
 refine hN4 _ _ (wpList_nil ?_)
 have hmk:=Marked.of_wrs k hWr hints
 have hI:=hmk.intW G.lim hints
 have hm0:=mono_of_simW hc hs.W
 have hmB:Mono (B0 B) G B.w (wrs w qs k):=⟨fun b o v h1 h2=>by
  obtain⟨p1,p2⟩:=hm0.cell b o v h1 h2
  refine⟨p1,?_⟩
  have:=wrs_off (k:=k) hWr (b:=b) (o:=o) (fun hq=>by
   have:=(lab_new hc hs.W hi (q4 _ hq)).1
   have:=cell_lt h2
   simp at *
   omega)
  exact this.trans p2,hm0.lab,fun b es c hb=>(wrs_other fun p hp e=>by
  have:=(lab_new hc hs.W hi (q4 _ hp)).1
  have:=heap_lt hb
  subst e
  omega).trans (hm0.mp b es c hb)⟩
 have hfr:∀b o u,¬([i] <+: G.lab b)→cellAt w b o=some u→cellAt (wrs w qs k) b o=some u:=fun b o u hl hu=>by
  rw[wrs_off hWr (fun hq=>hl (q4 _ hq))];exact hu
 have hsim:Sim B L' G a (wrs w qs k):=by
  refine marked_sim hs hmk (fun q hq=>(lab_new hc hs.W hi (q4 q hq)).1) (fun q hq=>(lab_new hc hs.W hi (q4 q hq)).2.1) hL (fun t d' hd=>?_) (fun id cs hl=>?_) (fun id cs hl=>?_)
  ·rcases henv _ (mem_of_look hd) with⟨d0,k1,k2,k3⟩|⟨k1,k2⟩
   ·obtain⟨v,u1,u2⟩:=hs.env t d0 k1
    simp only at k2
    subst k2
    exact⟨v,u1,k3 G w _ v hmB hfr u2⟩
   ·simp only at k1 k2
    subst k1;subst k2
    exact⟨vA,eA,.pred q1.noagg fun G2 w2 hm2=>HeldI.mono hm2 ⟨qs,Lv.mono hI s _ qs q1,q2,hmk.at_ q3⟩⟩
  ·obtain⟨k1,k2⟩:=hbx _ (mem_of_look hl)
   exact⟨cs,k1,rfl,fun _ _ _ _ _ hv j d v hd hv'=>k2 d (List.mem_of_getElem? hd) G w _ v hmB hfr (hv j d v hd hv')⟩
  ·obtain⟨k1,k2⟩:=hro _ (mem_of_look hl)
   exact⟨cs,k1,rfl,fun vl hv j d v hd hv'=>k2 d (List.mem_of_getElem? hd) G w _ v hmB hfr (hv j d v hd hv')⟩
 have hs1:=sim_skip hsim vA (t:=t1) fun q hq=>(hne q hq).1
 have hs2:=sim_skip hs1 (.int .i64 k) (t:=t2) fun q hq=>(hne q hq).2.1
 have hs3:=sim_skip hs2 (.int .i64 (k+qs.length)) (t:=t3) fun q hq=>(hne q hq).2.2.1
 have hs4:=hs3.put (t:=M) (d:=.int .i64 (k+qs.length)) (by rw[hL.1];exact hlt.1.2.2.2) .int
 rw[q2] at hs4 ⊢
 exact h G _ _ hs4

theorem sw_markA {fs:Fs} {cs cs':List D} {T:TypeId} {j:TyI} {bid:Nat} (hc:B.cl N) (hi:N≤i) (mk:MKa S.P f fs) (hA:L.get A=some (.box bid 0)) (hB:look L.boxes bid=some cs) (hT:TA fs [i] 0 k cs cs' n) (hj:S.tab T=some j) (hag:j.agg=true) (hjs:j.size=cs.length)
  (hM:L.get M=some (.int .i64 k)) (h0:0≤k) (hb:k+n≤4611686018427387904)
  (hlt:(t1<L.n∧t2<L.n∧t3<L.n∧M<L.n)∧t1≠t2∧t1≠M) (hL:L'.n=L.n∧L'.fix=L.fix∧L'.toks=[]) (hne:∀q∈L'.env,q.1≠t1∧q.1≠t2∧q.1≠t3∧q.1≠M)
  (henv:∀q∈L'.env,∃d0,L.get q.1=some d0∧q.2=d0∧Keep B i d0) (hbx:∀q∈L'.boxes,(look L.boxes q.1=some q.2∧∀d∈q.2,Keep B i d)∨q.1=bid∧q.2=cs') (hro:MkBox B i L.ro L'.ro) (h:SW S B R kk (L'.put M (.int .i64 (k+n)))) :
  SW S B R (.code (.region id [⟨some t1,.load T (.tmp A),ty1,p1,a1,none⟩,⟨some t2,.move (.tmp M),ty2,p2,a2,none⟩,⟨some t3,.call ⟨.value (.func f),#[.tmp t1,.tmp t2],tys⟩,ty3,p3,a3,none⟩,⟨some M,.assign (.tmp t3),ty4,p4,a4,none⟩].toArray false)::kk) L:=by
 intro G a w hs
 obtain⟨vA,eA,rA⟩:=hs.env A _ hA
 obtain⟨vM,eM,rM⟩:=hs.env M _ hM
 cases rM
 cases rA with
 | @box _ _ g hβ =>
 obtain⟨g',hβ',⟨vs,eT,b1,b2,b3⟩,_⟩:=hs.W.boxes bid cs hB
 rw[hβ] at hβ'
 obtain rfl:=Option.some.inj hβ'
 obtain⟨vl,hvd⟩:∃vl,vl=vs.toList.take cs.length:=⟨_,rfl⟩
 have hvget:∀(j:Nat) v,vl[j]?=some v→vs[j]?=some v:=fun j v hv=>by
  rw[hvd,List.getElem?_take] at hv
  split at hv
  ·simpa using hv
  ·cases hv
 have hvl:vl.length=cs.length:=by rw[hvd,List.length_take];simp only[Array.length_toList];omega
 obtain⟨qs,q1,q2,q3,q4,q5⟩:=TA.lv (G:=G) (w:=w) fs [i] 0 k cs cs' n hT vl hvl (fun j d v hd hv=>b3 j d v hd (hvget j v hv))
 have q4':∀q∈qs,[i] <+: G.lab q.1:=fun q hq=>by
  obtain⟨j',_,h⟩:=q4 q hq
  exact(List.prefix_append [i] [j']).trans h
 have hints:∀q∈qs,MkC w q:=fun q hq=>(LvA.ints fs _ qs q1 q hq).2
 have hWr:∀q∈qs,Wr w q:=fun q hq=>by
  obtain⟨m,_,hm⟩:=hints q hq
  exact lab_Wr hc hs.W hi (q4' q hq) hm
 have hok:=S.ok T j hj
 refine wp_region_lit ?_
 refine wpList_step fun N1 hN1=>?_
 rw[if_pos (show Region.wanted _ _=true from rfl)]
 have hload:=run_loadCells_list (P:=S.P) w ⟨g,0,none⟩ vl (fun i v hi=>by
  rw[Addr.add_lit,Nat.zero_add]
  simpa[World.cell?,b1] using hvget i v hi)
 rw[hvl,←hjs] at hload
 have hr1:(execOp a.eval ⟨some t1,.load T (.tmp A),ty1,p1,a1,none⟩).run S.P w=.ok (.value (.agg vl.toArray)) w:=by
  simp[execOp,Act.eval,eA,Instr.loadAt,Instr.sureAddr,loadVar,run_isAgg hok,hag,run_sizeOf hok,hload]
 unfold Oper.wp
 rw[hr1]
 refine hN1 _ _ ?_
 refine wpList_step fun N2 hN2=>?_
 rw[if_pos (show Region.wanted _ _=true from rfl)]
 have hsz:=hs.size
 have eM1:(a.put (some t1) (.agg vl.toArray)).tmps[M]?=some (.int .i64 k):=by
  simp only[Act.put]
  rw[Array.getElem?_setIfInBounds_ne hlt.2.2]
  exact eM
 have hr2:(execOp (a.put (some t1) (.agg vl.toArray)).eval ⟨some t2,.move (.tmp M),ty2,p2,a2,none⟩).run S.P w=.ok (.value (.int .i64 k)) w:=by simp[execOp,Act.eval,eM1]
 unfold Oper.wp
 rw[hr2]
 refine hN2 _ _ ?_
 refine wpList_step fun N3 hN3=>?_
 rw[if_pos (show Region.wanted _ _=true from rfl)]
 have e1:((a.put (some t1) (.agg vl.toArray)).put (some t2) (.int .i64 k)).tmps[t1]?=some (.agg vl.toArray):=by
  simp only[Act.put]
  rw[Array.getElem?_setIfInBounds_ne (Ne.symm hlt.2.1)]
  simp[hsz,hlt.1.1]
 have e2:((a.put (some t1) (.agg vl.toArray)).put (some t2) (.int .i64 k)).tmps[t2]?=some (.int .i64 k):=by simp[Act.put,hsz,hlt.1.2.1]
 have hr3:(execOp ((a.put (some t1) (.agg vl.toArray)).put (some t2) (.int .i64 k)).eval ⟨some t3,.call ⟨.value (.func f),#[.tmp t1,.tmp t2],tys⟩,ty3,p3,a3,none⟩).run S.P w=.ok (.enter f #[.agg vl.toArray,.int .i64 k]) w:=by
  have e1':((a.put (some t1) (.agg vl.toArray)).put (some t2) (.int .i64 k)).eval (.tmp t1)=.agg vl.toArray:=by simp only[Act.eval,Array.getD_eq_getD_getElem?,e1,Option.getD_some]
  have e2':((a.put (some t1) (.agg vl.toArray)).put (some t2) (.int .i64 k)).eval (.tmp t2)=.int .i64 k:=by simp only[Act.eval,Array.getD_eq_getD_getElem?,e2,Option.getD_some]
  simp only[execOp,resolve,List.map_toArray,List.map_cons,List.map_nil,e1',e2']
  simp[Act.eval,Deferred.ofValue,invoke,enter_run mk.1]
 unfold Oper.wp
 rw[hr3,Oper.upon_enter]
 refine(mk.2 G.lim w vl qs k (by rw[hvl];exact(TA.len fs _ _ _ _ _ _ hT).1) q1 hWr h0 (by rw[q2];exact hb)).mono ?_
 rintro e w' ⟨rfl,hmk⟩
 refine hN3 _ _ ?_
 refine wpList_step fun N4 hN4=>?_
 rw[if_pos (show Region.wanted _ _=true from rfl)]
 have e3:(((a.put (some t1) (.agg vl.toArray)).put (some t2) (.int .i64 k)).put (some t3) (.int .i64 (k+qs.length))).tmps[t3]?=some (.int .i64 (k+qs.length)):=by simp[Act.put,hsz,hlt.1.2.2.1]
 have hr4:(execOp (((a.put (some t1) (.agg vl.toArray)).put (some t2) (.int .i64 k)).put (some t3) (.int .i64 (k+qs.length))).eval ⟨some M,.assign (.tmp t3),ty4,p4,a4,none⟩).run S.P w'=.ok (.value (.int .i64 (k+qs.length))) w':=by simp only[execOp,Act.eval,Array.getD_eq_getD_getElem?,e3,Option.getD_some];rfl
 unfold Oper.wp
 rw[hr4]
 refine hN4 _ _ (wpList_nil ?_)
 have hI:=hmk.intW G.lim hints
 have hm0:=mono_of_simW hc hs.W
 have hmB:Mono (B0 B) G B.w w':=⟨fun b o v h1 h2=>by
  obtain⟨p1,p2⟩:=hm0.cell b o v h1 h2
  refine⟨p1,hmk.off b o v (fun hq=>?_) p2⟩
  have:=(lab_new hc hs.W hi (q4' _ hq)).1
  have:=cell_lt h2
  simp at *
  omega,hm0.lab,fun b es c hb=>(hmk.other b (Nat.lt_of_lt_of_le (heap_lt hb) hs.W.sz) fun q hq e=>by
  have:=(lab_new hc hs.W hi (q4' _ hq)).1
  have:=heap_lt hb
  subst e
  omega).trans (hm0.mp b es c hb)⟩
 have hfr:∀b o u,¬([i] <+: G.lab b)→cellAt w b o=some u→cellAt w' b o=some u:=fun b o u hl hu=>hmk.off b o u (fun hq=>hl (q4' _ hq)) hu
 have hsim:Sim B L' G a w':=by
  refine marked_sim hs hmk (fun q hq=>(lab_new hc hs.W hi (q4' q hq)).1) (fun q hq=>(lab_new hc hs.W hi (q4' q hq)).2.1) hL (fun t d' hd=>?_) (fun id cs hl=>?_) (fun id cs hl=>?_)
  ·obtain⟨d0,k1,k2,k3⟩:=henv _ (mem_of_look hd)
   obtain⟨v,u1,u2⟩:=hs.env t d0 k1
   simp only at k2
   subst k2
   exact⟨v,u1,k3 G w _ v hmB hfr u2⟩
  ·rcases hbx _ (mem_of_look hl) with⟨k1,k2⟩|⟨k1,k2⟩
   ·exact⟨cs,k1,rfl,fun _ _ _ _ _ hv j d v hd hv'=>k2 d (List.mem_of_getElem? hd) G w _ v hmB hfr (hv j d v hd hv')⟩
   ·simp only at k1 k2
    subst k1;subst k2
    refine⟨_,hB,(TA.len fs _ _ _ _ _ _ hT).2.symm,fun g2 vs2 e2 hg2 hh2 _ j d v hd hv'=>?_⟩
    rw[hβ] at hg2
    obtain rfl:=Option.some.inj hg2
    rw[b1] at hh2
    obtain⟨rfl,rfl⟩:vs=vs2∧eT=e2:=by simpa using hh2
    exact q5 w' hI (hmk.at_ q3) j d v hd (by rw[hvd,List.getElem?_take,if_pos (by have:=(List.getElem?_eq_some_iff.1 hd).1;have:=(TA.len fs _ _ _ _ _ _ hT).2;omega)];simpa using hv')
  ·obtain⟨k1,k2⟩:=hro _ (mem_of_look hl)
   exact⟨cs,k1,rfl,fun vl hv j d v hd hv'=>k2 d (List.mem_of_getElem? hd) G w _ v hmB hfr (hv j d v hd hv')⟩
 have hs1:=sim_skip hsim (.agg vl.toArray) (t:=t1) fun q hq=>(hne q hq).1
 have hs2:=sim_skip hs1 (.int .i64 k) (t:=t2) fun q hq=>(hne q hq).2.1
 have hs3:=sim_skip hs2 (.int .i64 (k+qs.length)) (t:=t3) fun q hq=>(hne q hq).2.2.1
 have hs4:=hs3.put (t:=M) (d:=.int .i64 (k+qs.length)) (by rw[hL.1];exact hlt.1.2.2.2) .int
 rw[q2] at hs4 ⊢
 exact h G _ _ hs4
end regions
end Go.Lg
/-
  Lg, part 38: what was made by 'make' and filled, labelled; labelled lists whose elements bear labels by their place.
-/
namespace Go.Lg
open Go Go.RowKit

def Ghost.frLab (G:Ghost) (g n id:Nat) (l:List Nat):Ghost:=⟨fun b=>if b=g then n else G.lim b,fun b=>if b=g then l else G.lab b,fun i=>if i=id then none else G.β i,G.τ⟩

theorem freezeLab_sim {B:Base} {L:LS} {G:Ghost} {a:Act} {w:World} (h:Sim B L G a w) {t id n s:Nat} {cs xs:List D} {l:List Nat} (ht:look L.env t=some (.ms id n)) (hb:look L.boxes id=some cs) (hx:cs=flat xs) (hn:n=xs.length)
  (hu:∀x∈xs,x.cells.length=s) (hk:∀d∈cs,d.memOk=true) (hl:l≠[]) (hfix:id∉L.fix):∃G',Sim B {L.forget id with env:=setA (L.forget id).env t (.sl (.lab l) xs)} G' a w:=by
 have hW:=h.W
 obtain⟨g,hg,⟨vs,e,e1,e2,e3⟩,hl0,hown⟩:=hW.boxes id cs hb
 obtain⟨v,hv,hr⟩:=h.env t _ ht
 have hlab0:G.lab g=[]:=hW.blab id g hg
 let G':=G.frLab g cs.length id l
 have hmn:Mono G G' w w:=⟨fun b o u h1 h2=>⟨by
  simp only[G',Ghost.frLab]
  split
  ·rename_i hbg;subst hbg;omega
  ·exact h1,h2⟩,fun b hb=>by
  simp only[G',Ghost.frLab]
  split
  ·rename_i e0;subst e0;exact absurd hlab0 hb
  ·rfl,fun _ _ _ h=>h⟩
 have hτg:∀ {k g' e' z},G.τ k=some (some (g',e',z))→g'≠g:=fun {k g' e' z} hk e0=>by
  subst e0
  exact(hW.tau k _ e' z hk).2.2.2 id hg
 have rG:∀ {d u},id∉d.ids→Rel G w d u→Rel G' w d u:=fun {d u} hid hr=>hr.mono hmn (fun i hi g' hg'=>by
  have:i≠id:=fun e0=>hid (e0 ▸ hi)
  simp only[G',Ghost.frLab]
  rw[if_neg this];exact hg') (fun k _=>.inr ⟨rfl,fun g' e' z hk'=>⟨by
   simp only[G',Ghost.frLab]
   rw[if_neg (hτg hk')],rfl⟩⟩)
 have hbox:∀ {g' cs'},id∉D.idsL cs'→BoxAt G w g' cs'→BoxAt G' w g' cs':=fun {g' cs'} hid ⟨vs,e,e1,e2,e3⟩=>⟨vs,e,e1,e2,fun j d v hd hv=>rG (fun hi=>hid (mem_idsL (List.mem_of_getElem? hd) hi)) (e3 j d v hd hv)⟩
 have hcell:∀j,w.cell? ⟨g,j,none⟩=vs[j]?:=fun j=>by simp[World.cell?,e1]
 have hlim:G'.lim g=cs.length:=by simp[G',Ghost.frLab]
 have hlim':∀b,b≠g→G'.lim b=G.lim b:=fun b hb=>by simp[G',Ghost.frLab,hb]
 have hlab':∀b,b≠g→G'.lab b=G.lab b:=fun b hb=>by simp[G',Ghost.frLab,hb]
 have hβ:∀ {i g'},G'.β i=some g'→i≠id∧G.β i=some g':=fun {i g'} hi=>by
  simp only[G',Ghost.frLab] at hi
  split at hi
  ·cases hi
  ·rename_i h0;exact⟨h0,hi⟩
 have hβ':∀ {i g'},i≠id→G.β i=some g'→G'.β i=some g':=fun {i g'} h0 hi=>by
  simp only[G',Ghost.frLab]
  rw[if_neg h0];exact hi
 have memNo:∀ {d:D},d.memOk=true→id∉d.ids:=fun hm=>by rw[memOk_ids hm];simp
 refine⟨G',h.defers,h.size,fun t' d hd=>?_,?_,h.fixed⟩
 ·simp only[look_setA] at hd
  by_cases e0:t=t'
  ·subst e0
   simp only[if_true,Option.some.injEq] at hd
   subst hd
   refine⟨v,hv,?_⟩
   cases hr with
   | @ms _ _ c1 g1 hb' hc' hn' =>
    have e0:g1=g:=Option.some.inj (hb'.symm.trans hg)
    rw[e0]
    refine .sl (b:=g) (o:=0) (s:=s) (by omega) hc' hn' (.inr ⟨g,0,rfl,by simp[G',Ghost.frLab],hl⟩) (.inr rfl) hu (hx ▸ hk) (fun j d hj=>?_) (fun j d u hj hu'=>?_)
    ·rw[←hx] at hj
     have hlt:j<cs.length:=(List.getElem?_eq_some_iff.1 hj).1
     rw[Nat.zero_add,hlim,hcell]
     exact⟨hlt,vs[j]'(by omega),by simp[show j<vs.size by omega]⟩
    ·rw[←hx] at hj
     rw[Nat.zero_add,hcell] at hu'
     exact rG (memNo (hk d (List.mem_of_getElem? hj))) (e3 j d u hj hu')
  ·rw[if_neg e0] at hd
   obtain⟨h1,h2⟩:=look_keepA _ _ _ _ hd
   obtain⟨u,h3,h4⟩:=h.env t' d h1
   exact⟨u,h3,rG (noId_spec h2) h4⟩
 ·exact {
   boxes:=fun i cs' hl'=>by
    simp only[LS.forget,look_eraseK] at hl'
    by_cases e0:id=i
    ·rw[if_pos e0] at hl';cases hl'
    ·rw[if_neg e0] at hl'
     obtain⟨h1,h2⟩:=look_keepA _ _ _ _ hl'
     obtain⟨g',k1,k2,k3,k4⟩:=hW.boxes i cs' h1
     refine⟨g',hβ' (Ne.symm e0) k1,hbox (noIdL_spec h2) k2,?_,k4⟩
     rw[hlim' g' (by rintro rfl;exact e0 (hW.binj _ _ _ hg k1))]
     exact k3
   robs:=fun i cs' hl'=>by
    simp only[LS.forget,look_eraseK] at hl'
    by_cases e0:id=i
    ·rw[if_pos e0] at hl';cases hl'
    ·rw[if_neg e0] at hl'
     obtain⟨h1,h2⟩:=look_keepA _ _ _ _ hl'
     obtain⟨g',k1,k2,k3⟩:=hW.robs i cs' h1
     exact⟨g',hβ' (Ne.symm e0) k1,hbox (noIdL_spec h2) k2,k3⟩
   toks:=hW.toks
   tau:=fun k g' e' z hk'=>by
    obtain⟨h1,h2,⟨cur,h3,h4⟩,h5⟩:=hW.tau k g' e' z hk'
    refine⟨h1,h2,⟨cur,h3,?_⟩,fun i hi=>h5 i (hβ hi).2⟩
    rw[hlim' g' (hτg hk')]
    exact h4
   tinj:=hW.tinj
   binj:=fun i j g' hi hj=>hW.binj i j g' (hβ hi).2 (hβ hj).2
   blt:=fun i g' hi=>hW.blt i g' (hβ hi).2
   lablt:=fun b hb=>by
    by_cases e0:b=g
    ·subst e0;exact hW.blt id _ hg
    ·rw[hlab' b e0] at hb;exact hW.lablt b hb
   old:=fun b hb1 hb2=>by
    refine⟨(hW.old b hb1 hb2).1,?_⟩
    rw[hlim' b]
    ·exact(hW.old b hb1 hb2).2
    ·rintro rfl
     rcases hown with h|h
     ·omega
     ·exact hb2 h
   olda:=fun b hb1=>by
    refine⟨?_,(hW.olda b hb1).2⟩
    have:=(hW.olda b hb1).1
    by_cases hbg:b=g
    ·subst hbg;rw[hl0] at this;omega
    ·rw[hlim' b hbg];exact this
   oldl:=fun b hb1 hb2=>by
    have h0:=hW.oldl b hb1 hb2
    have hbg:b≠g:=fun e0=>by subst e0;rw[hlab0] at h0;exact hb2 h0.symm
    rw[hlab' b hbg];exact h0
   tlab:=fun k g' e' z hk'=>by rw[hlab' g' (hτg hk')];exact hW.tlab k g' e' z hk'
   blab:=fun i g' hi=>by
    obtain⟨h0,hi⟩:=hβ hi
    have hne:g'≠g:=fun e0=>h0 (hW.binj i id g (e0 ▸ hi) hg)
    rw[hlab' g' hne];exact hW.blab i g' hi
   oldu:=fun b hb1 hb2 hb3=>by
    have hbg:b≠g:=fun e0=>by
     subst e0
     rcases hown with h|h
     ·omega
     ·exact hb2 h
    rw[hlab' b hbg];exact hW.oldu b hb1 hb2 hb3
   labw:=fun b hb hor=>by
    by_cases e0:b=g
    ·subst e0;exact⟨vs,e,e1⟩
    ·rw[hlab' b e0] at hb;exact hW.labw b hb hor
   ids:=fun p hp=>hβ' (fun e0=>hfix (e0 ▸ h.fixed p hp)) (hW.ids p hp)
   sz:=hW.sz
   os:=hW.os
   tape:=hW.tape
   out:=hW.out
   dr:=hW.dr}

section
variable {S:Setup} {B:Base} {R:LS→Prop} {k:List VItem} {L:LS}
theorem sw_freezeLabAt (rid t s:Nat) (l:List Nat) {id n:Nat} {cs:List D} (xs:List D) {ops:Array Oper} {dr:Bool} {c:Code} (ht:look L.env t=some (.ms id n)) (hb:look L.boxes id=some cs) (hx:cs=flat xs) (hn:n=xs.length)
  (hu:∀x∈xs,x.cells.length=s) (hk:∀d∈cs,d.memOk=true) (hl:l≠[]) (hfix:id∉L.fix) (hh:SW S B R (.code (.seq (.region rid ops dr) c)::k) {L.forget id with env:=setA (L.forget id).env t (.sl (.lab l) xs)}):SW S B R (.code (.seq (.region rid ops dr) c)::k) L:=fun G a w hs=>by
 obtain⟨G',h'⟩:=freezeLab_sim hs ht hb hx hn hu hk hl hfix
 exact hh G' a w h'
end

def mapR {α:Type} [Inhabited α] (g:Nat→α→D) (xs:List α):List D:=(List.range xs.length).map fun j=>g j (xs.getD j default)
theorem mapR_length {α:Type} [Inhabited α] (g:Nat→α→D) (xs:List α):(mapR g xs).length=xs.length:=by simp[mapR]
theorem mapR_get {α:Type} [Inhabited α] {g:Nat→α→D} {xs:List α} {i:Nat} {d:D} (h:(mapR g xs)[i]?=some d):∃x,xs[i]?=some x∧d=g i x:=by
 unfold mapR at h
 rw[List.getElem?_map] at h
 by_cases hi:i<xs.length
 ·rw[List.getElem?_range hi] at h
  refine⟨xs[i],List.getElem?_eq_getElem hi,?_⟩
  simpa[List.getD,List.getElem?_eq_getElem hi] using h.symm
 ·rw[List.getElem?_eq_none (by simpa using hi)] at h
  cases h
theorem mapR_cells {α:Type} [Inhabited α] {g:Nat→α→D} {xs:List α} {s:Nat} (h:∀j x,(g j x).cells.length=s):∀d∈mapR g xs,d.cells.length=s:=fun d hd=>by
 obtain⟨i,hi⟩:=List.getElem?_of_mem hd
 obtain⟨x,_,rfl⟩:=mapR_get hi
 exact h i x
theorem fillF_doneR {α:Type} [Inhabited α] (g:Nat→α→D) (z:List D) (xs:List α):fillF (fun j=>(g j (xs.getD j default)).cells) z xs.length xs.length=flat (mapR g xs):=by
 unfold fillF flat mapR
 rw[List.flatMap_def,List.map_map]
 congr 1
 refine List.map_congr_left fun j hj=>?_
 rw[if_pos (List.mem_range.1 hj)]
 rfl
theorem leL_append:∀ {a b c d:List D},leL a b→leL c d→leL (a++c) (b++d)
 | [],[],_,_,_,h=>h
 | _::_,_::_,_,_,h1,h2=>⟨h1.1,leL_append h1.2 h2⟩
 | [],_::_,_,_,h,_=>h.elim
 | _::_,[],_,_,h,_=>h.elim
theorem leL_flat:∀ {xs ys:List D},xs.length=ys.length→(∀(i:Nat) x y,xs[i]?=some x→ys[i]?=some y→leL x.cells y.cells)→leL (flat xs) (flat ys)
 | [],[],_,_=>trivial
 | x::xs,y::ys,hl,h=>by
  rw[flat_cons,flat_cons]
  exact leL_append (h 0 x y rfl rfl) (leL_flat (by simpa using hl) fun i a b ha hb=>h (i+1) a b (by simpa using ha) (by simpa using hb))
 | [],_::_,hl,_=>by simp at hl
 | _::_,[],hl,_=>by simp at hl
theorem le_mapR {α:Type} [Inhabited α] {g:Nat→α→D} {e:α→D} {tk:Tk} (xs:List α) (h:∀j x,leL (g j x).cells (e x).cells):D.le (.sl tk (mapR g xs)) (.sl .any (xs.map e)):=by
 have hlen:(mapR g xs).length=(xs.map e).length:=by rw[mapR_length,List.length_map]
 have hel:∀(i:Nat) a b,(mapR g xs)[i]?=some a→(xs.map e)[i]?=some b→leL a.cells b.cells:=fun i a b ha hb=>by
  obtain⟨x,hx,rfl⟩:=mapR_get ha
  rw[List.getElem?_map,hx] at hb
  obtain rfl:=Option.some.inj hb
  exact h i x
 have hfl:=leL_flat hlen hel
 refine .deep ?_ (leL_len hfl) fun j c d hc hd=>?_
 ·refine List.ext_getElem? fun i=>?_
  rw[List.getElem?_map,List.getElem?_map]
  cases ha:(mapR g xs)[i]? with
  | none =>
   have:xs.length≤i:=by rw[←mapR_length g xs];exact List.getElem?_eq_none_iff.1 ha
   rw[List.getElem?_eq_none (by simpa using this)]
  | some a =>
   have hi:i<(xs.map e).length:=by rw[←hlen];exact(List.getElem?_eq_some_iff.1 ha).1
   have hb:=List.getElem?_eq_getElem hi
   rw[hb]
   simp only[Option.map_some]
   rw[leL_len (hel i a _ ha hb)]
 ·obtain⟨a,ha,hle⟩:=leL_get hfl j d hd
  rw[hc] at ha
  obtain rfl:=Option.some.inj ha
  exact hle
theorem LT_mapR {α:Type} [Inhabited α] {fs:Fs} {p:List Nat} {g:Nat→α→D} {m:α→Nat} (xs:List α) (h:∀j x,LF fs (p++[j]) 0 (g j x).cells (m x)):LT (.slc fs) p (.sl (.lab p) (mapR g xs)) (xs.map m).sum:=by
 unfold LT
 refine⟨_,_,xs.map m,rfl,rfl,.inr rfl,by rw[mapR_length,List.length_map],rfl,fun i x n hx hn=>?_⟩
 obtain⟨y,hy,rfl⟩:=mapR_get hx
 rw[List.getElem?_map,hy] at hn
 obtain rfl:=Option.some.inj hn
 exact h i y
theorem LT_ints (p:List Nat) (xs:List Int):LT (.slc (.cell .nil)) p (.sl (.lab p) (xs.map (.int .i64))) xs.length:=by
 unfold LT
 refine⟨_,_,xs.map fun _=>1,rfl,rfl,.inr rfl,by simp,?_,fun i x n hx hn=>?_⟩
 ·induction xs with
  | nil=>rfl
  | cons x xs ih=>simp[←ih];omega
 ·rw[List.getElem?_map] at hx hn
  cases hy:xs[i]? with
  | none=>rw[hy] at hx;cases hx
  | some y =>
   rw[hy] at hx hn
   obtain rfl:=Option.some.inj hx
   obtain rfl:=Option.some.inj hn
   unfold LF
   exact⟨y,0,[],rfl,rfl,by unfold LF;exact⟨rfl,rfl⟩⟩
def upR {α:Type} [Inhabited α] (g:Nat→α→D) (xs:List α) (i:Nat):List D:=(List.range i).map fun j=>g j (xs.getD j default)
theorem upR_length {α:Type} [Inhabited α] (g:Nat→α→D) (xs:List α) (i:Nat):(upR g xs i).length=i:=by simp[upR]
theorem upR_succ {α:Type} [Inhabited α] (g:Nat→α→D) (xs:List α) (i:Nat):upR g xs (i+1)=upR g xs i++[g i (xs.getD i default)]:=by
 simp[upR,List.range_succ]
theorem upR_all {α:Type} [Inhabited α] (g:Nat→α→D) (xs:List α):upR g xs xs.length=mapR g xs:=rfl
theorem upR_mem {α:Type} [Inhabited α] {g:Nat→α→D} {xs:List α} {i:Nat} {P:D→Prop} (h:∀j x,P (g j x)):∀d∈upR g xs i,P d:=fun d hd=>by
 obtain⟨j,_,rfl⟩:=List.mem_map.1 hd
 exact h j _
theorem mapR_getDm {α:Type} [Inhabited α] {g:Nat→α→D} {xs:List α} {i:Nat} (h:Om (i<xs.length)):(mapR g xs).getD i default=g i (xs.getD i default):=by
 have h:i<xs.length:=h.out
 unfold mapR
 simp only[List.getD,List.getElem?_map,List.getElem?_range h,Option.map_some,Option.getD_some]
end Go.Lg
/-
  Lg, part 39: the marking regions, the state behind them reckoned.
-/
namespace Go.Lg
open Go Go.RowKit

def KeepL (B:Base) (i:Nat):List D→Prop
 | []=>True
 | d::r=>Keep B i d∧KeepL B i r
def KeepE (B:Base) (i:Nat):List (Nat×D)→Prop
 | []=>True
 | p::r=>Keep B i p.2∧KeepE B i r
def KeepX (B:Base) (i:Nat):List (Nat×List D)→Prop
 | []=>True
 | p::r=>KeepL B i p.2∧KeepX B i r
theorem keepL_mem {B:Base} {i:Nat}:∀ {l:List D},KeepL B i l→∀d∈l,Keep B i d
 | _::_,h,d,hd=>by
  rcases List.mem_cons.1 hd with rfl|hd
  ·exact h.1
  ·exact keepL_mem h.2 d hd
theorem keepE_mem {B:Base} {i:Nat}:∀ {l:List (Nat×D)},KeepE B i l→∀p∈l,Keep B i p.2
 | _::_,h,d,hd=>by
  rcases List.mem_cons.1 hd with rfl|hd
  ·exact h.1
  ·exact keepE_mem h.2 d hd
theorem keepX_mem {B:Base} {i:Nat}:∀ {l:List (Nat×List D)},KeepX B i l→∀p∈l,∀d∈p.2,Keep B i d
 | _::_,h,p,hp=>by
  rcases List.mem_cons.1 hp with rfl|hp
  ·exact keepL_mem h.1
  ·exact keepX_mem h.2 p hp
theorem look_mem {α:Type}:∀ {l:List (Nat×α)},(l.map (·.1)).Nodup→∀p∈l,look l p.1=some p.2
 | (k,x)::r,h,p,hp=>by
  simp only[List.map_cons,List.nodup_cons] at h
  rcases List.mem_cons.1 hp with rfl|hp
  ·simp[look]
  ·have hne:k≠p.1:=fun e=>h.1 (e ▸ List.mem_map.2 ⟨p,hp,rfl⟩)
   simp only[look,if_neg hne]
   exact look_mem h.2 p hp
theorem mem_eraseK {α:Type} {k:Nat}:∀ {l:List (Nat×α)} {p:Nat×α},p∈eraseK k l→p∈l∧p.1≠k
 | [],_,h=>by cases h
 | (k',x)::r,p,h=>by
  unfold eraseK at h
  split at h
  ·obtain⟨h1,h2⟩:=mem_eraseK h
   exact⟨List.mem_cons_of_mem _ h1,h2⟩
  ·rename_i hne
   rcases List.mem_cons.1 h with rfl|h
   ·exact⟨List.mem_cons_self,hne⟩
   ·obtain⟨h1,h2⟩:=mem_eraseK h
    exact⟨List.mem_cons_of_mem _ h1,h2⟩
theorem mem_setA {α:Type} {k:Nat} {x:α}:∀ {l:List (Nat×α)} {p:Nat×α},p∈setA l k x→p=(k,x)∨p∈l
 | [],p,h=>by simp[setA] at h;exact .inl h
 | (k',y)::r,p,h=>by
  unfold setA at h
  split at h
  ·rcases List.mem_cons.1 h with h|h
   ·exact .inl h
   ·exact .inr (List.mem_cons_of_mem _ h)
  ·rcases List.mem_cons.1 h with h|h
   ·exact .inr (h ▸ List.mem_cons_self)
   ·rcases mem_setA h with h|h
    ·exact .inl h
    ·exact .inr (List.mem_cons_of_mem _ h)
theorem no_key {α:Type} {l:List (Nat×α)} {t:Nat} (hnd:(l.map (·.1)).Nodup) (h:look l t=none):∀p∈l,p.1≠t:=fun p hp e=>by
 have:=look_mem hnd p hp
 rw[e,h] at this
 cases this

section regions
variable {S:Setup} {B:Base} {R:LS→Prop} {kk:List VItem} {L:LS} {A M t1 t2 t3 id:Nat} {ty1 ty2 ty3 ty4:TypeId} {p1 p2 p3 p4:String} {a1 a2 a3 a4:Array Edge} {tys:Array TypeId} {f:FuncId} {i n N:Nat} {k:Int}

theorem sw_markS2 {s:Sh} {d:D} (hc:B.cl N) (hi:N≤i) (mk:MKs S.P f s) (hA:L.get A=some d) (hT:LT s [i] d n) (hM:L.get M=some (.int .i64 k)) (h0:0≤k) (hb:k+n≤4611686018427387904)
  (hlt:(t1<L.n∧t2<L.n∧t3<L.n∧M<L.n)∧t1≠t2∧t1≠M) (hfr:look L.env t1=none∧look L.env t2=none∧look L.env t3=none) (hAM:A≠M∧A≠t1∧A≠t2∧A≠t3) (hnd:(L.env.map (·.1)).Nodup∧(L.boxes.map (·.1)).Nodup∧(L.ro.map (·.1)).Nodup)
  (ke:KeepE B i (eraseK A (eraseK M L.env))) (kb:KeepX B i L.boxes) (kr:KeepX B i L.ro) (h:SW S B R kk ({L with env:=setA (eraseK A (eraseK M L.env)) A (HD s k n),toks:=[]}.put M (.int .i64 (k+n)))) :
  SW S B R (.code (.region id [⟨some t1,.move (.tmp A),ty1,p1,a1,none⟩,⟨some t2,.move (.tmp M),ty2,p2,a2,none⟩,⟨some t3,.call ⟨.value (.func f),#[.tmp t1,.tmp t2],tys⟩,ty3,p3,a3,none⟩,⟨some M,.assign (.tmp t3),ty4,p4,a4,none⟩].toArray false)::kk) L:=by
 have hmem:∀q∈eraseK A (eraseK M L.env),q∈L.env∧q.1≠M:=fun q hq=>by
  obtain⟨h1,_⟩:=mem_eraseK hq
  exact mem_eraseK h1
 exact sw_markS (L':={L with env:=setA (eraseK A (eraseK M L.env)) A (HD s k n),toks:=[]}) hc hi mk hA hT hM h0 hb hlt ⟨rfl,rfl,rfl⟩
  (fun q hq=>by
   rcases mem_setA hq with rfl|hq
   ·exact⟨hAM.2.1,hAM.2.2.1,hAM.2.2.2,hAM.1⟩
   ·obtain⟨h1,h2⟩:=hmem q hq
    exact⟨no_key hnd.1 hfr.1 q h1,no_key hnd.1 hfr.2.1 q h1,no_key hnd.1 hfr.2.2 q h1,h2⟩)
  (fun q hq=>by
   rcases mem_setA hq with rfl|hq
   ·exact .inr ⟨rfl,rfl⟩
   ·exact .inl ⟨q.2,look_mem hnd.1 q (hmem q hq).1,rfl,keepE_mem ke q hq⟩)
  (fun q hq=>⟨look_mem hnd.2.1 q hq,keepX_mem kb q hq⟩) (fun q hq=>⟨look_mem hnd.2.2 q hq,keepX_mem kr q hq⟩) h
theorem sw_markA1 {fs:Fs} {cs cs':List D} {T:TypeId} {j:TyI} {bid:Nat} (hc:B.cl N) (hi:N≤i) (mk:MKa S.P f fs) (hA:L.get A=some (.box bid 0)) (hB:look L.boxes bid=some cs) (hT:TA fs [i] 0 k cs cs' n) (hj:S.tab T=some j) (hag:j.agg=true) (hjs:j.size=cs.length)
  (hM:L.get M=some (.int .i64 k)) (h0:0≤k) (hb:k+n≤4611686018427387904)
  (hlt:(t1<L.n∧t2<L.n∧t3<L.n∧M<L.n)∧t1≠t2∧t1≠M) (hfr:look L.env t1=none∧look L.env t2=none∧look L.env t3=none) (hnd:(L.env.map (·.1)).Nodup∧(L.boxes.map (·.1)).Nodup∧(L.ro.map (·.1)).Nodup)
  (ke:KeepE B i (eraseK M L.env)) (kb:KeepX B i (eraseK bid L.boxes)) (kr:KeepX B i L.ro) (h:SW S B R kk ({L with env:=eraseK M L.env,boxes:=eraseK bid L.boxes,toks:=[]}.put M (.int .i64 (k+n)))) :
  SW S B R (.code (.region id [⟨some t1,.load T (.tmp A),ty1,p1,a1,none⟩,⟨some t2,.move (.tmp M),ty2,p2,a2,none⟩,⟨some t3,.call ⟨.value (.func f),#[.tmp t1,.tmp t2],tys⟩,ty3,p3,a3,none⟩,⟨some M,.assign (.tmp t3),ty4,p4,a4,none⟩].toArray false)::kk) L :=
 sw_markA (L':={L with env:=eraseK M L.env,boxes:=eraseK bid L.boxes,toks:=[]}) hc hi mk hA hB hT hj hag hjs hM h0 hb hlt ⟨rfl,rfl,rfl⟩
  (fun q hq=>by
   obtain⟨h1,h2⟩:=mem_eraseK hq
   exact⟨no_key hnd.1 hfr.1 q h1,no_key hnd.1 hfr.2.1 q h1,no_key hnd.1 hfr.2.2 q h1,h2⟩)
  (fun q hq=>⟨q.2,look_mem hnd.1 q (mem_eraseK hq).1,rfl,keepE_mem ke q hq⟩)
  (fun q hq=>.inl ⟨look_mem hnd.2.1 q (mem_eraseK hq).1,keepX_mem kb q hq⟩) (fun q hq=>⟨look_mem hnd.2.2 q hq,keepX_mem kr q hq⟩) h
end regions
theorem sw_rebaseAtW {S:Setup} {B:Base} {k:List VItem} {L:LS} {t:Nat} {b:Bool} (rid:Nat) {ops:Array Oper} {dr:Bool} {c:Code} (hB:B.ids=[]∧∀b,¬B.ab b) (hk:noLoop k=true) (hw:B.wk) {T:World→Prop} (hT:B.has T) (h:∀B1 N,B1.cl N→B1.wk→B1.has T→SW S B1 (Ret S [.tmp t] (.bool b) []) (.code (.seq (.region rid ops dr) c)::k) (L.rebase B1)):SW S B (Ret S [.tmp t] (.bool b) []) (.code (.seq (.region rid ops dr) c)::k) L:=sw_rebaseW hB hk hw hT h

section
variable (B:Base) (d:D) (s:Sh) (k:Int) (n:Nat)
theorem KD_ids:(KD B d).ids=[]:=rfl
theorem KD_tks:(KD B d).tks=[]:=rfl
theorem KD_cells:(KD B d).cells=[KD B d]:=rfl
theorem KD_pu1 (p:Nat→Bool):D.pu1 p (KD B d)=KD B d:=rfl
theorem KD_pu (p:Nat→Bool):D.pu p (KD B d)=KD B d:=rfl
theorem KD_shT (o:Nat):D.shT o (KD B d)=KD B d:=rfl
theorem HD_ids:(HD s k n).ids=[]:=rfl
theorem HD_tks:(HD s k n).tks=[]:=rfl
theorem HD_cells:(HD s k n).cells=[HD s k n]:=rfl
theorem HD_pu1 (p:Nat→Bool):D.pu1 p (HD s k n)=HD s k n:=rfl
theorem HD_pu (p:Nat→Bool):D.pu p (HD s k n)=HD s k n:=rfl
theorem HD_shT (o:Nat):D.shT o (HD s k n)=HD s k n:=rfl
end
attribute [go_sem] KD_ids KD_tks KD_cells KD_pu1 KD_pu KD_shT HD_ids HD_tks HD_cells HD_pu1 HD_pu HD_shT
theorem sum_le4 {α:Type} {m c:α→Nat} (h:∀x,m x≤4*(1+c x)) (xs:List α):(xs.map m).sum≤4*(xs.length+(xs.map c).sum):=by
 induction xs with
 | nil=>simp
 | cons x xs ih =>
  have:=h x
  simp only[List.map_cons,List.sum_cons,List.length_cons]
  omega
theorem sw_tokBox {S:Setup} {B:Base} {R:LS→Prop} {kk:List VItem} {L:LS} (id j k:Nat) (e:TypeId) (z:Nat) {cs:List D} (hb:look (L.purge (fun x=>x==k)).boxes id=some cs) (hj:cs[j]?=some (.sl .nil [])) (hc:(L.purge (fun x=>x==k)).clean (fun x=>x==k)=true)
  (h:SW S B R kk {L.purge (fun x=>x==k) with boxes:=setA (L.purge (fun x=>x==k)).boxes id (cs.set j (.sl (.own k e z) [])),toks:=k::L.toks}):SW S B R kk L:=fun G a w hs=>by
 have hp:=purge_sim hs (fun x=>x==k)
 have hstep:TokStep B G (G.setTok k (some none)) w w k:={
  mono:=⟨fun _ _ _ h1 h2=>⟨h1,h2⟩,fun _ _=>rfl,fun _ _ _ h=>h⟩
  beta:=rfl,lab:=rfl,sz:=Nat.le_refl _,os:=rfl,tape:=rfl,out:=rfl,dr:=by first|exact Nat.le_refl _|exact Nat.le_succ _|exact .inr (Nat.le_refl _)|exact .inr (Nat.le_succ _)
  tau:=fun k' hk'=>.inr ⟨by simp[Ghost.setTok,hk'],fun _ _ _ _=>⟨rfl,rfl⟩⟩
  block:=fun _ _=>.inl ⟨rfl,rfl⟩
  new:=fun g e' z' hg=>by simp[Ghost.setTok] at hg
  live:=by simp[Ghost.setTok]}
 have hsim:=tokStep_sim hp hstep hc (tk:=k::L.toks) (fun k' hk'=>by
  by_cases e:k'=k
  ·exact .inl e
  ·rcases List.mem_cons.1 hk' with h|h
   ·exact absurd h e
   ·exact .inr ⟨by simp[Ghost.setTok,e],h⟩)
 refine h _ a w ⟨hsim.defers,hsim.size,hsim.env,{hsim.W with boxes:=fun i c hi=>?_},hsim.fixed⟩
 simp only[look_setA] at hi
 by_cases e0:id=i
 ·subst e0
  simp only[if_true,Option.some.injEq] at hi
  subst hi
  obtain⟨g,q1,⟨vs,e',e1,e2,e3⟩,q3⟩:=hsim.W.boxes id cs hb
  refine⟨g,q1,⟨vs,e',e1,by simpa using e2,fun j' d v hd hv=>?_⟩,q3⟩
  by_cases hjj:j=j'
  ·subst hjj
   rw[List.getElem?_set_self (List.getElem?_eq_some_iff.1 hj).1] at hd
   obtain rfl:=Option.some.inj hd
   have hr:=e3 j _ v hj hv
   cases hr with
   | @sl _ _ A n c b o s hn hcc hm ht' hA hu hk hst hr =>
    exact .sl (b:=0) (o:=0) (s:=0) hn hcc hm (by simp only[TkOk,Ghost.setTok,if_true];exact⟨ht'.2.1,ht'.2.2⟩) (.inl rfl) (by simp) (by simp[flat]) (by simp[flat]) (by simp[flat])
  ·rw[List.getElem?_set_ne hjj] at hd
   exact e3 j' d v hd hv
 ·rw[if_neg e0] at hi
  exact hsim.W.boxes i c hi
end Go.Lg
/-
  Lg: a call that wants tokens for empty lists takes fresh empty lists.
-/
namespace Go.Lg
open Go Go.RowKit
variable {S:Setup}
theorem baseOf_emp (G:Ghost) (w:World) (bx:List (Nat×List D)) (tk:List Nat) (k:Nat) (hk:k∉tk):baseOf (G.setTok k (some none)) w bx (k::tk)=baseOf G w bx tk:=by
 unfold baseOf
 congr 1
 funext b
 refine propext ⟨?_,?_⟩
 ·rintro (h|⟨k',h1,e,z,h2⟩)
  ·exact .inl h
  ·refine .inr ⟨k',?_,e,z,?_⟩
   ·rcases List.mem_cons.1 h1 with rfl|h1
    ·simp[Ghost.setTok] at h2
    ·exact h1
   ·rcases List.mem_cons.1 h1 with rfl|h1
    ·simp[Ghost.setTok] at h2
    ·have:k'≠k:=fun e=>hk (e ▸ h1)
     simpa[Ghost.setTok,this] using h2
 ·rintro (h|⟨k',h1,e,z,h2⟩)
  ·exact .inl h
  ·have:k'≠k:=fun e=>hk (e ▸ h1)
   exact .inr ⟨k',List.mem_cons_of_mem _ h1,e,z,by simpa[Ghost.setTok,this] using h2⟩
theorem FC.emp {f:FuncId} {ro bx bx':List (Nat×List D)} {tk tk':List Nat} {args args':List D} {d:D} (i k:Nat) (e:TypeId) (z:Nat) {t:Tk} (h:FC S f ro bx (k::tk) args' d bx' tk')
  (hl:args'.length=args.length) (ht:look (enumD 0 args) i=some (.sl t [])) (htk:t=.nil∨t=.full) (hk:k∉tk) (hc:(LS.mk args.length (enumD 0 args) bx ro tk (bx.map (·.1))).clean (fun x=>x==k)=true)
  (he:enumD 0 args'=setA (enumD 0 args) i (.sl (.own k e z) [])):FC S f ro bx tk args d bx' tk':=⟨h.1,fun w G vals hs=>by
 obtain⟨v,hv,hr⟩:=hs.env i _ ht
 have hstep:TokStep (baseOf G w bx tk) G (G.setTok k (some none)) w w k:={
  mono:=⟨fun _ _ _ h1 h2=>⟨h1,h2⟩,fun _ _=>rfl,fun _ _ _ h=>h⟩
  beta:=rfl,lab:=rfl,sz:=Nat.le_refl _,os:=rfl,tape:=rfl,out:=rfl,dr:=by first|exact Nat.le_refl _|exact Nat.le_succ _|exact .inr (Nat.le_refl _)|exact .inr (Nat.le_succ _)
  tau:=fun k' hk'=>.inr ⟨by simp[Ghost.setTok,hk'],fun _ _ _ _=>⟨rfl,rfl⟩⟩
  block:=fun _ _=>.inl ⟨rfl,rfl⟩
  new:=fun g e' z' hg=>by simp[Ghost.setTok] at hg
  live:=by simp[Ghost.setTok]}
 have hsim:=tokStep_sim hs hstep hc (tk:=k::tk) (fun k' hk'=>by
  by_cases e:k'=k
  ·exact .inl e
  ·rcases List.mem_cons.1 hk' with h|h
   ·exact absurd h e
   ·exact .inr ⟨by simp[Ghost.setTok,e],h⟩)
 have h2:=h.2 w (G.setTok k (some none)) vals
 rw[baseOf_emp G w bx tk k hk,hl,he] at h2
 refine h2 (env_set hsim hv ?_)
 cases hr with
 | @sl _ _ A n c b o s hn hcc hm ht' hA hu hk hst hr =>
  have h0:n=0:=hn
  have hc0:c=0:=by
   rcases htk with rfl|rfl
   ·exact ht'.2.2
   ·have:n=c:=ht'
    omega
  exact .sl (b:=0) (o:=0) (s:=0) hn hcc hm (by simp only[TkOk,Ghost.setTok,if_true];exact⟨h0,hc0⟩) (.inl rfl) (by simp) (by simp[flat]) (by simp[flat]) (by simp[flat])⟩
end Go.Lg
/-
  Lg: a region that draws its order, of which the first operation, a plain reading of a slot, may stand anywhere ahead of the last part; one operation of any kind in the middle.
-/
namespace Go.Lg
open Go Go.RowKit
section
variable {S:Setup} {md:Region.Mode} {ops:Array Oper} {bx:Nat→Option (List D)} {n m h0:Nat}
end
theorem wpAny_monoQ {P:Program} {md:Region.Mode} {ops:Array Oper} {Q Q':Exit→Act→World→Prop} (h:∀e a w,Q e a w→Q' e a w):∀(f:Nat) (listed:Array Bool) (a:Act) (w:World),wpAny P md ops Q f listed a w→wpAny P md ops Q' f listed a w
 | 0,_,_,_,hh=>⟨hh.1,h _ _ _ hh.2⟩
 | f+1,_,a,w,hh=>⟨fun e=>h _ _ _ (hh.1 e),fun i hi=>by
  have h1:=wpOp_mono (fun a w=>wpAny_monoQ h f _ a w) (hh.2 i hi)
  unfold wpOp at h1 ⊢
  split at h1
  ·exact h1
  ·split at h1
   ·rename_i hw
    rw[if_pos hw]
    rcases h1 with h1|⟨h1,a,w,h2⟩
    ·exact .inl (Oper.wp_congrQ (fun e a w _ hq=>h e a w hq) h1)
    ·exact .inr ⟨h1,a,w,h _ _ _ h2⟩
   ·rename_i hw
    rw[if_neg hw]
    exact h1⟩
end Go.Lg
/-
  Lg: a list literal that is going to be appended to, or is a result: it is given a token where it is made.
-/
namespace Go.Lg
open Go Go.RowKit
def thenQ (P:Program) (ops:Array Oper) (Q:Exit→Act→World→Prop) (l2:List Oper):Exit→Act→World→Prop
 | .normal,a,w=>wpList P ops Q l2 a w
 | e,a,w=>Q e a w
theorem thenQ_wp {P:Program} {ops:Array Oper} {Q:Exit→Act→World→Prop} {l2:List Oper} {o:Oper} {a:Act} {w:World} {K K':Act→World→Prop} (h:∀a w,K a w→K' a w)
  (hh:o.wp P a w K (thenQ P ops Q l2)):o.wp P a w K' Q:=by
 unfold Oper.wp at *
 generalize (execOp a.eval o).run P w=r at *
 cases r with
 | ok n w' =>
  cases n<;>simp only[Oper.upon] at hh ⊢ <;>
   first
    | exact h _ _ hh
    | exact hh
    | (refine hh.mono fun e w2 h2=>?_;revert h2;cases e<;>first|exact fun h2=>h _ _ h2|exact fun h2=>h2)
    | (refine hh.mono fun v w2 h2=>h _ _ h2)
 | halt x w'=>cases x<;>simp only[Oper.upon] at hh ⊢<;>exact hh
theorem wpList_app {P:Program} {ops:Array Oper} {Q:Exit→Act→World→Prop} {l2:List Oper}:∀(l1:List Oper) (a:Act) (w:World),wpList P ops (thenQ P ops Q l2) l1 a w→wpList P ops Q (l1++l2) a w
 | [],a,w,h=>h
 | o::l1,a,w,h=>by
  unfold wpList at h
  rw[List.cons_append]
  unfold wpList
  split at h
  ·rename_i hw
   rw[if_pos hw]
   rcases h with h|⟨h1,h2⟩
   ·exact .inl (thenQ_wp (fun a w h=>wpList_app l1 a w h) h)
   ·exact .inr ⟨h1,h2⟩
  ·rename_i hw
   rw[if_neg hw]
   exact wpList_app l1 _ _ h
theorem LopsW.app {S:Setup} {B:Base} {ops:Array Oper} {l l2:List Oper} {L:LS} {N M:LS→Prop} (h:LopsW S B ops l L N) (hN:∀L',N L'→LopsW S B ops l2 L' M):LopsW S B ops (l++l2) L M:=fun G a w hs Q hQ =>
 wpList_app l a w (h G a w hs (thenQ S.P ops Q l2) fun L' G' a' w' h1 h2=>hN L' h1 G' a' w' h2 Q hQ)
theorem runL_sound2 {S:Setup} {base:Nat} {B:Base} {ops:Array Oper} {l2:List Oper} {K:LS→Prop} {K':List Oper→LS→Prop} (hK:∀l L,K' l L→LopsW S B ops (l++l2) L K):∀(l:List Oper) (L:LS),runL S base ops K' l L→LopsW S B ops (l++l2) L K
 | [],L,h=>hK [] L h
 | ⟨dst,op,ty,pos,aft,g⟩::l,L,h=>by
  unfold runL at h
  split at h
  ·exact hK _ L h
  ·split at h
   ·rename_i hg
    intro G a w hs Q hQ
    refine wpList_step fun N hN=>?_
    rw[if_pos (guardY_sound (S:=S) rfl hs (o:=⟨dst,op,ty,pos,aft,g⟩) hg)]
    exact Oper.wp_mono (fun a' w' h'=>hN a' w' h') (stepY_mono h (fun L' h'=>runL_sound2 hK l L' h') G a w hs Q hQ)
   ·rename_i hg
    exact LopsW.skip (o:=⟨dst,op,ty,pos,aft,g⟩) hg h.1 (runL_sound2 hK l _ h.2)
   ·exact hK _ L h
end Go.Lg
/-
  Lg: slices.SortFunc of a list of lists in a box, out of the kit's contract and a contract of the comparing function.
-/
namespace Go.Lg
open Go Go.RowKit
theorem world_grown {w w':World} (hsz:w.heap.size≤w'.heap.size) (hdr:w.drawn≤w'.drawn) (hold:∀b,b<w.heap.size→w'.heap[b]?=w.heap[b]?) (hos:w'.os=w.os) (htape:w'.tape=w.tape) (hout:w'.output=w.output) :
  ∃q os',w'=Go.Sort.grow (w.drewN q) os':=by
 refine⟨w'.drawn-w.drawn,w'.heap.extract w.heap.size w'.heap.size,?_⟩
 have hheap:w'.heap=w.heap++w'.heap.extract w.heap.size w'.heap.size:=by
  refine Array.ext_getElem? fun k=>?_
  by_cases hk:k<w.heap.size
  ·rw[Array.getElem?_append_left hk,hold k hk]
  ·rw[Array.getElem?_append_right (by omega)]
   by_cases hk':k<w'.heap.size
   ·rw[Array.getElem?_extract]
    simp only[show w.heap.size+(k-w.heap.size)=k by omega]
    rw[if_pos (by omega)]
   ·rw[Array.getElem?_eq_none (by omega),Array.getElem?_eq_none (by simp;omega)]
 obtain⟨h1,h2,h3,h4,h5⟩:=w'
 obtain⟨k1,k2,k3,k4,k5⟩:=w
 simp only at hdr hos htape hout hheap
 unfold Go.Sort.grow World.drewN
 simp only
 subst hos;subst htape;subst hout
 congr 1
 omega
theorem sim_grown {G0:Ghost} {w w':World} {L':LS} {G':Ghost} {a':Act} (h:Sim (baseOf G0 w [] []) L' G' a' w'):∃q os',w'=Go.Sort.grow (w.drewN q) os':=by
 have hW:=h.W
 refine world_grown hW.sz (hW.dr.resolve_left (fun h=>h)) (fun b hb=>(hW.old b hb ?_).1) hW.os hW.tape hW.out
 rintro (⟨p,hp,_⟩|⟨k,hk,_⟩)
 ·cases hp
 ·cases hk
structure GOk (G:Ghost) (w:World):Prop where
 binj:∀i j g,G.β i=some g→G.β j=some g→i=j
 blt:∀i g,G.β i=some g→g<w.heap.size
 lablt:∀b,G.lab b≠[]→b<w.heap.size
 blab:∀i g,G.β i=some g→G.lab g=[]
theorem fc_pure {S:Setup} {f:FuncId} {ds:List D} {d:D} (fc:FC S f [] [] [] ds d [] []) {G:Ghost} {w:World} (hG:GOk G w) {vals:Array Value} (hv:vals.size=ds.length) (hr:∀(j:Nat) d v,ds[j]?=some d→vals[j]?=some v→Rel G w d v) :
  Calls S.P f vals w fun e w'=>∃v G',e=.returned v∧Rel G' w' d v∧∃q os',w'=Go.Sort.grow (w.drewN q) os':=by
 let G1:Ghost:={G with τ:=fun _=>none}
 have hm1:Mono G G1 w w:=⟨fun _ _ _ h1 h2=>⟨h1,h2⟩,fun _ _=>rfl,fun _ _ _ h=>h⟩
 have r1:∀ {d v},Rel G w d v→Rel G1 w d v:=fun hr=>hr.mono hm1 (fun _ _ _ h=>h) (fun _ _=>.inl rfl)
 have hstart:Sim (baseOf G1 w [] []) ⟨ds.length,enumD 0 ds,[],[],[],[]⟩ G1 ⟨vals,[]⟩ w:=by
  refine⟨rfl,hv,fun t d hd=>?_,?_,fun p hp=>by cases hp⟩
  ·rw[look_enumD] at hd
   simp only[Nat.zero_le,if_true,Nat.sub_zero] at hd
   have hlt:t<vals.size:=by rw[hv];exact(List.getElem?_eq_some_iff.1 hd).1
   exact⟨vals[t],by simp[hlt],r1 (hr t d _ hd (by simp[hlt]))⟩
  ·exact {
    boxes:=fun id cs hl=>by cases hl
    robs:=fun id cs hl=>by cases hl
    toks:=fun k hk=>by cases hk
    tau:=fun k g e z hk=>by cases hk
    tinj:=fun k k' g e z e' z' hk=>by cases hk
    binj:=hG.binj
    blt:=hG.blt
    lablt:=hG.lablt
    old:=fun _ _ _=>⟨rfl,rfl⟩
    olda:=fun _ _=>⟨Nat.le_refl _,fun _ _ _ h=>h⟩
    oldl:=fun _ _ _=>rfl
    tlab:=fun k g e z hk=>by cases hk
    blab:=hG.blab
    oldu:=fun _ _ _ h=>h
    labw:=fun b hb hor=>by
     rcases hor with hor|(⟨p,hp,_⟩|⟨k,hk,_⟩)
     ·exact absurd (hG.lablt b hb) (Nat.not_lt.2 hor)
     ·cases hp
     ·cases hk
    ids:=fun p hp=>by cases hp
    sz:=Nat.le_refl _
    os:=rfl
    tape:=rfl
    out:=rfl
    dr:=.inr (Nat.le_refl _)}
 refine(fc.2 w G1 vals hstart).mono ?_
 rintro e w' ⟨v,G',he,hend⟩
 obtain⟨v',h1,h2⟩:=hend.env 0 d (by simp[look])
 obtain rfl:v=v':=by simpa using h1
 exact⟨v,G',he,h2,sim_grown hend⟩
end Go.Lg
/-
  Lg: labels of new lists are given anew (a sort has put the lists into another order); bodies whose base is known to bear no label with a given head.
-/
namespace Go.Lg
open Go Go.RowKit
mutual
def D.rl (f:List Nat→List Nat):D→D
 | .sl (.lab l) xs=>.sl (.lab (f l)) (D.rlL f xs)
 | .sl tk xs=>.sl tk (D.rlL f xs)
 | .agg cs=>.agg (D.rlL f cs)
 | .tup cs=>.tup (D.rlL f cs)
 | .imm cs=>.imm (D.rlL f cs)
 | .fn g cs=>.fn g (D.rlL f cs)
 | d=>d
def D.rlL (f:List Nat→List Nat):List D→List D
 | []=>[]
 | d::ds=>d.rl f::D.rlL f ds
end
mutual
def D.noP:D→Bool
 | .pred _=>false
 | .sl _ xs|.agg xs|.tup xs|.imm xs|.fn _ xs=>D.noPL xs
 | _=>true
def D.noPL:List D→Bool
 | []=>true
 | d::ds=>d.noP&&D.noPL ds
end
theorem rlL_map (f:List Nat→List Nat) (ds:List D):D.rlL f ds=ds.map (D.rl f):=by
 induction ds with
 | nil=>rfl
 | cons d r ih=>simp[D.rlL,ih]
theorem noPL_mem {ds:List D} (h:D.noPL ds=true) {d:D} (hd:d∈ds):d.noP=true:=by
 induction ds with
 | nil=>cases hd
 | cons x r ih =>
  simp only[D.noPL,Bool.and_eq_true] at h
  rcases List.mem_cons.1 hd with rfl|hd
  ·exact h.1
  ·exact ih h.2 hd
theorem noPL_of {ds:List D} (h:∀d∈ds,d.noP=true):D.noPL ds=true:=by
 induction ds with
 | nil=>rfl
 | cons x r ih=>simp only[D.noPL,Bool.and_eq_true];exact⟨h x List.mem_cons_self,ih fun d hd=>h d (List.mem_cons_of_mem _ hd)⟩
theorem rl_cells (f:List Nat→List Nat) (d:D):(d.rl f).cells=d.cells.map (D.rl f):=by
 cases d with
 | agg cs=>simp[D.rl,D.cells,rlL_map]
 | sl tk xs=>cases tk<;>simp[D.rl,D.cells]
 | _=>simp[D.rl,D.cells]
theorem rl_flat (f:List Nat→List Nat) (xs:List D):flat (D.rlL f xs)=(flat xs).map (D.rl f):=by
 induction xs with
 | nil=>rfl
 | cons d r ih=>simp[flat,D.rlL,rl_cells] at ih ⊢;exact ih
theorem rl_memOk (f:List Nat→List Nat) {d:D} (h:d.memOk=true):(d.rl f).memOk=true:=by
 cases d with
 | sl tk xs=>cases tk<;>first|rfl|(simp[D.memOk] at h)
 | fn g cap =>
  obtain rfl:cap=[]:=by simpa[D.memOk] using h
  rfl
 | _=>exact h
theorem noP_cells {x:D} (h:x.noP=true):∀d∈x.cells,d.noP=true:=by
 cases x with
 | agg cs=>exact fun d hd=>noPL_mem (ds:=cs) (by simpa[D.noP] using h) hd
 | _=>intro d hd;rw[show d=_ from List.mem_singleton.1 hd];exact h
theorem noP_flat {xs:List D} (h:D.noPL xs=true):∀d∈flat xs,d.noP=true:=fun d hd=>by
 obtain⟨x,hx,hd⟩:=List.mem_flatMap.1 hd
 exact noP_cells (noPL_mem h hx) d hd
theorem rl_rel {f:List Nat→List Nat} (hf:∀l,l≠[]→f l≠[]) {G:Ghost} {w:World} {d:D} {v:Value} (h:Rel G w d v):d.noP=true→Rel {G with lab:=fun b=>f (G.lab b)} w (d.rl f) v:=by
 have hj:∀ {ds:List D} {j:Nat} {d:D},(D.rlL f ds)[j]?=some d→∃d0,ds[j]?=some d0∧d=d0.rl f:=fun {ds j d} h=>by
  rw[rlL_map,List.getElem?_map] at h
  obtain⟨d0,h1,h2⟩:=Option.map_eq_some_iff.1 h
  exact⟨d0,h1,h2.symm⟩
 induction h with
 | int=>exact fun _=>.int
 | bool=>exact fun _=>.bool
 | str=>exact fun _=>.str
 | box hb=>exact fun _=>.box hb
 | ms hb hc hn=>exact fun _=>.ms hb hc hn
 | vw hb hc hn=>exact fun _=>.vw hb hc hn
 | raw h=>exact fun _=>.raw h
 | pred=>intro h;simp[D.noP] at h
 | agg hlen hr ih =>
  intro h
  refine .agg (by rw[rlL_map,List.length_map];exact hlen) fun j d v h1 hv=>?_
  obtain⟨d0,h2,rfl⟩:=hj h1
  exact ih j d0 v h2 hv (noPL_mem (by simpa[D.noP] using h) (List.mem_of_getElem? h2))
 | tup hlen hr ih =>
  intro h
  refine .tup (by rw[rlL_map,List.length_map];exact hlen) fun j d v h1 hv=>?_
  obtain⟨d0,h2,rfl⟩:=hj h1
  exact ih j d0 v h2 hv (noPL_mem (by simpa[D.noP] using h) (List.mem_of_getElem? h2))
 | fn hlen hr ih =>
  intro h
  refine .fn (by rw[rlL_map,List.length_map];exact hlen) fun j d v h1 hv=>?_
  obtain⟨d0,h2,rfl⟩:=hj h1
  exact ih j d0 v h2 hv (noPL_mem (by simpa[D.noP] using h) (List.mem_of_getElem? h2))
 | @imm cs b o hk hst hr ih =>
  intro h
  refine .imm (b:=b) (o:=o) (fun d hd=>?_) (fun j d h1=>?_) (fun j d v h1 hv=>?_)
  ·rw[rlL_map] at hd
   obtain⟨d0,h1,rfl⟩:=List.mem_map.1 hd
   exact rl_memOk f (hk d0 h1)
  ·obtain⟨d0,h2,rfl⟩:=hj h1
   exact hst j d0 h2
  ·obtain⟨d0,h2,rfl⟩:=hj h1
   exact ih j d0 v h2 hv (noPL_mem (by simpa[D.noP] using h) (List.mem_of_getElem? h2))
 | @sl tk0 xs A n c b o s hn hc hm ht hA hu hk hst hr ih =>
  intro h
  have hP:D.noPL xs=true:=by simpa[D.noP] using h
  have hnil:xs=[]→D.rlL f xs=[]:=fun e=>by rw[e];rfl
  have hlen:(D.rlL f xs).length=xs.length:=by rw[rlL_map,List.length_map]
  have key:∀tk1,TkOk {G with lab:=fun b=>f (G.lab b)} w tk1 (D.rlL f xs) A n c→Rel {G with lab:=fun b=>f (G.lab b)} w (.sl tk1 (D.rlL f xs)) (.slice A n c):=fun tk1 ht1=>by
   refine .sl (b:=b) (o:=o) (s:=s) (hn.trans hlen.symm) hc hm ht1 (hA.imp hnil id) (fun x hx=>?_) (fun d hd=>?_) (fun j d h1=>?_) (fun j d v h1 hv=>?_)
   ·rw[rlL_map] at hx
    obtain⟨x0,h1,rfl⟩:=List.mem_map.1 hx
    rw[rl_cells,List.length_map];exact hu x0 h1
   ·rw[rl_flat] at hd
    obtain⟨d0,h1,rfl⟩:=List.mem_map.1 hd
    exact rl_memOk f (hk d0 h1)
   ·rw[rl_flat,List.getElem?_map] at h1
    obtain⟨d0,h2,rfl⟩:=Option.map_eq_some_iff.1 h1
    exact hst j d0 h2
   ·rw[rl_flat,List.getElem?_map] at h1
    obtain⟨d0,h2,rfl⟩:=Option.map_eq_some_iff.1 h1
    exact ih j d0 v h2 hv (noP_flat hP d0 (List.mem_of_getElem? h2))
  cases tk0 with
  | lab l =>
   refine key (.lab (f l)) ?_
   rcases ht with ht|⟨g,o',e1,e2,e3⟩
   ·exact .inl (hnil ht)
   ·exact .inr ⟨g,o',e1,by show f (G.lab g)=f l;rw[e2],hf l e3⟩
  | own k e z =>
   refine key (.own k e z) ?_
   simp only[TkOk] at ht ⊢
   generalize G.τ k=x at *
   match x,ht with
   | none,_=>exact trivial
   | some none,ht=>exact ht
   | some (some (g,e',z')),ht =>
    obtain⟨e1,e2,e3,e4,e5⟩:=ht
    refine⟨e1,e2,e3,e4,fun x hx=>?_⟩
    rw[rlL_map] at hx
    obtain⟨x0,h1,rfl⟩:=List.mem_map.1 hx
    rw[rl_cells,List.length_map];exact e5 x0 h1
  | que k e =>
   refine key (.que k e) ?_
   simp only[TkOk] at ht ⊢
   generalize G.τ k=x at *
   match x,ht with
   | none,_=>exact trivial
   | some none,ht=>exact ht
   | some (some (g,e',z')),ht =>
    obtain⟨e1,h0|⟨o1,e2,e3,e4,e5⟩⟩:=ht
    ·exact⟨e1,.inl h0⟩
    refine⟨e1,.inr ⟨o1,e2,e3,e4,fun x hx=>?_⟩⟩
    rw[rlL_map] at hx
    obtain⟨x0,h1,rfl⟩:=List.mem_map.1 hx
    rw[rl_cells,List.length_map];exact e5 x0 h1
  | any=>exact key .any ht
  | nil=>exact key .nil ht
  | nl=>exact key .nl ht
  | nn=>exact key .nn ht
  | full=>exact key .full ht
def Base.off (B:Base) (N:Nat):Prop:=(∀b,¬B.ab b)∧∀b l,B.lab b≠N::l
theorem relab_sim {B:Base} {N:Nat} (hB:B.off N) {f:List Nat→List Nat} (hf:∀l,l≠[]→f l≠[]) (hfN:∀l,(∀r,l≠N::r)→f l=l) {L:LS} {G:Ghost} {a:Act} {w:World} (hs:Sim B L G a w)
  (env':List (Nat×D)) (bx':List (Nat×List D)) (henv:∀p∈env',∃d,look L.env p.1=some d∧d.noP=true∧p.2=d.rl f) (hbx:∀p∈bx',∃cs,look L.boxes p.1=some cs∧D.noPL cs=true∧p.2=D.rlL f cs) :
  ∃G',Sim B ⟨L.n,env',bx',[],L.toks,L.fix⟩ G' a w:=by
 have hW:=hs.W
 have h0:f []=[]:=hfN [] fun r e=>by cases e
 have hne:∀ {l},f l≠[]→l≠[]:=fun h e=>h (by rw[e,h0])
 refine⟨{G with lab:=fun b=>f (G.lab b)},hs.defers,hs.size,fun t d hd=>?_,?_,hs.fixed⟩
 ·obtain⟨d0,h1,h2,h3⟩:=henv _ (mem_of_look hd)
  simp only at h3
  subst h3
  obtain⟨v,h4,h5⟩:=hs.env t d0 h1
  exact⟨v,h4,rl_rel hf h5 h2⟩
 ·exact {
   boxes:=fun id cs hl=>by
    obtain⟨cs0,h1,h2,h3⟩:=hbx _ (mem_of_look hl)
    simp only at h3
    subst h3
    obtain⟨g,k1,⟨vs,e,e1,e2,e3⟩,k3,k4⟩:=hW.boxes id cs0 h1
    refine⟨g,k1,⟨vs,e,e1,by rw[rlL_map,List.length_map];exact e2,fun j d v hd hv=>?_⟩,k3,k4⟩
    rw[rlL_map,List.getElem?_map] at hd
    obtain⟨d0,h4,rfl⟩:=Option.map_eq_some_iff.1 hd
    exact rl_rel hf (e3 j d0 v h4 hv) (noPL_mem h2 (List.mem_of_getElem? h4))
   robs:=fun id cs hl=>by cases hl
   toks:=hW.toks
   tau:=hW.tau
   tinj:=hW.tinj
   binj:=hW.binj
   blt:=hW.blt
   lablt:=fun b hb=>hW.lablt b (hne hb)
   old:=hW.old
   olda:=hW.olda
   oldl:=fun b hlt hb=>by
    show f (G.lab b)=B.lab b
    rw[hW.oldl b hlt hb]
    exact hfN _ (hB.2 b)
   tlab:=fun k g e z hk=>by
    show f (G.lab g)=[]
    rw[hW.tlab k g e z hk,h0]
   blab:=fun i g hi=>by
    show f (G.lab g)=[]
    rw[hW.blab i g hi,h0]
   oldu:=fun b hlt hn hb=>by
    show f (G.lab b)=[]
    rw[hW.oldu b hlt hn hb,h0]
   labw:=fun b hb hor=>hW.labw b (hne hb) hor
   ids:=hW.ids
   sz:=hW.sz
   os:=hW.os
   tape:=hW.tape
   out:=hW.out
   dr:=hW.dr}
theorem sw_relab {S:Setup} {R:LS→Prop} {kk:List VItem} {B:Base} {N:Nat} (hB:B.off N) {f:List Nat→List Nat} (hf:∀l,l≠[]→f l≠[]) (hfN:∀l,(∀r,l≠N::r)→f l=l) {L:LS}
  (env':List (Nat×D)) (bx':List (Nat×List D)) (henv:∀p∈env',∃d,look L.env p.1=some d∧d.noP=true∧p.2=d.rl f) (hbx:∀p∈bx',∃cs,look L.boxes p.1=some cs∧D.noPL cs=true∧p.2=D.rlL f cs)
  (h:SW S B R kk ⟨L.n,env',bx',[],L.toks,L.fix⟩):SW S B R kk L:=fun G a w hs=>by
 obtain⟨G',h'⟩:=relab_sim hB hf hfN hs env' bx' henv hbx
 exact h G' a w h'
theorem exists_off {G:Ghost} {w:World} (h:∀b,G.lab b≠[]→b<w.heap.size):∃N,∀b l,G.lab b≠N::l:=by
 have:∀n,∃N,∀b,b<n→∀m l,G.lab b=m::l→m<N:=fun n=>by
  induction n with
  | zero=>exact⟨0,fun b hb=>absurd hb (by omega)⟩
  | succ n ih =>
   obtain⟨N,hN⟩:=ih
   refine⟨max N ((G.lab n).headD 0+1),fun b hb m l e=>?_⟩
   rcases Nat.lt_succ_iff_lt_or_eq.1 hb with hb|rfl
   ·have:=hN b hb m l e;omega
   ·rw[e];simp only[List.headD_cons];omega
 obtain⟨N,hN⟩:=this w.heap.size
 exact⟨N,fun b l e=>absurd (hN b (h b (by rw[e];simp)) N l e) (by omega)⟩
theorem fc_bodyF {S:Setup} {f:FuncId} {fn:Func} {c:Code} {ro:List (Nat×List D)} {args:List D} {d:D}
  (hf:S.P.funcs[f]?=some fn) (hb:fn.body=some c) (hname:(fn.name == "runtime.NumGoroutine")=false) (hn:args.length≤fn.ntmps)
  (h:∀B N,B.off N→SW S B (Ret S fn.results.toList d []) [.code c] ⟨fn.ntmps,enumD 0 args,[],ro,[],[]⟩):FC S f ro [] [] args d [] []:=by
 refine⟨⟨fn,hf,hname,by rw[hb];rfl⟩,fun w G vals hs=>?_⟩
 obtain⟨N,hN⟩:=exists_off hs.W.lablt
 have hB:(baseOf G w [] []).off N:=by
  refine⟨fun b hb=>?_,hN⟩
  rcases hb with⟨p,hp,_⟩|⟨k,hk,_⟩
  ·cases hp
  ·cases hk
 refine calls_of_sw hf hb hn hs (h _ N hB) fun G' L' a' w' hs' hr=>?_
 obtain⟨d0,v,⟨h1,h2⟩,h3,h4⟩:=resY_sound hs' hr
 refine⟨v,h3,v,{G' with τ:=fun _=>none},rfl,rfl,rfl,fun t d' hd=>?_,?_,hs.fixed⟩
 ·simp only[look] at hd
  split at hd
  ·rename_i ht
   subst ht
   obtain rfl:=Option.some.inj hd
   refine⟨v,rfl,?_⟩
   exact(h4.le h1).mono (show Mono G' {G' with τ:=fun _=>none} w' w' from⟨fun _ _ _ h1 h2=>⟨h1,h2⟩,fun _ _=>rfl,fun _ _ _ h=>h⟩) (fun _ _ _ h=>h) (fun _ _=>.inl rfl)
  ·cases hd
 ·exact simW_noTok (hs'.W.less h2 (ro':=[]) (by simp) (tk':=[]) (by simp))
theorem fcbF {S:Setup} {f:FuncId} {fn:Func} {c:Code} {ro:List (Nat×List D)} {args:List D} {d:D} {L0:LS} (hf:S.P.funcs[f]?=some fn) (h:∀(B:Base) N,B.off N→SW S B (Ret S fn.results.toList d []) [.code c] L0) (hb:fn.body=some c:=by exact rfl) (hname:(fn.name == "runtime.NumGoroutine")=false:=by kernel_rfl) (hn:Nat.ble args.length fn.ntmps=true:=by kernel_rfl) (e:(⟨fn.ntmps,enumD 0 args,[],ro,[],[]⟩:LS)=L0:=by
 simp only[go_sem]
 rfl):FC S f ro [] [] args d [] []:=fc_bodyF hf hb hname (Nat.le_of_ble_eq_true hn) (by rw[e];exact h)
end Go.Lg
/-
  Lg: what does not read an own list (by kind, token or box).
-/
namespace Go.Lg
open Go Go.RowKit
mutual
def D.safe (k:Nat) (tk:List Nat):D→Bool
 | .int ..|.bool _|.str _|.box ..|.ms ..|.vw ..|.raw _=>true
 | .sl (.own k' _ _) xs=>(k' != k)&&tk.contains k'&&D.safeL k tk xs
 | .sl (.que _ _) _=>false
 | .sl (.lab _) xs=>D.safeL k tk xs
 | .sl _ xs=>D.scaL xs
 | .agg cs|.tup cs|.fn _ cs=>D.safeL k tk cs
 | .imm cs=>cs.isEmpty
 | .pred _=>false
def D.safeL (k:Nat) (tk:List Nat):List D→Bool
 | []=>true
 | d::ds=>d.safe k tk&&D.safeL k tk ds
def D.scaL:List D→Bool
 | []=>true
 | d::ds=>d.sca&&D.scaL ds
end
theorem safeL_mem {k:Nat} {tk:List Nat} {ds:List D} (h:D.safeL k tk ds=true) {d:D} (hd:d∈ds):d.safe k tk=true:=by
 induction ds with
 | nil=>cases hd
 | cons x r ih =>
  simp only[D.safeL,Bool.and_eq_true] at h
  rcases List.mem_cons.1 hd with rfl|hd
  ·exact h.1
  ·exact ih h.2 hd
theorem safeL_of {k:Nat} {tk:List Nat} {ds:List D} (h:∀d∈ds,d.safe k tk=true):D.safeL k tk ds=true:=by
 induction ds with
 | nil=>rfl
 | cons x r ih=>simp only[D.safeL,Bool.and_eq_true];exact⟨h x List.mem_cons_self,ih fun d hd=>h d (List.mem_cons_of_mem _ hd)⟩
theorem scaL_mem {ds:List D} (h:D.scaL ds=true) {d:D} (hd:d∈ds):d.sca=true:=by
 induction ds with
 | nil=>cases hd
 | cons x r ih =>
  simp only[D.scaL,Bool.and_eq_true] at h
  rcases List.mem_cons.1 hd with rfl|hd
  ·exact h.1
  ·exact ih h.2 hd
theorem scaL_of {ds:List D} (h:∀d∈ds,d.sca=true):D.scaL ds=true:=by
 induction ds with
 | nil=>rfl
 | cons x r ih=>simp only[D.scaL,Bool.and_eq_true];exact⟨h x List.mem_cons_self,ih fun d hd=>h d (List.mem_cons_of_mem _ hd)⟩
theorem scaL_ints (xs:List Int) (k:IntKind):D.scaL (xs.map (.int k))=true:=scaL_of fun d hd=>by
 obtain⟨x,_,rfl⟩:=List.mem_map.1 hd;rfl
theorem safe_cells {k:Nat} {tk:List Nat} {x:D} (h:x.safe k tk=true):∀d∈x.cells,d.safe k tk=true:=by
 cases x with
 | agg cs=>exact fun d hd=>safeL_mem (ds:=cs) (by simpa[D.safe] using h) hd
 | _=>intro d hd;rw[show d=_ from List.mem_singleton.1 hd];exact h
theorem safeL_flat {k:Nat} {tk:List Nat} {xs:List D} (h:D.safeL k tk xs=true):∀d∈flat xs,d.safe k tk=true:=fun d hd=>by
 obtain⟨x,hx,hd⟩:=List.mem_flatMap.1 hd
 exact safe_cells (safeL_mem h hx) d hd
theorem scaL_flat {xs:List D} (h:D.scaL xs=true):∀d∈flat xs,d.sca=true:=fun d hd=>by
 obtain⟨x,hx,hd⟩:=List.mem_flatMap.1 hd
 have:=scaL_mem h hx
 cases x<;>simp[D.cells,D.sca] at hd this ⊢<;>subst hd<;>rfl
mutual
theorem safe_tks {k:Nat} {tk:List Nat}:∀(d:D),d.safe k tk=true→∀k'∈d.tks,k'≠k
 | .int ..,_,_,h=>by simp[D.tks] at h
 | .bool _,_,_,h=>by simp[D.tks] at h
 | .str _,_,_,h=>by simp[D.tks] at h
 | .box ..,_,_,h=>by simp[D.tks] at h
 | .ms ..,_,_,h=>by simp[D.tks] at h
 | .vw ..,_,_,h=>by simp[D.tks] at h
 | .raw _,_,_,h=>by simp[D.tks] at h
 | .imm _,_,_,h=>by simp[D.tks] at h
 | .pred _,_,_,h=>by simp[D.tks] at h
 | .sl tk0 xs,hs,k',h=>by
  cases tk0 with
  | own k2 e z =>
   simp only[D.tks,List.mem_singleton] at h
   subst h
   simp only[D.safe,Bool.and_eq_true,bne_iff_ne] at hs
   exact hs.1.1
  | que k2 e=>simp[D.safe] at hs
  | _=>simp[D.tks] at h
 | .agg cs,hs,k',h=>safeL_tks cs (by simpa[D.safe] using hs) k' (by simpa[D.tks] using h)
 | .tup cs,hs,k',h=>safeL_tks cs (by simpa[D.safe] using hs) k' (by simpa[D.tks] using h)
 | .fn _ cs,hs,k',h=>safeL_tks cs (by simpa[D.safe] using hs) k' (by simpa[D.tks] using h)
theorem safeL_tks {k:Nat} {tk:List Nat}:∀(ds:List D),D.safeL k tk ds=true→∀k'∈D.tksL ds,k'≠k
 | [],_,_,h=>by simp[D.tksL] at h
 | d::ds,hs,k',h=>by
  simp only[D.safeL,Bool.and_eq_true] at hs
  simp only[D.tksL,List.mem_append] at h
  rcases h with h|h
  ·exact safe_tks d hs.1 k' h
  ·exact safeL_tks ds hs.2 k' h
end
def Ghost.hide (G:Ghost) (g:Nat):Ghost:={G with lim:=fun b=>if b=g then 0 else G.lim b}
theorem safe_hide {G:Ghost} {w:World} {k g:Nat} {tk:List Nat} (htk:∀k'∈tk,∃x,G.τ k'=some x) (hinj:∀k' e z,G.τ k'=some (some (g,e,z))→k'=k) (hlab:G.lab g=[])
  (hsl:∀o v,o<G.lim g→w.cell? ⟨g,o,none⟩=some v→∃A n c,v=.slice A n c) {d:D} {v:Value} (h:Rel G w d v):d.safe k tk=true→Rel (G.hide g) w d v:=by
 have hl:∀b,b≠g→(G.hide g).lim b=G.lim b:=fun b hb=>by simp[Ghost.hide,hb]
 induction h with
 | int=>exact fun _=>.int
 | bool=>exact fun _=>.bool
 | str=>exact fun _=>.str
 | box hb=>exact fun _=>.box hb
 | ms hb hc hn=>exact fun _=>.ms hb hc hn
 | vw hb hc hn=>exact fun _=>.vw hb hc hn
 | raw h=>exact fun _=>.raw h
 | pred=>intro h;simp[D.safe] at h
 | agg hlen hr ih=>exact fun h=>.agg hlen fun j d v hj hv=>ih j d v hj hv (safeL_mem (by simpa[D.safe] using h) (List.mem_of_getElem? hj))
 | tup hlen hr ih=>exact fun h=>.tup hlen fun j d v hj hv=>ih j d v hj hv (safeL_mem (by simpa[D.safe] using h) (List.mem_of_getElem? hj))
 | fn hlen hr ih=>exact fun h=>.fn hlen fun j d v hj hv=>ih j d v hj hv (safeL_mem (by simpa[D.safe] using h) (List.mem_of_getElem? hj))
 | @imm cs b o hk hst hr ih =>
  intro h
  obtain rfl:cs=[]:=by simpa[D.safe] using h
  exact .imm (b:=b) (o:=o) (fun d hd=>by cases hd) (fun j d hj=>by simp at hj) (fun j d v hj=>by simp at hj)
 | @sl tk0 xs A n c b o s hn hc hm ht hA hu hk hst hr ih =>
  intro h
  have key:(∀d∈flat xs,d.safe k tk=true)→(flat xs=[]∨b≠g)→TkOk (G.hide g) w tk0 xs A n c→Rel (G.hide g) w (.sl tk0 xs) (.slice A n c):=fun hs hor ht'=>by
   refine .sl (b:=b) (o:=o) hn hc hm ht' hA hu hk (fun j d hj=>?_) (fun j d v hj hv=>?_)
   ·obtain⟨h1,h2⟩:=hst j d hj
    have hb:b≠g:=hor.resolve_left (by rintro e;rw[e] at hj;simp at hj)
    exact⟨by rw[hl b hb];exact h1,h2⟩
   ·exact ih j d v hj hv (hs d (List.mem_of_getElem? hj))
  have plain:D.scaL xs=true→TkOk (G.hide g) w tk0 xs A n c→Rel (G.hide g) w (.sl tk0 xs) (.slice A n c):=fun hs ht'=>by
   have hsc:=scaL_flat hs
   refine key (fun d hd=>?_) ?_ ht'
   ·have:=hsc d hd
    cases d<;>first|rfl|(simp[D.sca] at this)
   ·cases hf:flat xs with
    | nil=>exact .inl rfl
    | cons d0 r =>
     right
     rintro rfl
     have h0:(flat xs)[0]?=some d0:=by rw[hf];rfl
     obtain⟨h1,v,h2⟩:=hst 0 d0 h0
     obtain⟨A',n',c',rfl⟩:=hsl _ _ h1 h2
     have h3:=hr 0 d0 _ h0 h2
     have h4:=hsc d0 (by rw[hf];exact List.mem_cons_self)
     cases h3<;>simp[D.sca] at h4
  cases tk0 with
  | que k2 e=>simp[D.safe] at h
  | any=>exact plain (by simpa[D.safe] using h) ht
  | nil=>exact plain (by simpa[D.safe] using h) ht
  | nl=>exact plain (by simpa[D.safe] using h) ht
  | nn=>exact plain (by simpa[D.safe] using h) ht
  | full=>exact plain (by simpa[D.safe] using h) ht
  | lab l =>
   refine key (safeL_flat (by simpa[D.safe] using h)) ?_ ht
   rcases ht with rfl|⟨g',o',e1,e2,e3⟩
   ·exact .inl rfl
   ·rcases hA with rfl|hA
    ·exact .inl rfl
    ·right
     rintro rfl
     rw[e1] at hA
     simp only[Option.some.injEq,Addr.mk.injEq] at hA
     rw[hA.1] at e2
     exact e3 (by rw[←e2,hlab])
  | own k' e z =>
   simp only[D.safe,Bool.and_eq_true,bne_iff_ne,ne_eq,List.contains_eq_mem,decide_eq_true_eq] at h
   obtain⟨⟨h1,h2⟩,h3⟩:=h
   obtain⟨x,hx⟩:=htk k' h2
   simp only[TkOk,hx] at ht
   match x,hx,ht with
   | none,hx,ht =>
    have:xs=[]:=List.length_eq_zero_iff.1 (hn.symm.trans ht.1)
    subst this
    exact key (safeL_flat h3) (.inl rfl) (by simp only[TkOk,show (G.hide g).τ k'=some none from hx];exact ht)
   | some (g',e',z'),hx,ht =>
    have hg:g'≠g:=by rintro rfl;exact h1 (hinj k' e' z' hx)
    refine key (safeL_flat h3) ?_ ?_
    ·rcases hA with rfl|hA
     ·exact .inl rfl
     ·right
      rintro rfl
      rw[ht.2.1] at hA
      simp only[Option.some.injEq,Addr.mk.injEq] at hA
      exact hg hA.1
    ·simp only[TkOk,show (G.hide g).τ k'=some (some (g',e',z')) from hx]
     rw[hl g' hg]
     exact ht
abbrev intsT (p:Tk×List Int):D:=.sl p.1 (p.2.map (.int .i64))
theorem flat_intsT (ps:List (Tk×List Int)):flat (ps.map intsT)=ps.map intsT:=by
 induction ps with
 | nil=>rfl
 | cons p r ih=>simp[flat] at ih ⊢;simp[D.cells,ih]
end Go.Lg
