/-
  Lg: LgRel, LgSim, LgCall, LgOps, LgOpsS, LgBuild, LgOpW, LgBox, one behind the other.
-/
import Derived.WalkKit
import Derived.Below
import Derived.Still
import Derived.Laws.AppendOwn
import Derived.Laws.Tables
import Derived.Laws.Cells
import Derived.Laws.Small
import Derived.Laws.Slices
import Derived.Laws.Strings
import Derived.Laws.Strings2
import Derived.Laws.Cover1
import Derived.Laws.Unary
import Derived.WalkSpells
import Derived.Great.BuildSlice
import Derived.Laws.MakeOwn
/-
  Lg, part 1: logical values ('D': lists in the place of memory), what it means that a value of the model reads as one ('Rel'), and that such a reading stands while memory grows.
-/
namespace Go.Lg
open Go

inductive Tk where
 | any|nil|nl|nn|full
 | own (k:Nat) (e:TypeId) (z:Nat)
 | que (k:Nat) (e:TypeId)
 | lab (l:List Nat)
 deriving DecidableEq,Repr

structure Ghost where
 lim:Nat→Nat
 lab:Nat→List Nat
 β:Nat→Option Nat
 τ:Nat→Option (Option (Nat×TypeId×Nat))

inductive D where
 | int (k:IntKind) (n:Int)
 | bool (b:Bool)
 | str (s:ByteArray)
 | sl (tk:Tk) (xs:List D)
 | agg (cs:List D)
 | fn (f:Nat) (cap:List D)
 | box (id off:Nat)
 | ms (id n:Nat)
 | vw (id off n:Nat)
 | imm (cs:List D)
 | tup (ds:List D)
 | raw (v:Value)
 | pred (I:Ghost→World→Value→Prop)

instance:Inhabited D:=⟨.raw undef⟩

def D.cells:D→List D
 | .agg cs=>cs
 | d=>[d]

def D.memOk:D→Bool
 | .int ..|.bool _|.str _|.imm _=>true
 | .sl (.own _ _ _) _=>false
 | .sl (.que _ _) _=>false
 | .sl _ _=>true
 | .fn _ cap=>cap.isEmpty
 | _=>false

def D.one:D→Bool
 | .agg _|.tup _|.pred _=>false
 | .raw v=>v.oneCell'
 | _=>true

mutual
def D.ids:D→List Nat
 | .box id _=>[id]
 | .ms id _=>[id]
 | .vw id _ _=>[id]
 | .agg cs=>D.idsL cs
 | .fn _ cap=>D.idsL cap
 | .tup ds=>D.idsL ds
 | _=>[]
def D.idsL:List D→List Nat
 | []=>[]
 | d::ds=>d.ids++D.idsL ds
end
mutual
def D.tks:D→List Nat
 | .sl (.own k _ _) _=>[k]
 | .sl (.que k _) _=>[k]
 | .agg cs=>D.tksL cs
 | .fn _ cap=>D.tksL cap
 | .tup ds=>D.tksL ds
 | _=>[]
def D.tksL:List D→List Nat
 | []=>[]
 | d::ds=>d.tks++D.tksL ds
end

def flat (xs:List D):List D:=xs.flatMap D.cells

def TkOk (G:Ghost) (w:World):Tk→List D→Option Addr→Nat→Nat→Prop
 | .any,_,_,_,_=>True
 | .nil,_,A,n,c=>A=none∧n=0∧c=0
 | .nl,_,A,n,_=>A=none∧n=0
 | .nn,_,A,_,_=>A≠none
 | .full,_,_,n,c=>n=c
 | .own k e z,xs,A,n,c=>match G.τ k with
  | none=>True
  | some none=>n=0∧c=0
  | some (some (g,e',z'))=>(e'=e∧z'=z)∧A=some ⟨g,0,none⟩∧n*z=G.lim g∧w.shape? g=some (e,c*z)∧∀x∈xs,x.cells.length=z
 | .que k e,xs,A,n,c=>match G.τ k with
  | none=>True
  | some none=>n=0∧c=0
  | some (some (g,e',z'))=>(e'=e∧z'=1)∧((n=0∧c=0)∨∃o,A=some ⟨g,o,none⟩∧o+n=G.lim g∧w.shape? g=some (e,o+c)∧∀x∈xs,x.cells.length=1)
 | .lab l,xs,A,_,_=>xs=[]∨∃g o,A=some ⟨g,o,none⟩∧G.lab g=l∧l≠[]

structure Mono (G G':Ghost) (w w':World):Prop where
 cell:∀b o v,o<G.lim b→w.cell? ⟨b,o,none⟩=some v→o<G'.lim b∧w'.cell? ⟨b,o,none⟩=some v
 lab:∀b,G.lab b≠[]→G'.lab b=G.lab b
 mp:∀(b:Nat) (es:Array MapEntry) (c:Nat),w.heap[b]?=some (.map es c)→w'.heap[b]?=some (.map es c)

theorem Mono.trans {G G' G'':Ghost} {w w' w'':World} (h:Mono G G' w w') (h':Mono G' G'' w' w''):Mono G G'' w w'' :=
 ⟨fun b o v h1 h2=>let ⟨q1,q2⟩:=h.cell b o v h1 h2;h'.cell b o v q1 q2,fun b hb=>(h'.lab b (by rw[h.lab b hb];exact hb)).trans (h.lab b hb),fun b es c hb=>h'.mp b es c (h.mp b es c hb)⟩
theorem Mono.refl (G:Ghost) (w:World):Mono G G w w:=⟨fun _ _ _ h1 h2=>⟨h1,h2⟩,fun _ _=>rfl,fun _ _ _ h=>h⟩

inductive Rel (G:Ghost) (w:World):D→Value→Prop
 | int {k n}:Rel G w (.int k n) (.int k n)
 | bool {b}:Rel G w (.bool b) (.bool b)
 | str {s}:Rel G w (.str s) (.string s)
 | sl {tk:Tk} {xs:List D} {A:Option Addr} {n c b o s:Nat} (hn:n=xs.length) (hc:n≤c) (hm:c≤maxLen) (ht:TkOk G w tk xs A n c)
   (hA:xs=[]∨A=some ⟨b,o,none⟩) (hu:∀x∈xs,x.cells.length=s) (hk:∀d∈flat xs,d.memOk=true)
   (hst:∀j d,(flat xs)[j]?=some d→o+j<G.lim b∧∃v,w.cell? ⟨b,o+j,none⟩=some v)
   (hr:∀j d v,(flat xs)[j]?=some d→w.cell? ⟨b,o+j,none⟩=some v→Rel G w d v):Rel G w (.sl tk xs) (.slice A n c)
 | agg {cs:List D} {vl:List Value} (hl:vl.length=cs.length) (hr:∀(j:Nat) d v,cs[j]?=some d→vl[j]?=some v→Rel G w d v):Rel G w (.agg cs) (.agg vl.toArray)
 | fn {f:Nat} {cap:List D} {vl:List Value} (hl:vl.length=cap.length) (hr:∀(j:Nat) d v,cap[j]?=some d→vl[j]?=some v→Rel G w d v):Rel G w (.fn f cap) (.func (.func f) #[] vl.toArray)
 | box {id off g:Nat} (hb:G.β id=some g):Rel G w (.box id off) (.pointer (some ⟨g,off,none⟩))
 | ms {id n c g:Nat} (hb:G.β id=some g) (hc:n≤c) (hn:c≤maxLen):Rel G w (.ms id n) (.slice (some ⟨g,0,none⟩) n c)
 | vw {id off n c g:Nat} (hb:G.β id=some g) (hc:n≤c) (hn:c≤maxLen):Rel G w (.vw id off n) (.slice (some ⟨g,off,none⟩) n c)
 | imm {cs:List D} {b o:Nat} (hk:∀d∈cs,d.memOk=true)
   (hst:∀(j:Nat) d,cs[j]?=some d→o+j<G.lim b∧∃v,w.cell? ⟨b,o+j,none⟩=some v)
   (hr:∀(j:Nat) d v,cs[j]?=some d→w.cell? ⟨b,o+j,none⟩=some v→Rel G w d v):Rel G w (.imm cs) (.pointer (some ⟨b,o,none⟩))
 | tup {ds:List D} {vl:List Value} (hl:vl.length=ds.length) (hr:∀(j:Nat) d v,ds[j]?=some d→vl[j]?=some v→Rel G w d v):Rel G w (.tup ds) (.tuple vl.toArray)
 | raw {v:Value} (h:∀cs,v≠.agg cs):Rel G w (.raw v) v
 | pred {I:Ghost→World→Value→Prop} {v:Value} (hv:∀cs,v≠.agg cs) (h:∀G' w',Mono G G' w w'→I G' w' v):Rel G w (.pred I) v

theorem memOk_ids:∀ {d:D},d.memOk=true→d.ids=[]
 | .int ..,_=>rfl
 | .bool _,_=>rfl
 | .str _,_=>rfl
 | .imm _,_=>rfl
 | .sl _ _,_=>rfl
 | .fn _ cap,h=>by
  have:cap=[]:=by simpa[D.memOk] using h
  subst this;rfl
theorem memOk_tks:∀ {d:D},d.memOk=true→d.tks=[]
 | .int ..,_=>rfl
 | .bool _,_=>rfl
 | .str _,_=>rfl
 | .imm _,_=>rfl
 | .sl tk _,h=>by cases tk<;>first|rfl|(simp[D.memOk] at h)
 | .fn _ cap,h=>by
  have:cap=[]:=by simpa[D.memOk] using h
  subst this;rfl

theorem mem_idsL {ds:List D} {d:D} {i:Nat} (h:d∈ds) (hi:i∈d.ids):i∈D.idsL ds:=by
 induction ds with
 | nil=>cases h
 | cons x r ih =>
  simp only[D.idsL,List.mem_append]
  rcases List.mem_cons.1 h with rfl|h
  ·exact .inl hi
  ·exact .inr (ih h)
theorem mem_tksL {ds:List D} {d:D} {i:Nat} (h:d∈ds) (hi:i∈d.tks):i∈D.tksL ds:=by
 induction ds with
 | nil=>cases h
 | cons x r ih =>
  simp only[D.tksL,List.mem_append]
  rcases List.mem_cons.1 h with rfl|h
  ·exact .inl hi
  ·exact .inr (ih h)

theorem Rel.mono {G G':Ghost} {w w':World} (hm:Mono G G' w w') {d:D} {v:Value} (h:Rel G w d v) :
  (∀i∈d.ids,∀g,G.β i=some g→G'.β i=some g) →
  (∀k∈d.tks,G'.τ k=none∨(G'.τ k=G.τ k∧∀g e z,G.τ k=some (some (g,e,z))→G'.lim g=G.lim g∧w'.shape? g=w.shape? g))→Rel G' w' d v:=by
 induction h with
 | int=>exact fun _ _=>.int
 | bool=>exact fun _ _=>.bool
 | str=>exact fun _ _=>.str
 | @sl tk xs A n c b o s hn hc hmx ht hA hu hk hst hr ih =>
  intro hi hkk
  refine .sl (b:=b) (o:=o) hn hc hmx ?_ hA hu hk ?_ ?_
  ·cases tk with
   | own k e z =>
    rcases hkk k (by simp[D.tks]) with h1|⟨h1,h2⟩
    ·simp only[TkOk,h1]
    ·simp only[TkOk] at ht ⊢
     rw[h1]
     generalize hg:G.τ k=x at *
     match x,hg with
     | none,_=>exact trivial
     | some none,_=>exact ht
     | some (some (g,e',z')),_ =>
      obtain⟨e1,e2,e3,e4,e5⟩:=ht
      obtain⟨k1,k2⟩:=h2 g e' z' rfl
      exact⟨e1,e2,by rw[k1];exact e3,by rw[k2];exact e4,e5⟩
   | que k e =>
    rcases hkk k (by simp[D.tks]) with h1|⟨h1,h2⟩
    ·simp only[TkOk,h1]
    ·simp only[TkOk] at ht ⊢
     rw[h1]
     generalize hg:G.τ k=x at *
     match x,hg with
     | none,_=>exact trivial
     | some none,_=>exact ht
     | some (some (g,e',z')),_ =>
      obtain⟨e1,h0|⟨o1,e2,e3,e4,e5⟩⟩:=ht
      ·exact⟨e1,.inl h0⟩
      ·obtain⟨k1,k2⟩:=h2 g e' z' rfl
       exact⟨e1,.inr ⟨o1,e2,by rw[k1];exact e3,by rw[k2];exact e4,e5⟩⟩
   | lab l =>
    rcases ht with ht|⟨g,o',e1,e2,e3⟩
    ·exact .inl ht
    ·exact .inr ⟨g,o',e1,by rw[hm.lab g (by rw[e2];exact e3)];exact e2,e3⟩
   | _=>exact ht
  ·intro j d hj
   obtain⟨h1,v,h2⟩:=hst j d hj
   have:=hm.cell b (o+j) v h1 h2
   exact⟨this.1,v,this.2⟩
  ·intro j d v hj hv
   obtain⟨h1,v',h2⟩:=hst j d hj
   have:=(hm.cell b (o+j) v' h1 h2).2
   rw[this] at hv
   obtain rfl:v'=v:=by simpa using hv
   have hmem:=hk d (List.mem_of_getElem? hj)
   exact ih j d v' hj h2 (by rw[memOk_ids hmem];simp) (by rw[memOk_tks hmem];simp)
 | @agg cs vl hl hr ih =>
  intro hi hk
  exact .agg hl fun j d v hj hv=>ih j d v hj hv (fun i hi'=>hi i (mem_idsL (List.mem_of_getElem? hj) hi')) (fun i hi'=>hk i (mem_tksL (List.mem_of_getElem? hj) hi'))
 | @fn f cap vl hl hr ih =>
  intro hi hk
  exact .fn hl fun j d v hj hv=>ih j d v hj hv (fun i hi'=>hi i (mem_idsL (List.mem_of_getElem? hj) hi')) (fun i hi'=>hk i (mem_tksL (List.mem_of_getElem? hj) hi'))
 | box hb=>exact fun hi _=>.box (hi _ (by simp[D.ids]) _ hb)
 | ms hb hc hn=>exact fun hi _=>.ms (hi _ (by simp[D.ids]) _ hb) hc hn
 | vw hb hc hn=>exact fun hi _=>.vw (hi _ (by simp[D.ids]) _ hb) hc hn
 | @imm cs b o hk hst hr ih =>
  intro _ _
  refine .imm hk ?_ ?_
  ·intro j d hj
   obtain⟨h1,v,h2⟩:=hst j d hj
   have:=hm.cell b (o+j) v h1 h2
   exact⟨this.1,v,this.2⟩
  ·intro j d v hj hv
   obtain⟨h1,v',h2⟩:=hst j d hj
   have:=(hm.cell b (o+j) v' h1 h2).2
   rw[this] at hv
   obtain rfl:v'=v:=by simpa using hv
   have hmem:=hk d (List.mem_of_getElem? hj)
   exact ih j d v' hj h2 (by rw[memOk_ids hmem];simp) (by rw[memOk_tks hmem];simp)
 | @tup ds vl hl hr ih =>
  intro hi hk
  exact .tup hl fun j d v hj hv=>ih j d v hj hv (fun i hi'=>hi i (mem_idsL (List.mem_of_getElem? hj) hi')) (fun i hi'=>hk i (mem_tksL (List.mem_of_getElem? hj) hi'))
 | raw h=>exact fun _ _=>.raw h
 | pred hv h=>exact fun _ _=>.pred hv fun G2 w2 hm2=>h G2 w2 (hm.trans hm2)

inductive D.le:D→D→Prop
 | refl (d:D):D.le d d
 | any {tk:Tk} {xs:List D}:D.le (.sl tk xs) (.sl .any xs)
 | emp {tk:Tk} {l:List Nat}:D.le (.sl tk []) (.sl (.lab l) [])
 | deep {tk:Tk} {xs ys:List D} (hl:xs.map (fun x=>x.cells.length)=ys.map (fun x=>x.cells.length)) (hf:(flat xs).length=(flat ys).length)
   (h:∀(j:Nat) c d,(flat xs)[j]?=some c→(flat ys)[j]?=some d→D.le c d):D.le (.sl tk xs) (.sl .any ys)
 | agg {cs ds:List D} (hl:cs.length=ds.length) (h:∀(j:Nat) c d,cs[j]?=some c→ds[j]?=some d→D.le c d):D.le (.agg cs) (.agg ds)
 | tup {cs ds:List D} (hl:cs.length=ds.length) (h:∀(j:Nat) c d,cs[j]?=some c→ds[j]?=some d→D.le c d):D.le (.tup cs) (.tup ds)
 | kn {I:Ghost→World→Value→Prop} {d:D} (h:∀G w v,Rel G w (.pred I) v→Rel G w d v):D.le (.pred I) d

theorem le_memOk {c d:D} (h:D.le c d) (hm:c.memOk=true):d.memOk=true:=by
 cases h with
 | refl=>exact hm
 | any=>rfl
 | emp=>rfl
 | deep=>rfl
 | agg=>cases hm
 | tup=>cases hm
 | kn=>cases hm
theorem Rel.le {G:Ghost} {w:World} {d d':D} (hle:D.le d d'):∀ {v:Value},Rel G w d v→Rel G w d' v:=by
 induction hle with
 | refl=>exact id
 | any =>
  intro v h
  cases h with
  | sl hn hc hm ht hA hu hk hst hr=>exact .sl hn hc hm trivial hA hu hk hst hr
 | emp =>
  intro v h
  cases h with
  | sl hn hc hm ht hA hu hk hst hr=>exact .sl hn hc hm (.inl rfl) hA hu hk hst hr
 | @deep tk xs ys hl hf h ih =>
  intro v hv
  cases hv with
  | @sl _ _ A n c b o s hn hc hm ht hA hu hk hst hr =>
   have hlen:xs.length=ys.length:=by simpa using congrArg List.length hl
   refine .sl (b:=b) (o:=o) (s:=s) (hn.trans hlen) hc hm trivial ?_ (fun y hy=>?_) (fun d hd=>?_) (fun j d hd=>?_) (fun j d v hd hv=>?_)
   ·rcases hA with hA|hA
    ·exact .inl (List.length_eq_zero_iff.1 (by rw[←hlen,hA];rfl))
    ·exact .inr hA
   ·obtain⟨j,hj,rfl⟩:=List.getElem_of_mem hy
    have h1:=congrArg (fun l=>l[j]?) hl
    simp only[List.getElem?_map,List.getElem?_eq_getElem hj,List.getElem?_eq_getElem (show j<xs.length by omega),Option.map_some,Option.some.injEq] at h1
    rw[←h1];exact hu _ (List.getElem_mem _)
   ·obtain⟨j,hj,rfl⟩:=List.getElem_of_mem hd
    have hj':j<(flat xs).length:=by omega
    exact le_memOk (h j _ _ (List.getElem?_eq_getElem hj') (List.getElem?_eq_getElem hj)) (hk _ (List.getElem_mem hj'))
   ·have hj':j<(flat xs).length:=by have:=(List.getElem?_eq_some_iff.1 hd).1;omega
    exact hst j _ (List.getElem?_eq_getElem hj')
   ·have hj':j<(flat xs).length:=by have:=(List.getElem?_eq_some_iff.1 hd).1;omega
    exact ih j _ _ (List.getElem?_eq_getElem hj') hd (hr j _ v (List.getElem?_eq_getElem hj') hv)
 | agg hl h ih =>
  intro v hv
  cases hv with
  | agg hl' hr =>
   refine .agg (hl'.trans hl) fun j d v hd hv=>?_
   have hlt:=(List.getElem?_eq_some_iff.1 hd).1
   exact ih j _ _ (List.getElem?_eq_getElem (by omega)) hd (hr j _ _ (List.getElem?_eq_getElem (by omega)) hv)
 | kn h=>exact fun hr=>h _ _ _ hr
 | tup hl h ih =>
  intro v hv
  cases hv with
  | tup hl' hr =>
   refine .tup (hl'.trans hl) fun j d v hd hv=>?_
   have hlt:=(List.getElem?_eq_some_iff.1 hd).1
   exact ih j _ _ (List.getElem?_eq_getElem (by omega)) hd (hr j _ _ (List.getElem?_eq_getElem (by omega)) hv)

theorem Rel.one {G:Ghost} {w:World} {d:D} {v:Value} (h:Rel G w d v) (h1:d.one=true):v.oneCell'=true:=by
 cases h<;>first|rfl|exact h1|(simp[D.one] at h1)

theorem Rel.cells {G:Ghost} {w:World} {d:D} {v:Value} (h:Rel G w d v) :
  v.cells.size=d.cells.length∧∀(j:Nat) c u,d.cells[j]?=some c→v.cells[j]?=some u→Rel G w c u:=by
 have simple:d.cells=[d]→v.cells=#[v]→v.cells.size=d.cells.length∧∀(j:Nat) c u,d.cells[j]?=some c→v.cells[j]?=some u→Rel G w c u:=by
  intro e1 e2
  rw[e1,e2]
  refine⟨rfl,fun j c u hc hu=>?_⟩
  cases j with
  | zero=>simp at hc hu;subst hc;subst hu;exact h
  | succ j=>simp at hc
 cases h with
 | agg hl hr=>exact⟨by simpa[Value.cells,D.cells] using hl,fun j c u hc hu=>hr j c u hc (by simpa[Value.cells] using hu)⟩
 | raw hv=>refine simple rfl ?_;cases v<;>first|rfl|exact absurd rfl (hv _)
 | pred hv _=>refine simple rfl ?_;cases v<;>first|rfl|exact absurd rfl (hv _)
 | _=>exact simple rfl rfl

def mvI (f:Nat) (d:D):Ghost→World→Value→Prop:=fun G w v=>∃u,v=.func (.func f) #[u] #[]∧Rel G w d u
def D.mv (f:Nat) (d:D):D:=.pred (mvI f d)
theorem Rel.mv {G:Ghost} {w:World} {f:Nat} {d:D} {u:Value} (h:Rel G w d u) (h1:d.ids=[]) (h2:d.tks=[]):Rel G w (D.mv f d) (.func (.func f) #[u] #[]) :=
 .pred (fun cs e=>by cases e) fun G' w' hm=>⟨u,rfl,h.mono hm (by rw[h1];simp) (by rw[h2];simp)⟩
theorem Rel.mv_inv {G:Ghost} {w:World} {f:Nat} {d:D} {v:Value} (h:Rel G w (.pred (mvI f d)) v):∃u,v=.func (.func f) #[u] #[]∧Rel G w d u:=by
 cases h with
 | pred hv h=>exact h G w (Mono.refl G w)

end Go.Lg
/-
  Lg, part 2: the logical state of a running function ('LS'), how it stands to the model's frame and world ('Sim'), and the contract of a function ('FC').
-/
namespace Go.Lg
open Go Go.RowKit

def look {α:Type}:List (Nat×α)→Nat→Option α
 | [],_=>none
 | (k,d)::r,t=>if k=t then some d else look r t
def setA {α:Type}:List (Nat×α)→Nat→α→List (Nat×α)
 | [],t,d=>[(t,d)]
 | (k,x)::r,t,d=>if k=t then (t,d)::r else (k,x)::setA r t d
theorem look_setA {α:Type} (l:List (Nat×α)) (t:Nat) (d:α) (t':Nat):look (setA l t d) t'=if t=t' then some d else look l t':=by
 induction l with
 | nil=>simp[setA,look]
 | cons p r ih =>
  obtain⟨k,x⟩:=p
  by_cases h:k=t
  ·subst h
   by_cases h2:k=t'<;>simp[setA,look,h2]
  ·by_cases h2:k=t'
   ·subst h2
    have:t≠k:=fun e=>h e.symm
    simp[setA,look,h,this]
   ·simp[setA,look,h,h2,ih]

structure LS where
 n:Nat
 env:List (Nat×D)
 boxes:List (Nat×List D)
 ro:List (Nat×List D)
 toks:List Nat
 fix:List Nat

def LS.get (L:LS) (t:Nat):Option D:=look L.env t
def LS.getBox (L:LS) (id:Nat):Option (List D):=match look L.boxes id with|some c=>some c|none=>look L.ro id
def LS.put (L:LS) (t:Nat) (d:D):LS:={L with env:=setA L.env t d}
def LS.putO (L:LS) (t:Option Nat) (d:D):LS:=match t with|some t=>L.put t d|none=>L

structure Base where
 w:World
 lim:Nat→Nat
 lab:Nat→List Nat
 ab:Nat→Prop
 ids:List (Nat×Nat)
 pan:List PanicEntry→Prop:=fun _=>False
 wk:Prop:=False

def BoxAt (G:Ghost) (w:World) (g:Nat) (cs:List D):Prop :=
 ∃vs e,w.heap[g]?=some (.cells vs e (0,0))∧cs.length≤vs.size∧∀(j:Nat) d v,cs[j]?=some d→vs[j]?=some v→Rel G w d v

theorem dr_c {p q:Prop} {a b c:Nat} (h:p∨a≤b) (h':q∨b≤c) (hq:q→p):p∨a≤c:=h'.elim (fun h=>.inl (hq h)) fun h'=>h.imp id fun h=>Nat.le_trans h h'
theorem dr_t {p:Prop} {a b c:Nat} (h:p∨a≤b) (h':b≤c):p∨a≤c:=h.imp id fun h=>Nat.le_trans h h'
structure SimW (B:Base) (bx ro:List (Nat×List D)) (tk:List Nat) (G:Ghost) (w:World):Prop where
 boxes:∀id cs,look bx id=some cs→∃g,G.β id=some g∧BoxAt G w g cs∧G.lim g=0∧(B.w.heap.size≤g∨B.ab g)
 robs:∀id cs,look ro id=some cs→∃g,G.β id=some g∧BoxAt G w g cs∧g<B.w.heap.size∧¬B.ab g
 toks:∀k∈tk,∃x,G.τ k=some x
 tau:∀k g e z,G.τ k=some (some (g,e,z))→(B.w.heap.size≤g∨B.ab g)∧0<z∧(∃cur,w.heap[g]?=some (.cells cur e (0,0))∧G.lim g≤cur.size)∧∀i,G.β i≠some g
 tinj:∀k k' g e z e' z',G.τ k=some (some (g,e,z))→G.τ k'=some (some (g,e',z'))→k=k'
 binj:∀i j g,G.β i=some g→G.β j=some g→i=j
 blt:∀i g,G.β i=some g→g<w.heap.size
 lablt:∀b,G.lab b≠[]→b<w.heap.size
 old:∀b,b<B.w.heap.size→¬B.ab b→w.heap[b]?=B.w.heap[b]?∧G.lim b=B.lim b
 olda:∀b,b<B.w.heap.size→B.lim b≤G.lim b∧∀o v,o<B.lim b→B.w.cell? ⟨b,o,none⟩=some v→w.cell? ⟨b,o,none⟩=some v
 oldl:∀b,b<B.w.heap.size→B.lab b≠[]→G.lab b=B.lab b
 tlab:∀k g e z,G.τ k=some (some (g,e,z))→G.lab g=[]
 blab:∀i g,G.β i=some g→G.lab g=[]
 oldu:∀b,b<B.w.heap.size→¬B.ab b→B.lab b=[]→G.lab b=[]
 labw:∀b,G.lab b≠[]→(B.w.heap.size≤b∨B.ab b)→∃vs e,w.heap[b]?=some (.cells vs e (0,0))
 ids:∀p∈B.ids,G.β p.1=some p.2
 sz:B.w.heap.size≤w.heap.size
 os:w.os=B.w.os
 tape:w.tape=B.w.tape
 out:w.output=B.w.output
 dr:B.wk∨B.w.drawn≤w.drawn

structure Sim (B:Base) (L:LS) (G:Ghost) (a:Act) (w:World):Prop where
 defers:a.defers=[]
 size:a.tmps.size=L.n
 env:∀t d,look L.env t=some d→∃v,a.tmps[t]?=some v∧Rel G w d v
 W:SimW B L.boxes L.ro L.toks G w
 fixed:∀p∈B.ids,p.1∈L.fix

theorem Sim.put {B:Base} {L:LS} {G:Ghost} {a:Act} {w:World} (h:Sim B L G a w) {t:Nat} {d:D} {v:Value} (ht:t<L.n) (hr:Rel G w d v):Sim B (L.put t d) G (a.put (some t) v) w:=by
 refine⟨h.defers,by simpa[Act.put,LS.put] using h.size,fun t' d' hd=>?_,h.W,h.fixed⟩
 simp only[LS.put,look_setA] at hd
 by_cases e:t=t'
 ·subst e
  simp only[if_true,Option.some.injEq] at hd
  subst hd
  exact⟨v,by simp[Act.put,h.size,ht],hr⟩
 ·rw[if_neg e] at hd
  obtain⟨v',hv,hr'⟩:=h.env t' d' hd
  exact⟨v',by simp only[Act.put];rw[Array.getElem?_setIfInBounds_ne e];exact hv,hr'⟩

theorem Sim.putO {B:Base} {L:LS} {G:Ghost} {a:Act} {w:World} (h:Sim B L G a w) {t:Option Nat} {d:D} {v:Value} (ht:∀t',t=some t'→t'<L.n) (hr:Rel G w d v):Sim B (L.putO t d) G (a.put t v) w:=by
 cases t with
 | none=>exact h
 | some t=>exact h.put (ht t rfl) hr

theorem Sim.move {B:Base} {L:LS} {G G':Ghost} {a:Act} {w w':World} (h:Sim B L G a w) (hW:SimW B L.boxes L.ro L.toks G' w') (hr:∀d v,Rel G w d v→Rel G' w' d v):Sim B L G' a w' :=
 ⟨h.defers,h.size,fun t d hd=>let ⟨v,h1,h2⟩:=h.env t d hd;⟨v,h1,hr d v h2⟩,hW,h.fixed⟩

def LS.covers (L L':LS):Prop :=
 L'.n=L.n∧L'.fix=L.fix∧(∀p∈L'.env,∃d,look L.env p.1=some d∧D.le d p.2)∧(∀p∈L'.boxes,look L.boxes p.1=some p.2)∧(∀p∈L'.ro,look L.ro p.1=some p.2)∧∀k∈L'.toks,k∈L.toks

theorem mem_of_look {α:Type} {l:List (Nat×α)} {t:Nat} {d:α} (h:look l t=some d):(t,d)∈l:=by
 induction l with
 | nil=>cases h
 | cons p r ih =>
  obtain⟨k,x⟩:=p
  simp only[look] at h
  by_cases e:k=t
  ·simp only[e,if_true,Option.some.injEq] at h
   subst h;subst e;exact List.mem_cons_self
  ·rw[if_neg e] at h
   exact List.mem_cons_of_mem _ (ih h)

theorem SimW.less {B:Base} {bx bx' ro ro':List (Nat×List D)} {tk tk':List Nat} {G:Ghost} {w:World} (h:SimW B bx ro tk G w) (hb:∀p∈bx',look bx p.1=some p.2)
  (hro:∀p∈ro',look ro p.1=some p.2) (ht:∀k∈tk',k∈tk):SimW B bx' ro' tk' G w :=
 {h with boxes:=fun id cs hl=>h.boxes id cs (hb (id,cs) (mem_of_look hl)),robs:=fun id cs hl=>h.robs id cs (hro (id,cs) (mem_of_look hl)),toks:=fun k hk=>h.toks k (ht k hk)}

theorem Sim.less {B:Base} {L L':LS} {G:Ghost} {a:Act} {w:World} (h:Sim B L G a w) (hc:L.covers L'):Sim B L' G a w:=by
 obtain⟨hn,hf,he,hb,hro,ht⟩:=hc
 refine⟨h.defers,by rw[hn];exact h.size,fun t d hd=>?_,h.W.less hb hro ht,by rw[hf];exact h.fixed⟩
 obtain⟨d',h1,h2⟩:=he (t,d) (mem_of_look hd)
 obtain⟨v,h3,h4⟩:=h.env t d' h1
 exact⟨v,h3,h4.le h2⟩

def enumD:Nat→List D→List (Nat×D)
 | _,[]=>[]
 | k,d::ds=>(k,d)::enumD (k+1) ds
theorem look_enumD (ds:List D):∀(k t:Nat),look (enumD k ds) t=if k≤t then ds[t-k]? else none:=by
 induction ds with
 | nil=>intro k t;simp[enumD,look]
 | cons d ds ih =>
  intro k t
  simp only[enumD,look,ih]
  by_cases h:k=t
  ·subst h;simp
  ·by_cases h2:k≤t
   ·rw[if_neg h,if_pos h2,if_pos (by omega),show t-k=(t-(k+1))+1 by omega]
    simp
   ·rw[if_neg h,if_neg h2,if_neg (by omega)]

def baseOf (G:Ghost) (w:World) (bx:List (Nat×List D)) (tk:List Nat):Base where
 w:=w
 lim:=G.lim
 lab:=G.lab
 ab:=fun b=>(∃p∈bx,G.β p.1=some b)∨∃k∈tk,∃e z,G.τ k=some (some (b,e,z))
 ids:=bx.filterMap fun p=>(G.β p.1).map fun g=>(p.1,g)

inductive ZK where
 | int (k:IntKind)|bool|str|slice|ptr|fn|map|iface
 deriving DecidableEq,Repr
def ZK.val:ZK→Value
 | .int k=>.int k 0|.bool=>.bool false|.str=>.string .empty|.slice=>.slice none 0 0|.ptr=>.pointer none|.fn=>.nilFunc|.map=>.map none|.iface=>.nilIface
def ZK.d:ZK→D
 | .int k=>.int k 0|.bool=>.bool false|.str=>.str .empty|.slice=>.sl .nil []|.ptr=>.raw (.pointer none)|.fn=>.raw .nilFunc|.map=>.raw (.map none)|.iface=>.raw .nilIface
def ZK.is:ZK→Value→Bool
 | .int k,.int k' n=>k==k'&&n==0
 | .bool,.bool b=>!b
 | .str,.string s=>s.size==0
 | .slice,.slice none 0 0=>true
 | .ptr,.pointer none=>true
 | .fn,.nilFunc=>true
 | .map,.map none=>true
 | .iface,.nilIface=>true
 | _,_=>false
inductive TK where
 | slice (e:TypeId)
 | struct (fs:List (Nat×TypeId))
 | array (n:Nat) (e:TypeId)
 | string|bool
 | int (k:IntKind)
 | other
 deriving DecidableEq,Repr
structure TyI where
 kind:TK
 bytes:Nat
 zero:List ZK
 deriving DecidableEq,Repr
def TyI.size (i:TyI):Nat:=i.zero.length
def TyI.agg (i:TyI):Bool:=match i.kind with|.struct _|.array _ _=>true|_=>false

structure TyOk (P:Program) (t:TypeId) (i:TyI):Prop where
 info:∃inf,P.info? t=some inf∧inf.size=i.size∧inf.bytes=i.bytes∧∃z,inf.zero=some z∧z.cells=(i.zero.map ZK.val).toArray∧(i.agg=false→i.size=1)
 desc:match i.kind with
  | .slice e=>P.underlying t=some (.slice e)
  | .struct fs=>∃fields,P.underlying t=some (.struct fields)∧fields.toList.map (fun f=>(f.offset,f.type))=fs∧∃places,fields.toList.mapM (fun f=>(P.info? f.type).map fun i=>(f.offset,i.size))=some places
  | .array n e=>P.underlying t=some (.array n e)
  | .string=>P.underlying t=some .string
  | .bool=>P.underlying t=some .bool
  | .int k=>P.underlying t=some (.int k)
  | .other=>∃d,P.underlying t=some d∧(match d with|.struct _|.array _ _=>true|_=>false)=false

structure Setup where
 P:Program
 tab:Nat→Option TyI
 ok:∀t i,tab t=some i→TyOk P t i
 mixed:P.follows .mixedOrders=true

def Enters (P:Program) (f:FuncId):Prop:=∃fn,P.funcs[f]?=some fn∧(fn.name == "runtime.NumGoroutine")=false∧fn.body.isNone=false

def FC (S:Setup) (f:FuncId) (ro bx:List (Nat×List D)) (tk:List Nat) (args:List D) (d:D) (bx':List (Nat×List D)) (tk':List Nat):Prop :=
 Enters S.P f∧∀(w:World) (G:Ghost) (vals:Array Value),Sim (baseOf G w bx tk) ⟨args.length,enumD 0 args,bx,ro,tk,bx.map (·.1)⟩ G ⟨vals,[]⟩ w →
  Calls S.P f vals w fun e w'=>∃v G',e=.returned v∧Sim (baseOf G w bx tk) ⟨1,[(0,d)],bx',[],tk',bx.map (·.1)⟩ G' ⟨#[v],[]⟩ w'

def FCE (S:Setup) (E:Value→Ending) (f:FuncId) (ro bx:List (Nat×List D)) (tk:List Nat) (args:List D) (d:D) (bx':List (Nat×List D)) (tk':List Nat):Prop :=
 Enters S.P f∧∀(w:World) (G:Ghost) (vals:Array Value),Sim (baseOf G w bx tk) ⟨args.length,enumD 0 args,bx,ro,tk,bx.map (·.1)⟩ G ⟨vals,[]⟩ w →
  Calls S.P f vals w fun e w'=>∃v G',e=E v∧Sim (baseOf G w bx tk) ⟨1,[(0,d)],bx',[],tk',bx.map (·.1)⟩ G' ⟨#[v],[]⟩ w'
def Base.has (B:Base) (T:World→Prop):Prop:=∀w:World,(∀b,b<B.w.heap.size→¬B.ab b→w.heap[b]?=B.w.heap[b]?)→B.w.heap.size≤w.heap.size→T w
def FCEq (S:Setup) (q:Prop) (T:World→Prop) (E:Value→Ending) (f:FuncId) (ro bx:List (Nat×List D)) (tk:List Nat) (args:List D) (d:D) (bx':List (Nat×List D)) (tk':List Nat):Prop :=
 Enters S.P f∧∀(w:World) (G:Ghost) (vals:Array Value),(baseOf G w bx tk).has T→Sim {baseOf G w bx tk with wk:=q} ⟨args.length,enumD 0 args,bx,ro,tk,bx.map (·.1)⟩ G ⟨vals,[]⟩ w →
  Calls S.P f vals w fun e w'=>∃v G',e=E v∧Sim {baseOf G w bx tk with wk:=q} ⟨1,[(0,d)],bx',[],tk',bx.map (·.1)⟩ G' ⟨#[v],[]⟩ w'
def FCw (S:Setup) (T:World→Prop) (f:FuncId) (ro bx:List (Nat×List D)) (tk:List Nat) (args:List D) (d:D) (bx':List (Nat×List D)) (tk':List Nat):Prop:=FCEq S True T (fun v=>.returned v) f ro bx tk args d bx' tk'
theorem FC.weak {S:Setup} {f:FuncId} {ro bx:List (Nat×List D)} {tk:List Nat} {args:List D} {d d':D} {bx' bx'':List (Nat×List D)} {tk' tk'':List Nat}
  (h:FC S f ro bx tk args d bx' tk') (hd:D.le d d') (hb:∀p∈bx'',look bx' p.1=some p.2) (ht:∀k∈tk'',k∈tk'):FC S f ro bx tk args d' bx'' tk'':=⟨h.1,fun w G vals hs =>
 (h.2 w G vals hs).mono fun _ _ ⟨v,G',he,hsim⟩=>⟨v,G',he,hsim.less ⟨rfl,rfl,fun p hp=>by
  simp only[List.mem_singleton] at hp
  subst hp
  exact⟨d,rfl,hd⟩,hb,by simp,ht⟩⟩⟩

end Go.Lg
/-
  Lg, part 3: a call of a function that has a contract.
-/
namespace Go.Lg
open Go Go.RowKit

theorem cell_lt {w:World} {b o:Nat} {v:Value} (h:w.cell? ⟨b,o,none⟩=some v):b<w.heap.size:=World.block_lt_of_cell? w ⟨b,o,none⟩ h
theorem cell_of_heap {w w':World} {b o:Nat} (h:w'.heap[b]?=w.heap[b]?):w'.cell? ⟨b,o,none⟩=w.cell? ⟨b,o,none⟩:=World.cell?_of_block (w:=w) (a:=⟨b,o,none⟩) h
theorem shape_of_heap {w w':World} {b:Nat} (h:w'.heap[b]?=w.heap[b]?):w'.shape? b=w.shape? b:=by simp[World.shape?,h]

theorem heap_lt {w:World} {g:Nat} {o:Obj} (h:w.heap[g]?=some o):g<w.heap.size:=(Array.getElem?_eq_some_iff.1 h).1

mutual
def D.shT (off:Nat):D→D
 | .sl (.own k e z) xs=>.sl (.own (k+off) e z) xs
 | .sl (.que k e) xs=>.sl (.que (k+off) e) xs
 | .agg cs=>.agg (D.shTL off cs)
 | .fn f cap=>.fn f (D.shTL off cap)
 | .tup ds=>.tup (D.shTL off ds)
 | d=>d
def D.shTL (off:Nat):List D→List D
 | []=>[]
 | d::ds=>d.shT off::D.shTL off ds
end
theorem shTL_map (off:Nat) (ds:List D):D.shTL off ds=ds.map (D.shT off):=by
 induction ds with
 | nil=>rfl
 | cons d ds ih=>simp[D.shTL,ih]

theorem Rel.shift {G G':Ghost} {w:World} (hl:G'.lim=G.lim) (hb:G'.lab=G.lab) (off:Nat) {d:D} {v:Value} (h:Rel G w d v) :
  (∀i∈d.ids,∀g,G.β i=some g→G'.β i=some g)→(∀k∈d.tks,G'.τ (k+off)=G.τ k)→Rel G' w (d.shT off) v:=by
 have hm:Mono G G' w w:=⟨fun b o v h1 h2=>⟨by rw[hl];exact h1,h2⟩,fun b _=>by rw[hb],fun _ _ _ h=>h⟩
 induction h with
 | int=>exact fun _ _=>.int
 | bool=>exact fun _ _=>.bool
 | str=>exact fun _ _=>.str
 | @sl tk xs A n c b o s hn hc hmx ht hA hu hk hst hr ih =>
  intro hi hkk
  have key:∀tk',(TkOk G' w tk' xs A n c)→Rel G' w (.sl tk' xs) (.slice A n c):=fun tk' ht'=>by
   refine .sl (b:=b) (o:=o) hn hc hmx ht' hA hu hk (fun j d hj=>?_) (fun j d v hj hv=>?_)
   ·rw[hl];exact hst j d hj
   ·have hmem:=hk d (List.mem_of_getElem? hj)
    exact(hr j d v hj hv).mono hm (by rw[memOk_ids hmem];simp) (by rw[memOk_tks hmem];simp)
  cases tk with
  | own k e z =>
   refine key (.own (k+off) e z) ?_
   simp only[TkOk] at ht ⊢
   rw[hkk k (by simp[D.tks]),hl]
   exact ht
  | que k e =>
   refine key (.que (k+off) e) ?_
   simp only[TkOk] at ht ⊢
   rw[hkk k (by simp[D.tks]),hl]
   exact ht
  | lab l =>
   refine key (.lab l) ?_
   rcases ht with ht|⟨g,o',e1,e2,e3⟩
   ·exact .inl ht
   ·exact .inr ⟨g,o',e1,by rw[hb];exact e2,e3⟩
  | _=>exact key _ ht
 | @agg cs vl hlen hr ih =>
  intro hi hk
  simp only[D.shT,shTL_map]
  refine .agg (by simpa using hlen) fun j d v hj hv=>?_
  simp only[List.getElem?_map,Option.map_eq_some_iff] at hj
  obtain⟨d0,hj,rfl⟩:=hj
  exact ih j d0 v hj hv (fun i hi'=>hi i (mem_idsL (List.mem_of_getElem? hj) hi')) (fun i hi'=>hk i (mem_tksL (List.mem_of_getElem? hj) hi'))
 | @fn f cap vl hlen hr ih =>
  intro hi hk
  simp only[D.shT,shTL_map]
  refine .fn (by simpa using hlen) fun j d v hj hv=>?_
  simp only[List.getElem?_map,Option.map_eq_some_iff] at hj
  obtain⟨d0,hj,rfl⟩:=hj
  exact ih j d0 v hj hv (fun i hi'=>hi i (mem_idsL (List.mem_of_getElem? hj) hi')) (fun i hi'=>hk i (mem_tksL (List.mem_of_getElem? hj) hi'))
 | box hb'=>exact fun hi _=>.box (hi _ (by simp[D.ids]) _ hb')
 | ms hb' hc hn=>exact fun hi _=>.ms (hi _ (by simp[D.ids]) _ hb') hc hn
 | vw hb' hc hn=>exact fun hi _=>.vw (hi _ (by simp[D.ids]) _ hb') hc hn
 | @imm cs b o hk hst hr ih =>
  intro _ _
  refine .imm hk (fun j d hj=>?_) (fun j d v hj hv=>?_)
  ·rw[hl];exact hst j d hj
  ·have hmem:=hk d (List.mem_of_getElem? hj)
   exact(hr j d v hj hv).mono hm (by rw[memOk_ids hmem];simp) (by rw[memOk_tks hmem];simp)
 | @tup ds vl hlen hr ih =>
  intro hi hk
  simp only[D.shT,shTL_map]
  refine .tup (by simpa using hlen) fun j d v hj hv=>?_
  simp only[List.getElem?_map,Option.map_eq_some_iff] at hj
  obtain⟨d0,hj,rfl⟩:=hj
  exact ih j d0 v hj hv (fun i hi'=>hi i (mem_idsL (List.mem_of_getElem? hj) hi')) (fun i hi'=>hk i (mem_tksL (List.mem_of_getElem? hj) hi'))
 | raw h=>exact fun _ _=>.raw h
 | pred hv h=>exact fun _ _=>.pred hv fun G2 w2 hm2=>h G2 w2 (hm.trans hm2)

def D.pu1 (p:Nat→Bool):D→D
 | .sl (.own k e z) xs=>if p k then .sl .any xs else .sl (.own k e z) xs
 | .sl (.que k e) xs=>if p k then .sl .any xs else .sl (.que k e) xs
 | d=>d
def D.pu (p:Nat→Bool):D→D
 | .agg cs=>.agg (cs.map (D.pu1 p))
 | .tup cs=>.tup (cs.map (D.pu1 p))
 | d=>d.pu1 p
def D.puOk (p:Nat→Bool) (d:D):Bool:=(d.pu p).tks.all fun k=>!p k

theorem D.le_pu1 (p:Nat→Bool) (d:D):D.le d (d.pu1 p):=by
 cases d with
 | sl tk xs=>cases tk<;>first|exact .refl _|(simp only[D.pu1];split<;>first|exact .any|exact .refl _)
 | _=>exact .refl _
theorem D.le_pu (p:Nat→Bool) (d:D):D.le d (d.pu p):=by
 cases d with
 | agg cs =>
  refine .agg (by simp) fun j c d hc hd=>?_
  simp only[List.getElem?_map,hc,Option.map_some,Option.some.injEq] at hd
  subst hd;exact D.le_pu1 p c
 | tup cs =>
  refine .tup (by simp) fun j c d hc hd=>?_
  simp only[List.getElem?_map,hc,Option.map_some,Option.some.injEq] at hd
  subst hd;exact D.le_pu1 p c
 | sl tk xs=>exact D.le_pu1 p _
 | _=>exact .refl _

def mapA {α β:Type} (f:α→β):List (Nat×α)→List (Nat×β)
 | []=>[]
 | (k,x)::r=>(k,f x)::mapA f r
theorem look_mapA {α β:Type} (f:α→β) (l:List (Nat×α)) (t:Nat):look (mapA f l) t=(look l t).map f:=by
 induction l with
 | nil=>rfl
 | cons p r ih =>
  obtain⟨k,x⟩:=p
  by_cases h:k=t<;>simp[mapA,look,h,ih]
def inTok (off k:Nat):Bool:=decide (off≤k)&&decide (k<off+1000)

structure Quiet (G G':Ghost) (w w':World):Prop where
 heap:∀b,b<w.heap.size→w'.heap[b]?=w.heap[b]?∧G'.lim b=G.lim b∧G'.lab b=G.lab b
 beta:G'.β=G.β
 tau:G'.τ=G.τ
 sz:w.heap.size≤w'.heap.size
theorem Quiet.refl (G:Ghost) (w:World):Quiet G G w w:=⟨fun _ _=>⟨rfl,rfl,rfl⟩,rfl,rfl,Nat.le_refl _⟩
theorem callE_sound {S:Setup} {B:Base} {L:LS} {G:Ghost} {a:Act} {w:World} (h:Sim B L G a w) {f:FuncId} {cx:List (Nat×List D)} {ds:List D} {d:D} {vals:Array Value}
  (hv:vals.size=ds.length) (hr:∀(j:Nat) d v,ds[j]?=some d→vals[j]?=some v→Rel G w d v) (hb:∀p∈cx,L.getBox p.1=some p.2)
  {tk':List Nat} (fc:FC S f cx [] [] ds d [] tk') :
  Calls S.P f vals w fun e w'=>∃v G',e=.returned v∧Sim B L {G' with β:=G.β,τ:=G.τ} a w'∧Quiet G {G' with β:=G.β,τ:=G.τ} w w'∧∃w0,Sim (baseOf {G with τ:=fun _=>none} w [] []) ⟨1,[(0,d)],[],[],tk',w0⟩ G' ⟨#[v],[]⟩ w':=by
 have hW:=h.W
 let G1:Ghost:={G with τ:=fun _=>none}
 have hm1:Mono G G1 w w:=⟨fun _ _ _ h1 h2=>⟨h1,h2⟩,fun _ _=>rfl,fun _ _ _ h=>h⟩
 have r1:∀ {d v},Rel G w d v→Rel G1 w d v:=fun hr=>hr.mono hm1 (fun _ _ _ h=>h) (fun _ _=>.inl rfl)
 have hstart:Sim (baseOf G1 w [] []) ⟨ds.length,enumD 0 ds,[],cx,[],[]⟩ G1 ⟨vals,[]⟩ w:=by
  refine⟨rfl,hv,fun t d hd=>?_,?_,fun p hp=>by cases hp⟩
  ·rw[look_enumD] at hd
   simp only[Nat.zero_le,if_true,Nat.sub_zero] at hd
   have hlt:t<vals.size:=by rw[hv];exact(List.getElem?_eq_some_iff.1 hd).1
   exact⟨vals[t],by simp[hlt],r1 (hr t d _ hd (by simp[hlt]))⟩
  ·exact {
    boxes:=fun id cs hl=>by cases hl
    robs:=fun id cs hl=>by
     have hgb:L.getBox id=some cs:=hb _ (mem_of_look hl)
     have hx:∃g,G.β id=some g∧BoxAt G w g cs:=by
      unfold LS.getBox at hgb
      split at hgb
      ·rename_i c hc
       obtain rfl:c=cs:=by simpa using hgb
       obtain⟨g,h1,h2,_⟩:=hW.boxes id c hc
       exact⟨g,h1,h2⟩
      ·obtain⟨g,h1,h2,_⟩:=hW.robs id cs hgb
       exact⟨g,h1,h2⟩
     obtain⟨g,h1,vs,e,e1,e2,e3⟩:=hx
     refine⟨g,h1,⟨vs,e,e1,e2,fun j d v hd hv=>r1 (e3 j d v hd hv)⟩,heap_lt e1,?_⟩
     rintro (⟨p,hp,_⟩|⟨k,hk,_⟩)
     ·cases hp
     ·cases hk
    toks:=fun k hk=>by cases hk
    tau:=fun k g e z hk=>by cases hk
    tinj:=fun k k' g e z e' z' hk=>by cases hk
    binj:=hW.binj
    blt:=hW.blt
    lablt:=hW.lablt
    old:=fun _ _ _=>⟨rfl,rfl⟩
    olda:=fun _ _=>⟨Nat.le_refl _,fun _ _ _ h=>h⟩
    oldl:=fun _ _ _=>rfl
    tlab:=fun k g e z hk=>by cases hk
    blab:=hW.blab
    oldu:=fun _ _ _ h=>h
    labw:=fun b hb hor=>by
     rcases hor with hor|(⟨p,hp,_⟩|⟨k,hk,_⟩)
     ·exact absurd (hW.lablt b hb) (Nat.not_lt.2 hor)
     ·cases hp
     ·cases hk
    ids:=fun p hp=>by cases hp
    sz:=Nat.le_refl _
    os:=rfl
    tape:=rfl
    out:=rfl
    dr:=by first|exact Nat.le_refl _|exact Nat.le_succ _|exact .inr (Nat.le_refl _)|exact .inr (Nat.le_succ _)}
 refine(fc.2 w G1 vals hstart).mono ?_
 rintro e w' ⟨v,G',he,hend⟩
 have hE:=hend.W
 have hall:∀b,b<w.heap.size→w'.heap[b]?=w.heap[b]?∧G'.lim b=G.lim b:=fun b hlt=>hE.old b hlt (by
   rintro (⟨p,hp,_⟩|⟨k,hk,_⟩)
   ·cases hp
   ·cases hk)
 have hun:∀b,b<w.heap.size→G.lab b=[]→G'.lab b=[]:=fun b hlt h0=>hE.oldu b hlt (by
   rintro (⟨p,hp,_⟩|⟨k,hk,_⟩)
   ·cases hp
   ·cases hk) h0
 let G2:Ghost:={G' with β:=G.β,τ:=G.τ}
 have hmn:Mono G G2 w w':=by
  refine⟨fun b o v h1 h2=>?_,fun b hb=>hE.oldl b (hW.lablt b hb) hb,fun b es c hb=>(hall b (heap_lt hb)).1.trans hb⟩
  obtain⟨h3,h4⟩:=hall b (cell_lt h2)
  exact⟨by show o<G'.lim b;rw[h4];exact h1,by rw[cell_of_heap h3];exact h2⟩
 have htl:∀ {k g e z},G.τ k=some (some (g,e,z))→g<w.heap.size:=fun {k g e z} hk=>by
  obtain⟨_,_,⟨cur,hc,_⟩,_⟩:=hW.tau k g e z hk
  exact heap_lt hc
 have rG:∀ {d v},Rel G w d v→Rel G2 w' d v:=fun hr =>
  hr.mono hmn (fun _ _ _ h=>h) (fun k _=>.inr ⟨rfl,fun g e z hk=>⟨(hall g (htl hk)).2,shape_of_heap (hall g (htl hk)).1⟩⟩)
 have hbox:∀ {g cs},BoxAt G w g cs→BoxAt G2 w' g cs:=fun⟨vs,e,e1,e2,e3⟩ =>
  ⟨vs,e,by rw[(hall _ (heap_lt e1)).1];exact e1,e2,fun j d v hd hv=>rG (e3 j d v hd hv)⟩
 refine⟨v,G',he,⟨h.defers,h.size,fun t d hd=>?_,?_,h.fixed⟩,?_,_,hend⟩
 ·obtain⟨v,h1,h2⟩:=h.env t d hd
  exact⟨v,h1,rG h2⟩
 ·exact {
   boxes:=fun id cs hl=>by
    obtain⟨g,h1,h2,h3,h4⟩:=hW.boxes id cs hl
    exact⟨g,h1,hbox h2,by show G'.lim g=0;rw[(hall g (hW.blt _ _ h1)).2];exact h3,h4⟩
   robs:=fun id cs hl=>by
    obtain⟨g,h1,h2,h3,h4⟩:=hW.robs id cs hl
    exact⟨g,h1,hbox h2,h3,h4⟩
   toks:=hW.toks
   tau:=fun k g e z hk=>by
    obtain⟨h1,h2,⟨cur,h3,h4⟩,h5⟩:=hW.tau k g e z hk
    exact⟨h1,h2,⟨cur,by rw[(hall g (htl hk)).1];exact h3,by show G'.lim g≤_;rw[(hall g (htl hk)).2];exact h4⟩,h5⟩
   tinj:=hW.tinj
   binj:=hW.binj
   blt:=fun i g hg=>Nat.lt_of_lt_of_le (hW.blt i g hg) hE.sz
   lablt:=hE.lablt
   old:=fun b hlt hab=>by
    obtain⟨h1,h2⟩:=hW.old b hlt hab
    obtain⟨h3,h4⟩:=hall b (Nat.lt_of_lt_of_le hlt hW.sz)
    exact⟨h3.trans h1,h4.trans h2⟩
   olda:=fun b hlt=>by
    obtain⟨h1,h2⟩:=hW.olda b hlt
    obtain⟨h3,h4⟩:=hall b (Nat.lt_of_lt_of_le hlt hW.sz)
    exact⟨by show _≤G'.lim b;rw[h4];exact h1,fun o v ho hc=>by rw[cell_of_heap h3];exact h2 o v ho hc⟩
   oldl:=fun b hlt hb=>by
    have h1:=hW.oldl b hlt hb
    have:=hE.oldl b (Nat.lt_of_lt_of_le hlt hW.sz) (show G.lab b≠[] by rw[h1];exact hb)
    exact this.trans h1
   tlab:=fun k g e z hk=>hun g (htl hk) (hW.tlab k g e z hk)
   blab:=fun i g hg=>hun g (hW.blt i g hg) (hW.blab i g hg)
   oldu:=fun b hlt hab hb=>hun b (Nat.lt_of_lt_of_le hlt hW.sz) (hW.oldu b hlt hab hb)
   labw:=fun b hb hor=>by
    by_cases hlt:b<w.heap.size
    ·have hne:G.lab b≠[]:=fun e=>hb (hun b hlt e)
     obtain⟨vs,e,h1⟩:=hW.labw b hne hor
     exact⟨vs,e,by rw[(hall b hlt).1];exact h1⟩
    ·exact hE.labw b hb (.inl (Nat.not_lt.1 hlt))
   ids:=hW.ids
   sz:=Nat.le_trans hW.sz hE.sz
   os:=hE.os.trans hW.os
   tape:=hE.tape.trans hW.tape
   out:=hE.out.trans hW.out
   dr:=dr_t hW.dr (hE.dr.resolve_left (fun h=>h))}
 ·refine⟨fun b hlt=>⟨(hall b hlt).1,(hall b hlt).2,?_⟩,rfl,rfl,hE.sz⟩
  show G'.lab b=G.lab b
  by_cases h0:G.lab b=[]
  ·rw[h0];exact hun b hlt h0
  ·exact hE.oldl b hlt h0

theorem callq_sound {S:Setup} {B:Base} {L:LS} {G:Ghost} {a:Act} {w:World} (h:Sim B L G a w) {f:FuncId} {cx:List (Nat×List D)} {ds:List D} {d:D} {vals:Array Value}
  (hv:vals.size=ds.length) (hr:∀(j:Nat) d v,ds[j]?=some d→vals[j]?=some v→Rel G w d v) (hb:∀p∈cx,L.getBox p.1=some p.2)
  (fc:FC S f cx [] [] ds d [] []) (hid:d.ids=[]) (htk:d.tks=[]) :
  Calls S.P f vals w fun e w'=>∃v G',e=.returned v∧Sim B L G' a w'∧Rel G' w' d v∧Quiet G G' w w':=(callE_sound h hv hr hb fc).mono fun e w' ⟨v,G',he,h1,h2,_,hend⟩=>by
 refine⟨v,_,he,h1,?_,h2⟩
 obtain⟨v',h3,h4⟩:=hend.env 0 d (by simp[look])
 obtain rfl:v=v':=by simpa using h3
 exact h4.mono (show Mono G' {G' with β:=G.β,τ:=G.τ} w' w' from⟨fun _ _ _ h1 h2=>⟨h1,h2⟩,fun _ _=>rfl,fun _ _ _ h=>h⟩) (by rw[hid];intro i hi;cases hi) (by rw[htk];intro i hi;cases hi)
end Go.Lg
/-
  Lg, part 4: operations that leave boxes and tokens alone ('quiet'), as functions of logical values, and why that is what the model does.
-/
namespace Go.Lg
open Go Go.RowKit

def someK {α:Type} (o:Option α) (K:α→Prop):Prop:=match o with|some d=>K d|none=>False
theorem someK_some {α:Type} (d:α) (K:α→Prop):someK (some d) K=K d:=rfl
theorem someK_none {α:Type} (K:α→Prop):someK none K=False:=rfl
theorem someK_get {α:Type} {o:Option α} {K:α→Prop} (h:someK o K):∃d,o=some d∧K d:=by
 cases o with
 | none=>exact h.elim
 | some d=>exact⟨d,rfl,h⟩

def constD1:Value→D
 | .int k n=>.int k n
 | .bool b=>.bool b
 | .string s=>.str s
 | .slice none 0 0=>.sl .nil []
 | v=>.raw v
def constD:Value→Option D
 | .agg cs=>if cs.toList.all (fun v=>match v with|.agg _=>false|_=>true) then some (.agg (cs.toList.map constD1)) else none
 | .int k n=>some (.int k n)
 | .bool b=>some (.bool b)
 | .string s=>some (.str s)
 | .slice none 0 0=>some (.sl .nil [])
 | v=>some (.raw v)

def evalO (L:LS):Operand→Option D
 | .tmp t=>L.get t
 | .const v=>constD v
 | .func f=>some (.fn f [])
 | .global _=>none

def mapO (ρ:Operand→Option D):List Operand→Option (List D)
 | []=>some []
 | x::xs=>match ρ x,mapO ρ xs with
  | some d,some ds=>some (d::ds)
  | _,_=>none

theorem rel_nilslice {G:Ghost} {w:World}:Rel G w (.sl .nil []) (.slice none 0 0) :=
 .sl (b:=0) (o:=0) (s:=0) rfl (Nat.le_refl _) (by simp[maxLen]) ⟨rfl,rfl,rfl⟩ (.inl rfl) (by simp) (by simp[flat]) (by simp[flat]) (by simp[flat])

theorem rel_constD1 {G:Ghost} {w:World} (v:Value) (h:∀cs,v≠.agg cs):Rel G w (constD1 v) v:=by
 unfold constD1
 split
 ·exact .int
 ·exact .bool
 ·exact .str
 ·exact rel_nilslice
 ·exact .raw h

theorem rel_constD {G:Ghost} {w:World} {v:Value} {d:D} (h:constD v=some d):Rel G w d v:=by
 unfold constD at h
 split at h
 ·rename_i cs
  split at h
  ·rename_i hall
   obtain rfl:=(Option.some.inj h).symm
   have:(Value.agg cs)=.agg (cs.toList).toArray:=by simp
   rw[this]
   refine .agg (by simp) fun j d v hd hv=>?_
   simp only[List.getElem?_map,hv,Option.map_some,Option.some.injEq] at hd
   subst hd
   refine rel_constD1 v fun cs' e=>?_
   subst e
   have:=List.all_eq_true.1 hall _ (List.mem_of_getElem? hv)
   simp at this
  ·cases h
 ·obtain rfl:=(Option.some.inj h).symm;exact .int
 ·obtain rfl:=(Option.some.inj h).symm;exact .bool
 ·obtain rfl:=(Option.some.inj h).symm;exact .str
 ·obtain rfl:=(Option.some.inj h).symm;exact rel_nilslice
 ·rename_i hne _ _ _ _
  obtain rfl:=(Option.some.inj h).symm
  exact .raw hne

theorem eval_sound {B:Base} {L:LS} {G:Ghost} {a:Act} {w:World} (h:Sim B L G a w) {x:Operand} {d:D} (he:evalO L x=some d):Rel G w d (a.eval x):=by
 cases x with
 | tmp t =>
  obtain⟨v,h1,h2⟩:=h.env t d he
  have:a.eval (.tmp t)=v:=by simp[Act.eval,h1]
  rw[this];exact h2
 | const v=>exact rel_constD he
 | func f =>
  obtain rfl:=(Option.some.inj he).symm
  exact .fn (vl:=[]) rfl (by simp)
 | global g=>cases he

theorem mapO_sound {B:Base} {L:LS} {G:Ghost} {a:Act} {w:World} (h:Sim B L G a w):∀ {xs:List Operand} {ds:List D},mapO (evalO L) xs=some ds →
  ds.length=xs.length∧∀(j:Nat) d v,ds[j]?=some d→(xs.map a.eval)[j]?=some v→Rel G w d v
 | [],ds,he=>by
  obtain rfl:=(Option.some.inj he).symm
  exact⟨rfl,by simp⟩
 | x::xs,ds,he=>by
  unfold mapO at he
  split at he
  ·rename_i d ds' h1 h2
   obtain rfl:=(Option.some.inj he).symm
   obtain⟨e1,e2⟩:=mapO_sound h h2
   refine⟨by simp[e1],fun j d0 v hd hv=>?_⟩
   cases j with
   | zero =>
    simp only[List.getElem?_cons_zero,Option.some.injEq,List.map_cons] at hd hv
    subst hd;subst hv
    exact eval_sound h h1
   | succ j=>exact e2 j d0 v (by simpa using hd) (by simpa using hv)
  ·cases he


def Setup.kd (S:Setup) (t:TypeId):Option TK:=match S.tab t with|some i=>some i.kind|none=>none

def cellsY (S:Setup) (t:TypeId) (cs:List D) (K:D→Prop):Prop :=
 someK (S.tab t) fun i=>if i.agg=true then i.size≤cs.length∧K (.agg (cs.take i.size)) else someK cs.head? K

def loadY (S:Setup) (t:TypeId) (bx:Nat→Option (List D)) (d:D) (K:D→Prop):Prop :=
 match d with
 | .imm cs=>cellsY S t cs K
 | .box id off=>someK (bx id) fun cs=>cellsY S t (cs.drop off) K
 | _=>False

def intY (op:BinOp) (k:IntKind) (a b:Int) (K:D→Prop):Prop :=
 match op with
 | .add=>K (.int k (k.wrap (a+b)))
 | .sub=>K (.int k (k.wrap (a-b)))
 | .mul=>K (.int k (k.wrap (a*b)))
 | .quo=>b≠0∧K (.int k (k.wrap (a.tdiv b)))
 | .rem=>b≠0∧K (.int k (a.tmod b))
 | .eql=>K (.bool (a==b))
 | .neq=>K (.bool (a != b))
 | .lss=>K (.bool (decide (a<b)))
 | .leq=>K (.bool (decide (a≤b)))
 | .gtr=>K (.bool (decide (b<a)))
 | .geq=>K (.bool (decide (b≤a)))
 | .and=>K (.int k (bits .and k a b))
 | .or=>K (.int k (bits .or k a b))
 | .xor=>K (.int k (bits .xor k a b))
 | .andNot=>K (.int k (bits .andNot k a b))
 | _=>False

def intYY (op:BinOp) (k k':IntKind) (a b:Int) (K:D→Prop):Prop :=
 match op with
 | .shl=>(0≤b∧b≤k.bits)∧K (.int k (k.wrap (a*2^b.toNat)))
 | .shr=>(0≤b∧b≤k.bits)∧K (.int k (a / 2^b.toNat))
 | op=>k=k'∧intY op k a b K

def strY (op:BinOp) (a b:ByteArray) (K:D→Prop):Prop :=
 match op with
 | .eql=>K (.bool (a.toList==b.toList))
 | .neq=>K (.bool (!(a.toList==b.toList)))
 | .lss=>K (.bool (Op.bytesLess a.toList b.toList))
 | .add=>a.size+b.size≤9223372036854775807∧K (.str (a++b))
 | _=>False

def boolY (op:BinOp) (a b:Bool) (K:D→Prop):Prop :=
 match op with
 | .eql=>K (.bool (a==b))
 | .neq=>K (.bool (!(a==b)))
 | _=>False

def nilY (op:BinOp) (tk:Tk) (xs:List D) (K:D→Prop):Prop :=
 match op,tk with
 | .eql,.nil=>K (.bool true)
 | .neq,.nil=>K (.bool false)
 | .eql,.nl=>K (.bool true)
 | .neq,.nl=>K (.bool false)
 | .eql,.nn=>K (.bool false)
 | .neq,.nn=>K (.bool true)
 | .eql,_=>xs≠[]∧K (.bool false)
 | .neq,_=>xs≠[]∧K (.bool true)
 | _,_=>False

def binY (S:Setup) (op:BinOp) (t:TypeId) (x y:D) (K:D→Prop):Prop :=
 match x,y with
 | .int k a,.int k' b=>intYY op k k' a b K
 | .bool a,.bool b=>S.kd t=some .bool∧boolY op a b K
 | .str a,.str b=>strY op a b K
 | .sl tk xs,.sl .nil []=>(∃e,S.kd t=some (.slice e))∧nilY op tk xs K
 | _,_=>False

def unY (op:UnOp) (x:D) (K:D→Prop):Prop :=
 match op,x with
 | .not,.bool b=>K (.bool (!b))
 | .neg,.int k n=>K (.int k (k.wrap (0-n)))
 | _,_=>False

def convY (S:Setup) (dst:TypeId) (x:D) (K:D→Prop):Prop :=
 match x with
 | .int _ n=>match S.kd dst with
  | some (.int k)=>K (.int k (k.wrap n))
  | _=>False
 | _=>False

def fieldAddrY (S:Setup) (t:TypeId) (f:Nat) (x:D) (K:D→Prop):Prop :=
 match S.kd t with
 | some (.struct fs)=>someK fs[f]? fun p=>someK (S.tab p.2) fun j=>j.size≠0∧(match x with
  | .imm cs=>K (.imm (cs.drop p.1))
  | .box id o=>K (.box id (o+p.1))
  | _=>False)
 | _=>False

def fieldY (S:Setup) (t:TypeId) (f:Nat) (x:D) (K:D→Prop):Prop :=
 match S.kd t,x with
 | some (.struct fs),.agg cs=>someK fs[f]? fun p=>cellsY S p.2 (cs.drop p.1) K
 | _,_=>False

def indexAddrY (S:Setup) (t:TypeId) (x ix:D) (K:D→Prop):Prop :=
 match S.kd t,ix with
 | some (.slice e),.int _ i=>someK (S.tab e) fun j=>(match x with
  | .sl _ xs=>(0≤i∧i<xs.length)∧(xs.getD i.toNat default).cells.length=j.size∧K (.imm (xs.getD i.toNat default).cells)
  | .ms id n=>(0≤i∧i<n)∧K (.box id (i.toNat*j.size))
  | _=>False)
 | some (.array n e),.int _ i=>someK (S.tab e) fun j=>(match x with
  | .box id o=>(0≤i∧i<n)∧K (.box id (o+i.toNat*j.size))
  | .imm cs=>(0≤i∧i<n)∧K (.imm (cs.drop (i.toNat*j.size)))
  | _=>False)
 | _,_=>False

def indexY (S:Setup) (t:TypeId) (x ix:D) (K:D→Prop):Prop :=
 match S.kd t,ix,x with
 | some .string,.int _ i,.str s=>(0≤i∧i<s.size)∧K (.int .u8 (s.data.getD i.toNat 0).toNat)
 | _,_,_=>False

def lenY (S:Setup) (t:TypeId) (x:D) (K:D→Prop):Prop :=
 match S.kd t,x with
 | some (.slice _),.sl _ xs=>K (.int .i64 xs.length)
 | some (.slice _),.ms _ n=>K (.int .i64 n)
 | some .string,.str s=>K (.int .i64 s.size)
 | _,_=>False

def intOfD:Option D→Option (Option Int)
 | none=>some none
 | some (.int _ n)=>some (some n)
 | _=>none

def sliceY (S:Setup) (t:TypeId) (x:D) (lo hi mx:Option Int) (K:D→Prop):Prop :=
 match S.kd t,x with
 | some (.slice e),.sl _ xs=>someK (S.tab e) fun j =>
  (match mx with|none=>True|some m=>m=hi.getD xs.length) ∧
  (0≤lo.getD 0∧lo.getD 0≤hi.getD xs.length∧hi.getD xs.length≤xs.length)∧(∀d∈xs,d.cells.length=j.size) ∧
  K (.sl (match mx with|none=>.any|some _=>.full) ((xs.take (hi.getD xs.length).toNat).drop (lo.getD 0).toNat))
 | some (.slice e),.ms id n=>(S.tab e).isSome=true∧(mx=none∧lo=none)∧(0≤hi.getD n∧hi.getD n≤n)∧K (.ms id (hi.getD n).toNat)
 | some .string,.str s=>mx=none∧(0≤lo.getD 0∧lo.getD 0≤hi.getD s.size∧hi.getD s.size≤s.size) ∧
  K (.str (s.extract (lo.getD 0).toNat (hi.getD s.size).toNat))
 | _,_=>False

def putCells (cs:List D) (off:Nat) (new:List D):List D:=cs.take off++new++cs.drop (off+new.length)

def buildP (S:Setup) (fs:List (Nat×TypeId)):List D→List (Nat×D)→Option (List D)
 | cs,[]=>some cs
 | cs,(i,d)::rest=>match fs[i]? with
  | some p=>match S.tab p.2 with
   | some j=>if d.cells.length=j.size∧p.1+j.size≤cs.length then buildP S fs (putCells cs p.1 d.cells) rest else none
   | none=>none
  | none=>none

def zipO (ρ:Operand→Option D):List (Nat×Operand)→Option (List (Nat×D))
 | []=>some []
 | (i,x)::xs=>match ρ x,zipO ρ xs with
  | some d,some ds=>some ((i,d)::ds)
  | _,_=>none

def buildY (S:Setup) (t:TypeId) (ps:List (Nat×D)) (K:D→Prop):Prop :=
 someK (S.tab t) fun i=>match i.kind with
 | .struct fs=>someK (buildP S fs (i.zero.map ZK.d) ps) fun cs=>K (.agg cs)
 | .array _ e=>someK (S.tab e) fun _=>ps=[]∧K (.agg (i.zero.map ZK.d))
 | _=>False

def minD (x y:D):Option D:=match x,y with
 | .int k a,.int k' b=>if k=k' then some (.int k (if b<a then b else a)) else none
 | _,_=>none
def maxD (x y:D):Option D:=match x,y with
 | .int k a,.int k' b=>if k=k' then some (.int k (if b>a then b else a)) else none
 | _,_=>none

def callY (S:Setup) (bx:Nat→Option (List D)) (f:D) (ds:List D) (K:D→Prop):Prop :=
 match f with
 | .fn fid cap=>∃cx d,FC S fid cx [] [] (ds++cap) d [] []∧(∀p∈cx,bx p.1=some p.2)∧d.ids=[]∧d.tks=[]∧K d
 | .pred I=>∃fid d0 cx d,I=mvI fid d0∧FC S fid cx [] [] (d0::ds) d [] []∧(∀p∈cx,bx p.1=some p.2)∧d.ids=[]∧d.tks=[]∧K d
 | _=>False

def makeFnY (f:Nat) (first cap:Option (List D)) (K:D→Prop):Prop :=
 match first with
 | some []=>someK cap fun ds=>K (.fn f ds)
 | some [d]=>cap=some []∧(d.ids=[]∧d.tks=[])∧K (D.mv f d)
 | _=>False

def strip1:D→D
 | .sl (.lab l) xs=>.sl (.lab l) xs
 | .sl _ xs=>.sl .any xs
 | d=>d
def D.strip:D→D
 | .agg cs=>.agg (cs.map strip1)
 | d=>strip1 d

def buildSliceY (S:Setup) (t:TypeId) (n:Nat) (ps:List (Nat×D)) (K:D→Prop):Prop :=
 match S.kd t with
 | some (.slice e)=>someK (S.tab e) fun j=>ps.map (·.1)=List.range n∧n*j.size≤16777216∧(n=0∨0<j.size) ∧
  (∀p∈ps,p.2.cells.length=j.size∧∀c∈p.2.strip.cells,c.memOk=true)∧K (.sl .full (ps.map (·.2.strip)))
 | _=>False

def makeQ (S:Setup) (t:TypeId) (l c:D) (K:D→Prop):Prop :=
 match S.kd t,l,c with
 | some (.slice e),.int _ n,.int _ m=>someK (S.tab e) fun i=>someK i.zero.head? fun z=>(i.zero.length=1∧0≤n∧n=m)∧((i.bytes:Int)*n≤281474976710656∧n≤9223372036854775807)∧(strip1 z.d).memOk=true ∧
   K (.sl .any (List.replicate n.toNat (strip1 z.d)))
 | _,_,_=>False

def appQ (S:Setup) (t:TypeId) (x y:D) (K:D→Prop):Prop :=
 match S.kd t,x,y with
 | some (.slice e),.sl .full xs,.sl _ ys=>someK (S.tab e) fun i=>0<i.size∧(∀x∈xs,x.cells.length=i.size)∧(∀x∈ys,x.cells.length=i.size)∧(xs.length+ys.length)*i.bytes≤140737488355328∧xs.length+ys.length≤140737488355328∧K (.sl .any (xs++ys))
 | _,_,_=>False

def opY (S:Setup) (op:Op) (ρ:Operand→Option D) (bx:Nat→Option (List D)) (K:D→Prop):Prop :=
 match op with
 | .move x|.assign x=>someK (ρ x) K
 | .pick c a b=>someK (ρ c) fun d=>(match d with
  | .bool t=>if t=true then someK (ρ a) K else someK (ρ b) K
  | _=>False)
 | .load t x=>someK (ρ x) fun d=>loadY S t bx d K
 | .nilCheck x=>someK (ρ x) fun d=>(match d with
  | .box ..|.imm _|.fn ..=>K d
  | _=>False)
 | .binOp o t x y _=>someK (ρ x) fun dx=>someK (ρ y) fun dy=>binY S o t dx dy K
 | .unOp o _ x=>someK (ρ x) fun d=>unY o d K
 | .convert src dst x=>(S.tab src).isSome=true∧someK (ρ x) fun d=>convY S dst d K
 | .makeFunc (.func f) first captured=>makeFnY f (mapO ρ first.toList) (mapO ρ captured.toList) K
 | .fieldAddr t x f=>someK (ρ x) fun d=>fieldAddrY S t f d K
 | .field t x f=>someK (ρ x) fun d=>fieldY S t f d K
 | .indexAddr t x ix=>someK (ρ x) fun d=>someK (ρ ix) fun i=>indexAddrY S t d i K
 | .index t x ix=>someK (ρ x) fun d=>someK (ρ ix) fun i=>indexY S t d i K
 | .slice t x lo hi mx=>someK (ρ x) fun d=>someK (intOfD (lo.bind ρ)) fun l=>someK (intOfD (hi.bind ρ)) fun h=>someK (intOfD (mx.bind ρ)) fun m =>
   ((lo.isSome=l.isSome∧hi.isSome=h.isSome∧mx.isSome=m.isSome)∧(mx.isSome=true→hi.isSome=true))∧sliceY S t d l h m K
 | .build t ps=>someK (zipO ρ ps.toList) fun l=>buildY S t l K
 | .buildSlice t n ps=>someK (zipO ρ ps.toList) fun l=>buildSliceY S t n l K
 | .extract x i=>someK (ρ x) fun d=>(match d with
  | .tup ds=>someK ds[i]? K
  | _=>False)
 | .call ⟨.builtin .len,args,tys⟩=>someK (mapO ρ args.toList) fun ds=>(match ds,tys.toList with
  | [d],[t]=>lenY S t d K
  | _,_=>False)
 | .call ⟨.builtin .min,args,_⟩=>someK (mapO ρ args.toList) fun ds=>(match ds with
  | [x,y]=>someK (minD x y) K
  | _=>False)
 | .call ⟨.builtin .max,args,_⟩=>someK (mapO ρ args.toList) fun ds=>(match ds with
  | [x,y]=>someK (maxD x y) K
  | _=>False)
 | .call ⟨.value f,args,_⟩=>someK (ρ f) fun df=>someK (mapO ρ args.toList) fun ds=>callY S bx df ds K
 | .makeSlice t l c=>someK (ρ l) fun dl=>someK (ρ c) fun dc=>makeQ S t dl dc K
 | .call ⟨.builtin .append,args,tys⟩=>someK (mapO ρ args.toList) fun ds=>(match ds,tys.toList with
  | [x,y],[t,t']=>t=t'∧appQ S t x y K
  | _,_=>False)
 | _=>False
end Go.Lg
/-
  Lg, part 5: the quiet operations do what 'opY' says.
-/
namespace Go.Lg
open Go Go.RowKit

def RdAt (G:Ghost) (w:World) (b o:Nat) (cs:List D):Prop :=
 ∀(j:Nat) d,cs[j]?=some d→∃v,w.cell? ⟨b,o+j,none⟩=some v∧Rel G w d v

theorem RdAt.drop {G:Ghost} {w:World} {b o:Nat} {cs:List D} (h:RdAt G w b o cs) (k:Nat):RdAt G w b (o+k) (cs.drop k):=fun j d hd=>by
 rw[List.getElem?_drop] at hd
 have:=h (k+j) d hd
 rwa [←Nat.add_assoc] at this

theorem BoxAt.rd {G:Ghost} {w:World} {g:Nat} {cs:List D} (h:BoxAt G w g cs):RdAt G w g 0 cs:=fun j d hd=>by
 obtain⟨vs,e,e1,e2,e3⟩:=h
 have hlt:j<vs.size:=Nat.lt_of_lt_of_le (List.getElem?_eq_some_iff.1 hd).1 e2
 exact⟨vs[j],by simp[World.cell?,e1,hlt],e3 j d _ hd (by simp[hlt])⟩

theorem BoxAt.rdOff {G:Ghost} {w:World} {g:Nat} {cs:List D} (h:BoxAt G w g cs) (off:Nat):RdAt G w g off (cs.drop off):=by
 have:=h.rd.drop off
 simpa using this

theorem run_isAgg {P:Program} {t:TypeId} {i:TyI} (h:TyOk P t i) (w:World):(isAgg t).run P w=.ok i.agg w:=by
 have hd:=h.desc
 unfold TyI.agg
 cases hk:i.kind with
 | struct fs=>simp only[hk] at hd;obtain⟨fields,hu,_,_⟩:=hd;simp[isAgg,run_underlying hu]
 | slice e=>simp only[hk] at hd;simp[isAgg,run_underlying hd]
 | array n e=>simp only[hk] at hd;simp[isAgg,run_underlying hd]
 | string=>simp only[hk] at hd;simp[isAgg,run_underlying hd]
 | bool=>simp only[hk] at hd;simp[isAgg,run_underlying hd]
 | int k=>simp only[hk] at hd;simp[isAgg,run_underlying hd]
 | other =>
  simp only[hk] at hd
  obtain⟨d,hu,hn⟩:=hd
  cases d<;>simp_all [isAgg,run_underlying hu]

theorem run_sizeOf {P:Program} {t:TypeId} {i:TyI} (h:TyOk P t i) (w:World):(sizeOf t).run P w=.ok i.size w:=by
 obtain⟨inf,h1,h2,_⟩:=h.info
 simp[sizeOf,typeInfo,h1,h2]

theorem cellsY_sound {S:Setup} {G:Ghost} {w:World} {b o:Nat} {t:TypeId} {cs:List D} {K:D→Prop} (hr:RdAt G w b o cs) (h:cellsY S t cs K) :
  ∃d v,K d∧(loadVar t ⟨b,o,none⟩).run S.P w=.ok v w∧Rel G w d v:=by
 obtain⟨i,hi,h⟩:=someK_get h
 have hok:=S.ok t i hi
 by_cases ha:i.agg=true
 ·rw[if_pos ha] at h
  obtain⟨hl,hK⟩:=h
  let vl:=(List.range i.size).map fun j=>(w.cell? ⟨b,o+j,none⟩).getD undef
  have hlen:vl.length=i.size:=by simp[vl]
  have hcell:∀j v,vl[j]?=some v→w.cell? ((⟨b,o,none⟩:Addr).add j)=some v:=fun j v hv=>by
   have hj:j<i.size:=by rw[←hlen];exact(List.getElem?_eq_some_iff.1 hv).1
   obtain⟨v',h1,_⟩:=hr j _ (List.getElem?_eq_getElem (show j<cs.length by omega))
   rw[Addr.add_lit,h1]
   simp only[vl,List.getElem?_map,List.getElem?_range hj,Option.map_some,h1,Option.getD_some] at hv
   exact hv
  refine⟨_,.agg vl.toArray,hK,?_,?_⟩
  ·have:=run_loadCells_list (P:=S.P) w ⟨b,o,none⟩ vl hcell
   rw[hlen] at this
   simp[loadVar,run_isAgg hok,ha,run_sizeOf hok,this]
  ·refine .agg (by simp[hlen];omega) fun j d v hd hv=>?_
   have hj:j<i.size:=by rw[←hlen];exact(List.getElem?_eq_some_iff.1 hv).1
   rw[List.getElem?_take,if_pos hj] at hd
   obtain⟨v',h1,h2⟩:=hr j d hd
   have:=hcell j v hv
   rw[Addr.add_lit,h1] at this
   obtain rfl:v'=v:=by simpa using this
   exact h2
 ·rw[if_neg ha] at h
  obtain⟨d,hd,hK⟩:=someK_get h
  have h0:cs[0]?=some d:=by rw[←hd];exact(List.head?_eq_getElem? (l:=cs)).symm
  obtain⟨v,h1,h2⟩:=hr 0 d h0
  simp only[Nat.add_zero] at h1
  exact⟨d,v,hK,by simp[loadVar,run_isAgg hok,ha,h1],h2⟩

theorem loadY_sound {S:Setup} {B:Base} {L:LS} {G:Ghost} {a:Act} {w:World} (hs:Sim B L G a w) {t:TypeId} {x:D} {u:Value} (hx:Rel G w x u) {K:D→Prop} (h:loadY S t L.getBox x K) :
  ∃d v,K d∧(Instr.loadAt t u).run S.P w=.ok v w∧Rel G w d v:=by
 cases hx with
 | @imm cs b o hk hst hr =>
  obtain⟨d,v,h1,h2,h3⟩:=cellsY_sound (S:=S) (b:=b) (o:=o) (G:=G) (w:=w) (fun j d hd=>let ⟨_,v,hv⟩:=hst j d hd;⟨v,hv,hr j d v hd hv⟩) h
  exact⟨d,v,h1,by simp[Instr.loadAt,Instr.sureAddr,h2],h3⟩
 | @box id off g hb =>
  obtain⟨cs,hcs,h⟩:=someK_get h
  have hx:∃g,G.β id=some g∧BoxAt G w g cs:=by
   unfold LS.getBox at hcs
   split at hcs
   ·rename_i c hc
    obtain rfl:c=cs:=by simpa using hcs
    obtain⟨g,h1,h2,_⟩:=hs.W.boxes id c hc
    exact⟨g,h1,h2⟩
   ·obtain⟨g,h1,h2,_⟩:=hs.W.robs id cs hcs
    exact⟨g,h1,h2⟩
  obtain⟨g',h1,h2⟩:=hx
  rw[hb] at h1
  obtain rfl:=Option.some.inj h1
  obtain⟨d,v,h1,h2,h3⟩:=cellsY_sound (S:=S) (h2.rdOff off) h
  exact⟨d,v,h1,by simp[Instr.loadAt,Instr.sureAddr,h2],h3⟩
 | _=>exact h.elim

theorem intY_sound {S:Setup} {G:Ghost} {w:World} {op:BinOp} {t:TypeId} {k:IntKind} {x y:Int} {K:D→Prop} (h:intY op k x y K) :
  ∃d v,K d∧(binOp op t (.int k x) (.int k y)).run S.P w=.ok v w∧Rel G w d v:=by
 unfold intY at h
 cases op<;>simp only at h
 case add=>exact⟨_,_,h,by simp[binOp_add,Op.intArith],.int⟩
 case sub=>exact⟨_,_,h,by simp[binOp_sub,Op.intArith],.int⟩
 case mul=>exact⟨_,_,h,by simp[binOp_mul,Op.intArith],.int⟩
 case quo=>exact⟨_,_,h.2,by simp[binOp_quo,Op.intDiv,h.1],.int⟩
 case rem=>exact⟨_,_,h.2,by simp[binOp_rem,Op.intDiv,h.1],.int⟩
 case eql=>exact⟨_,_,h,by simp[binOp_eql],.bool⟩
 case neq=>exact⟨_,_,h,by simp[binOp_neq],.bool⟩
 case lss=>exact⟨_,_,h,by simp[binOp_lss],.bool⟩
 case leq=>exact⟨_,_,h,by simp[binOp_leq],.bool⟩
 case gtr=>exact⟨_,_,h,by simp[binOp_gtr],.bool⟩
 case geq=>exact⟨_,_,h,by simp[binOp_geq],.bool⟩
 case and=>exact⟨_,_,h,by simp[binOp_and,intBits_and],.int⟩
 case or=>exact⟨_,_,h,by simp[binOp_or,intBits_or],.int⟩
 case xor=>exact⟨_,_,h,by simp[binOp_xor,intBits_xor],.int⟩
 case andNot=>exact⟨_,_,h,by simp[binOp_andNot,intBits_andNot],.int⟩
theorem intYY_sound {S:Setup} {G:Ghost} {w:World} {op:BinOp} {t:TypeId} {k k':IntKind} {x y:Int} {K:D→Prop} (h:intYY op k k' x y K) :
  ∃d v,K d∧(binOp op t (.int k x) (.int k' y)).run S.P w=.ok v w∧Rel G w d v:=by
 by_cases h1:op=.shl
 ·subst h1
  obtain⟨⟨h1,h2⟩,h3⟩:=h
  exact⟨_,_,h3,by rw[binOp_shl,shift_shl k k' x y h1 h2];simp,.int⟩
 ·by_cases h2:op=.shr
  ·subst h2
   obtain⟨⟨h1,h2⟩,h3⟩:=h
   exact⟨_,_,h3,by rw[binOp_shr,shift_shr k k' x y h1 h2];simp,.int⟩
  ·have h3:k=k'∧intY op k x y K:=by
    cases op<;>first|exact h|exact absurd rfl h1|exact absurd rfl h2
   obtain⟨rfl,h3⟩:=h3
   exact intY_sound h3

theorem strY_sound {S:Setup} {G:Ghost} {w:World} {op:BinOp} {t:TypeId} {x y:ByteArray} {K:D→Prop} (h:strY op x y K) :
  ∃d v,K d∧(binOp op t (.string x) (.string y)).run S.P w=.ok v w∧Rel G w d v:=by
 unfold strY at h
 cases op<;>simp only at h
 case add =>
  refine⟨_,_,h.2,?_,.str⟩
  have:¬(9223372036854775807<(x.size:Int)+y.size):=by omega
  simp[binOp_string_add,Op.stringOp,this]
 case eql=>exact⟨_,_,h,by simp[binOp_string_eql],.bool⟩
 case neq=>exact⟨_,_,h,by simp[binOp_string_neq],.bool⟩
 case lss=>exact⟨_,_,h,by simp[binOp_string_lss],.bool⟩

theorem kd_ok {S:Setup} {t:TypeId} {k:TK} (h:S.kd t=some k):∃i,S.tab t=some i∧i.kind=k:=by
 unfold Setup.kd at h
 cases hi:S.tab t with
 | none=>simp[hi] at h
 | some i=>exact⟨i,rfl,by simpa[hi] using h⟩
theorem kd_slice {S:Setup} {t e:TypeId} (h:S.kd t=some (.slice e)):S.P.underlying t=some (.slice e):=by
 obtain⟨i,h1,h2⟩:=kd_ok h
 have:=(S.ok t i h1).desc
 rwa [h2] at this
theorem kd_array {S:Setup} {t e:TypeId} {n:Nat} (h:S.kd t=some (.array n e)):S.P.underlying t=some (.array n e):=by
 obtain⟨i,h1,h2⟩:=kd_ok h
 have:=(S.ok t i h1).desc
 rwa [h2] at this
theorem kd_bool {S:Setup} {t:TypeId} (h:S.kd t=some .bool):S.P.underlying t=some .bool:=by
 obtain⟨i,h1,h2⟩:=kd_ok h
 have:=(S.ok t i h1).desc
 rwa [h2] at this
theorem kd_string {S:Setup} {t:TypeId} (h:S.kd t=some .string):S.P.underlying t=some .string:=by
 obtain⟨i,h1,h2⟩:=kd_ok h
 have:=(S.ok t i h1).desc
 rwa [h2] at this
theorem kd_int {S:Setup} {t:TypeId} {k:IntKind} (h:S.kd t=some (.int k)):S.P.underlying t=some (.int k):=by
 obtain⟨i,h1,h2⟩:=kd_ok h
 have:=(S.ok t i h1).desc
 rwa [h2] at this
theorem kd_struct {S:Setup} {t:TypeId} {fs:List (Nat×TypeId)} (h:S.kd t=some (.struct fs)):∃fields,S.P.underlying t=some (.struct fields)∧fields.toList.map (fun f=>(f.offset,f.type))=fs∧∃places,fields.toList.mapM (fun f=>(S.P.info? f.type).map fun i=>(f.offset,i.size))=some places:=by
 obtain⟨i,h1,h2⟩:=kd_ok h
 have:=(S.ok t i h1).desc
 rwa [h2] at this
theorem fields_get {fields:Array Field} {fs:List (Nat×TypeId)} (h:fields.toList.map (fun f=>(f.offset,f.type))=fs) {n:Nat} {p:Nat×TypeId} (hp:fs[n]?=some p):∃f,fields[n]?=some f∧f.offset=p.1∧f.type=p.2:=by
 subst h
 simp only[List.getElem?_map,Option.map_eq_some_iff] at hp
 obtain⟨f,h1,rfl⟩:=hp
 exact⟨f,by simpa using h1,rfl,rfl⟩

theorem binY_sound {S:Setup} {G:Ghost} {w:World} {op:BinOp} {t:TypeId} {x y:D} {u v:Value} (hx:Rel G w x u) (hy:Rel G w y v) (ox oy:Operand) {K:D→Prop} (h:binY S op t x y K) :
  ∃d r,K d∧(do eqGuard op t ox oy u v;binOp op t u v:Sem Value).run S.P w=.ok r w∧Rel G w d r:=by
 unfold binY at h
 split at h
 ·cases hx;cases hy
  obtain⟨d,r,h1,h2,h3⟩:=intYY_sound (S:=S) (G:=G) (w:=w) (t:=t) h
  exact⟨d,r,h1,by simp[eqGuard_at_int,h2],h3⟩
 ·cases hx;cases hy
  obtain⟨hk,h⟩:=h
  have hu:=kd_bool hk
  unfold boolY at h
  cases op<;>simp only at h
  case eql=>exact⟨_,_,h,by simp[eqGuard_at_bool,run_eql_bool w t _ _ hu],.bool⟩
  case neq=>exact⟨_,_,h,by simp[eqGuard_at_bool,run_neq_bool w t _ _ hu],.bool⟩
 ·cases hx;cases hy
  obtain⟨d,r,h1,h2,h3⟩:=strY_sound (S:=S) (G:=G) (w:=w) (t:=t) h
  exact⟨d,r,h1,by simp[eqGuard_at_string,h2],h3⟩
 ·rename_i tk xs
  obtain⟨⟨e,hk⟩,h⟩:=h
  have hu:=kd_slice hk
  cases hx with
  | @sl tk xs A n c b o s hn hc hm ht hA hku hkk hst hr =>
  cases hy with
  | sl hn' hc' hm' ht' hA' hu' hk' hst' hr' =>
  obtain⟨rfl,rfl,rfl⟩:=ht'
  have hne:xs≠[]→A.isNone=false:=fun hx=>by
   rcases hA with h0|h0
   ·exact absurd h0 hx
   ·rw[h0];rfl
  have heql:=Lib.run_eql_slice_nil (P:=S.P) w t e A n c 0 0 hu
  have hneq:=run_neq_slice_nil_any (P:=S.P) w t e A n c 0 0 hu
  have key:(op=.eql∧K (.bool A.isNone))∨(op=.neq∧K (.bool (!A.isNone))):=by
   cases tk<;>cases op<;>simp only[nilY] at h
   case nil.eql=>obtain⟨rfl,_,_⟩:=ht;exact .inl ⟨rfl,h⟩
   case nil.neq=>obtain⟨rfl,_,_⟩:=ht;exact .inr ⟨rfl,h⟩
   case nl.eql=>obtain⟨rfl,_⟩:=ht;exact .inl ⟨rfl,h⟩
   case nl.neq=>obtain⟨rfl,_⟩:=ht;exact .inr ⟨rfl,h⟩
   case nn.eql =>
    cases A with
    | none=>exact absurd rfl ht
    | some a=>exact .inl ⟨rfl,h⟩
   case nn.neq =>
    cases A with
    | none=>exact absurd rfl ht
    | some a=>exact .inr ⟨rfl,h⟩
   all_goals first
    | exact .inl ⟨rfl,by rw[hne h.1];exact h.2⟩
    | exact .inr ⟨rfl,by rw[hne h.1];exact h.2⟩
  rcases key with⟨rfl,hK⟩|⟨rfl,hK⟩
  ·exact⟨_,_,hK,by simp[eqGuard_at_slice,heql],.bool⟩
  ·exact⟨_,_,hK,by simp[eqGuard_at_slice,hneq],.bool⟩
 ·exact h.elim



theorem flat_length {s:Nat}:∀ {xs:List D},(∀x∈xs,x.cells.length=s)→(flat xs).length=xs.length*s
 | [],_=>by simp[flat]
 | x::xs,h=>by
  have ih:=flat_length (s:=s) (xs:=xs) fun y hy=>h y (List.mem_cons_of_mem _ hy)
  have h0:=h x List.mem_cons_self
  simp only[flat,List.flatMap_cons,List.length_append] at ih ⊢
  rw[ih,h0,List.length_cons,Nat.add_mul]
  omega

theorem flat_cons (x:D) (xs:List D):flat (x::xs)=x.cells++flat xs:=rfl
theorem flat_append (xs ys:List D):flat (xs++ys)=flat xs++flat ys:=by simp[flat]

theorem flat_drop {s:Nat}:∀ {xs:List D} (k:Nat),(∀x∈xs,x.cells.length=s)→flat (xs.drop k)=(flat xs).drop (k*s)
 | [],k,_=>by simp[flat]
 | x::xs,0,_=>by simp
 | x::xs,k+1,h=>by
  have ih:=flat_drop (s:=s) (xs:=xs) k fun y hy=>h y (List.mem_cons_of_mem _ hy)
  have h0:=h x List.mem_cons_self
  simp only[List.drop_succ_cons,flat_cons]
  rw[ih,Nat.add_mul,Nat.one_mul,List.drop_append,h0,show (k*s+s-s)=k*s by omega]
  have:x.cells.drop (k*s+s)=[]:=List.drop_eq_nil_of_le (by omega)
  rw[this,List.nil_append]

theorem flat_take {s:Nat}:∀ {xs:List D} (k:Nat),(∀x∈xs,x.cells.length=s)→flat (xs.take k)=(flat xs).take (k*s)
 | [],k,_=>by simp[flat]
 | x::xs,0,_=>by simp[flat]
 | x::xs,k+1,h=>by
  have ih:=flat_take (s:=s) (xs:=xs) k fun y hy=>h y (List.mem_cons_of_mem _ hy)
  have h0:=h x List.mem_cons_self
  simp only[List.take_succ_cons,flat_cons]
  rw[ih,Nat.add_mul,Nat.one_mul,List.take_append,h0,show (k*s+s-s)=k*s by omega]
  have:x.cells.take (k*s+s)=x.cells:=List.take_of_length_le (by omega)
  rw[this]

theorem flat_at {s:Nat} {xs:List D} (h:∀x∈xs,x.cells.length=s) {i:Nat} (hi:i<xs.length) {j:Nat} {d:D} (hj:xs[i].cells[j]?=some d):(flat xs)[i*s+j]?=some d:=by
 have h1:=flat_drop (s:=s) i h
 have h2:xs.drop i=xs[i]::xs.drop (i+1):=by rw[List.drop_eq_getElem_cons hi]
 rw[←List.getElem?_drop,←h1,h2,flat_cons,List.getElem?_append_left (List.getElem?_eq_some_iff.1 hj).1]
 exact hj

theorem memOk_cells {xs:List D} (h:∀d∈flat xs,d.memOk=true) {x:D} (hx:x∈xs):∀d∈x.cells,d.memOk=true:=fun d hd =>
 h d (List.mem_flatMap.2 ⟨x,hx,hd⟩)

theorem add_mk (b o n:Nat):Addr.add ⟨b,o,none⟩ n=⟨b,o+n,none⟩:=by
 unfold Addr.add
 split
 ·rename_i h;subst h;rfl
 ·rfl

theorem indexAddrY_sound {S:Setup} {G:Ghost} {w:World} {t:TypeId} {x ix:D} {u iv:Value} (hx:Rel G w x u) (hi:Rel G w ix iv) {K:D→Prop} (h:indexAddrY S t x ix K) :
  ∃d v,K d∧(Instr.indexAt t u iv).run S.P w=.ok v w∧Rel G w d v:=by
 unfold indexAddrY at h
 split at h
 ·rename_i e k i hk
  cases hi
  have hu:=kd_slice hk
  obtain⟨j,hj,h⟩:=someK_get h
  have hok:=S.ok e j hj
  cases hx with
  | @sl tk xs A n c b o s hn hc hm ht hA hku hkk hst hr =>
   obtain⟨⟨h0,h1⟩,hsz,hK⟩:=h
   have hlt:i.toNat<xs.length:=by omega
   have hne:xs≠[]:=fun e=>by subst e;simp at hlt
   have hA':A=some ⟨b,o,none⟩:=hA.resolve_left hne
   subst hA'
   have hget:xs.getD i.toNat default=xs[i.toNat]:=by simp[List.getD,hlt]
   rw[hget] at hsz hK
   have hs:s=j.size:=by rw[←hsz];exact(hku _ (List.getElem_mem hlt)).symm
   subst hs
   refine⟨_,.pointer (some ⟨b,o+i.toNat*j.size,none⟩),hK,?_,?_⟩
   ·have hin:0≤i∧i<(n:Int):=⟨h0,by omega⟩
    simp[Instr.indexAt,asIntOf,run_underlying hu,run_sizeOf hok,hin,add_mk]
   ·refine .imm (memOk_cells hkk (List.getElem_mem hlt)) (fun q d hd=>?_) (fun q d v hd hv=>?_)
    ·rw[Nat.add_assoc];exact hst _ d (flat_at hku hlt hd)
    ·rw[Nat.add_assoc] at hv;exact hr _ d v (flat_at hku hlt hd) hv
  | @ms id n c g hb hc hn =>
   obtain⟨⟨h0,h1⟩,hK⟩:=h
   refine⟨_,.pointer (some ⟨g,i.toNat*j.size,none⟩),hK,?_,.box hb⟩
   have hin:0≤i∧i<(n:Int):=⟨h0,h1⟩
   simp[Instr.indexAt,asIntOf,run_underlying hu,run_sizeOf hok,hin,add_mk]
  | _=>exact h.elim
 ·rename_i n e k i hk
  cases hi
  have hu:=kd_array hk
  obtain⟨j,hj,h⟩:=someK_get h
  have hok:=S.ok e j hj
  cases hx with
  | @box id off g hb =>
   obtain⟨⟨h0,h1⟩,hK⟩:=h
   refine⟨_,.pointer (some ⟨g,off+i.toNat*j.size,none⟩),hK,?_,.box hb⟩
   have hin:0≤i∧i<(n:Int):=⟨h0,h1⟩
   simp[Instr.indexAt,asIntOf,run_underlying hu,run_sizeOf hok,hin,add_mk,Instr.sureAddr]
  | @imm cs b o hk2 hst hr =>
   obtain⟨⟨h0,h1⟩,hK⟩:=h
   refine⟨_,.pointer (some ⟨b,o+i.toNat*j.size,none⟩),hK,?_,?_⟩
   ·have hin:0≤i∧i<(n:Int):=⟨h0,h1⟩
    simp[Instr.indexAt,asIntOf,run_underlying hu,run_sizeOf hok,hin,add_mk,Instr.sureAddr]
   ·refine .imm (fun d hd=>hk2 d (List.mem_of_mem_drop hd)) (fun q d hd=>?_) (fun q d v hd hv=>?_)
    ·rw[List.getElem?_drop] at hd
     rw[Nat.add_assoc];exact hst _ d hd
    ·rw[List.getElem?_drop] at hd
     rw[Nat.add_assoc] at hv;exact hr _ d v hd hv
  | _=>exact h.elim
 ·exact h.elim

theorem indexY_sound {S:Setup} {G:Ghost} {w:World} {t:TypeId} {x ix:D} {u iv:Value} (hx:Rel G w x u) (hi:Rel G w ix iv) {K:D→Prop} (h:indexY S t x ix K) :
  ∃d v,K d∧(Instr.index t u iv).run S.P w=.ok v w∧Rel G w d v:=by
 unfold indexY at h
 split at h
 ·rename_i k i s hk
  cases hi;cases hx
  have hu:=kd_string hk
  obtain⟨⟨h0,h1⟩,hK⟩:=h
  have hlt:i.toNat<s.size:=by omega
  refine⟨_,_,hK,?_,.int⟩
  have hget:s[i.toNat]?=some (s.data.getD i.toNat 0):=by
   have hlt':i.toNat<s.data.size:=hlt
   simp only[Array.getD_eq_getD_getElem?,Array.getElem?_eq_getElem hlt',Option.getD_some]
   exact getElem?_pos s i.toNat hlt
  simp[Instr.index,asIntOf,run_underlying hu,h0,hget]
 ·exact h.elim

theorem lenY_sound {S:Setup} {G:Ghost} {w:World} {t ty:TypeId} {x:D} {u:Value} (hx:Rel G w x u) {K:D→Prop} (h:lenY S t x K) :
  ∃d v,K d∧(Builtin.len_ #[t] ty #[u]).run S.P w=.ok v w∧Rel G w d v:=by
 unfold lenY at h
 split at h
 ·rename_i e tk xs hk
  have hu:=kd_slice hk
  cases hx with
  | sl hn hc hm ht hA hku hkk hst hr=>exact⟨_,_,h,by simp[Builtin.len_,run_underlying hu,goInt,hn],.int⟩
 ·rename_i e id n hk
  have hu:=kd_slice hk
  cases hx
  exact⟨_,_,h,by simp[Builtin.len_,run_underlying hu,goInt],.int⟩
 ·rename_i s hk
  have hu:=kd_string hk
  cases hx
  exact⟨_,_,h,by simp[Builtin.len_,run_underlying hu,goInt],.int⟩
 ·exact h.elim

theorem fieldAddrY_sound {S:Setup} {G:Ghost} {w:World} {t:TypeId} {f:Nat} {x:D} {u:Value} (hx:Rel G w x u) {K:D→Prop} (h:fieldAddrY S t f x K) :
  ∃d v,K d∧(Instr.fieldAt t u f).run S.P w=.ok v w∧Rel G w d v:=by
 unfold fieldAddrY at h
 split at h
 ·rename_i fs hk
  obtain⟨fields,hu,hfs,_⟩:=kd_struct hk
  obtain⟨p,hp,h⟩:=someK_get h
  obtain⟨j,hj,hne,h⟩:=someK_get h
  obtain⟨fl,hf,ho,hty⟩:=fields_get hfs hp
  have hok:=S.ok p.2 j hj
  have hsz:(sizeOf fl.type).run S.P w=.ok j.size w:=by rw[hty];exact run_sizeOf hok w
  cases hx with
  | @imm cs b o hkk hst hr =>
   refine⟨_,.pointer (some ⟨b,o+p.1,none⟩),h,?_,?_⟩
   ·simp[Instr.fieldAt,run_underlying hu,hf,Instr.sureAddr,fieldPlace,hsz,hne,add_mk,ho]
   ·refine .imm (fun d hd=>hkk d (List.mem_of_mem_drop hd)) (fun q d hd=>?_) (fun q d v hd hv=>?_)
    ·rw[List.getElem?_drop] at hd
     rw[Nat.add_assoc];exact hst _ d hd
    ·rw[List.getElem?_drop] at hd
     rw[Nat.add_assoc] at hv;exact hr _ d v hd hv
  | @box id off g hb =>
   refine⟨_,.pointer (some ⟨g,off+p.1,none⟩),h,?_,.box hb⟩
   simp[Instr.fieldAt,run_underlying hu,hf,Instr.sureAddr,fieldPlace,hsz,hne,add_mk,ho]
  | _=>exact h.elim
 ·exact h.elim

theorem part_sound {S:Setup} {G:Ghost} {w:World} {t:TypeId} {cs:List D} {vl:List Value} {off:Nat} {K:D→Prop} (hl:vl.length=cs.length)
  (hr:∀(j:Nat) d v,cs[j]?=some d→vl[j]?=some v→Rel G w d v) (h:cellsY S t (cs.drop off) K) :
  ∃d v,K d∧(part t vl.toArray off).run S.P w=.ok v w∧Rel G w d v:=by
 obtain⟨i,hi,h⟩:=someK_get h
 have hok:=S.ok t i hi
 by_cases ha:i.agg=true
 ·rw[if_pos ha] at h
  obtain⟨hlen,hK⟩:=h
  refine⟨_,.agg ((vl.drop off).take i.size).toArray,hK,?_,?_⟩
  ·simp[part,run_isAgg hok,ha,run_sizeOf hok,List.extract_toArray]
  ·refine .agg (by simp at hlen ⊢;omega) fun j d v hd hv=>?_
   rw[List.getElem?_take] at hd hv
   split at hd
   ·rename_i hj
    rw[if_pos hj,List.getElem?_drop] at hv
    rw[List.getElem?_drop] at hd
    exact hr _ d v hd hv
   ·cases hd
 ·rw[if_neg ha] at h
  obtain⟨d,hd,hK⟩:=someK_get h
  have h0:cs[off]?=some d:=by
   have:(cs.drop off)[0]?=some d:=by rw[←hd];exact(List.head?_eq_getElem? (l:=cs.drop off)).symm
   simpa[List.getElem?_drop] using this
  have hlt:off<vl.length:=by rw[hl];exact(List.getElem?_eq_some_iff.1 h0).1
  exact⟨d,vl[off],hK,by simp[part,run_isAgg hok,ha,hlt],hr off d _ h0 (by simp[hlt])⟩

theorem fieldY_sound {S:Setup} {G:Ghost} {w:World} {t:TypeId} {f:Nat} {x:D} {u:Value} (hx:Rel G w x u) {K:D→Prop} (h:fieldY S t f x K) :
  ∃d v,K d∧(Instr.field t u f).run S.P w=.ok v w∧Rel G w d v:=by
 unfold fieldY at h
 split at h
 ·rename_i fs cs hk
  obtain⟨fields,hu,hfs,_⟩:=kd_struct hk
  obtain⟨p,hp,h⟩:=someK_get h
  obtain⟨fl,hf,ho,hty⟩:=fields_get hfs hp
  cases hx with
  | @agg cs vl hl hr =>
   obtain⟨d,v,h1,h2,h3⟩:=part_sound (S:=S) hl hr h
   exact⟨d,v,h1,by simp[Instr.field,run_underlying hu,hf,asAgg,ho,hty,h2],h3⟩
 ·exact h.elim

theorem unY_sound {S:Setup} {G:Ghost} {w:World} {op:UnOp} {x:D} {u:Value} (hx:Rel G w x u) {K:D→Prop} (h:unY op x K) :
  ∃d v,K d∧(Op.unary op u).run S.P w=.ok v w∧Rel G w d v:=by
 unfold unY at h
 split at h
 ·cases hx;exact⟨_,_,h,by simp[unary_not],.bool⟩
 ·cases hx;exact⟨_,_,h,by simp[unary_neg,Op.intArith],.int⟩
 ·exact h.elim

theorem convY_sound {S:Setup} {G:Ghost} {w:World} {src dst:TypeId} {x:D} {u:Value} (hs:(S.tab src).isSome=true) (hx:Rel G w x u) {K:D→Prop} (h:convY S dst x K) :
  ∃d v,K d∧(convert src dst u).run S.P w=.ok v w∧Rel G w d v:=by
 unfold convY at h
 split at h
 ·split at h
  ·rename_i k hk
   cases hx
   have hu:=kd_int hk
   obtain⟨i,hi⟩:=Option.isSome_iff_exists.1 hs
   have hd:=(S.ok src i hi).desc
   have:∃d,S.P.underlying src=some d:=by
    cases hkk:i.kind<;>simp only[hkk] at hd<;>first|exact⟨_,hd⟩|exact⟨_,hd.choose_spec.1⟩
   obtain⟨d,hsrc⟩:=this
   exact⟨_,_,h,by cases d<;>simp[convert,run_underlying hu,run_underlying hsrc,Conv.intToInt],.int⟩
  ·exact h.elim
 ·exact h.elim


theorem rel_sub {G:Ghost} {w:World} {tk tk':Tk} {xs:List D} {A A':Option Addr} {n c c' l hh s:Nat} (hx:Rel G w (.sl tk xs) (.slice A n c)) (h1:l≤hh) (h2:hh≤n) (h3:hh-l≤c') (h4:c'≤maxLen)
  (hs:∀x∈xs,x.cells.length=s) (hA:l<hh→A'=A.map (·.add (l*s))) (ht:TkOk G w tk' ((xs.take hh).drop l) A' (hh-l) c'):Rel G w (.sl tk' ((xs.take hh).drop l)) (.slice A' (hh-l) c'):=by
 cases hx with
 | @sl _ _ _ _ _ b o s' hn hc hm _ hA0 hu hk hst hr =>
 have hmem:∀x∈(xs.take hh).drop l,x∈xs:=fun x hx=>List.mem_of_mem_take (List.mem_of_mem_drop hx)
 have hfl:flat ((xs.take hh).drop l)=((flat xs).take (hh*s)).drop (l*s):=by
  rw[flat_drop l (fun x hx=>hs x (List.mem_of_mem_take hx)),flat_take hh hs]
 have hget:∀(j:Nat) d,(flat ((xs.take hh).drop l))[j]?=some d→(flat xs)[l*s+j]?=some d:=fun j d hd=>by
  rw[hfl,List.getElem?_drop,List.getElem?_take] at hd
  split at hd
  ·exact hd
  ·cases hd
 refine .sl (b:=b) (o:=o+l*s) (s:=s) (by simp;omega) h3 h4 ht ?_ (fun x hx=>hs x (hmem x hx)) (fun d hd=>?_) (fun j d hd=>?_) (fun j d v hd hv=>?_)
 ·by_cases hlt:l<hh
  ·right
   rw[hA hlt]
   have:xs≠[]:=fun e=>by subst e;simp at hn;omega
   rw[hA0.resolve_left this]
   simp[add_mk]
  ·left
   exact List.eq_nil_of_length_eq_zero (by simp;omega)
 ·obtain⟨x,hx,hd⟩:=List.mem_flatMap.1 hd
  exact hk d (List.mem_flatMap.2 ⟨x,hmem x hx,hd⟩)
 ·rw[Nat.add_assoc];exact hst _ d (hget j d hd)
 ·rw[Nat.add_assoc] at hv;exact hr _ d v (hget j d hd) hv

theorem intOfD_rel {o:Option D} {r:Option Int} (h:intOfD o=some r):(o=none∧r=none)∨∃k n,o=some (.int k n)∧r=some n:=by
 unfold intOfD at h
 split at h
 ·exact .inl ⟨rfl,(Option.some.inj h).symm⟩
 ·exact .inr ⟨_,_,rfl,(Option.some.inj h).symm⟩
 ·cases h

theorem run_sliceBounds_lh {P:Program} (w:World) (isS:Bool) (len cap:Nat) (lo hi:Option Value) (l h:Option Int)
  (hl:(lo=none∧l=none)∨∃k n,lo=some (.int k n)∧l=some n) (hh:(hi=none∧h=none)∨∃k n,hi=some (.int k n)∧h=some n)
  (h0:0≤l.getD 0) (h1:l.getD 0≤h.getD len) (h2:h.getD len≤len) (h3:len≤cap) :
  (Instr.sliceBounds isS len cap lo hi none).run P w=.ok ((l.getD 0).toNat,(h.getD len).toNat,cap) w:=by
 rcases hl with⟨rfl,rfl⟩|⟨k,n,rfl,rfl⟩<;>rcases hh with⟨rfl,rfl⟩|⟨k',n',rfl,rfl⟩<;>simp only[Option.getD_none,Option.getD_some] at h0 h1 h2 ⊢
 ·simp[Instr.sliceBounds]
 ·simp[Instr.sliceBounds,run_sliceBound,show n'≤(cap:Int) by omega,show 0≤n' by omega]
 ·simp[Instr.sliceBounds,run_sliceBound,h0,h1]
 ·have e:=run_sliceBound (P:=P) w k n n'.toNat .sliceB h0 (by omega)
  simp[Instr.sliceBounds,run_sliceBound,show n'≤(cap:Int) by omega,show 0≤n' by omega,e]

theorem run_sliceBounds_m {P:Program} (w:World) (isS:Bool) (len cap:Nat) (lo:Option Value) (kh km:IntKind) (h:Int) (l:Option Int)
  (hl:(lo=none∧l=none)∨∃k n,lo=some (.int k n)∧l=some n) (h0:0≤l.getD 0) (h1:l.getD 0≤h) (h2:h≤len) (h3:len≤cap) :
  (Instr.sliceBounds isS len cap lo (some (.int kh h)) (some (.int km h))).run P w=.ok ((l.getD 0).toNat,h.toNat,h.toNat) w:=by
 have e0:0≤h:=by omega
 have e1:h≤(cap:Int):=by omega
 have e2:=run_sliceBound (P:=P) w kh h h.toNat .slice3B e0 (by omega)
 rcases hl with⟨rfl,rfl⟩|⟨k,n,rfl,rfl⟩<;>simp only[Option.getD_none,Option.getD_some] at h0 h1 ⊢
 ·simp[Instr.sliceBounds,run_sliceBound,e0,e1,e2]
 ·have e3:=run_sliceBound (P:=P) w k n h.toNat .slice3C h0 (by omega)
  simp[Instr.sliceBounds,run_sliceBound,e0,e1,e2,e3]

theorem sliceY_sound {S:Setup} {G:Ghost} {w:World} {t:TypeId} {x:D} {u:Value} {lo hi mx:Option Value} {l h m:Option Int} (hx:Rel G w x u)
  (hl:(lo=none∧l=none)∨∃k n,lo=some (.int k n)∧l=some n) (hh:(hi=none∧h=none)∨∃k n,hi=some (.int k n)∧h=some n)
  (hm:(mx=none∧m=none)∨∃k n,mx=some (.int k n)∧m=some n) (hmh:mx.isSome=true→hi.isSome=true) {K:D→Prop} (hy:sliceY S t x l h m K) :
  ∃d v,K d∧(Instr.sliceAt t u lo hi mx).run S.P w=.ok v w∧Rel G w d v:=by
 unfold sliceY at hy
 split at hy
 ·rename_i e tk xs hk
  have hu:=kd_slice hk
  obtain⟨j,hj,hmx,⟨h0,h1,h2⟩,hs,hK⟩:=someK_get hy
  have hok:=S.ok e j hj
  have hx':=hx
  cases hx with
  | @sl _ _ A n c b o s' hn hc hml _ hA0 hu0 hk0 hst hr =>
  subst hn
  have he:S.P.elem t=e:=by simp[Program.elem,hu]
  have hu':S.P.underlying t=some (.slice (S.P.elem t)):=by rw[he];exact hu
  rcases hm with⟨rfl,rfl⟩|⟨km,mv,rfl,rfl⟩
  ·simp only at hK hmx
   refine⟨_,sliced A (l.getD 0).toNat (h.getD xs.length).toNat c j.size,hK,?_,?_⟩
   ·rw[run_sliceAt_slice w t _ _ _ _ hu',run_slice_any w t _ _ _ hu',run_sliceBounds_lh w true xs.length c lo hi l h hl hh h0 h1 h2 hc]
    simp[he,run_sizeOf hok]
   ·unfold sliced
    by_cases hcl:c=(l.getD 0).toNat
    ·rw[if_pos hcl]
     exact rel_sub hx' (by omega) (by omega) (by omega) (by omega) hs (fun hlt=>absurd hlt (by omega)) trivial
    ·rw[if_neg hcl]
     exact rel_sub hx' (by omega) (by omega) (by omega) (by omega) hs (fun _=>rfl) trivial
  ·simp only at hK hmx
   rcases hh with⟨rfl,rfl⟩|⟨kh,hv,rfl,rfl⟩
   ·exact absurd (hmh rfl) (by simp)
   ·simp only[Option.getD_some] at hmx h1 h2 hK
    subst hmx
    refine⟨_,sliced A (l.getD 0).toNat mv.toNat mv.toNat j.size,hK,?_,?_⟩
    ·rw[run_sliceAt_slice w t _ _ _ _ hu',run_slice_any w t _ _ _ hu',run_sliceBounds_m w true xs.length c lo kh km mv l hl h0 h1 h2 hc]
     simp[he,run_sizeOf hok]
    ·unfold sliced
     by_cases hcl:mv.toNat=(l.getD 0).toNat
     ·rw[if_pos hcl]
      exact rel_sub hx' (by omega) (by omega) (by omega) (by omega) hs (fun hlt=>absurd hlt (by omega)) rfl
     ·rw[if_neg hcl]
      exact rel_sub hx' (by omega) (by omega) (by omega) (by omega) hs (fun _=>rfl) rfl
 ·rename_i e id n hk
  have hu:=kd_slice hk
  obtain⟨hse,⟨rfl,rfl⟩,⟨h1,h2⟩,hK⟩:=hy
  obtain⟨j,hj⟩:=Option.isSome_iff_exists.1 hse
  have hok:=S.ok e j hj
  have he:S.P.elem t=e:=by simp[Program.elem,hu]
  have hu':S.P.underlying t=some (.slice (S.P.elem t)):=by rw[he];exact hu
  cases hx with
  | @ms _ _ c g hb hc hml =>
  rcases hl with⟨rfl,_⟩|⟨_,_,_,e0⟩
  ·rcases hm with⟨rfl,_⟩|⟨_,_,_,e0⟩
   ·refine⟨_,sliced (some ⟨g,0,none⟩) 0 (h.getD n).toNat c j.size,hK,?_,?_⟩
    ·rw[run_sliceAt_slice w t _ _ _ _ hu',run_slice_any w t _ _ _ hu',run_sliceBounds_lh w true n c none hi none h (.inl ⟨rfl,rfl⟩) hh (by simp) (by simpa using h1) h2 hc]
     simp[he,run_sizeOf hok]
    ·unfold sliced
     have hA:(if c=0 then some (⟨g,0,none⟩:Addr) else (some (⟨g,0,none⟩:Addr)).map (·.add (0*j.size)))=some ⟨g,0,none⟩:=by
      split
      ·rfl
      ·simp[Addr.add]
     rw[hA,Nat.sub_zero,Nat.sub_zero]
     exact .ms hb (by omega) hml
   ·cases e0
  ·cases e0
 ·rename_i s hk
  have hu:=kd_string hk
  obtain⟨rfl,⟨h0,h1,h2⟩,hK⟩:=hy
  cases hx
  rcases hm with⟨rfl,_⟩|⟨_,_,_,e⟩
  ·refine⟨_,_,hK,?_,.str⟩
   rw[run_sliceAt_string w t _ _ _ _ hu]
   simp[Instr.slice,run_underlying hu,run_sliceBounds_lh w false s.size s.size lo hi l h hl hh h0 h1 h2 (Nat.le_refl _)]
  ·cases e
 ·exact hy.elim
end Go.Lg
/-
  Lg, part 6: literals of structs and slices.
-/
namespace Go.Lg
open Go Go.RowKit

def RelArr (G:Ghost) (w:World) (cs:List D) (arr:Array Value):Prop :=
 arr.size=cs.length∧∀(j:Nat) d v,cs[j]?=some d→arr[j]?=some v→Rel G w d v

def laid (off:Nat) (cells:Array Value) (l:List (Value×Nat)):Array Value:=l.foldl (fun cs p=>cs.setIfInBounds (off+p.2) p.1) cells

theorem laid_spec (off:Nat):∀(l:List Value) (k:Nat) (cells:Array Value),(laid off cells (l.zipIdx k)).size=cells.size ∧
  ∀i,i<cells.size→(laid off cells (l.zipIdx k))[i]?=if off+k≤i∧i<off+k+l.length then l[i-(off+k)]? else cells[i]?
 | [],k,cells=>⟨rfl,fun i _=>by rw[if_neg (by simp)];rfl⟩
 | v::l,k,cells=>by
  obtain⟨h1,h2⟩:=laid_spec off l (k+1) (cells.setIfInBounds (off+k) v)
  have e:laid off cells ((v::l).zipIdx k)=laid off (cells.setIfInBounds (off+k) v) (l.zipIdx (k+1)):=rfl
  rw[e]
  refine⟨by rw[h1];simp,fun i hi=>?_⟩
  rw[h2 i (by simpa using hi)]
  by_cases c1:off+(k+1)≤i∧i<off+(k+1)+l.length
  ·rw[if_pos c1,if_pos (by simp only[List.length_cons];omega),show i-(off+k)=(i-(off+(k+1)))+1 by omega]
   simp
  ·rw[if_neg c1]
   by_cases c2:i=off+k
   ·subst c2
    rw[if_pos (by simp only[List.length_cons];omega)]
    simp[hi]
   ·rw[if_neg (by simp only[List.length_cons];omega),Array.getElem?_setIfInBounds_ne (by omega)]

theorem putCells_get {cs new:List D} {off:Nat} (h:off+new.length≤cs.length) (i:Nat) :
  (putCells cs off new)[i]?=if off≤i∧i<off+new.length then new[i-off]? else cs[i]?:=by
 unfold putCells
 have hl:(cs.take off).length=off:=by simp;omega
 by_cases h1:i<off
 ·rw[if_neg (by omega),List.append_assoc,List.getElem?_append_left (by omega),List.getElem?_take,if_pos h1]
 ·by_cases h2:i<off+new.length
  ·rw[if_pos (by omega),List.append_assoc,List.getElem?_append_right (by omega),hl,List.getElem?_append_left (by omega)]
  ·rw[if_neg (by omega),List.getElem?_append_right (by simp;omega),List.getElem?_drop]
   congr 1
   simp
   omega
theorem putCells_length {cs new:List D} {off:Nat} (h:off+new.length≤cs.length):(putCells cs off new).length=cs.length:=by
 unfold putCells
 simp
 omega

theorem fold_laid (off:Nat) (v:Value) (cells:Array Value):v.cells.zipIdx.foldl (fun cs (c,j)=>cs.setIfInBounds (off+j) c) cells=laid off cells (v.cells.toList.zipIdx 0):=by
 rw[←Array.foldl_toList]
 simp[laid]

theorem relArr_put {G:Ghost} {w:World} {cs:List D} {arr:Array Value} (h:RelArr G w cs arr) {d:D} {v:Value} (hv:Rel G w d v) {off:Nat} (hl:off+d.cells.length≤cs.length) :
  RelArr G w (putCells cs off d.cells) (laid off arr (v.cells.toList.zipIdx 0)):=by
 obtain⟨h1,h2⟩:=h
 obtain⟨c1,c2⟩:=hv.cells
 obtain⟨l1,l2⟩:=laid_spec off v.cells.toList 0 arr
 refine⟨by rw[l1,putCells_length hl];exact h1,fun j e u he hu=>?_⟩
 have hj:j<arr.size:=by rw[←l1];exact(Array.getElem?_eq_some_iff.1 hu).1
 rw[l2 j hj] at hu
 rw[putCells_get hl] at he
 have hlen:v.cells.toList.length=d.cells.length:=by simpa using c1
 simp only[Nat.add_zero,hlen] at hu
 by_cases hc:off≤j∧j<off+d.cells.length
 ·rw[if_pos hc] at he hu
  exact c2 _ e u he (by simpa using hu)
 ·rw[if_neg hc] at he hu
  exact h2 j e u he hu

inductive PRel (G:Ghost) (w:World):List (Nat×D)→List (Nat×Value)→Prop
 | nil:PRel G w [] []
 | cons {i d v ps vs} (h:Rel G w d v) (hr:PRel G w ps vs):PRel G w ((i,d)::ps) ((i,v)::vs)

theorem zipO_sound {B:Base} {L:LS} {G:Ghost} {a:Act} {w:World} (h:Sim B L G a w):∀ {xs:List (Nat×Operand)} {ps:List (Nat×D)},zipO (evalO L) xs=some ps →
  PRel G w ps (xs.map fun (i,x)=>(i,a.eval x))
 | [],ps,he=>by
  obtain rfl:=(Option.some.inj he).symm
  exact .nil
 | (i,x)::xs,ps,he=>by
  unfold zipO at he
  split at he
  ·rename_i d ds h1 h2
   obtain rfl:=(Option.some.inj he).symm
   exact .cons (eval_sound h h1) (zipO_sound h h2)
  ·cases he

theorem fill_sound {S:Setup} {G:Ghost} {w:World} {fs:List (Nat×TypeId)} {place:Nat→Option (Nat×Nat)}
  (hp:∀(i:Nat) p j,fs[i]?=some p→S.tab p.2=some j→place i=some (p.1,j.size)):∀ {ps:List (Nat×D)} {vs:List (Nat×Value)} {cs cs':List D} {arr:Array Value},PRel G w ps vs →
  RelArr G w cs arr→buildP S fs cs ps=some cs'→∃arr',Instr.fill place arr vs=some arr'∧RelArr G w cs' arr':=by
 intro ps vs cs cs' arr h
 induction h generalizing cs arr with
 | nil =>
  intro hr hb
  obtain rfl:=(Option.some.inj hb).symm
  exact⟨arr,rfl,hr⟩
 | @cons i d v ps vs hv hr' ih =>
  intro hr hb
  unfold buildP at hb
  split at hb
  ·rename_i p hpi
   split at hb
   ·rename_i j hj
    split at hb
    ·rename_i hc
     have hcells:=hv.cells.1
     obtain⟨arr',e1,e2⟩:=ih (relArr_put hr hv (off:=p.1) (by rw[hc.1];exact hc.2)) hb
     refine⟨arr',?_,e2⟩
     have hcond:(decide (v.cells.size≠j.size)||decide (p.1+v.cells.size>arr.size))=false:=by
      rw[hcells,hc.1,hr.1]
      simp
      exact hc.2
     simp only[Instr.fill,hp i p j hpi hj,fold_laid]
     rw[if_neg (by rw[hcond];simp)]
     exact e1
    ·cases hb
   ·cases hb
  ·cases hb

theorem relArr_zero {S:Setup} {G:Ghost} {w:World} {t:TypeId} {i:TyI} (hi:S.tab t=some i):∃z,(zeroValue t).run S.P w=.ok z w∧RelArr G w (i.zero.map ZK.d) z.cells∧z.cells.size=i.size:=by
 obtain⟨inf,h1,_,_,z,h2,h3,_⟩:=(S.ok t i hi).info
 refine⟨z,by simp[zeroValue,typeInfo,h1,h2],⟨by rw[h3];simp,fun j d v hd hv=>?_⟩,by rw[h3];simp[TyI.size]⟩
 rw[h3] at hv
 simp only[List.getElem?_toArray,List.getElem?_map,Option.map_eq_some_iff] at hd hv
 obtain⟨k,hk,rfl⟩:=hd
 obtain⟨k',hk',rfl⟩:=hv
 rw[hk] at hk'
 obtain rfl:=Option.some.inj hk'
 cases k<;>first
  | exact .int
  | exact .bool
  | exact .str
  | exact rel_nilslice
  | exact .raw (by intro cs h;cases h)

theorem mapM_get {α β:Type} {f:α→Option β}:∀ {l:List α} {r:List β},l.mapM f=some r→∀(i:Nat) x,l[i]?=some x→∃y,f x=some y∧r[i]?=some y
 | [],r,h,i,x,hx=>by simp at hx
 | a::l,r,h,i,x,hx=>by
  simp only[List.mapM_cons,Option.bind_eq_bind,Option.pure_def] at h
  cases hf:f a with
  | none=>simp[hf] at h
  | some b =>
   cases hr:l.mapM f with
   | none=>simp[hf,hr] at h
   | some rest =>
    simp[hf,hr] at h
    subst h
    cases i with
    | zero=>simp at hx;subst hx;exact⟨b,hf,rfl⟩
    | succ i =>
     obtain⟨y,h1,h2⟩:=mapM_get hr i x (by simpa using hx)
     exact⟨y,h1,by simpa using h2⟩

theorem buildY_sound {S:Setup} {G:Ghost} {w:World} {t:TypeId} {ps:List (Nat×D)} {vs:Array (Nat×Value)} (hv:PRel G w ps vs.toList) {K:D→Prop} (h:buildY S t ps K) :
  ∃d v,K d∧(Instr.build t vs).run S.P w=.ok v w∧Rel G w d v:=by
 obtain⟨i,hi,h⟩:=someK_get h
 split at h
 ·rename_i fs hk
  obtain⟨cs,hb,hK⟩:=someK_get h
  obtain⟨fields,hu,hfs,places,hpl⟩:=kd_struct (S:=S) (t:=t) (fs:=fs) (by unfold Setup.kd;rw[hi];simp[hk])
  obtain⟨z,hz,hrz,_⟩:=relArr_zero (S:=S) (G:=G) (w:=w) hi
  have hp:∀(q:Nat) p j,fs[q]?=some p→S.tab p.2=some j→(places.toArray[q]?:Option (Nat×Nat))=some (p.1,j.size):=fun q p j hq hj=>by
   obtain⟨fl,hf,ho,hty⟩:=fields_get hfs hq
   obtain⟨y,h1,h2⟩:=mapM_get hpl q fl (by simpa using hf)
   obtain⟨inf,k1,k2,_⟩:=(S.ok p.2 j hj).info
   rw[hty,k1] at h1
   simp at h1
   subst h1
   simpa[ho,k2] using h2
  obtain⟨arr,e1,e2⟩:=fill_sound (S:=S) hp hv hrz hb
  refine⟨_,.agg arr,hK,?_,?_⟩
  ·refine run_build (P:=S.P) w t vs arr ?_
   obtain⟨inf,k1,_,_,z',k2,_⟩:=(S.ok t i hi).info
   have hzz:z'=z:=by
    have:(zeroValue t).run S.P w=.ok z' w:=by simp[zeroValue,typeInfo,k1,k2]
    rw[this] at hz
    simpa using hz
   subst hzz
   simp only[Program.built,k1,hu,k2,hpl]
   exact e1
  ·have:arr=arr.toList.toArray:=by simp
   rw[this]
   exact .agg (by simpa using e2.1) fun j d v hd hv=>e2.2 j d v hd (by simpa using hv)
 ·rename_i n e hk
  obtain⟨je,hje,rfl,hK⟩:=someK_get h
  have hvs:vs=#[]:=by
   cases vs with
   | mk l =>
    cases l with
    | nil=>rfl
    | cons _ _=>cases hv
  subst hvs
  have hu:=kd_array (S:=S) (t:=t) (n:=n) (e:=e) (by unfold Setup.kd;rw[hi];simp[hk])
  obtain⟨z,hz,hrz,_⟩:=relArr_zero (S:=S) (G:=G) (w:=w) hi
  obtain⟨inf,k1,_,_,z',k2,_⟩:=(S.ok t i hi).info
  have hzz:z'=z:=by
   have:(zeroValue t).run S.P w=.ok z' w:=by simp[zeroValue,typeInfo,k1,k2]
   rw[this] at hz
   simpa using hz
  subst hzz
  obtain⟨ie,hie,_⟩:=(S.ok e je hje).info
  refine⟨_,.agg z'.cells,hK,?_,?_⟩
  ·refine run_build (P:=S.P) w t #[] z'.cells ?_
   simp[Program.built,k1,hu,k2,hie,Instr.fill]
  ·have:z'.cells=z'.cells.toList.toArray:=by simp
   rw[this]
   exact .agg (by simpa using hrz.1) fun j d v hd hv=>hrz.2 j d v hd (by simpa using hv)
 ·exact h.elim

theorem fill_dense {G:Ghost} {w:World} {s:Nat}:∀ {ps:List (Nat×D)} {vs:List (Nat×Value)} {k n:Nat} {dn:List D} {arr:Array Value},PRel G w ps vs→ps.map (·.1)=(List.range' k (n-k))→k≤n →
  (∀p∈ps,p.2.cells.length=s)→dn.length=k→(∀x∈dn,x.cells.length=s)→arr.size=n*s→(∀(j:Nat) d v,(flat dn)[j]?=some d→arr[j]?=some v→Rel G w d v) →
  ∃arr',Instr.fill (fun i=>some (i*s,s)) arr vs=some arr'∧RelArr G w (flat (dn++ps.map (·.2))) arr':=by
 intro ps vs k n dn arr h
 induction h generalizing k dn arr with
 | nil =>
  intro hi hkn hs hd hds ha hr
  have hk:n=k:=by
   have:=congrArg List.length hi
   simp at this
   omega
  subst hk
  refine⟨arr,rfl,?_,by simpa using hr⟩
  simp only[List.map_nil,List.append_nil]
  rw[flat_length hds,hd];exact ha
 | @cons i d v ps vs hv hr' ih =>
  intro hi hkn hs hd hds ha hr
  have hlt:k<n:=by
   have:=congrArg List.length hi
   simp at this
   omega
  rw[show n-k=(n-(k+1))+1 by omega,List.range'_succ,List.map_cons] at hi
  simp only[List.cons.injEq] at hi
  obtain⟨hik,hi⟩:=hi
  have hik:i=k:=hik
  subst hik
  have h0:=hs (i,d) List.mem_cons_self
  have h0:d.cells.length=s:=h0
  have hcs:v.cells.size=s:=by rw[hv.cells.1];exact h0
  obtain⟨l1,l2⟩:=laid_spec (i*s) v.cells.toList 0 arr
  have hms:i*s+s≤n*s:=by
   have:=Nat.mul_le_mul_right s (show i+1≤n by omega)
   rwa [Nat.add_mul,Nat.one_mul] at this
  obtain⟨arr',e1,e2⟩:=ih (k:=i+1) (dn:=dn++[d]) (arr:=laid (i*s) arr (v.cells.toList.zipIdx 0)) hi (by omega) (fun p hp=>hs p (List.mem_cons_of_mem _ hp)) (by simp[hd])
   (fun x hx=>by
    rcases List.mem_append.1 hx with hx|hx
    ·exact hds x hx
    ·obtain rfl:=List.mem_singleton.1 hx;exact h0)
   (by rw[l1];exact ha) (fun j e u he hu=>by
    have hj:j<arr.size:=by rw[←l1];exact(Array.getElem?_eq_some_iff.1 hu).1
    rw[l2 j hj] at hu
    have hvl:v.cells.toList.length=s:=by simpa using hcs
    simp only[Nat.add_zero,hvl] at hu
    have hfl:(flat dn).length=i*s:=by rw[flat_length hds,hd]
    rw[flat_append] at he
    by_cases hc:j<i*s
    ·rw[if_neg (by omega)] at hu
     rw[List.getElem?_append_left (by omega)] at he
     exact hr j e u he hu
    ·rw[List.getElem?_append_right (by omega),hfl] at he
     have hfd:flat [d]=d.cells:=by simp[flat]
     rw[hfd] at he
     have hlt':=(List.getElem?_eq_some_iff.1 he).1
     rw[if_pos (by omega)] at hu
     exact hv.cells.2 _ e u he (by simpa using hu))
  refine⟨arr',?_,by simpa[List.append_assoc] using e2⟩
  have hcond:(decide (v.cells.size≠s)||decide (i*s+v.cells.size>arr.size))=false:=by
   rw[hcs,ha]
   simp
   exact hms
  simp only[Instr.fill,fold_laid]
  rw[if_neg (by rw[hcond];simp)]
  exact e1


theorem strip1_le (d:D):D.le d (strip1 d):=by
 cases d with
 | sl tk xs=>cases tk<;>first|exact .any|exact .refl _
 | _=>exact .refl _
theorem strip_le (d:D):D.le d d.strip:=by
 cases d with
 | agg cs =>
  refine .agg (by simp) fun j c d hc hd=>?_
  simp only[List.getElem?_map,hc,Option.map_some,Option.some.injEq] at hd
  subst hd;exact strip1_le c
 | sl tk xs=>exact strip1_le _
 | _=>exact .refl _
theorem strip_cells_length (d:D):d.strip.cells.length=d.cells.length:=by
 cases d with
 | agg cs=>simp[D.strip,D.cells]
 | sl tk xs=>cases tk<;>rfl
 | _=>rfl

theorem PRel.strip {G:Ghost} {w:World} {ps:List (Nat×D)} {vs:List (Nat×Value)} (h:PRel G w ps vs):PRel G w (ps.map fun p=>(p.1,p.2.strip)) vs:=by
 induction h with
 | nil=>exact .nil
 | @cons i d v ps vs hv hr ih=>exact .cons (hv.le (strip_le d)) ih

end Go.Lg
/-
  Lg, part 7: a quiet operation, whatever it is.
-/
namespace Go.Lg
open Go Go.RowKit

def Ghost.grow (G:Ghost) (g n:Nat):Ghost:={G with lim:=fun b=>if b=g then n else G.lim b}

theorem alloc_mono {B:Base} {bx ro:List (Nat×List D)} {tk:List Nat} {G:Ghost} {w:World} (_h:SimW B bx ro tk G w) (o:Obj) (n:Nat):Mono G (G.grow w.heap.size n) w (w.alloc o):=by
 refine⟨fun b q v h1 h2=>?_,fun b _=>rfl,fun b es c hb=>(Below.heap_alloc w o b (heap_lt hb)).trans hb⟩
 have hlt:=cell_lt h2
 refine⟨by simp only[Ghost.grow];rw[if_neg (by omega)];exact h1,?_⟩
 rw[cell_of_heap (Below.heap_alloc w o b hlt)]
 exact h2

theorem alloc_rel {B:Base} {bx ro:List (Nat×List D)} {tk:List Nat} {G:Ghost} {w:World} (h:SimW B bx ro tk G w) (o:Obj) (n:Nat) {d:D} {v:Value} (hr:Rel G w d v):Rel (G.grow w.heap.size n) (w.alloc o) d v :=
 hr.mono (alloc_mono h o n) (fun _ _ _ h=>h) (fun k _=>.inr ⟨rfl,fun g e z hk=>by
  obtain⟨_,_,⟨cur,hc,_⟩,_⟩:=h.tau k g e z hk
  have hlt:=heap_lt hc
  exact⟨by simp only[Ghost.grow];rw[if_neg (by omega)],shape_of_heap (Below.heap_alloc w o g hlt)⟩⟩)

theorem alloc_simW {B:Base} {bx ro:List (Nat×List D)} {tk:List Nat} {G:Ghost} {w:World} (h:SimW B bx ro tk G w) (o:Obj) (n:Nat):SimW B bx ro tk (G.grow w.heap.size n) (w.alloc o):=by
 have hold:∀b,b<w.heap.size→(w.alloc o).heap[b]?=w.heap[b]?:=fun b hb=>Below.heap_alloc w o b hb
 have hlim:∀b,b<w.heap.size→(G.grow w.heap.size n).lim b=G.lim b:=fun b hb=>by simp only[Ghost.grow];rw[if_neg (by omega)]
 have hbox:∀ {g cs},BoxAt G w g cs→BoxAt (G.grow w.heap.size n) (w.alloc o) g cs:=fun⟨vs,e,e1,e2,e3⟩ =>
  ⟨vs,e,by rw[hold _ (heap_lt e1)];exact e1,e2,fun j d v hd hv=>alloc_rel h o n (e3 j d v hd hv)⟩
 exact {
  boxes:=fun id cs hl=>by
   obtain⟨g,h1,h2,h3,h4⟩:=h.boxes id cs hl
   exact⟨g,h1,hbox h2,by rw[hlim g (h.blt _ _ h1)];exact h3,h4⟩
  robs:=fun id cs hl=>by
   obtain⟨g,h1,h2,h3,h4⟩:=h.robs id cs hl
   exact⟨g,h1,hbox h2,h3,h4⟩
  toks:=h.toks
  tau:=fun k g e z hk=>by
   obtain⟨h1,h2,⟨cur,h3,h4⟩,h5⟩:=h.tau k g e z hk
   exact⟨h1,h2,⟨cur,by rw[hold _ (heap_lt h3)];exact h3,by rw[hlim _ (heap_lt h3)];exact h4⟩,h5⟩
  tinj:=h.tinj
  binj:=h.binj
  blt:=fun i g hg=>by have:=h.blt i g hg;simp;omega
  lablt:=fun b hb=>by have:=h.lablt b hb;simp;omega
  old:=fun b hlt hab=>by
   have hs:=h.sz
   rw[hold b (by omega),hlim b (by omega)]
   exact h.old b hlt hab
  olda:=fun b hlt=>by
   have hs:=h.sz
   rw[hlim b (by omega)]
   refine⟨(h.olda b hlt).1,fun q v hq hc=>?_⟩
   rw[cell_of_heap (hold b (by omega))]
   exact(h.olda b hlt).2 q v hq hc
  oldl:=h.oldl
  tlab:=h.tlab
  blab:=h.blab
  oldu:=h.oldu
  labw:=fun b hb hor=>by
   obtain⟨vs,e,h1⟩:=h.labw b hb hor
   exact⟨vs,e,by rw[hold b (h.lablt b hb)];exact h1⟩
  ids:=h.ids
  sz:=by have:=h.sz;simp;omega
  os:=h.os
  tape:=h.tape
  out:=h.out
  dr:=h.dr}

theorem alloc_quiet (G:Ghost) (w:World) (o:Obj) (n:Nat):Quiet G (G.grow w.heap.size n) w (w.alloc o) :=
 ⟨fun b hb=>⟨Below.heap_alloc w o b hb,by simp only[Ghost.grow];rw[if_neg (by omega)],rfl⟩,rfl,rfl,by simp⟩
theorem alloc_sim {B:Base} {L:LS} {G:Ghost} {a:Act} {w:World} (h:Sim B L G a w) (o:Obj) (n:Nat):Sim B L (G.grow w.heap.size n) a (w.alloc o) :=
 h.move (alloc_simW h.W o n) fun _ _ hr=>alloc_rel h.W o n hr

theorem alloc_cell (w:World) (cells:Array Value) (e:TypeId) (j:Nat):(w.alloc (.cells cells e)).cell? ⟨w.heap.size,j,none⟩=cells[j]?:=by
 have h:=heap_alloc_new w (.cells cells e)
 unfold World.cell?
 simp only[h]
 rfl

theorem buildSlice_sound {S:Setup} {B:Base} {L:LS} {G:Ghost} {a:Act} {w:World} (hs:Sim B L G a w) {t:TypeId} {n:Nat} {ps:List (Nat×D)} {vs:Array (Nat×Value)} (hv:PRel G w ps vs.toList) {K:D→Prop}
  (h:buildSliceY S t n ps K):∃d v G' w',K d∧(Instr.buildSlice t n vs).run S.P w=.ok v w'∧Sim B L G' a w'∧Rel G' w' d v∧Quiet G G' w w':=by
 unfold buildSliceY at h
 split at h
 ·rename_i e hk
  obtain⟨j,hj,hidx,hsmall,hpos,hcell,hK⟩:=someK_get h
  have hu:=kd_slice hk
  have hok:=S.ok e j hj
  obtain⟨inf,i1,i2,i3,z,i4,i5,i6⟩:=hok.info
  have hzs:z.cells.size=j.size:=by rw[i5];simp[TyI.size]
  have hlen:ps.length=n:=by have:=congrArg List.length hidx;simpa using this
  let qs:=ps.map fun p=>(p.1,p.2.strip)
  have hq:PRel G w qs vs.toList:=hv.strip
  have hqi:qs.map (·.1)=List.range' 0 (n-0):=by
   simp only[qs,List.map_map,Nat.sub_zero]
   rw[←List.range_eq_range',←hidx]
   rfl
  have hqc:∀p∈qs,p.2.cells.length=j.size:=fun p hp=>by
   obtain⟨p0,h0,rfl⟩:=List.mem_map.1 hp
   simp only[strip_cells_length]
   exact(hcell p0 h0).1
  obtain⟨arr,e1,e2⟩:=fill_dense (s:=j.size) (k:=0) (n:=n) (dn:=[]) (arr:=(Array.range (n*j.size)).map (z.cells[· % z.cells.size]!)) hq hqi (Nat.zero_le _) hqc rfl (by simp) (by simp) (by simp[flat])
  simp only[List.nil_append] at e2
  have hq2:qs.map (·.2)=ps.map (·.2.strip):=by simp[qs]
  rw[hq2] at e2
  refine⟨_,.slice (some ⟨w.heap.size,0,none⟩) n n,G.grow w.heap.size arr.size,w.alloc (.cells arr e),hK,?_,alloc_sim hs _ _,?_,alloc_quiet _ _ _ _⟩
  ·by_cases hn:n*j.size=0
   ·have hps:ps=[]:=by
     rcases hpos with h0|h0
     ·exact List.eq_nil_of_length_eq_zero (by omega)
     ·have:n=0:=by
       rcases Nat.mul_eq_zero.1 hn with h|h<;>omega
      exact List.eq_nil_of_length_eq_zero (by omega)
    have hn0:n=0:=by rw[←hlen,hps];rfl
    subst hps
    subst hn0
    have hvs:vs.toList=[]:=by generalize vs.toList=l at hv;cases hv;rfl
    have harr:arr=#[]:=by
     have:=e2.1
     simp[flat] at this
     exact this
    subst harr
    simp[Instr.buildSlice,run_underlying hu,run_sizeOf hok,hvs,Instr.fill,newRow,Array.range_zero']
   ·refine run_buildSlice (P:=S.P) w t e n vs arr inf z hu i1 i4 (by rw[i2];omega) (by rw[i2];exact hn) ?_
    rw[i2]
    exact e1
  ·have hmem:∀d∈flat (ps.map (·.2.strip)),d.memOk=true:=fun d hd=>by
    obtain⟨x,hx,hd⟩:=List.mem_flatMap.1 hd
    obtain⟨p,hp,rfl⟩:=List.mem_map.1 hx
    exact(hcell p hp).2 d hd
   have hu2:∀x∈ps.map (·.2.strip),x.cells.length=j.size:=fun x hx=>by
    obtain⟨p,hp,rfl⟩:=List.mem_map.1 hx
    rw[strip_cells_length]
    exact(hcell p hp).1
   have hnm:n≤maxLen:=by
    rcases hpos with h0|h0
    ·subst h0;exact Nat.zero_le _
    ·have:=Nat.le_mul_of_pos_right n h0
     simp only[maxLen];omega
   refine .sl (b:=w.heap.size) (o:=0) (s:=j.size) (by simp[hlen]) (Nat.le_refl _) hnm rfl (.inr rfl) hu2 hmem (fun q d hd=>?_) (fun q d v hd hv'=>?_)
   ·have hlt:q<arr.size:=by rw[e2.1];exact(List.getElem?_eq_some_iff.1 hd).1
    simp only[Nat.zero_add]
    refine⟨by simpa[Ghost.grow] using hlt,arr[q],?_⟩
    rw[alloc_cell]
    simp[hlt]
   ·simp only[Nat.zero_add,alloc_cell] at hv'
    exact alloc_rel hs.W _ _ (e2.2 q d v hd hv')
 ·exact h.elim

def Yld (S:Setup) (o:Oper) (B:Base) (L:LS) (G:Ghost) (a:Act) (w:World) (d:D):Prop :=
 ∀(K':Act→World→Prop) (Q:Exit→Act→World→Prop),(∀v G' w',Sim B L G' a w'→Rel G' w' d v→Quiet G G' w w'→K' (a.put o.dst v) w')→o.wp S.P a w K' Q

theorem Yld.of_runQ {S:Setup} {o:Oper} {B:Base} {L:LS} {G G':Ghost} {a:Act} {w w':World} {d:D} {v:Value} (hr:(execOp a.eval o).run S.P w=.ok (.value v) w') (h:Sim B L G' a w') (hv:Rel G' w' d v) (hq:Quiet G G' w w'):Yld S o B L G a w d:=by
 intro K' Q hK
 unfold Oper.wp
 rw[hr]
 exact hK v G' w' h hv hq
theorem Yld.of_run {S:Setup} {o:Oper} {B:Base} {L:LS} {G:Ghost} {a:Act} {w:World} {d:D} {v:Value} (hr:(execOp a.eval o).run S.P w=.ok (.value v) w) (h:Sim B L G a w) (hv:Rel G w d v):Yld S o B L G a w d:=.of_runQ hr h hv (.refl G w)

theorem enter_run {P:Program} {f:FuncId} (h:Enters P f) (args:Array Value) (w:World):(callFunc f args).run P w=.ok (.enter f args) w:=by
 obtain⟨fn,h1,h2,h3⟩:=h
 have h2':¬fn.name = "runtime.NumGoroutine" := by simpa using h2
 have h3':¬fn.body=none:=by intro e;rw[e] at h3;cases h3
 simp[callFunc,h1,h2',h3']

theorem madeCells_rel {S:Setup} {G:Ghost} {w:World} {e:TypeId} {i:TyI} (hi:S.tab e=some i) (hp:0<i.size) (n:Nat) :
  ∃inf z,S.P.info? e=some inf∧inf.zero=some z∧inf.size=i.size∧inf.bytes=i.bytes∧RelArr G w (List.replicate n (i.zero.map ZK.d)).flatten (madeCells z.cells (n*i.size)):=by
 obtain⟨inf,h1,h2,h3,z,h4,h5,_⟩:=(S.ok e i hi).info
 obtain⟨z',hz',hr,hzs⟩:=relArr_zero (S:=S) (G:=G) (w:=w) hi
 have hzz:z'=z:=by
  have:(zeroValue e).run S.P w=.ok z w:=by simp[zeroValue,typeInfo,h1,h4]
  rw[this] at hz'
  simpa using hz'.symm
 subst hzz
 refine⟨inf,z',h1,h4,h2,h3,?_,fun j d v hd hv=>?_⟩
 ·simp[size_madeCells,TyI.size]
 ·have hlen:(i.zero.map ZK.d).length=i.size:=by simp[TyI.size]
  have hfl:(List.replicate n (i.zero.map ZK.d)).flatten[j]?=some d:=hd
  have hj:j<n*i.size:=by
   have:=(List.getElem?_eq_some_iff.1 hfl).1
   simpa[TyI.size] using this
  have key:∀(n j:Nat),j<n*i.size→(List.replicate n (i.zero.map ZK.d)).flatten[j]?=(i.zero.map ZK.d)[j%i.size]?:=by
   intro n
   induction n with
   | zero=>intro j hj;omega
   | succ n ih =>
    intro j hj
    rw[List.replicate_succ,List.flatten_cons]
    by_cases h:j<i.size
    ·rw[List.getElem?_append_left (by omega),Nat.mod_eq_of_lt h]
    ·rw[List.getElem?_append_right (by omega),hlen,ih (j-i.size) (by have:=Nat.add_mul n 1 i.size;omega),Nat.mod_eq_sub_mod (show i.size≤j by omega)]
  rw[key n j hj] at hfl
  have hm:j%i.size<z'.cells.size:=by rw[hzs];exact Nat.mod_lt _ hp
  have hv':v=z'.cells[j%z'.cells.size]!:=by
   simp only[madeCells,Array.getElem?_map] at hv
   rw[Array.getElem?_range] at hv
   rw[if_pos hj] at hv
   simpa using hv.symm
  rw[hzs] at hv'
  refine hr.2 (j%i.size) d v hfl ?_
  rw[hv']
  simp[hm]

theorem makeQ_sound {S:Setup} {B:Base} {L:LS} {G:Ghost} {a:Act} {w:World} (hs:Sim B L G a w) {t:TypeId} {l c:D} {ul uc:Value} (hl:Rel G w l ul) (hc:Rel G w c uc) {K:D→Prop}
  (h:makeQ S t l c K):∃d v G' w',K d∧(Instr.makeSlice t ul uc).run S.P w=.ok v w'∧Sim B L G' a w'∧Rel G' w' d v∧Quiet G G' w w':=by
 unfold makeQ at h
 split at h
 ·rename_i e k n k' m hk
  obtain⟨i,hi,h⟩:=someK_get h
  obtain⟨z,hz,⟨h1,h2,rfl⟩,⟨h3,h4⟩,h5,hK⟩:=someK_get h
  cases hl;cases hc
  have hu:=kd_slice hk
  have hz1:i.zero=[z]:=by
   cases hzz:i.zero with
   | nil=>rw[hzz] at hz;cases hz
   | cons a r =>
    rw[hzz] at hz h1
    simp only[List.head?_cons,Option.some.injEq] at hz
    simp only[List.length_cons] at h1
    rw[hz,List.length_eq_zero_iff.1 (show r.length=0 by omega)]
  have hsz:i.size=1:=by simp[TyI.size,hz1]
  obtain⟨inf,zv,i1,i2,i3,i4,hrel⟩:=madeCells_rel (G:=G) (w:=w) hi (by omega) n.toNat
  have hr:=run_make (P:=S.P) w t e inf zv hu i1 i2 k k' n n h2 (Int.le_refl _) (by rw[i4];exact h3) h4
  rw[i3] at hr
  rw[hsz,Nat.mul_one] at hrel hr
  have hfl:(List.replicate n.toNat (i.zero.map ZK.d)).flatten=List.replicate n.toNat z.d:=by
   rw[hz1]
   generalize n.toNat=q
   induction q with
   | zero=>rfl
   | succ q ih=>rw[List.replicate_succ,List.flatten_cons,ih,List.replicate_succ];rfl
  rw[hfl] at hrel
  have hcells:(strip1 z.d).cells=[strip1 z.d]:=by cases z<;>rfl
  have hflat:flat (List.replicate n.toNat (strip1 z.d))=List.replicate n.toNat (strip1 z.d):=by
   unfold flat
   generalize n.toNat=q
   induction q with
   | zero=>rfl
   | succ q ih=>rw[List.replicate_succ,List.flatMap_cons,ih,hcells];rfl
  have hle:∀ {G':Ghost} {w':World} {v:Value},Rel G' w' z.d v→Rel G' w' (strip1 z.d) v:=fun hr=>by
   cases z<;>first|exact hr|exact hr.le .any
  have hsize:(madeCells zv.cells n.toNat).size=n.toNat:=by simpa using hrel.1
  refine⟨_,_,_,_,hK,hr,alloc_sim hs (.cells (madeCells zv.cells n.toNat) e) n.toNat,?_,alloc_quiet _ _ _ _⟩
  have hrl:∀d v,Rel G w d v→Rel (G.grow w.heap.size n.toNat) (w.alloc (.cells (madeCells zv.cells n.toNat) e)) d v:=fun _ _ hr=>alloc_rel hs.W (.cells (madeCells zv.cells n.toNat) e) n.toNat hr
  refine .sl (b:=w.heap.size) (o:=0) (s:=1) (by simp) (Nat.le_refl _) (by simp only[maxLen];omega) trivial (.inr rfl) (fun x hx=>?_) (fun d hd=>?_) (fun j d hd=>?_) (fun j d v hd hv=>?_)
  ·rw[(List.mem_replicate.1 hx).2,hcells];rfl
  ·rw[hflat] at hd
   rw[(List.mem_replicate.1 hd).2];exact h5
  ·rw[hflat] at hd
   have hj:j<n.toNat:=by have:=(List.getElem?_eq_some_iff.1 hd).1;simpa using this
   rw[Nat.zero_add,alloc_cell]
   exact⟨by simpa[Ghost.grow] using hj,(madeCells zv.cells n.toNat)[j]'(by omega),by simp[show j<(madeCells zv.cells n.toNat).size by omega]⟩
  ·rw[hflat] at hd
   have hj:j<n.toNat:=by have:=(List.getElem?_eq_some_iff.1 hd).1;simpa using this
   rw[Nat.zero_add,alloc_cell] at hv
   have e0:d=strip1 z.d:=(List.mem_replicate.1 (List.mem_of_getElem? hd)).2
   subst e0
   exact hle (hrl _ _ (hrel.2 j z.d v (by simp[hj]) hv))
 ·exact h.elim

theorem memOk_one:∀ {d:D},d.memOk=true→d.one=true
 | .int ..,_=>rfl
 | .bool _,_=>rfl
 | .str _,_=>rfl
 | .imm _,_=>rfl
 | .sl _ _,_=>rfl
 | .fn _ _,_=>rfl

theorem rel_list {G:Ghost} {w:World} {tk:Tk} {ys:List D} {A:Option Addr} {m c:Nat} (h:Rel G w (.sl tk ys) (.slice A m c)) :
  m=ys.length∧m≤c∧c≤maxLen∧(∀d∈flat ys,d.memOk=true)∧(ys≠[]→∃b o,A=some ⟨b,o,none⟩∧∃news:List Value,news.length=(flat ys).length∧(∀(j:Nat) u,news[j]?=some u→w.cell? ⟨b,o+j,none⟩=some u) ∧
   (∀(j:Nat) d u,(flat ys)[j]?=some d→news[j]?=some u→Rel G w d u)∧(∀u∈news,u.oneCell'=true)∧∀j,j<(flat ys).length→o+j<G.lim b):=by
 cases h with
 | @sl _ _ _ _ _ b o s hn hc hm ht hA hu hk hst hr =>
 refine⟨hn,hc,hm,hk,fun hne=>⟨b,o,hA.resolve_left hne,(List.range (flat ys).length).map (fun j=>(w.cell? ⟨b,o+j,none⟩).getD undef),by simp,fun j u hu'=>?_,fun j d u hd hu'=>?_,fun u hu'=>?_,fun j hj=>?_⟩⟩
 ·have hj:j<(flat ys).length:=by have:=(List.getElem?_eq_some_iff.1 hu').1;simpa using this
  obtain⟨_,v,hv⟩:=hst j _ (List.getElem?_eq_getElem hj)
  simp only[List.getElem?_map,List.getElem?_range hj,Option.map_some,hv,Option.getD_some,Option.some.injEq] at hu'
  subst hu';exact hv
 ·have hj:j<(flat ys).length:=(List.getElem?_eq_some_iff.1 hd).1
  obtain⟨_,v,hv⟩:=hst j d hd
  simp only[List.getElem?_map,List.getElem?_range hj,Option.map_some,hv,Option.getD_some,Option.some.injEq] at hu'
  subst hu';exact hr j d v hd hv
 ·obtain⟨j,hj,rfl⟩:=List.mem_map.1 hu'
  have hj':j<(flat ys).length:=by simpa using hj
  obtain⟨_,v,hv⟩:=hst j _ (List.getElem?_eq_getElem hj')
  rw[hv]
  exact(hr j _ v (List.getElem?_eq_getElem hj') hv).one (memOk_one (hk _ (List.getElem_mem hj')))
 ·exact(hst j _ (List.getElem?_eq_getElem hj)).1

theorem run_append_zero {P:Program} (w:World) (t ty e:TypeId) (i:TypeInfo) (ht:P.underlying t=some (.slice e)) (hi:P.info? e=some i) (A:Option Addr) (n c:Nat) (hnc:n≤c) (A2:Option Addr) (c2:Nat) :
  (Builtin.append_ #[t,t] ty #[.slice A n c,.slice A2 0 c2]).run P w=.ok (.slice A n c) w:=by
 cases A<;>cases A2<;>simp[Builtin.append_,run_underlying ht,sizeOf,typeInfo,hi,Builtin.lenOf,Builtin.firstCells,loadCells,loadCellsFrom,hnc,storeCells]

theorem drewA_sim {B:Base} {L:LS} {G:Ghost} {a:Act} {w:World} (h:Sim B L G a w):Sim B L G a {w with drawn:=w.drawn+1}:=by
 have hr:∀d v,Rel G w d v→Rel G {w with drawn:=w.drawn+1} d v:=fun d v hr =>
  hr.mono (show Mono G G w {w with drawn:=w.drawn+1} from⟨fun _ _ _ h1 h2=>⟨h1,h2⟩,fun _ _=>rfl,fun _ _ _ h=>h⟩) (fun _ _ _ h=>h) (fun _ _=>.inr ⟨rfl,fun _ _ _ _=>⟨rfl,rfl⟩⟩)
 have hb:∀ {g cs},BoxAt G w g cs→BoxAt G {w with drawn:=w.drawn+1} g cs:=fun⟨vs,e,e1,e2,e3⟩=>⟨vs,e,e1,e2,fun j d v hd hv=>hr d v (e3 j d v hd hv)⟩
 exact h.move {h.W with
  boxes:=fun id cs hl=>let ⟨g,h1,h2,h3⟩:=h.W.boxes id cs hl;⟨g,h1,hb h2,h3⟩
  robs:=fun id cs hl=>let ⟨g,h1,h2,h3⟩:=h.W.robs id cs hl;⟨g,h1,hb h2,h3⟩
  tau:=h.W.tau
  old:=h.W.old
  olda:=h.W.olda
  os:=h.W.os
  tape:=h.W.tape
  out:=h.W.out
  dr:=dr_t h.W.dr (Nat.le_succ _)} hr
theorem quiet_drew {G G':Ghost} {w w':World} (q:Quiet G G' w.drew w'):Quiet G G' w w':=⟨q.heap,q.beta,q.tau,q.sz⟩
theorem appQ_sound {S:Setup} {B:Base} {L:LS} {G:Ghost} {a:Act} {w:World} (hs:Sim B L G a w) {t ty:TypeId} {dx dy:D} {v u:Value} (hx:Rel G w dx v) (hy:Rel G w dy u) {K:D→Prop} (h:appQ S t dx dy K) :
  ∃d v' G' w',K d∧(Builtin.append_ #[t,t] ty #[v,u]).run S.P w=.ok v' w'∧Sim B L G' a w'∧Rel G' w' d v'∧Quiet G G' w w':=by
 unfold appQ at h
 split at h
 ·rename_i e xs tk2 ys hk
  obtain⟨i,hi,hz,hux,huy,hb,h63,hK⟩:=someK_get h
  have ht:=kd_slice hk
  obtain⟨inf,i1,i2,i3,z,i4,i5,_⟩:=(S.ok e i hi).info
  obtain⟨A,n,c,rfl⟩:∃A n c,v=.slice A n c:=by cases hx;exact⟨_,_,_,rfl⟩
  obtain⟨A2,m,c2,rfl⟩:∃A n c,u=.slice A n c:=by cases hy;exact⟨_,_,_,rfl⟩
  obtain⟨xn,xc,xm,xk,xl⟩:=rel_list hx
  obtain⟨yn,yc,ym,yk,yl⟩:=rel_list hy
  have hml:(140737488355328:Nat)≤maxLen:=by simp[maxLen]
  have huxy:∀y∈xs++ys,y.cells.length=i.size:=fun y hy=>by
   rcases List.mem_append.1 hy with hy|hy
   ·exact hux y hy
   ·exact huy y hy
  have hfxy:flat (xs++ys)=flat xs++flat ys:=by simp[flat]
  have hmxy:∀d∈flat (xs++ys),d.memOk=true:=fun d hd=>by
   rw[hfxy] at hd
   rcases List.mem_append.1 hd with hd|hd
   ·exact xk d hd
   ·exact yk d hd
  have hfx:=flat_length hux
  have hfy:=flat_length huy
  have hnc:n=c:=by
   cases hx with
   | @sl _ _ _ _ _ b o s hn hcc hm htk hA hu hk0 hstt hrr=>exact htk
  by_cases hm0:ys=[]
  ·subst hm0
   have hm:m=0:=by rw[yn];rfl
   subst hm
   rw[List.append_nil] at hK
   exact⟨_,_,G,w,hK,run_append_zero (P:=S.P) w t ty e inf ht i1 A n c xc A2 c2,hs,hx.le .any,Quiet.refl _ _⟩
  ·obtain⟨b2,o2,rfl,news,n1,n2,n3,n4,_⟩:=yl hm0
   have hmp:0<m:=by rw[yn];exact List.length_pos_iff.2 hm0
   have hnl:news.length=m*inf.size:=by rw[n1,hfy,yn,i2]
   have hnews:∀(j:Nat) u,news[j]?=some u→w.cell? ((⟨b2,o2,none⟩:Addr).add j)=some u:=fun j u hu=>by rw[add_mk];exact n2 j u hu
   have hzs:z.cells.size=inf.size:=by rw[i5,i2];simp[TyI.size]
   have hnm63:((n+m:Nat):Int)≤9223372036854775807:=by omega
   have hbytes:(n+m)*inf.bytes≤140737488355328:=by rw[i3,xn,yn];exact hb
   have hlen:(xs++ys).length=n+m:=by rw[List.length_append,xn,yn]
   have hsd:Sim B L G a w.drew:=drewA_sim hs
   have hrd:∀d v,Rel G w d v→Rel G w.drew d v:=fun d v hr =>
    hr.mono (show Mono G G w w.drew from⟨fun _ _ _ h1 h2=>⟨h1,h2⟩,fun _ _=>rfl,fun _ _ _ h=>h⟩) (fun _ _ _ h=>h) (fun _ _=>.inr ⟨rfl,fun _ _ _ _=>⟨rfl,rfl⟩⟩)
   have grow:∀(olds:List Value),olds.length=(flat xs).length→(∀(j:Nat) d u,(flat xs)[j]?=some d→olds[j]?=some u→Rel G w d u) →
     (Builtin.append_ #[t,t] ty #[.slice A n c,.slice (some ⟨b2,o2,none⟩) m c2]).run S.P w =
      .ok (.slice (some ⟨w.heap.size,0,none⟩) (n+m) (grownCap w (n+m) c e)) (w.drew.alloc (.cells (olds.toArray++news.toArray++Builtin.zeroCells z.cells (grownCap w (n+m) c e-(n+m))) e)) →
     ∃d v' G' w',K d∧(Builtin.append_ #[t,t] ty #[.slice A n c,.slice (some ⟨b2,o2,none⟩) m c2]).run S.P w=.ok v' w'∧Sim B L G' a w'∧Rel G' w' d v'∧Quiet G G' w w':=fun olds ho hor hrun=>by
    have hcap:=grownCap_ge w (n+m) c e
    refine⟨_,_,_,_,hK,hrun,alloc_sim hsd (.cells (olds.toArray++news.toArray++Builtin.zeroCells z.cells (grownCap w (n+m) c e-(n+m))) e) ((flat (xs++ys)).length),?_,quiet_drew (alloc_quiet G w.drew _ _)⟩
    generalize harr:olds.toArray++news.toArray++Builtin.zeroCells z.cells (grownCap w (n+m) c e-(n+m))=arr
    have hlf:(flat (xs++ys)).length=(flat xs).length+(flat ys).length:=by rw[hfxy,List.length_append]
    have hlarr:(flat (xs++ys)).length≤arr.size:=by
     rw[←harr,hlf];simp[ho,n1]
    have hrl:∀d v,Rel G w d v→Rel (G.grow w.drew.heap.size ((flat (xs++ys)).length)) (w.drew.alloc (.cells arr e)) d v:=fun d v hr=>alloc_rel hsd.W (.cells arr e) ((flat (xs++ys)).length) (hrd d v hr)
    refine .sl (b:=w.heap.size) (o:=0) (s:=i.size) hlen.symm hcap (grownCap_le_maxLen w (n+m) c e (by omega)) trivial (.inr rfl) huxy hmxy (fun j d hd=>?_) (fun j d v hd hv=>?_)
    ·have hj:j<(flat (xs++ys)).length:=(List.getElem?_eq_some_iff.1 hd).1
     have e0:w.heap.size=w.drew.heap.size:=rfl
     rw[Nat.zero_add,e0,alloc_cell]
     exact⟨by simpa[Ghost.grow] using hj,arr[j]'(by omega),by simp[show j<arr.size by omega]⟩
    ·have e0:w.heap.size=w.drew.heap.size:=rfl
     rw[Nat.zero_add,e0,alloc_cell,←harr] at hv
     refine hrl d v ?_
     rw[hfxy] at hd
     by_cases hj:j<(flat xs).length
     ·rw[List.getElem?_append_left hj] at hd
      rw[Array.append_assoc,Array.getElem?_append_left (by simpa[ho] using hj)] at hv
      exact hor j d v hd (by simpa using hv)
     ·rw[List.getElem?_append_right (by omega)] at hd
      have hlt:=(List.getElem?_eq_some_iff.1 hd).1
      rw[Array.append_assoc,Array.getElem?_append_right (by simp;omega),Array.getElem?_append_left (by simp;omega)] at hv
      exact n3 _ d v hd (by simpa[ho] using hv)
   subst hnc
   cases A with
   | none =>
    have hxs:xs=[]:=by
     cases hxe:xs with
     | nil=>rfl
     | cons q r =>
      obtain⟨b,o,h0,_⟩:=xl (by rw[hxe];simp)
      cases h0
    subst hxs
    have hn0:n=0:=xn
    subst hn0
    have hr:=run_append_nil (P:=S.P) w t ty e inf z ht i1 i4 ⟨b2,o2,none⟩ m c2 news hnl hnews hmp (by omega) (by simp only[Nat.zero_add] at hbytes;omega)
    exact grow [] (by simp[flat]) (by simp) (by simpa using hr)
   | some ad =>
    by_cases hxe:xs=[]
    ·subst hxe
     have hn0:n=0:=xn
     subst hn0
     have hr:=run_append_grow (P:=S.P) w t ty e inf z ht i1 i4 ad 0 0 [] (by simp) (by simp) ⟨b2,o2,none⟩ m c2 news hnl hnews (by omega) (by omega) (growslice_fits (by omega) hbytes)
     exact grow [] (by simp[flat]) (by simp) hr
    ·obtain⟨b,o,h0,olds,o1,o2',o3,_,_⟩:=xl hxe
     obtain rfl:=Option.some.inj h0
     have hr:=run_append_grow (P:=S.P) w t ty e inf z ht i1 i4 ⟨b,o,none⟩ n n olds (by rw[o1,hfx,xn,i2]) (fun j u hu=>by rw[add_mk];exact o2' j u hu) ⟨b2,o2,none⟩ m c2 news hnl hnews (by omega) hnm63 (growslice_fits (by omega) hbytes)
     exact grow olds o1 o3 hr
 ·exact h.elim

theorem length_two {α:Type} {l:List α} (h:l.length=2):∃u v,l=[u,v]:=by
 match l,h with
 | [u,v],_=>exact⟨u,v,rfl⟩

theorem opY_sound {S:Setup} {o:Oper} {B:Base} {L:LS} {G:Ghost} {a:Act} {w:World} (hs:Sim B L G a w) {K:D→Prop} (h:opY S o.op (evalO L) L.getBox K):∃d,K d∧Yld S o B L G a w d:=by
  obtain⟨dst,op,type,pos,after,guard⟩:=o
  simp only at h
  unfold opY at h
  split at h
  case h_1 x =>
    obtain⟨d,hd,hK⟩:=someK_get h
    exact⟨d,hK,.of_run (by simp[execOp]) hs (eval_sound hs hd)⟩
  case h_2 x =>
    obtain⟨d,hd,hK⟩:=someK_get h
    exact⟨d,hK,.of_run (by simp[execOp]) hs (eval_sound hs hd)⟩
  case h_3 c x y =>
    obtain⟨d,hd,h⟩:=someK_get h
    split at h
    · rename_i t
      have hc:=eval_sound hs hd
      have hc':a.eval c=.bool t:=by generalize a.eval c=u at hc;cases hc;rfl
      cases t
      · simp only[Bool.false_eq_true,if_false] at h
        obtain⟨d,hd,hK⟩:=someK_get h
        exact⟨d,hK,.of_run (by simp[execOp,hc',asBool]) hs (eval_sound hs hd)⟩
      · simp only[if_true] at h
        obtain⟨d,hd,hK⟩:=someK_get h
        exact⟨d,hK,.of_run (by simp[execOp,hc',asBool]) hs (eval_sound hs hd)⟩
    · exact h.elim
  case h_4 t x =>
    obtain⟨d,hd,h⟩:=someK_get h
    obtain⟨d,v,hK,hr,hv⟩:=loadY_sound hs (eval_sound hs hd) h
    exact⟨d,hK,.of_run (by simp[execOp,hr]) hs hv⟩
  case h_5 x =>
    obtain⟨d,hd,h⟩:=someK_get h
    have hv:=eval_sound hs hd
    generalize hu:a.eval x=u at hv
    cases hv<;>first
      | exact h.elim
      | exact⟨_,h,.of_run (v:=a.eval x) (by simp[execOp,hu]) hs (eval_sound hs hd)⟩
  case h_6 bop t x y yt =>
    obtain⟨dx,hx,h⟩:=someK_get h
    obtain⟨dy,hy,h⟩:=someK_get h
    obtain⟨d,v,hK,hr,hv⟩:=binY_sound (eval_sound hs hx) (eval_sound hs hy) x y h
    exact⟨d,hK,.of_run (by unfold execOp;dsimp only;rw[Sem.run_bind,hr];rfl) hs hv⟩
  case h_7 uop t x =>
    obtain⟨d,hd,h⟩:=someK_get h
    obtain⟨d,v,hK,hr,hv⟩:=unY_sound (S:=S) (eval_sound hs hd) h
    exact⟨d,hK,.of_run (by simp[execOp,hr]) hs hv⟩
  case h_8 src dst x =>
    obtain⟨hsrc,h⟩:=h
    obtain⟨d,hd,h⟩:=someK_get h
    obtain⟨d,v,hK,hr,hv⟩:=convY_sound hsrc (eval_sound hs hd) h
    exact⟨d,hK,.of_run (by simp[execOp,hr]) hs hv⟩
  case h_9 f first captured =>
    unfold makeFnY at h
    split at h
    · rename_i hf
      obtain⟨ds,hds,hK⟩:=someK_get h
      obtain⟨e1,e2⟩:=mapO_sound hs hds
      obtain⟨f1,_⟩:=mapO_sound hs hf
      have hf':first=#[]:=by
        obtain⟨l⟩:=first
        have:l=[]:=List.length_eq_zero_iff.1 (by simpa using f1.symm)
        rw[this]
      subst hf'
      refine⟨_,hK,.of_run (v:=.func (.func f) #[] (captured.toList.map a.eval).toArray) ?_ hs ?_⟩
      · simp[execOp,Instr.makeFunc,←Array.toList_map]
      · exact .fn (by simp[e1]) e2
    · rename_i d hf
      obtain⟨hc,⟨hi,ht⟩,hK⟩:=h
      obtain⟨e1,_⟩:=mapO_sound hs hc
      obtain⟨f1,f2⟩:=mapO_sound hs hf
      have hc':captured=#[]:=by
        obtain⟨l⟩:=captured
        have:l=[]:=List.length_eq_zero_iff.1 (by simpa using e1.symm)
        rw[this]
      subst hc'
      obtain⟨x,hx⟩:∃x,first=#[x]:=by
        obtain⟨l⟩:=first
        match l,f1 with
        | [x],_=>exact⟨x,rfl⟩
      subst hx
      have hr:=f2 0 d (a.eval x) rfl rfl
      exact⟨_,hK,.of_run (v:=.func (.func f) #[a.eval x] #[]) (by simp[execOp,Instr.makeFunc]) hs (hr.mv hi ht)⟩
    · exact h.elim
  case h_10 t x f =>
    obtain⟨d,hd,h⟩:=someK_get h
    obtain⟨d,v,hK,hr,hv⟩:=fieldAddrY_sound (eval_sound hs hd) h
    exact⟨d,hK,.of_run (by simp[execOp,hr]) hs hv⟩
  case h_11 t x f =>
    obtain⟨d,hd,h⟩:=someK_get h
    obtain⟨d,v,hK,hr,hv⟩:=fieldY_sound (eval_sound hs hd) h
    exact⟨d,hK,.of_run (by simp[execOp,hr]) hs hv⟩
  case h_12 t x ix =>
    obtain⟨dx,hx,h⟩:=someK_get h
    obtain⟨di,hi,h⟩:=someK_get h
    obtain⟨d,v,hK,hr,hv⟩:=indexAddrY_sound (eval_sound hs hx) (eval_sound hs hi) h
    exact⟨d,hK,.of_run (by simp[execOp,hr]) hs hv⟩
  case h_13 t x ix =>
    obtain⟨dx,hx,h⟩:=someK_get h
    obtain⟨di,hi,h⟩:=someK_get h
    obtain⟨d,v,hK,hr,hv⟩:=indexY_sound (eval_sound hs hx) (eval_sound hs hi) h
    exact⟨d,hK,.of_run (by simp[execOp,hr]) hs hv⟩
  case h_14 t x lo hi mx =>
    obtain⟨dx,hx,h⟩:=someK_get h
    obtain⟨l,hl,h⟩:=someK_get h
    obtain⟨hh,hhi,h⟩:=someK_get h
    obtain⟨m,hm,h⟩:=someK_get h
    obtain⟨⟨⟨q1,q2,q3⟩,q4⟩,h⟩:=h
    have opt : ∀ {o : Option Operand} {r : Option Int}, intOfD (o.bind (evalO L)) = some r → o.isSome = r.isSome →
        (o.map a.eval=none∧r=none)∨∃k n,o.map a.eval=some (.int k n)∧r=some n:=by
      intro o r hr hsome
      cases o with
      | none =>
        left
        cases r with
        | none=>exact⟨rfl,rfl⟩
        | some n=>cases hsome
      | some y =>
        right
        rcases intOfD_rel hr with⟨_,rfl⟩|⟨k,n,e1,rfl⟩
        · cases hsome
        · have he:evalO L y=some (.int k n):=by simpa using e1
          have hv:=eval_sound hs he
          generalize hu:a.eval y=u at hv
          cases hv
          exact⟨k,n,by simp[hu],rfl⟩
    obtain⟨d,v,hK,hr,hv⟩:=sliceY_sound (eval_sound hs hx) (opt hl q1) (opt hhi q2) (opt hm q3) (by simpa using q4) h
    exact⟨d,hK,.of_run (by simp[execOp,hr]) hs hv⟩
  case h_15 t ps =>
    obtain⟨l,hl,h⟩:=someK_get h
    obtain⟨d,v,hK,hr,hv⟩:=buildY_sound (vs:=ps.map fun (i,x)=>(i,a.eval x)) (by simpa using zipO_sound hs hl) h
    exact⟨d,hK,.of_run (by simp[execOp,hr]) hs hv⟩
  case h_16 t n ps =>
    obtain⟨l,hl,h⟩:=someK_get h
    obtain⟨d,v,G',w',hK,hr,hs',hv,hq⟩:=buildSlice_sound hs (vs:=ps.map fun (i,x)=>(i,a.eval x)) (by simpa using zipO_sound hs hl) h
    exact⟨d,hK,.of_runQ (by simp[execOp,hr]) hs' hv hq⟩
  case h_17 x i =>
    obtain⟨d,hd,h⟩:=someK_get h
    have hv:=eval_sound hs hd
    generalize hu:a.eval x=u at hv
    cases hv<;>first
      | exact h.elim
      | (rename_i ds vl hl hr
         obtain⟨d,hdi,hK⟩:=someK_get h
         have hlt:i<vl.length:=by rw[hl];exact(List.getElem?_eq_some_iff.1 hdi).1
         exact⟨d,hK,.of_run (v:=vl[i]) (by simp[execOp,hu,Instr.extract,hlt]) hs (hr i d _ hdi (by simp[hlt]))⟩)
  case h_18 args tys =>
    obtain⟨ds,hds,h⟩:=someK_get h
    obtain⟨e1,e2⟩:=mapO_sound hs hds
    split at h
    · rename_i d t htys
      have hal:(args.toList.map a.eval).length=1:=by simpa using e1.symm
      obtain⟨u,hu⟩:=List.length_eq_one_iff.1 hal
      have hx:=e2 0 d u rfl (by rw[hu];rfl)
      obtain⟨d,v,hK,hr,hv⟩:=lenY_sound (ty:=type) hx h
      refine⟨d,hK,.of_run (v:=v) ?_ hs hv⟩
      have ha:args.map a.eval=#[u]:=by rw[←Array.toArray_toList (xs:=args.map a.eval),Array.toList_map,hu]
      have ht:tys=#[t]:=by rw[←Array.toArray_toList (xs:=tys),htys]
      simp[execOp,resolve,invoke,builtin,ha,ht,hr]
    · exact h.elim
  case h_19 args tys =>
    obtain⟨ds,hds,h⟩:=someK_get h
    obtain⟨e1,e2⟩:=mapO_sound hs hds
    split at h
    · rename_i x y
      obtain⟨d,hd,hK⟩:=someK_get h
      unfold minD at hd
      split at hd
      · rename_i k p k' q
        split at hd
        · rename_i hkk
          subst hkk
          obtain rfl:=Option.some.inj hd
          have hal:(args.toList.map a.eval).length=2:=by simpa using e1.symm
          obtain⟨u,v,hu⟩:=length_two hal
          have h1:=e2 0 _ u rfl (by rw[hu];rfl)
          have h2:=e2 1 _ v rfl (by rw[hu];rfl)
          cases h1;cases h2
          have ha:args.map a.eval=#[.int k p,.int k q]:=by rw[←Array.toArray_toList (xs:=args.map a.eval),Array.toList_map,hu]
          exact⟨_,hK,.of_run (by simp[execOp,resolve,invoke,builtin,ha,run_min_int2]) hs .int⟩
        · cases hd
      · cases hd
    · exact h.elim
  case h_20 args tys =>
    obtain⟨ds,hds,h⟩:=someK_get h
    obtain⟨e1,e2⟩:=mapO_sound hs hds
    split at h
    · rename_i x y
      obtain⟨d,hd,hK⟩:=someK_get h
      unfold maxD at hd
      split at hd
      · rename_i k p k' q
        split at hd
        · rename_i hkk
          subst hkk
          obtain rfl:=Option.some.inj hd
          have hal:(args.toList.map a.eval).length=2:=by simpa using e1.symm
          obtain⟨u,v,hu⟩:=length_two hal
          have h1:=e2 0 _ u rfl (by rw[hu];rfl)
          have h2:=e2 1 _ v rfl (by rw[hu];rfl)
          cases h1;cases h2
          have ha:args.map a.eval=#[.int k p,.int k q]:=by rw[←Array.toArray_toList (xs:=args.map a.eval),Array.toList_map,hu]
          exact⟨_,hK,.of_run (by simp[execOp,resolve,invoke,builtin,ha,run_max_int2]) hs .int⟩
        · cases hd
      · cases hd
    · exact h.elim
  case h_21 f args tys =>
    obtain⟨df,hf,h⟩:=someK_get h
    obtain⟨ds,hds,h⟩:=someK_get h
    obtain⟨e1,e2⟩:=mapO_sound hs hds
    unfold callY at h
    split at h
    · rename_i fid cap _
      obtain⟨cx,d,fc,hcx,hid,htk,hK⟩:=h
      have hv:=eval_sound hs hf
      generalize hu:a.eval f=u at hv
      cases hv with
      | @fn _ _ vl hl hr =>
      refine⟨d,hK,?_⟩
      intro K' Q hK'
      have hrun:(execOp a.eval ⟨dst,.call ⟨.value f,args,tys⟩,type,pos,after,guard⟩).run S.P w=.ok (.enter fid (args.map a.eval++vl.toArray)) w:=by
        simp[execOp,resolve,hu,Deferred.ofValue,invoke,enter_run fc.1]
      unfold Oper.wp
      rw[hrun,Oper.upon_enter]
      refine(callq_sound hs (vals:=args.map a.eval++vl.toArray) ?_ ?_ hcx fc hid htk).mono ?_
      · simp at e1
        simp[e1,hl]
      · intro j d v hd hv
        have hsz:(args.map a.eval).size=ds.length:=by simp at e1;simp[e1]
        by_cases hj:j<ds.length
        · rw[List.getElem?_append_left hj] at hd
          rw[Array.getElem?_append_left (by omega)] at hv
          exact e2 j d v hd (by simpa using hv)
        · rw[List.getElem?_append_right (by omega)] at hd
          rw[Array.getElem?_append_right (by omega),hsz] at hv
          exact hr _ d v hd (by simpa using hv)
      · rintro e w' ⟨v,G',rfl,h1,h2,hq⟩
        exact hK' v G' w' h1 h2 hq
    · obtain⟨fid,d0,cx,d,rfl,fc,hcx,hid,htk,hK⟩:=h
      have hv:=eval_sound hs hf
      obtain⟨u0,hu,hr0⟩:=hv.mv_inv
      refine⟨d,hK,?_⟩
      intro K' Q hK'
      have hrun:(execOp a.eval ⟨dst,.call ⟨.value f,args,tys⟩,type,pos,after,guard⟩).run S.P w=.ok (.enter fid (#[u0]++args.map a.eval)) w:=by
        simp[execOp,resolve,hu,Deferred.ofValue,invoke,enter_run fc.1]
      unfold Oper.wp
      rw[hrun,Oper.upon_enter]
      refine(callq_sound hs (vals:=#[u0]++args.map a.eval) ?_ ?_ hcx fc hid htk).mono ?_
      · simp at e1
        simp[e1];omega
      · intro j d v hd hv
        match j with
        | 0 =>
          obtain rfl:d0=d:=by simpa using hd
          rw[Array.getElem?_append_left (by simp)] at hv
          obtain rfl:u0=v:=by simpa using hv
          exact hr0
        | j+1 =>
          simp only[List.getElem?_cons_succ] at hd
          rw[Array.getElem?_append_right (by simp)] at hv
          exact e2 j d v hd (by simpa using hv)
      · rintro e w' ⟨v,G',rfl,h1,h2,hq⟩
        exact hK' v G' w' h1 h2 hq
    · exact h.elim
  case h_22 t l c =>
    obtain⟨dl,hdl,h⟩:=someK_get h
    obtain⟨dc,hdc,h⟩:=someK_get h
    obtain⟨d,v,G',w',hK,hr,hs',hv,hq⟩:=makeQ_sound hs (eval_sound hs hdl) (eval_sound hs hdc) h
    exact⟨d,hK,.of_runQ (by simp[execOp,hr]) hs' hv hq⟩
  case h_23 args tys =>
    obtain⟨ds,hds,h⟩:=someK_get h
    obtain⟨e1,e2⟩:=mapO_sound hs hds
    split at h
    · rename_i x y t t' htys
      obtain⟨rfl,h⟩:=h
      have hal:(args.toList.map a.eval).length=2:=by simpa using e1.symm
      obtain⟨u,v,hu⟩:=length_two hal
      have hx:=e2 0 _ u rfl (by rw[hu];rfl)
      have hy:=e2 1 _ v rfl (by rw[hu];rfl)
      obtain⟨d,v',G',w',hK,hr,hs',hv,hq⟩:=appQ_sound (ty:=type) hs hx hy h
      have ha:args.map a.eval=#[u,v]:=by rw[←Array.toArray_toList (xs:=args.map a.eval),Array.toList_map,hu]
      have ht:tys=#[t,t]:=by rw[←Array.toArray_toList (xs:=tys),htys]
      exact⟨d,hK,.of_runQ (by simp[execOp,resolve,invoke,builtin,ha,ht,hr]) hs' hv hq⟩
    · exact h.elim
  case h_24=>exact h.elim
end Go.Lg
/-
  Lg, part 8: variables that lie in memory ('boxes'): new ones, and stores into them.
-/
namespace Go.Lg
open Go Go.RowKit

def eraseK {α:Type} (k:Nat):List (Nat×α)→List (Nat×α)
 | []=>[]
 | (k',x)::r=>if k'=k then eraseK k r else (k',x)::eraseK k r
theorem look_eraseK {α:Type} (k:Nat) (l:List (Nat×α)) (t:Nat):look (eraseK k l) t=if k=t then none else look l t:=by
 induction l with
 | nil=>simp[eraseK,look]
 | cons p r ih =>
  obtain⟨k',x⟩:=p
  by_cases h:k'=k
  ·subst h
   simp only[eraseK,if_true,ih,look]
   by_cases h2:k'=t<;>simp[h2]
  ·simp only[eraseK,if_neg h,look,ih]
   by_cases h2:k'=t
   ·subst h2
    have:¬k=k':=fun e=>h e.symm
    simp[this]
   ·simp[h2]
def keepA {α:Type} (f:α→Bool):List (Nat×α)→List (Nat×α)
 | []=>[]
 | (k,x)::r=>if f x=true then (k,x)::keepA f r else eraseK k (keepA f r)
theorem look_keepA {α:Type} (f:α→Bool) (l:List (Nat×α)) (t:Nat) (x:α) (h:look (keepA f l) t=some x):look l t=some x∧f x=true:=by
 induction l with
 | nil=>cases h
 | cons p r ih =>
  obtain⟨k,y⟩:=p
  by_cases hf:f y=true
  ·simp only[keepA,hf,if_true,look] at h ⊢
   by_cases hk:k=t
   ·simp only[hk,if_true,Option.some.injEq] at h ⊢
    subst h
    exact⟨rfl,hf⟩
   ·rw[if_neg hk] at h ⊢
    exact ih h
  ·simp only[keepA] at h
   rw[if_neg hf,look_eraseK] at h
   by_cases hk:k=t
   ·rw[if_pos hk] at h;cases h
   ·rw[if_neg hk] at h
    simp only[look]
    rw[if_neg hk]
    exact ih h

def noId (id:Nat) (d:D):Bool:=!d.ids.contains id
def noIdL (id:Nat) (cs:List D):Bool:=!(D.idsL cs).contains id

def LS.forget (L:LS) (id:Nat):LS :=
 {L with env:=keepA (noId id) L.env,boxes:=eraseK id (keepA (noIdL id) L.boxes),ro:=eraseK id (keepA (noIdL id) L.ro)}
def LS.newBox (L:LS) (t id:Nat) (cs:List D) (dd:D):LS :=
 {L.forget id with env:=setA (L.forget id).env t dd,boxes:=setA (L.forget id).boxes id cs}

theorem noId_spec {id:Nat} {d:D} (h:noId id d=true):id∉d.ids:=by
 simpa[noId] using h
theorem noIdL_spec {id:Nat} {cs:List D} (h:noIdL id cs=true):id∉D.idsL cs:=by
 simpa[noIdL] using h

def Ghost.addBox (G:Ghost) (g id:Nat):Ghost:={G.grow g 0 with β:=fun i=>if i=id then some g else G.β i}

theorem newBox_simC {B:Base} {L:LS} {G:Ghost} {a:Act} {w:World} (h:Sim B L G a w) {t id:Nat} {cs:List D} {arr:Array Value} (e:TypeId) (ht:t<L.n) (hfix:id∉L.fix) (hcs:id∉D.idsL cs) (hr:cs.length≤arr.size∧∀(j:Nat) d v,cs[j]?=some d→arr[j]?=some v→Rel G w d v)
  {dd:D} {vv:Value} (hd0:Rel (G.addBox w.heap.size id) (w.alloc (.cells arr e)) dd vv) :
  Sim B (L.newBox t id cs dd) (G.addBox w.heap.size id) (a.put (some t) vv) (w.alloc (.cells arr e)):=by
 have hW:=h.W
 have hmn:Mono G (G.addBox w.heap.size id) w (w.alloc (.cells arr e)):=by
  have:=alloc_mono hW (.cells arr e) 0
  exact⟨this.cell,this.lab,this.mp⟩
 have hold:∀b,b<w.heap.size→(w.alloc (.cells arr e)).heap[b]?=w.heap[b]?:=fun b hb=>Below.heap_alloc w _ b hb
 have hlim:∀b,b<w.heap.size→(G.addBox w.heap.size id).lim b=G.lim b:=fun b hb=>by simp only[Ghost.addBox,Ghost.grow];rw[if_neg (by omega)]
 have hβ:∀i g,i≠id→G.β i=some g→(G.addBox w.heap.size id).β i=some g:=fun i g hne hg=>by simp only[Ghost.addBox];rw[if_neg hne];exact hg
 have rG:∀ {d v},id∉d.ids→Rel G w d v→Rel (G.addBox w.heap.size id) (w.alloc (.cells arr e)) d v:=fun {d v} hid hr =>
  hr.mono hmn (fun i hi g hg=>hβ i g (fun e=>hid (e ▸ hi)) hg) (fun k _=>.inr ⟨rfl,fun g e' z hk=>by
   obtain⟨_,_,⟨cur,hc,_⟩,_⟩:=hW.tau k g e' z hk
   have hlt:=heap_lt hc
   exact⟨hlim g hlt,shape_of_heap (hold g hlt)⟩⟩)
 have hbox:∀ {g cs},id∉D.idsL cs→BoxAt G w g cs→BoxAt (G.addBox w.heap.size id) (w.alloc (.cells arr e)) g cs:=fun {g cs} hid ⟨vs,e',e1,e2,e3⟩ =>
  ⟨vs,e',by rw[hold _ (heap_lt e1)];exact e1,e2,fun j d v hd hv=>rG (fun hi=>hid (mem_idsL (List.mem_of_getElem? hd) hi)) (e3 j d v hd hv)⟩
 refine⟨h.defers,by simpa[Act.put,LS.newBox,LS.forget] using h.size,fun t' d hd=>?_,?_,h.fixed⟩
 ·simp only[LS.newBox,look_setA] at hd
  by_cases e0:t=t'
  ·subst e0
   simp only[if_true,Option.some.injEq] at hd
   subst hd
   exact⟨_,by simp[Act.put,h.size,ht],hd0⟩
  ·rw[if_neg e0] at hd
   simp only[LS.forget] at hd
   obtain⟨h1,h2⟩:=look_keepA _ _ _ _ hd
   obtain⟨v,h3,h4⟩:=h.env t' d h1
   exact⟨v,by simp only[Act.put];rw[Array.getElem?_setIfInBounds_ne e0];exact h3,rG (noId_spec h2) h4⟩
 ·exact {
   boxes:=fun i cs' hl=>by
    simp only[LS.newBox,look_setA] at hl
    by_cases e0:id=i
    ·subst e0
     simp only[if_true,Option.some.injEq] at hl
     subst hl
     refine⟨w.heap.size,by simp[Ghost.addBox],⟨arr,e,heap_alloc_new w _,hr.1,fun j d v hd hv=>?_⟩,by simp[Ghost.addBox,Ghost.grow],.inl hW.sz⟩
     exact rG (fun hi=>hcs (mem_idsL (List.mem_of_getElem? hd) hi)) (hr.2 j d v hd hv)
    ·rw[if_neg e0] at hl
     simp only[LS.forget,look_eraseK,if_neg e0] at hl
     obtain⟨h1,h2⟩:=look_keepA _ _ _ _ hl
     obtain⟨g,k1,k2,k3,k4⟩:=hW.boxes i cs' h1
     exact⟨g,hβ i g (fun e=>e0 e.symm) k1,hbox (noIdL_spec h2) k2,by rw[hlim g (hW.blt _ _ k1)];exact k3,k4⟩
   robs:=fun i cs' hl=>by
    simp only[LS.newBox,LS.forget,look_eraseK] at hl
    by_cases e0:id=i
    ·rw[if_pos e0] at hl;cases hl
    ·rw[if_neg e0] at hl
     obtain⟨h1,h2⟩:=look_keepA _ _ _ _ hl
     obtain⟨g,k1,k2,k3,k4⟩:=hW.robs i cs' h1
     exact⟨g,hβ i g (fun e=>e0 e.symm) k1,hbox (noIdL_spec h2) k2,k3,k4⟩
   toks:=hW.toks
   tau:=fun k g e' z hk=>by
    obtain⟨h1,h2,⟨cur,h3,h4⟩,h5⟩:=hW.tau k g e' z hk
    refine⟨h1,h2,⟨cur,by rw[hold _ (heap_lt h3)];exact h3,by rw[hlim _ (heap_lt h3)];exact h4⟩,fun i hi=>?_⟩
    simp only[Ghost.addBox] at hi
    split at hi
    ·have:=heap_lt h3
     have:=Option.some.inj hi
     omega
    ·exact h5 i hi
   tinj:=hW.tinj
   binj:=fun i j g hi hj=>by
    simp only[Ghost.addBox] at hi hj
    split at hi<;>split at hj
    ·omega
    ·have:=hW.blt _ _ hj
     have:=Option.some.inj hi
     omega
    ·have:=hW.blt _ _ hi
     have:=Option.some.inj hj
     omega
    ·exact hW.binj i j g hi hj
   blt:=fun i g hi=>by
    simp only[Ghost.addBox] at hi
    split at hi
    ·have:=Option.some.inj hi;simp;omega
    ·have:=hW.blt _ _ hi;simp;omega
   lablt:=fun b hb=>by have:=hW.lablt b hb;simp;omega
   old:=fun b hlt hab=>by
    have hs:=hW.sz
    rw[hold b (by omega),hlim b (by omega)]
    exact hW.old b hlt hab
   olda:=fun b hlt=>by
    have hs:=hW.sz
    rw[hlim b (by omega)]
    refine⟨(hW.olda b hlt).1,fun q v hq hc=>?_⟩
    rw[cell_of_heap (hold b (by omega))]
    exact(hW.olda b hlt).2 q v hq hc
   oldl:=hW.oldl
   tlab:=hW.tlab
   blab:=fun i g hi=>by
    simp only[Ghost.addBox] at hi
    split at hi
    ·obtain rfl:=Option.some.inj hi
     exact Classical.byContradiction fun hne=>Nat.lt_irrefl _ (hW.lablt _ hne)
    ·exact hW.blab i g hi
   oldu:=hW.oldu
   labw:=fun b hb hor=>by
    obtain⟨vs,e',h1⟩:=hW.labw b hb hor
    exact⟨vs,e',by rw[hold b (hW.lablt b hb)];exact h1⟩
   ids:=fun p hp=>hβ p.1 p.2 (fun e=>hfix (e ▸ h.fixed p hp)) (hW.ids p hp)
   sz:=by have:=hW.sz;simp;omega
   os:=hW.os
   tape:=hW.tape
   out:=hW.out
   dr:=hW.dr}

theorem newBox_sim {B:Base} {L:LS} {G:Ghost} {a:Act} {w:World} (h:Sim B L G a w) {t id:Nat} {cs:List D} {arr:Array Value} (e:TypeId) (ht:t<L.n) (hfix:id∉L.fix) (hcs:id∉D.idsL cs) (hr:RelArr G w cs arr)
  {dd:D} {vv:Value} (hd0:Rel (G.addBox w.heap.size id) (w.alloc (.cells arr e)) dd vv) :
  Sim B (L.newBox t id cs dd) (G.addBox w.heap.size id) (a.put (some t) vv) (w.alloc (.cells arr e)) :=
 newBox_simC h e ht hfix hcs ⟨Nat.le_of_eq hr.1.symm,hr.2⟩ hd0

theorem store_sim {B:Base} {L:LS} {G:Ghost} {a:Act} {w:World} (h:Sim B L G a w) {id off:Nat} {cs new:List D} {vl:List Value} (hl:look L.boxes id=some cs) (hoff:off+new.length≤cs.length)
  (hn:vl.length=new.length) (hr:∀(j:Nat) d v,new[j]?=some d→vl[j]?=some v→Rel G w d v) (h1:∀v∈vl,v.oneCell'=true) :
  ∃g w',G.β id=some g∧(∀P:Program,(storeCells ⟨g,off,none⟩ vl).run P w=.ok () w')∧Sim B {L with boxes:=setA L.boxes id (putCells cs off new)} G a w':=by
 have hW:=h.W
 obtain⟨g,k1,⟨vs,e,e1,e2,e3⟩,k3,k4⟩:=hW.boxes id cs hl
 let vs':=(vs.toList.take (off+0)++vl++vs.toList.drop (off+0+vl.length)).toArray
 have hg:=heap_lt e1
 have hsame:(w.setRow g vs').heap[g]?=some (.cells vs' e (0,0)):=setRow_heap w g vs vs' e (0,0) e1
 have hother:∀b,b≠g→(w.setRow g vs').heap[b]?=w.heap[b]?:=fun b hb=>setRow_other w g b vs' hb
 have hmn:Mono G G w (w.setRow g vs'):=by
  refine⟨fun b o v h1 h2=>⟨h1,?_⟩,fun _ _=>rfl,fun b es c hb=>(hother b (fun h=>by subst h;rw[e1] at hb;cases hb)).trans hb⟩
  have hb:b≠g:=fun e=>by subst e;rw[k3] at h1;omega
  rw[cell_of_heap (hother b hb)];exact h2
 have hτg:∀ {k g' e' z},G.τ k=some (some (g',e',z))→g'≠g:=fun {k g' e' z} hk e=>by
  subst e
  exact(hW.tau k _ e' z hk).2.2.2 id k1
 have rG:∀ {d v},Rel G w d v→Rel G (w.setRow g vs') d v:=fun hr =>
  hr.mono hmn (fun _ _ _ h=>h) (fun k _=>.inr ⟨rfl,fun g' e' z hk=>⟨rfl,shape_of_heap (hother g' (hτg hk))⟩⟩)
 have hbox:∀ {g' cs},g'≠g→BoxAt G w g' cs→BoxAt G (w.setRow g vs') g' cs:=fun {g' cs} hne ⟨vs,e',e1,e2,e3⟩ =>
  ⟨vs,e',by rw[hother _ hne];exact e1,e2,fun j d v hd hv=>rG (e3 j d v hd hv)⟩
 refine⟨g,w.setRow g vs',k1,fun P=>?_,h.defers,h.size,fun t d hd=>?_,?_,h.fixed⟩
 ·exact run_storeCells_at P g off e vl 0 vs w e1 (by omega) h1
 ·obtain⟨v,h1,h2⟩:=h.env t d hd
  exact⟨v,h1,rG h2⟩
 ·have hsz:(w.setRow g vs').heap.size=w.heap.size:=by simp[World.setRow]
  exact {
   boxes:=fun i cs' hl'=>by
    simp only[look_setA] at hl'
    by_cases e0:id=i
    ·subst e0
     simp only[if_true,Option.some.injEq] at hl'
     subst hl'
     refine⟨g,k1,⟨vs',e,hsame,?_,fun j d v hd hv=>?_⟩,k3,k4⟩
     ·rw[putCells_length hoff]
      simp[vs']
      omega
     ·rw[putCells_get hoff] at hd
      have hvg:vs'[j]?=if off≤j∧j<off+new.length then vl[j-off]? else vs.toList[j]?:=by
       have hlen:(vs.toList.take (off+0)).length=off:=by simp;omega
       simp only[vs',List.getElem?_toArray]
       by_cases c1:j<off
       ·rw[if_neg (by omega),List.append_assoc,List.getElem?_append_left (by omega),List.getElem?_take,if_pos (by omega)]
       ·by_cases c2:j<off+new.length
        ·rw[if_pos (by omega),List.append_assoc,List.getElem?_append_right (by omega),hlen,List.getElem?_append_left (by omega)]
        ·rw[if_neg (by omega),List.getElem?_append_right (by simp;omega),List.getElem?_drop]
         congr 1
         simp
         omega
      rw[hvg] at hv
      by_cases hc:off≤j∧j<off+new.length
      ·rw[if_pos hc] at hd hv
       exact rG (hr _ d v hd hv)
      ·rw[if_neg hc] at hd hv
       exact rG (e3 j d v hd (by simpa using hv))
    ·rw[if_neg e0] at hl'
     obtain⟨g',q1,q2,q3,q4⟩:=hW.boxes i cs' hl'
     exact⟨g',q1,hbox (fun e=>e0 (by subst e;exact hW.binj _ _ _ k1 q1)) q2,q3,q4⟩
   robs:=fun i cs' hl'=>by
    obtain⟨g',q1,q2,q3,q4⟩:=hW.robs i cs' hl'
    refine⟨g',q1,hbox (fun e=>?_) q2,q3,q4⟩
    subst e
    rcases k4 with k4|k4
    ·omega
    ·exact q4 k4
   toks:=hW.toks
   tau:=fun k g' e' z hk=>by
    obtain⟨q1,q2,⟨cur,q3,q4⟩,q5⟩:=hW.tau k g' e' z hk
    exact⟨q1,q2,⟨cur,by rw[hother _ (hτg hk)];exact q3,q4⟩,q5⟩
   tinj:=hW.tinj
   binj:=hW.binj
   blt:=fun i g' hi=>by rw[hsz];exact hW.blt i g' hi
   lablt:=fun b hb=>by rw[hsz];exact hW.lablt b hb
   old:=fun b hlt hab=>by
    have hb:b≠g:=fun e=>by
     subst e
     rcases k4 with k4|k4
     ·omega
     ·exact hab k4
    rw[hother b hb]
    exact hW.old b hlt hab
   olda:=fun b hlt=>by
    obtain⟨q1,q2⟩:=hW.olda b hlt
    refine⟨q1,fun o v ho hc=>?_⟩
    have hb:b≠g:=fun e=>by subst e;rw[k3] at q1;omega
    rw[cell_of_heap (hother b hb)]
    exact q2 o v ho hc
   oldl:=hW.oldl
   tlab:=hW.tlab
   blab:=hW.blab
   oldu:=hW.oldu
   labw:=fun b hb hor=>by
    obtain⟨vs,e',h1⟩:=hW.labw b hb hor
    refine⟨vs,e',?_⟩
    rw[hother b (fun e0=>hb (by rw[e0];exact hW.blab _ _ k1))]
    exact h1
   ids:=hW.ids
   sz:=by rw[hsz];exact hW.sz
   os:=hW.os
   tape:=hW.tape
   out:=hW.out
   dr:=hW.dr}

end Go.Lg
