import Derived.WalkKit
import Derived.Below
import Derived.Still
import Derived.Laws.AppendOwn
import Derived.Laws.Tables
import Derived.Laws.Cells
import Derived.Laws.Small
import Derived.Laws.Slices
import Derived.Laws.Strings
import Derived.Laws.Strings2
import Derived.Laws.Cover1
import Derived.Laws.Unary
import Derived.WalkSpells
import Derived.Great.BuildSlice
import Derived.Laws.MakeOwn
namespace Go.Lg
open Go
theorem zA{α:Type _}{a b:α}(h:some a=some b):a=b:=Option.some.inj h
theorem zB{α:Type _}{l:List α}{i:Nat}(h:i<l.length):l[i]?=some l[i]:=List.getElem?_eq_getElem h
theorem zC{α:Type _}{β:Type _}{l:List α}(f:α->β):(List.map f l).length=l.length:=List.length_map f
theorem zD{α:Type _}{l:List α}{i:Nat}{a:α}:l.getD i a=l[i]?.getD a:=List.getD_eq_getElem?_getD
theorem zE{α:Type _}{i:Nat}{a:α}{l:List α}:l[i]?=some a↔∃h,l[i]=a:=List.getElem?_eq_some_iff
theorem zF{α:Type _}{l:List α}{i:Nat}{a:α}(h:l[i]?=some a):a∈l:=List.mem_of_getElem? h
theorem zG{α:Type _}(y:α){a:α}{l:List α}(h:a∈l):a∈y::l:=List.mem_cons_of_mem y h
theorem zH{α:Type _}{a:α}{l:List α}:a∈a::l:=List.mem_cons_self
theorem zI{α:Type _}{β:Type _}{f:α->β}{l:List α}{i:Nat}:(List.map f l)[i]?=Option.map f l[i]?:=List.getElem?_map
theorem zJ{α:Type _}{β:Type _}{b:β}{f:α->β}{l:List α}:b∈List.map f l↔∃a,a∈l/\f a=b:=List.mem_map
theorem zK{α:Type _}{as bs:List α}:(as++bs).length=as.length+bs.length:=List.length_append
theorem zL{α:Type _}{l m:List α}{i:Nat}(h:i<l.length):(l++m)[i]?=l[i]?:=List.getElem?_append_left h
theorem zM{α:Type _}{l m:List α}{i:Nat}(h:l.length≤i):(l++m)[i]?=m[i-l.length]?:=List.getElem?_append_right h
theorem zN{α:Type _}{a b:α}:a∈[b]↔a=b:=List.mem_singleton
theorem zO{α:Type _}{b:α}{l:List α}{a:α}:a∈b::l↔a=b∨a∈l:=List.mem_cons
theorem zP{α:Type _}{a:α}{s t:List α}:a∈s++t↔a∈s∨a∈t:=List.mem_append
theorem zQ(n:Nat):n≤n:=Nat.le_refl n

inductive Tk where
 | any|nil|nl|nn|full
 | own (k:Nat) (e:TypeId) (z:Nat)
 | que (k:Nat) (e:TypeId)
 | lab (l:List Nat)
 deriving DecidableEq,Repr

structure Ghost where
 lim:Nat->Nat
 lab:Nat->List Nat
 β:Nat->Option Nat
 τ:Nat->Option (Option (Nat×TypeId×Nat))

inductive D where
 | int (k:IntKind) (n:Int)
 | bool (b:Bool)
 | str (s:ByteArray)
 | sl (tk:Tk) (xs:List D)
 | agg (cs:List D)
 | fn (f:Nat) (cap:List D)
 | box (id off:Nat)
 | ms (id n:Nat)
 | vw (id off n:Nat)
 | imm (cs:List D)
 | tup (ds:List D)
 | raw (v:Value)
 | pred (I:Ghost->World->Value->Prop)

instance:Inhabited D:=⟨.raw undef⟩

def D.cells:D->List D
 | .agg cs=>cs
 | d=>[d]

def D.memOk:D->Bool
 | .int ..|.bool _|.str _|.imm _=>true
 | .sl (.own _ _ _) _=>false
 | .sl (.que _ _) _=>false
 | .sl _ _=>true
 | .fn _ cap=>cap.isEmpty
 | _=>false

def D.one:D->Bool
 | .agg _|.tup _|.pred _=>false
 | .raw v=>v.oneCell'
 | _=>true

mutual
def D.ids:D->List Nat
 | .box id _=>[id]
 | .ms id _=>[id]
 | .vw id _ _=>[id]
 | .agg cs=>D.idsL cs
 | .fn _ cap=>D.idsL cap
 | .tup ds=>D.idsL ds
 | _=>[]
def D.idsL:List D->List Nat
 | []=>[]
 | d::ds=>d.ids++D.idsL ds
end
mutual
def D.tks:D->List Nat
 | .sl (.own k _ _) _=>[k]
 | .sl (.que k _) _=>[k]
 | .agg cs=>D.tksL cs
 | .fn _ cap=>D.tksL cap
 | .tup ds=>D.tksL ds
 | _=>[]
def D.tksL:List D->List Nat
 | []=>[]
 | d::ds=>d.tks++D.tksL ds
end

def flat(xs:List D):List D:=xs.flatMap D.cells

def dZ(G:Ghost)(w:World):Tk->List D->Option Addr->Nat->Nat->Prop
 | .any,_,_,_,_=>True
 | .nil,_,A,n,c=>A=none/\n=0/\c=0
 | .nl,_,A,n,_=>A=none/\n=0
 | .nn,_,A,_,_=>A≠none
 | .full,_,_,n,c=>n=c
 | .own k e z,xs,A,n,c=>match G.τ k with
  | none=>True
  | some none=>n=0/\c=0
  | some (some (g,e',z'))=>(e'=e/\z'=z)/\A=some ⟨g,0,none⟩/\n*z=G.lim g/\w.shape? g=some (e,c*z)/\∀x∈xs,x.cells.length=z
 | .que k e,xs,A,n,c=>match G.τ k with
  | none=>True
  | some none=>n=0/\c=0
  | some (some (g,e',z'))=>(e'=e/\z'=1)/\((n=0/\c=0)∨∃o,A=some ⟨g,o,none⟩/\o+n=G.lim g/\w.shape? g=some (e,o+c)/\∀x∈xs,x.cells.length=1)
 | .lab l,xs,A,_,_=>xs=[]∨∃g o,A=some ⟨g,o,none⟩/\G.lab g=l/\l≠[]

structure Mono (G G':Ghost) (w w':World):Prop where
 cell:∀b o v,o<G.lim b->w.cell? ⟨b,o,none⟩=some v->o<G'.lim b/\w'.cell? ⟨b,o,none⟩=some v
 lab:∀b,G.lab b≠[]->G'.lab b=G.lab b

theorem Mono.trans{G G' G'' w w' w''}(h:Mono G G' w w')(h':Mono G' G'' w' w''):Mono G G'' w w'' :=
 ⟨λb o v h1 h2=>let ⟨q1,q2⟩:=h.cell b o v h1 h2;h'.cell b o v q1 q2,λb hb=>(h'.lab b (by rw[h.lab b hb];exact hb)).trans (h.lab b hb)⟩
theorem Mono.refl(G:Ghost)(w:World):Mono G G w w:=⟨λ_ _ _ h1 h2=>⟨h1,h2⟩,λ_ _=>rfl⟩

inductive Rel (G:Ghost) (w:World):D->Value->Prop
 | int {k n}:Rel G w (.int k n) (.int k n)
 | bool {b}:Rel G w (.bool b) (.bool b)
 | str {s}:Rel G w (.str s) (.string s)
 | sl {tk:Tk} {xs:List D} {A:Option Addr} {n c b o s:Nat} (hn:n=xs.length) (hc:n≤c) (hm:c≤maxLen) (ht:dZ G w tk xs A n c)
   (hA:xs=[]∨A=some ⟨b,o,none⟩) (hu:∀x∈xs,x.cells.length=s) (hk:∀d∈flat xs,d.memOk=true)
   (hst:∀j d,(flat xs)[j]?=some d->o+j<G.lim b/\∃v,w.cell? ⟨b,o+j,none⟩=some v)
   (hr:∀j d v,(flat xs)[j]?=some d->w.cell? ⟨b,o+j,none⟩=some v->Rel G w d v):Rel G w (.sl tk xs) (.slice A n c)
 | agg {cs:List D} {vl:List Value} (hl:vl.length=cs.length) (hr:∀(j:Nat) d v,cs[j]?=some d->vl[j]?=some v->Rel G w d v):Rel G w (.agg cs) (.agg vl.toArray)
 | fn {f:Nat} {cap:List D} {vl:List Value} (hl:vl.length=cap.length) (hr:∀(j:Nat) d v,cap[j]?=some d->vl[j]?=some v->Rel G w d v):Rel G w (.fn f cap) (.func (.func f) #[] vl.toArray)
 | box {id off g:Nat} (hb:G.β id=some g):Rel G w (.box id off) (.pointer (some ⟨g,off,none⟩))
 | ms {id n c g:Nat} (hb:G.β id=some g) (hc:n≤c) (hn:c≤maxLen):Rel G w (.ms id n) (.slice (some ⟨g,0,none⟩) n c)
 | vw {id off n c g:Nat} (hb:G.β id=some g) (hc:n≤c) (hn:c≤maxLen):Rel G w (.vw id off n) (.slice (some ⟨g,off,none⟩) n c)
 | imm {cs:List D} {b o:Nat} (hk:∀d∈cs,d.memOk=true)
   (hst:∀(j:Nat) d,cs[j]?=some d->o+j<G.lim b/\∃v,w.cell? ⟨b,o+j,none⟩=some v)
   (hr:∀(j:Nat) d v,cs[j]?=some d->w.cell? ⟨b,o+j,none⟩=some v->Rel G w d v):Rel G w (.imm cs) (.pointer (some ⟨b,o,none⟩))
 | tup {ds:List D} {vl:List Value} (hl:vl.length=ds.length) (hr:∀(j:Nat) d v,ds[j]?=some d->vl[j]?=some v->Rel G w d v):Rel G w (.tup ds) (.tuple vl.toArray)
 | raw {v:Value} (h:∀cs,v≠.agg cs):Rel G w (.raw v) v
 | pred {I:Ghost->World->Value->Prop} {v:Value} (hv:∀cs,v≠.agg cs) (h:∀G' w',Mono G G' w w'->I G' w' v):Rel G w (.pred I) v

theorem iM:∀ {d:D},d.memOk=true->d.ids=[]
 | .int ..,_=>rfl
 | .bool _,_=>rfl
 | .str _,_=>rfl
 | .imm _,_=>rfl
 | .sl _ _,_=>rfl
 | .fn _ cap,h=>by
  have:cap=[]:=by simpa[D.memOk] using h
  subst this;rfl
theorem jE:∀ {d:D},d.memOk=true->d.tks=[]
 | .int ..,_=>rfl
 | .bool _,_=>rfl
 | .str _,_=>rfl
 | .imm _,_=>rfl
 | .sl tk _,h=>by cases tk<;>first|rfl|(simp[D.memOk] at h)
 | .fn _ cap,h=>by
  have:cap=[]:=by simpa[D.memOk] using h
  subst this;rfl

theorem iF{ds:List D}{d:D}{i:Nat}(h:d∈ds)(hi:i∈d.ids):i∈D.idsL ds:=by
 induction ds with
 | nil=>cases h
 | cons x r ih =>
  simp only[D.idsL,zP];rcases zO.1 h with rfl|h
  ·exact .inl hi
  ·exact .inr (ih h)
theorem fN{ds:List D}{d:D}{i:Nat}(h:d∈ds)(hi:i∈d.tks):i∈D.tksL ds:=by
 induction ds with
 | nil=>cases h
 | cons x r ih =>
  simp only[D.tksL,zP];rcases zO.1 h with rfl|h
  ·exact .inl hi
  ·exact .inr (ih h)

theorem Rel.mono{G G':Ghost}{w w':World}(hm:Mono G G' w w'){d:D}{v:Value}(h:Rel G w d v) :
  (∀i∈d.ids,∀g,G.β i=some g->G'.β i=some g) →
  (∀k∈d.tks,G'.τ k=none∨(G'.τ k=G.τ k/\∀g e z,G.τ k=some (some (g,e,z))->G'.lim g=G.lim g/\w'.shape? g=w.shape? g))->Rel G' w' d v:=by
 induction h with
 | int=>exact λ_ _=>.int
 | bool=>exact λ_ _=>.bool
 | str=>exact λ_ _=>.str
 | @sl tk xs A n c b o s hn hc hmx ht hA hu hk hst hr ih =>
  intro hi hkk;refine .sl (b:=b) (o:=o) hn hc hmx ?_ hA hu hk ?_ ?_
  ·cases tk with
   | own k e z =>
    rcases hkk k (by simp[D.tks]) with h1|⟨h1,h2⟩
    ·simp only[dZ,h1]
    ·simp only[dZ] at ht ⊢;rw[h1];generalize hg:G.τ k=x at *;match x,hg with
     | none,_=>exact trivial
     | some none,_=>exact ht
     | some (some (g,e',z')),_ =>
      obtain⟨e1,e2,e3,e4,e5⟩:=ht;obtain⟨k1,k2⟩:=h2 g e' z' rfl;exact⟨e1,e2,by rw[k1];exact e3,by rw[k2];exact e4,e5⟩
   | que k e =>
    rcases hkk k (by simp[D.tks]) with h1|⟨h1,h2⟩
    ·simp only[dZ,h1]
    ·simp only[dZ] at ht ⊢;rw[h1];generalize hg:G.τ k=x at *;match x,hg with
     | none,_=>exact trivial
     | some none,_=>exact ht
     | some (some (g,e',z')),_ =>
      obtain⟨e1,h0|⟨o1,e2,e3,e4,e5⟩⟩:=ht
      ·exact⟨e1,.inl h0⟩
      ·obtain⟨k1,k2⟩:=h2 g e' z' rfl;exact⟨e1,.inr ⟨o1,e2,by rw[k1];exact e3,by rw[k2];exact e4,e5⟩⟩
   | lab l =>
    rcases ht with ht|⟨g,o',e1,e2,e3⟩
    ·exact .inl ht
    ·exact .inr ⟨g,o',e1,by rw[hm.lab g (by rw[e2];exact e3)];exact e2,e3⟩
   | _=>exact ht
  ·intro j d hj;obtain⟨h1,v,h2⟩:=hst j d hj;have:=hm.cell b (o+j) v h1 h2;exact⟨this.1,v,this.2⟩
  ·intro j d v hj hv;obtain⟨h1,v',h2⟩:=hst j d hj;have:=(hm.cell b (o+j) v' h1 h2).2;rw[this] at hv;obtain rfl:v'=v:=by simpa using hv
   have hmem:=hk d (zF hj);exact ih j d v' hj h2 (by rw[iM hmem];simp) (by rw[jE hmem];simp)
 | @agg cs vl hl hr ih =>
  intro hi hk;exact .agg hl λj d v hj hv=>ih j d v hj hv (λi hi'=>hi i (iF (zF hj) hi')) (λi hi'=>hk i (fN (zF hj) hi'))
 | @fn f cap vl hl hr ih =>
  intro hi hk;exact .fn hl λj d v hj hv=>ih j d v hj hv (λi hi'=>hi i (iF (zF hj) hi')) (λi hi'=>hk i (fN (zF hj) hi'))
 | box hb=>exact λhi _=>.box (hi _ (by simp[D.ids]) _ hb)
 | ms hb hc hn=>exact λhi _=>.ms (hi _ (by simp[D.ids]) _ hb) hc hn
 | vw hb hc hn=>exact λhi _=>.vw (hi _ (by simp[D.ids]) _ hb) hc hn
 | @imm cs b o hk hst hr ih =>
  intro _ _;refine .imm hk ?_ ?_
  ·intro j d hj;obtain⟨h1,v,h2⟩:=hst j d hj;have:=hm.cell b (o+j) v h1 h2;exact⟨this.1,v,this.2⟩
  ·intro j d v hj hv;obtain⟨h1,v',h2⟩:=hst j d hj;have:=(hm.cell b (o+j) v' h1 h2).2;rw[this] at hv;obtain rfl:v'=v:=by simpa using hv
   have hmem:=hk d (zF hj);exact ih j d v' hj h2 (by rw[iM hmem];simp) (by rw[jE hmem];simp)
 | @tup ds vl hl hr ih =>
  intro hi hk;exact .tup hl λj d v hj hv=>ih j d v hj hv (λi hi'=>hi i (iF (zF hj) hi')) (λi hi'=>hk i (fN (zF hj) hi'))
 | raw h=>exact λ_ _=>.raw h
 | pred hv h=>exact λ_ _=>.pred hv λG2 w2 hm2=>h G2 w2 (hm.trans hm2)

inductive D.le:D->D->Prop
 | refl (d:D):D.le d d
 | any {tk:Tk} {xs:List D}:D.le (.sl tk xs) (.sl .any xs)
 | emp {tk:Tk} {l:List Nat}:D.le (.sl tk []) (.sl (.lab l) [])
 | deep {tk:Tk} {xs ys:List D} (hl:xs.map (λx=>x.cells.length)=ys.map (λx=>x.cells.length)) (hf:(flat xs).length=(flat ys).length)
   (h:∀(j:Nat) c d,(flat xs)[j]?=some c->(flat ys)[j]?=some d->D.le c d):D.le (.sl tk xs) (.sl .any ys)
 | agg {cs ds:List D} (hl:cs.length=ds.length) (h:∀(j:Nat) c d,cs[j]?=some c->ds[j]?=some d->D.le c d):D.le (.agg cs) (.agg ds)
 | tup {cs ds:List D} (hl:cs.length=ds.length) (h:∀(j:Nat) c d,cs[j]?=some c->ds[j]?=some d->D.le c d):D.le (.tup cs) (.tup ds)
 | kn {I:Ghost->World->Value->Prop} {d:D} (h:∀G w v,Rel G w (.pred I) v->Rel G w d v):D.le (.pred I) d

theorem aVB{c d:D}(h:D.le c d)(hm:c.memOk=true):d.memOk=true:=by
 cases h with
 | refl=>exact hm
 | any=>rfl
 | emp=>rfl
 | deep=>rfl
 | agg=>cases hm
 | tup=>cases hm
 | kn=>cases hm
theorem Rel.le{G w}{d d':D}(hle:D.le d d'):∀ {v:Value},Rel G w d v->Rel G w d' v:=by
 induction hle with
 | refl=>exact id
 | any =>
  intro v h;cases h with
  | sl hn hc hm ht hA hu hk hst hr=>exact .sl hn hc hm trivial hA hu hk hst hr
 | emp =>
  intro v h;cases h with
  | sl hn hc hm ht hA hu hk hst hr=>exact .sl hn hc hm (.inl rfl) hA hu hk hst hr
 | @deep tk xs ys hl hf h ih =>
  intro v hv;cases hv with
  | @sl _ _ A n c b o s hn hc hm ht hA hu hk hst hr =>
   have hlen:xs.length=ys.length:=by simpa using congrArg List.length hl
   refine .sl (b:=b) (o:=o) (s:=s) (hn.trans hlen) hc hm trivial ?_ (λy hy=>?_) (λd hd=>?_) (λj d hd=>?_) (λj d v hd hv=>?_)
   ·rcases hA with hA|hA
    ·exact .inl (List.length_eq_zero_iff.1 (by rw[←hlen,hA];rfl))
    ·exact .inr hA
   ·obtain⟨j,hj,rfl⟩:=List.getElem_of_mem hy;have h1:=congrArg (λl=>l[j]?) hl;simp only[zI,zB hj,zB (show j<xs.length by omega),Option.map_some,Option.some.injEq] at h1;rw[←h1];exact hu _ (List.getElem_mem _)
   ·obtain⟨j,hj,rfl⟩:=List.getElem_of_mem hd;have hj':j<(flat xs).length:=by omega
    exact aVB (h j _ _ (zB hj') (zB hj)) (hk _ (List.getElem_mem hj'))
   ·have hj':j<(flat xs).length:=by have:=(zE.1 hd).1;omega
    exact hst j _ (zB hj')
   ·have hj':j<(flat xs).length:=by have:=(zE.1 hd).1;omega
    exact ih j _ _ (zB hj') hd (hr j _ v (zB hj') hv)
 | agg hl h ih =>
  intro v hv;cases hv with
  | agg hl' hr =>
   refine .agg (hl'.trans hl) λj d v hd hv=>?_;have hlt:=(zE.1 hd).1;exact ih j _ _ (zB (by omega)) hd (hr j _ _ (zB (by omega)) hv)
 | kn h=>exact λhr=>h _ _ _ hr
 | tup hl h ih =>
  intro v hv;cases hv with
  | tup hl' hr =>
   refine .tup (hl'.trans hl) λj d v hd hv=>?_;have hlt:=(zE.1 hd).1;exact ih j _ _ (zB (by omega)) hd (hr j _ _ (zB (by omega)) hv)

theorem Rel.one{G w}{d:D}{v:Value}(h:Rel G w d v)(h1:d.one=true):v.oneCell'=true:=by
 cases h<;>first|rfl|exact h1|(simp[D.one] at h1)

theorem Rel.cells{G w}{d:D}{v:Value}(h:Rel G w d v) :
  v.cells.size=d.cells.length/\∀(j:Nat) c u,d.cells[j]?=some c->v.cells[j]?=some u->Rel G w c u:=by
 have simple:d.cells=[d]->v.cells=#[v]->v.cells.size=d.cells.length/\∀(j:Nat) c u,d.cells[j]?=some c->v.cells[j]?=some u->Rel G w c u:=by
  intro e1 e2;rw[e1,e2];refine⟨rfl,λj c u hc hu=>?_⟩;cases j with
  | zero=>simp at hc hu;subst hc;subst hu;exact h
  | succ j=>simp at hc
 cases h with
 | agg hl hr=>exact⟨by simpa[Value.cells,D.cells] using hl,λj c u hc hu=>hr j c u hc (by simpa[Value.cells] using hu)⟩
 | raw hv=>refine simple rfl ?_;cases v<;>first|rfl|exact absurd rfl (hv _)
 | pred hv _=>refine simple rfl ?_;cases v<;>first|rfl|exact absurd rfl (hv _)
 | _=>exact simple rfl rfl

def mvI(f:Nat)(d:D):Ghost->World->Value->Prop:=λG w v=>∃u,v=.func (.func f) #[u] #[]/\Rel G w d u
def D.mv(f:Nat)(d:D):D:=.pred (mvI f d)
theorem Rel.mv{G w}{f:Nat}{d:D}{u:Value}(h:Rel G w d u)(h1:d.ids=[])(h2:d.tks=[]):Rel G w (D.mv f d) (.func (.func f) #[u] #[]) :=
 .pred (λcs e=>by cases e) λG' w' hm=>⟨u,rfl,h.mono hm (by rw[h1];simp) (by rw[h2];simp)⟩
theorem Rel.mv_inv{G w}{f:Nat}{d:D}{v:Value}(h:Rel G w (.pred (mvI f d)) v):∃u,v=.func (.func f) #[u] #[]/\Rel G w d u:=by
 cases h with
 | pred hv h=>exact h G w (Mono.refl G w)

open Go.RowKit

def look{α:Type}:List (Nat×α)->Nat->Option α
 | [],_=>none
 | (k,d)::r,t=>if k=t then some d else look r t
def eU{α:Type}:List (Nat×α)->Nat->α->List (Nat×α)
 | [],t,d=>[(t,d)]
 | (k,x)::r,t,d=>if k=t then (t,d)::r else (k,x)::eU r t d
theorem b7{α:Type}(l:List (Nat×α))(t:Nat)(d:α)(t':Nat):look (eU l t d) t'=if t=t' then some d else look l t':=by
 induction l with
 | nil=>simp[eU,look]
 | cons p r ih =>
  obtain⟨k,x⟩:=p;by_cases h:k=t
  ·subst h;by_cases h2:k=t'<;>simp[eU,look,h2]
  ·by_cases h2:k=t'
   ·subst h2;have:t≠k:=λe=>h e.symm;simp[eU,look,h,this]
   ·simp[eU,look,h,h2,ih]

structure LS where
 n:Nat
 env:List (Nat×D)
 boxes:List (Nat×List D)
 ro:List (Nat×List D)
 toks:List Nat
 fix:List Nat

def LS.get(L:LS)(t:Nat):Option D:=look L.env t
def LS.getBox(L:LS)(id:Nat):Option (List D):=match look L.boxes id with|some c=>some c|none=>look L.ro id
def LS.put(L:LS)(t:Nat)(d:D):LS:={L with env:=eU L.env t d}
def LS.putO(L:LS)(t:Option Nat)(d:D):LS:=match t with|some t=>L.put t d|none=>L

structure Base where
 w:World
 lim:Nat->Nat
 lab:Nat->List Nat
 ab:Nat->Prop
 ids:List (Nat×Nat)
 pan:List PanicEntry->Prop:=λ_=>False

def dD(G:Ghost)(w:World)(g:Nat)(cs:List D):Prop :=
 ∃vs e,w.heap[g]?=some (.cells vs e (0,0))/\cs.length≤vs.size/\∀(j:Nat) d v,cs[j]?=some d->vs[j]?=some v->Rel G w d v

structure SimW (B:Base) (bx ro:List (Nat×List D)) (tk:List Nat) (G:Ghost) (w:World):Prop where
 boxes:∀id cs,look bx id=some cs->∃g,G.β id=some g/\dD G w g cs/\G.lim g=0/\(B.w.heap.size≤g∨B.ab g)
 robs:∀id cs,look ro id=some cs->∃g,G.β id=some g/\dD G w g cs/\g<B.w.heap.size/\¬B.ab g
 toks:∀k∈tk,∃x,G.τ k=some x
 tau:∀k g e z,G.τ k=some (some (g,e,z))->(B.w.heap.size≤g∨B.ab g)/\0<z/\(∃cur,w.heap[g]?=some (.cells cur e (0,0))/\G.lim g≤cur.size)/\∀i,G.β i≠some g
 tinj:∀k k' g e z e' z',G.τ k=some (some (g,e,z))->G.τ k'=some (some (g,e',z'))->k=k'
 binj:∀i j g,G.β i=some g->G.β j=some g->i=j
 blt:∀i g,G.β i=some g->g<w.heap.size
 lablt:∀b,G.lab b≠[]->b<w.heap.size
 old:∀b,b<B.w.heap.size->¬B.ab b->w.heap[b]?=B.w.heap[b]?/\G.lim b=B.lim b
 olda:∀b,b<B.w.heap.size->B.lim b≤G.lim b/\∀o v,o<B.lim b->B.w.cell? ⟨b,o,none⟩=some v->w.cell? ⟨b,o,none⟩=some v
 oldl:∀b,b<B.w.heap.size->B.lab b≠[]->G.lab b=B.lab b
 tlab:∀k g e z,G.τ k=some (some (g,e,z))->G.lab g=[]
 blab:∀i g,G.β i=some g->G.lab g=[]
 oldu:∀b,b<B.w.heap.size->¬B.ab b->B.lab b=[]->G.lab b=[]
 labw:∀b,G.lab b≠[]->(B.w.heap.size≤b∨B.ab b)->∃vs e,w.heap[b]?=some (.cells vs e (0,0))
 ids:∀p∈B.ids,G.β p.1=some p.2
 sz:B.w.heap.size≤w.heap.size
 os:w.os=B.w.os
 tape:w.tape=B.w.tape
 out:w.output=B.w.output
 dr:B.w.drawn≤w.drawn

structure Sim (B:Base) (L:LS) (G:Ghost) (a:Act) (w:World):Prop where
 defers:a.defers=[]
 size:a.tmps.size=L.n
 env:∀t d,look L.env t=some d->∃v,a.tmps[t]?=some v/\Rel G w d v
 W:SimW B L.boxes L.ro L.toks G w
 fixed:∀p∈B.ids,p.1∈L.fix

theorem Sim.put{B}{L:LS}{G}{a:Act}{w}(h:Sim B L G a w){t:Nat}{d:D}{v:Value}(ht:t<L.n)(hr:Rel G w d v):Sim B (L.put t d) G (a.put (some t) v) w:=by
 refine⟨h.defers,by simpa[Act.put,LS.put] using h.size,λt' d' hd=>?_,h.W,h.fixed⟩;simp only[LS.put,b7] at hd;by_cases e:t=t'
 ·subst e;simp only[if_true,Option.some.injEq] at hd;subst hd;exact⟨v,by simp[Act.put,h.size,ht],hr⟩
 ·rw[if_neg e] at hd;obtain⟨v',hv,hr'⟩:=h.env t' d' hd;exact⟨v',by simp only[Act.put];rw[Array.getElem?_setIfInBounds_ne e];exact hv,hr'⟩

theorem Sim.putO{B}{L:LS}{G}{a:Act}{w}(h:Sim B L G a w){t:Option Nat}{d:D}{v:Value}(ht:∀t',t=some t'->t'<L.n)(hr:Rel G w d v):Sim B (L.putO t d) G (a.put t v) w:=by
 cases t with
 | none=>exact h
 | some t=>exact h.put (ht t rfl) hr

theorem Sim.move{B}{L:LS}{G G' a w w'}(h:Sim B L G a w)(hW:SimW B L.boxes L.ro L.toks G' w')(hr:∀d v,Rel G w d v->Rel G' w' d v):Sim B L G' a w' :=
 ⟨h.defers,h.size,λt d hd=>let ⟨v,h1,h2⟩:=h.env t d hd;⟨v,h1,hr d v h2⟩,hW,h.fixed⟩

def LS.covers(L L':LS):Prop :=
 L'.n=L.n/\L'.fix=L.fix/\(∀p∈L'.env,∃d,look L.env p.1=some d/\D.le d p.2)/\(∀p∈L'.boxes,look L.boxes p.1=some p.2)/\(∀p∈L'.ro,look L.ro p.1=some p.2)/\∀k∈L'.toks,k∈L.toks

theorem bB{α:Type}{l:List (Nat×α)}{t:Nat}{d:α}(h:look l t=some d):(t,d)∈l:=by
 induction l with
 | nil=>cases h
 | cons p r ih =>
  obtain⟨k,x⟩:=p;simp only[look] at h;by_cases e:k=t
  ·simp only[e,if_true,Option.some.injEq] at h;subst h;subst e;exact zH
  ·rw[if_neg e] at h;exact zG _ (ih h)

theorem SimW.less{B}{bx bx' ro ro':List (Nat×List D)}{tk tk':List Nat}{G w}(h:SimW B bx ro tk G w)(hb:∀p∈bx',look bx p.1=some p.2)
  (hro:∀p∈ro',look ro p.1=some p.2) (ht:∀k∈tk',k∈tk):SimW B bx' ro' tk' G w :=
 {h with boxes:=λid cs hl=>h.boxes id cs (hb (id,cs) (bB hl)),robs:=λid cs hl=>h.robs id cs (hro (id,cs) (bB hl)),toks:=λk hk=>h.toks k (ht k hk)}

theorem Sim.less{B}{L L':LS}{G a w}(h:Sim B L G a w)(hc:L.covers L'):Sim B L' G a w:=by
 obtain⟨hn,hf,he,hb,hro,ht⟩:=hc;refine⟨h.defers,by rw[hn];exact h.size,λt d hd=>?_,h.W.less hb hro ht,by rw[hf];exact h.fixed⟩;obtain⟨d',h1,h2⟩:=he (t,d) (bB hd);obtain⟨v,h3,h4⟩:=h.env t d' h1;exact⟨v,h3,h4.le h2⟩

def eY:Nat->List D->List (Nat×D)
 | _,[]=>[]
 | k,d::ds=>(k,d)::eY (k+1) ds
theorem iB(ds:List D):∀(k t:Nat),look (eY k ds) t=if k≤t then ds[t-k]? else none:=by
 induction ds with
 | nil=>intro k t;simp[eY,look]
 | cons d ds ih =>
  intro k t;simp only[eY,look,ih];by_cases h:k=t
  ·subst h;simp
  ·by_cases h2:k≤t
   ·rw[if_neg h,if_pos h2,if_pos (by omega),show t-k=(t-(k+1))+1 by omega];simp
   ·rw[if_neg h,if_neg h2,if_neg (by omega)]

def dE(G:Ghost)(w:World)(bx:List (Nat×List D))(tk:List Nat):Base where
 w:=w
 lim:=G.lim
 lab:=G.lab
 ab:=λb=>(∃p∈bx,G.β p.1=some b)∨∃k∈tk,∃e z,G.τ k=some (some (b,e,z))
 ids:=bx.filterMap λp=>(G.β p.1).map λg=>(p.1,g)

inductive ZK where
 | int (k:IntKind)|bool|str|slice|ptr|fn|map|iface
 deriving DecidableEq,Repr
def ZK.val:ZK->Value
 | .int k=>.int k 0|.bool=>.bool false|.str=>.string .empty|.slice=>.slice none 0 0|.ptr=>.pointer none|.fn=>.nilFunc|.map=>.map none|.iface=>.nilIface
def ZK.d:ZK->D
 | .int k=>.int k 0|.bool=>.bool false|.str=>.str .empty|.slice=>.sl .nil []|.ptr=>.raw (.pointer none)|.fn=>.raw .nilFunc|.map=>.raw (.map none)|.iface=>.raw .nilIface
def ZK.is:ZK->Value->Bool
 | .int k,.int k' n=>k==k'&&n==0
 | .bool,.bool b=>!b
 | .str,.string s=>s.size==0
 | .slice,.slice none 0 0=>true
 | .ptr,.pointer none=>true
 | .fn,.nilFunc=>true
 | .map,.map none=>true
 | .iface,.nilIface=>true
 | _,_=>false
inductive TK where
 | slice (e:TypeId)
 | struct (fs:List (Nat×TypeId))
 | array (n:Nat) (e:TypeId)
 | string|bool
 | int (k:IntKind)
 | other
 deriving DecidableEq,Repr
structure TyI where
 kind:TK
 bytes:Nat
 zero:List ZK
 deriving DecidableEq,Repr
def TyI.size(i:TyI):Nat:=i.zero.length
def TyI.agg(i:TyI):Bool:=match i.kind with|.struct _|.array _ _=>true|_=>false

structure TyOk (P:Program) (t:TypeId) (i:TyI):Prop where
 info:∃inf,P.info? t=some inf/\inf.size=i.size/\inf.bytes=i.bytes/\∃z,inf.zero=some z/\z.cells=(i.zero.map ZK.val).toArray/\(i.agg=false->i.size=1)
 desc:match i.kind with
  | .slice e=>P.underlying t=some (.slice e)
  | .struct fs=>∃fields,P.underlying t=some (.struct fields)/\fields.toList.map (λf=>(f.offset,f.type))=fs/\∃places,fields.toList.mapM (λf=>(P.info? f.type).map λi=>(f.offset,i.size))=some places
  | .array n e=>P.underlying t=some (.array n e)
  | .string=>P.underlying t=some .string
  | .bool=>P.underlying t=some .bool
  | .int k=>P.underlying t=some (.int k)
  | .other=>∃d,P.underlying t=some d/\(match d with|.struct _|.array _ _=>true|_=>false)=false

structure Setup where
 P:Program
 tab:Nat->Option TyI
 ok:∀t i,tab t=some i->TyOk P t i
 mixed:P.follows .mixedOrders=true

def Enters (P:Program) (f:FuncId):Prop:=∃fn,P.funcs[f]?=some fn∧(fn.name == "runtime.NumGoroutine")=false∧fn.body.isNone=false

def FC(S:Setup)(f:FuncId)(ro bx:List (Nat×List D))(tk:List Nat)(args:List D)(d:D)(bx':List (Nat×List D))(tk':List Nat):Prop :=
 Enters S.P f/\∀(w:World) (G:Ghost) (vals:Array Value),Sim (dE G w bx tk) ⟨args.length,eY 0 args,bx,ro,tk,bx.map (·.1)⟩ G ⟨vals,[]⟩ w →
  Calls S.P f vals w λe w'=>∃v G',e=.returned v/\Sim (dE G w bx tk) ⟨1,[(0,d)],bx',[],tk',bx.map (·.1)⟩ G' ⟨#[v],[]⟩ w'

def FCE(S:Setup)(E:Value->Ending)(f:FuncId)(ro bx:List (Nat×List D))(tk:List Nat)(args:List D)(d:D)(bx':List (Nat×List D))(tk':List Nat):Prop :=
 Enters S.P f/\∀(w:World) (G:Ghost) (vals:Array Value),Sim (dE G w bx tk) ⟨args.length,eY 0 args,bx,ro,tk,bx.map (·.1)⟩ G ⟨vals,[]⟩ w →
  Calls S.P f vals w λe w'=>∃v G',e=E v/\Sim (dE G w bx tk) ⟨1,[(0,d)],bx',[],tk',bx.map (·.1)⟩ G' ⟨#[v],[]⟩ w'
def FCX(S:Setup)(f:FuncId)(ro bx:List (Nat×List D))(tk:List Nat)(args:List D)(ch:List PanicEntry):Prop:=FCE S (λ_=>.panicked ch) f ro bx tk args (.raw undef) [] []

theorem FC.weak{S}{f:FuncId}{ro bx:List (Nat×List D)}{tk:List Nat}{args:List D}{d d':D}{bx' bx'':List (Nat×List D)}{tk' tk'':List Nat}
  (h:FC S f ro bx tk args d bx' tk') (hd:D.le d d') (hb:∀p∈bx'',look bx' p.1=some p.2) (ht:∀k∈tk'',k∈tk'):FC S f ro bx tk args d' bx'' tk'':=⟨h.1,λw G vals hs =>
 (h.2 w G vals hs).mono λ_ _ ⟨v,G',he,hsim⟩=>⟨v,G',he,hsim.less ⟨rfl,rfl,λp hp=>by
  simp only[zN] at hp;subst hp;exact⟨d,rfl,hd⟩,hb,by simp,ht⟩⟩⟩


theorem kK{w:World}{b o:Nat}{v:Value}(h:w.cell? ⟨b,o,none⟩=some v):b<w.heap.size:=World.block_lt_of_cell? w ⟨b,o,none⟩ h
theorem bY{w w':World}{b o:Nat}(h:w'.heap[b]?=w.heap[b]?):w'.cell? ⟨b,o,none⟩=w.cell? ⟨b,o,none⟩:=World.cell?_of_block (w:=w) (a:=⟨b,o,none⟩) h
theorem dP{w w':World}{b:Nat}(h:w'.heap[b]?=w.heap[b]?):w'.shape? b=w.shape? b:=by simp[World.shape?,h]

theorem bX{w:World}{g:Nat}{o:Obj}(h:w.heap[g]?=some o):g<w.heap.size:=(Array.getElem?_eq_some_iff.1 h).1

mutual
def D.shT(off:Nat):D->D
 | .sl (.own k e z) xs=>.sl (.own (k+off) e z) xs
 | .sl (.que k e) xs=>.sl (.que (k+off) e) xs
 | .agg cs=>.agg (D.shTL off cs)
 | .fn f cap=>.fn f (D.shTL off cap)
 | .tup ds=>.tup (D.shTL off ds)
 | d=>d
def D.shTL(off:Nat):List D->List D
 | []=>[]
 | d::ds=>d.shT off::D.shTL off ds
end
theorem tV(off:Nat)(ds:List D):D.shTL off ds=ds.map (D.shT off):=by
 induction ds with
 | nil=>rfl
 | cons d ds ih=>simp[D.shTL,ih]

theorem Rel.shift{G G':Ghost}{w}(hl:G'.lim=G.lim)(hb:G'.lab=G.lab)(off:Nat){d:D}{v:Value}(h:Rel G w d v) :
  (∀i∈d.ids,∀g,G.β i=some g->G'.β i=some g)->(∀k∈d.tks,G'.τ (k+off)=G.τ k)->Rel G' w (d.shT off) v:=by
 have hm:Mono G G' w w:=⟨λb o v h1 h2=>⟨by rw[hl];exact h1,h2⟩,λb _=>by rw[hb]⟩;induction h with
 | int=>exact λ_ _=>.int
 | bool=>exact λ_ _=>.bool
 | str=>exact λ_ _=>.str
 | @sl tk xs A n c b o s hn hc hmx ht hA hu hk hst hr ih =>
  intro hi hkk;have key:∀tk',(dZ G' w tk' xs A n c)->Rel G' w (.sl tk' xs) (.slice A n c):=λtk' ht'=>by
   refine .sl (b:=b) (o:=o) hn hc hmx ht' hA hu hk (λj d hj=>?_) (λj d v hj hv=>?_)
   ·rw[hl];exact hst j d hj
   ·have hmem:=hk d (zF hj);exact(hr j d v hj hv).mono hm (by rw[iM hmem];simp) (by rw[jE hmem];simp)
  cases tk with
  | own k e z =>
   refine key (.own (k+off) e z) ?_;simp only[dZ] at ht ⊢;rw[hkk k (by simp[D.tks]),hl];exact ht
  | que k e =>
   refine key (.que (k+off) e) ?_;simp only[dZ] at ht ⊢;rw[hkk k (by simp[D.tks]),hl];exact ht
  | lab l =>
   refine key (.lab l) ?_;rcases ht with ht|⟨g,o',e1,e2,e3⟩
   ·exact .inl ht
   ·exact .inr ⟨g,o',e1,by rw[hb];exact e2,e3⟩
  | _=>exact key _ ht
 | @agg cs vl hlen hr ih =>
  intro hi hk;simp only[D.shT,tV];refine .agg (by simpa using hlen) λj d v hj hv=>?_;simp only[zI,Option.map_eq_some_iff] at hj;obtain⟨d0,hj,rfl⟩:=hj;exact ih j d0 v hj hv (λi hi'=>hi i (iF (zF hj) hi')) (λi hi'=>hk i (fN (zF hj) hi'))
 | @fn f cap vl hlen hr ih =>
  intro hi hk;simp only[D.shT,tV];refine .fn (by simpa using hlen) λj d v hj hv=>?_;simp only[zI,Option.map_eq_some_iff] at hj;obtain⟨d0,hj,rfl⟩:=hj;exact ih j d0 v hj hv (λi hi'=>hi i (iF (zF hj) hi')) (λi hi'=>hk i (fN (zF hj) hi'))
 | box hb'=>exact λhi _=>.box (hi _ (by simp[D.ids]) _ hb')
 | ms hb' hc hn=>exact λhi _=>.ms (hi _ (by simp[D.ids]) _ hb') hc hn
 | vw hb' hc hn=>exact λhi _=>.vw (hi _ (by simp[D.ids]) _ hb') hc hn
 | @imm cs b o hk hst hr ih =>
  intro _ _;refine .imm hk (λj d hj=>?_) (λj d v hj hv=>?_)
  ·rw[hl];exact hst j d hj
  ·have hmem:=hk d (zF hj);exact(hr j d v hj hv).mono hm (by rw[iM hmem];simp) (by rw[jE hmem];simp)
 | @tup ds vl hlen hr ih =>
  intro hi hk;simp only[D.shT,tV];refine .tup (by simpa using hlen) λj d v hj hv=>?_;simp only[zI,Option.map_eq_some_iff] at hj;obtain⟨d0,hj,rfl⟩:=hj;exact ih j d0 v hj hv (λi hi'=>hi i (iF (zF hj) hi')) (λi hi'=>hk i (fN (zF hj) hi'))
 | raw h=>exact λ_ _=>.raw h
 | pred hv h=>exact λ_ _=>.pred hv λG2 w2 hm2=>h G2 w2 (hm.trans hm2)

def D.pu1(p:Nat->Bool):D->D
 | .sl (.own k e z) xs=>if p k then .sl .any xs else .sl (.own k e z) xs
 | .sl (.que k e) xs=>if p k then .sl .any xs else .sl (.que k e) xs
 | d=>d
def D.pu(p:Nat->Bool):D->D
 | .agg cs=>.agg (cs.map (D.pu1 p))
 | .tup cs=>.tup (cs.map (D.pu1 p))
 | d=>d.pu1 p
def D.puOk(p:Nat->Bool)(d:D):Bool:=(d.pu p).tks.all λk=>!p k

theorem D.le_pu1(p:Nat->Bool)(d:D):D.le d (d.pu1 p):=by
 cases d with
 | sl tk xs=>cases tk<;>first|exact .refl _|(simp only[D.pu1];split<;>first|exact .any|exact .refl _)
 | _=>exact .refl _
theorem D.le_pu(p:Nat->Bool)(d:D):D.le d (d.pu p):=by
 cases d with
 | agg cs =>
  refine .agg (by simp) λj c d hc hd=>?_;simp only[zI,hc,Option.map_some,Option.some.injEq] at hd;subst hd;exact D.le_pu1 p c
 | tup cs =>
  refine .tup (by simp) λj c d hc hd=>?_;simp only[zI,hc,Option.map_some,Option.some.injEq] at hd;subst hd;exact D.le_pu1 p c
 | sl tk xs=>exact D.le_pu1 p _
 | _=>exact .refl _

def qH{α β:Type}(f:α->β):List (Nat×α)->List (Nat×β)
 | []=>[]
 | (k,x)::r=>(k,f x)::qH f r
theorem j4{α β:Type}(f:α->β)(l:List (Nat×α))(t:Nat):look (qH f l) t=(look l t).map f:=by
 induction l with
 | nil=>rfl
 | cons p r ih =>
  obtain⟨k,x⟩:=p;by_cases h:k=t<;>simp[qH,look,h,ih]
def dR(off k:Nat):Bool:=decide (off≤k)&&decide (k<off+1000)

structure Quiet (G G':Ghost) (w w':World):Prop where
 heap:∀b,b<w.heap.size->w'.heap[b]?=w.heap[b]?/\G'.lim b=G.lim b/\G'.lab b=G.lab b
 beta:G'.β=G.β
 tau:G'.τ=G.τ
 sz:w.heap.size≤w'.heap.size
theorem Quiet.refl(G:Ghost)(w:World):Quiet G G w w:=⟨λ_ _=>⟨rfl,rfl,rfl⟩,rfl,rfl,zQ _⟩
theorem aC6{S:Setup}{B}{L:LS}{G:Ghost}{a}{w:World}(h:Sim B L G a w){f:FuncId}{cx:List (Nat×List D)}{ds:List D}{d:D}{vals:Array Value}
  (hv:vals.size=ds.length) (hr:∀(j:Nat) d v,ds[j]?=some d->vals[j]?=some v->Rel G w d v) (hb:∀p∈cx,L.getBox p.1=some p.2)
  {tk':List Nat} (fc:FC S f cx [] [] ds d [] tk') :
  Calls S.P f vals w λe w'=>∃v G',e=.returned v/\Sim B L {G' with β:=G.β,τ:=G.τ} a w'/\Quiet G {G' with β:=G.β,τ:=G.τ} w w'/\∃w0,Sim (dE {G with τ:=λ_=>none} w [] []) ⟨1,[(0,d)],[],[],tk',w0⟩ G' ⟨#[v],[]⟩ w':=by
 have hW:=h.W;let G1:Ghost:={G with τ:=λ_=>none};have hm1:Mono G G1 w w:=⟨λ_ _ _ h1 h2=>⟨h1,h2⟩,λ_ _=>rfl⟩;have r1:∀ {d v},Rel G w d v->Rel G1 w d v:=λhr=>hr.mono hm1 (λ_ _ _ h=>h) (λ_ _=>.inl rfl);have hstart:Sim (dE G1 w [] []) ⟨ds.length,eY 0 ds,[],cx,[],[]⟩ G1 ⟨vals,[]⟩ w:=by
  refine⟨rfl,hv,λt d hd=>?_,?_,λp hp=>by cases hp⟩
  ·rw[iB] at hd;simp only[Nat.zero_le,if_true,Nat.sub_zero] at hd;have hlt:t<vals.size:=by rw[hv];exact(zE.1 hd).1
   exact⟨vals[t],by simp[hlt],r1 (hr t d _ hd (by simp[hlt]))⟩
  ·exact {
    boxes:=λid cs hl=>by cases hl
    robs:=λid cs hl=>by
     have hgb:L.getBox id=some cs:=hb _ (bB hl);have hx:∃g,G.β id=some g/\dD G w g cs:=by
      unfold LS.getBox at hgb;split at hgb
      ·rename_i c hc;obtain rfl:c=cs:=by simpa using hgb
       obtain⟨g,h1,h2,_⟩:=hW.boxes id c hc;exact⟨g,h1,h2⟩
      ·obtain⟨g,h1,h2,_⟩:=hW.robs id cs hgb;exact⟨g,h1,h2⟩
     obtain⟨g,h1,vs,e,e1,e2,e3⟩:=hx;refine⟨g,h1,⟨vs,e,e1,e2,λj d v hd hv=>r1 (e3 j d v hd hv)⟩,bX e1,?_⟩;rintro (⟨p,hp,_⟩|⟨k,hk,_⟩)
     ·cases hp
     ·cases hk
    toks:=λk hk=>by cases hk
    tau:=λk g e z hk=>by cases hk
    tinj:=λk k' g e z e' z' hk=>by cases hk
    binj:=hW.binj
    blt:=hW.blt
    lablt:=hW.lablt
    old:=λ_ _ _=>⟨rfl,rfl⟩
    olda:=λ_ _=>⟨zQ _,λ_ _ _ h=>h⟩
    oldl:=λ_ _ _=>rfl
    tlab:=λk g e z hk=>by cases hk
    blab:=hW.blab
    oldu:=λ_ _ _ h=>h
    labw:=λb hb hor=>by
     rcases hor with hor|(⟨p,hp,_⟩|⟨k,hk,_⟩)
     ·exact absurd (hW.lablt b hb) (Nat.not_lt.2 hor)
     ·cases hp
     ·cases hk
    ids:=λp hp=>by cases hp
    sz:=zQ _
    os:=rfl
    tape:=rfl
    out:=rfl
    dr:=by first|exact zQ _|exact Nat.le_succ _}
 refine(fc.2 w G1 vals hstart).mono ?_;rintro e w' ⟨v,G',he,hend⟩;have hE:=hend.W;have hall:∀b,b<w.heap.size->w'.heap[b]?=w.heap[b]?/\G'.lim b=G.lim b:=λb hlt=>hE.old b hlt (by
   rintro (⟨p,hp,_⟩|⟨k,hk,_⟩)
   ·cases hp
   ·cases hk)
 have hun:∀b,b<w.heap.size->G.lab b=[]->G'.lab b=[]:=λb hlt h0=>hE.oldu b hlt (by
   rintro (⟨p,hp,_⟩|⟨k,hk,_⟩)
   ·cases hp
   ·cases hk) h0
 let G2:Ghost:={G' with β:=G.β,τ:=G.τ};have hmn:Mono G G2 w w':=by
  refine⟨λb o v h1 h2=>?_,λb hb=>hE.oldl b (hW.lablt b hb) hb⟩;obtain⟨h3,h4⟩:=hall b (kK h2);exact⟨by show o<G'.lim b;rw[h4];exact h1,by rw[bY h3];exact h2⟩
 have htl:∀ {k g e z},G.τ k=some (some (g,e,z))->g<w.heap.size:=λ{k g e z} hk=>by
  obtain⟨_,_,⟨cur,hc,_⟩,_⟩:=hW.tau k g e z hk;exact bX hc
 have rG:∀ {d v},Rel G w d v->Rel G2 w' d v:=λhr =>
  hr.mono hmn (λ_ _ _ h=>h) (λk _=>.inr ⟨rfl,λg e z hk=>⟨(hall g (htl hk)).2,dP (hall g (htl hk)).1⟩⟩)
 have hbox:∀ {g cs},dD G w g cs->dD G2 w' g cs:=λ⟨vs,e,e1,e2,e3⟩ =>
  ⟨vs,e,by rw[(hall _ (bX e1)).1];exact e1,e2,λj d v hd hv=>rG (e3 j d v hd hv)⟩
 refine⟨v,G',he,⟨h.defers,h.size,λt d hd=>?_,?_,h.fixed⟩,?_,_,hend⟩
 ·obtain⟨v,h1,h2⟩:=h.env t d hd;exact⟨v,h1,rG h2⟩
 ·exact {
   boxes:=λid cs hl=>by
    obtain⟨g,h1,h2,h3,h4⟩:=hW.boxes id cs hl;exact⟨g,h1,hbox h2,by show G'.lim g=0;rw[(hall g (hW.blt _ _ h1)).2];exact h3,h4⟩
   robs:=λid cs hl=>by
    obtain⟨g,h1,h2,h3,h4⟩:=hW.robs id cs hl;exact⟨g,h1,hbox h2,h3,h4⟩
   toks:=hW.toks
   tau:=λk g e z hk=>by
    obtain⟨h1,h2,⟨cur,h3,h4⟩,h5⟩:=hW.tau k g e z hk;exact⟨h1,h2,⟨cur,by rw[(hall g (htl hk)).1];exact h3,by show G'.lim g≤_;rw[(hall g (htl hk)).2];exact h4⟩,h5⟩
   tinj:=hW.tinj
   binj:=hW.binj
   blt:=λi g hg=>Nat.lt_of_lt_of_le (hW.blt i g hg) hE.sz
   lablt:=hE.lablt
   old:=λb hlt hab=>by
    obtain⟨h1,h2⟩:=hW.old b hlt hab;obtain⟨h3,h4⟩:=hall b (Nat.lt_of_lt_of_le hlt hW.sz);exact⟨h3.trans h1,h4.trans h2⟩
   olda:=λb hlt=>by
    obtain⟨h1,h2⟩:=hW.olda b hlt;obtain⟨h3,h4⟩:=hall b (Nat.lt_of_lt_of_le hlt hW.sz);exact⟨by show _≤G'.lim b;rw[h4];exact h1,λo v ho hc=>by rw[bY h3];exact h2 o v ho hc⟩
   oldl:=λb hlt hb=>by
    have h1:=hW.oldl b hlt hb;have:=hE.oldl b (Nat.lt_of_lt_of_le hlt hW.sz) (show G.lab b≠[] by rw[h1];exact hb);exact this.trans h1
   tlab:=λk g e z hk=>hun g (htl hk) (hW.tlab k g e z hk)
   blab:=λi g hg=>hun g (hW.blt i g hg) (hW.blab i g hg)
   oldu:=λb hlt hab hb=>hun b (Nat.lt_of_lt_of_le hlt hW.sz) (hW.oldu b hlt hab hb)
   labw:=λb hb hor=>by
    by_cases hlt:b<w.heap.size
    ·have hne:G.lab b≠[]:=λe=>hb (hun b hlt e);obtain⟨vs,e,h1⟩:=hW.labw b hne hor;exact⟨vs,e,by rw[(hall b hlt).1];exact h1⟩
    ·exact hE.labw b hb (.inl (Nat.not_lt.1 hlt))
   ids:=hW.ids
   sz:=Nat.le_trans hW.sz hE.sz
   os:=hE.os.trans hW.os
   tape:=hE.tape.trans hW.tape
   out:=hE.out.trans hW.out
   dr:=Nat.le_trans hW.dr hE.dr}
 ·refine⟨λb hlt=>⟨(hall b hlt).1,(hall b hlt).2,?_⟩,rfl,rfl,hE.sz⟩;show G'.lab b=G.lab b;by_cases h0:G.lab b=[]
  ·rw[h0];exact hun b hlt h0
  ·exact hE.oldl b hlt h0

theorem aCY{S:Setup}{B}{L:LS}{G:Ghost}{a w}(h:Sim B L G a w){f:FuncId}{cx:List (Nat×List D)}{ds:List D}{d:D}{vals:Array Value}
  (hv:vals.size=ds.length) (hr:∀(j:Nat) d v,ds[j]?=some d->vals[j]?=some v->Rel G w d v) (hb:∀p∈cx,L.getBox p.1=some p.2)
  (fc:FC S f cx [] [] ds d [] []) (hid:d.ids=[]) (htk:d.tks=[]) :
  Calls S.P f vals w λe w'=>∃v G',e=.returned v/\Sim B L G' a w'/\Rel G' w' d v/\Quiet G G' w w':=(aC6 h hv hr hb fc).mono λe w' ⟨v,G',he,h1,h2,_,hend⟩=>by
 refine⟨v,_,he,h1,?_,h2⟩;obtain⟨v',h3,h4⟩:=hend.env 0 d (by simp[look]);obtain rfl:v=v':=by simpa using h3
 exact h4.mono (show Mono G' {G' with β:=G.β,τ:=G.τ} w' w' from⟨λ_ _ _ h1 h2=>⟨h1,h2⟩,λ_ _=>rfl⟩) (by rw[hid];intro i hi;cases hi) (by rw[htk];intro i hi;cases hi)

def aL{α:Type}(o:Option α)(K:α->Prop):Prop:=match o with|some d=>K d|none=>False
theorem aEw{α:Type}(d:α)(K:α->Prop):aL (some d) K=K d:=rfl
theorem aI{α:Type}{o:Option α}{K:α->Prop}(h:aL o K):∃d,o=some d/\K d:=by
 cases o with
 | none=>exact h.elim
 | some d=>exact⟨d,rfl,h⟩

def aIx:Value->D
 | .int k n=>.int k n
 | .bool b=>.bool b
 | .string s=>.str s
 | .slice none 0 0=>.sl .nil []
 | v=>.raw v
def tP:Value->Option D
 | .agg cs=>if cs.toList.all (λv=>match v with|.agg _=>false|_=>true) then some (.agg (cs.toList.map aIx)) else none
 | .int k n=>some (.int k n)
 | .bool b=>some (.bool b)
 | .string s=>some (.str s)
 | .slice none 0 0=>some (.sl .nil [])
 | v=>some (.raw v)

def aM(L:LS):Operand->Option D
 | .tmp t=>L.get t
 | .const v=>tP v
 | .func f=>some (.fn f [])
 | .global _=>none

def fQ(ρ:Operand->Option D):List Operand->Option (List D)
 | []=>some []
 | x::xs=>match ρ x,fQ ρ xs with
  | some d,some ds=>some (d::ds)
  | _,_=>none

theorem rU{G w}:Rel G w (.sl .nil []) (.slice none 0 0) :=
 .sl (b:=0) (o:=0) (s:=0) rfl (Nat.le_refl _) (by simp[maxLen]) ⟨rfl,rfl,rfl⟩ (.inl rfl) (by simp) (by simp[flat]) (by simp[flat]) (by simp[flat])

theorem aLW{G w}(v:Value)(h:∀cs,v≠.agg cs):Rel G w (aIx v) v:=by
 unfold aIx;split
 ·exact .int
 ·exact .bool
 ·exact .str
 ·exact rU
 ·exact .raw h

theorem aOA{G w}{v:Value}{d:D}(h:tP v=some d):Rel G w d v:=by
 unfold tP at h;split at h
 ·rename_i cs;split at h
  ·rename_i hall;obtain rfl:=(zA h).symm;have:(Value.agg cs)=.agg (cs.toList).toArray:=by simp
   rw[this];refine .agg (by simp) λj d v hd hv=>?_;simp only[zI,hv,Option.map_some,Option.some.injEq] at hd;subst hd;refine aLW v λcs' e=>?_;subst e;have:=List.all_eq_true.1 hall _ (zF hv);simp at this
  ·cases h
 ·obtain rfl:=(zA h).symm;exact .int
 ·obtain rfl:=(zA h).symm;exact .bool
 ·obtain rfl:=(zA h).symm;exact .str
 ·obtain rfl:=(zA h).symm;exact rU
 ·rename_i hne _ _ _ _;obtain rfl:=(zA h).symm;exact .raw hne

theorem aO{B L G}{a:Act}{w}(h:Sim B L G a w){x:Operand}{d:D}(he:aM L x=some d):Rel G w d (a.eval x):=by
 cases x with
 | tmp t =>
  obtain⟨v,h1,h2⟩:=h.env t d he;have:a.eval (.tmp t)=v:=by simp[Act.eval,h1]
  rw[this];exact h2
 | const v=>exact aOA he
 | func f =>
  obtain rfl:=(zA he).symm;exact .fn (vl:=[]) rfl (by simp)
 | global g=>cases he

theorem eE{B L G}{a:Act}{w}(h:Sim B L G a w):∀ {xs:List Operand} {ds:List D},fQ (aM L) xs=some ds →
  ds.length=xs.length/\∀(j:Nat) d v,ds[j]?=some d->(xs.map a.eval)[j]?=some v->Rel G w d v
 | [],ds,he=>by
  obtain rfl:=(zA he).symm;exact⟨rfl,by simp⟩
 | x::xs,ds,he=>by
  unfold fQ at he;split at he
  ·rename_i d ds' h1 h2;obtain rfl:=(zA he).symm;obtain⟨e1,e2⟩:=eE h h2;refine⟨by simp[e1],λj d0 v hd hv=>?_⟩;cases j with
   | zero =>
    simp only[List.getElem?_cons_zero,Option.some.injEq,List.map_cons] at hd hv;subst hd;subst hv;exact aO h h1
   | succ j=>exact e2 j d0 v (by simpa using hd) (by simpa using hv)
  ·cases he


def Setup.kd(S:Setup)(t:TypeId):Option TK:=match S.tab t with|some i=>some i.kind|none=>none

def pG(S:Setup)(t:TypeId)(cs:List D)(K:D->Prop):Prop :=
 aL (S.tab t) λi=>if i.agg=true then i.size≤cs.length/\K (.agg (cs.take i.size)) else aL cs.head? K

def yX(S:Setup)(t:TypeId)(bx:Nat->Option (List D))(d:D)(K:D->Prop):Prop :=
 match d with
 | .imm cs=>pG S t cs K
 | .box id off=>aL (bx id) λcs=>pG S t (cs.drop off) K
 | _=>False

def l9(op:BinOp)(k:IntKind)(a b:Int)(K:D->Prop):Prop :=
 match op with
 | .add=>K (.int k (k.wrap (a+b)))
 | .sub=>K (.int k (k.wrap (a-b)))
 | .mul=>K (.int k (k.wrap (a*b)))
 | .quo=>b≠0/\K (.int k (k.wrap (a.tdiv b)))
 | .rem=>b≠0/\K (.int k (a.tmod b))
 | .eql=>K (.bool (a==b))
 | .neq=>K (.bool (a != b))
 | .lss=>K (.bool (decide (a<b)))
 | .leq=>K (.bool (decide (a≤b)))
 | .gtr=>K (.bool (decide (b<a)))
 | .geq=>K (.bool (decide (b≤a)))
 | .and=>K (.int k (bits .and k a b))
 | .or=>K (.int k (bits .or k a b))
 | .xor=>K (.int k (bits .xor k a b))
 | .andNot=>K (.int k (bits .andNot k a b))
 | _=>False

def m5(op:BinOp)(k k':IntKind)(a b:Int)(K:D->Prop):Prop :=
 match op with
 | .shl=>(0≤b/\b≤k.bits)/\K (.int k (k.wrap (a*2^b.toNat)))
 | .shr=>(0≤b/\b≤k.bits)/\K (.int k (a / 2^b.toNat))
 | op=>k=k'/\l9 op k a b K

def aW7(op:BinOp)(a b:ByteArray)(K:D->Prop):Prop :=
 match op with
 | .eql=>K (.bool (a.toList==b.toList))
 | .neq=>K (.bool (!(a.toList==b.toList)))
 | .lss=>K (.bool (Op.bytesLess a.toList b.toList))
 | .add=>a.size+b.size≤9223372036854775807/\K (.str (a++b))
 | _=>False

def aKw(op:BinOp)(a b:Bool)(K:D->Prop):Prop :=
 match op with
 | .eql=>K (.bool (a==b))
 | .neq=>K (.bool (!(a==b)))
 | _=>False

def aGf(op:BinOp)(tk:Tk)(xs:List D)(K:D->Prop):Prop :=
 match op,tk with
 | .eql,.nil=>K (.bool true)
 | .neq,.nil=>K (.bool false)
 | .eql,.nl=>K (.bool true)
 | .neq,.nl=>K (.bool false)
 | .eql,.nn=>K (.bool false)
 | .neq,.nn=>K (.bool true)
 | .eql,_=>xs≠[]/\K (.bool false)
 | .neq,_=>xs≠[]/\K (.bool true)
 | _,_=>False

def aGe(S:Setup)(op:BinOp)(t:TypeId)(x y:D)(K:D->Prop):Prop :=
 match x,y with
 | .int k a,.int k' b=>m5 op k k' a b K
 | .bool a,.bool b=>S.kd t=some .bool/\aKw op a b K
 | .str a,.str b=>aW7 op a b K
 | .sl tk xs,.sl .nil []=>(∃e,S.kd t=some (.slice e))/\aGf op tk xs K
 | _,_=>False

def unY(op:UnOp)(x:D)(K:D->Prop):Prop :=
 match op,x with
 | .not,.bool b=>K (.bool (!b))
 | .neg,.int k n=>K (.int k (k.wrap (0-n)))
 | _,_=>False

def aCR(S:Setup)(dst:TypeId)(x:D)(K:D->Prop):Prop :=
 match x with
 | .int _ n=>match S.kd dst with
  | some (.int k)=>K (.int k (k.wrap n))
  | _=>False
 | _=>False

def eO(S:Setup)(t:TypeId)(f:Nat)(x:D)(K:D->Prop):Prop :=
 match S.kd t with
 | some (.struct fs)=>aL fs[f]? λp=>aL (S.tab p.2) λj=>j.size≠0/\(match x with
  | .imm cs=>K (.imm (cs.drop p.1))
  | .box id o=>K (.box id (o+p.1))
  | _=>False)
 | _=>False

def aBO(S:Setup)(t:TypeId)(f:Nat)(x:D)(K:D->Prop):Prop :=
 match S.kd t,x with
 | some (.struct fs),.agg cs=>aL fs[f]? λp=>pG S p.2 (cs.drop p.1) K
 | _,_=>False

def eN(S:Setup)(t:TypeId)(x ix:D)(K:D->Prop):Prop :=
 match S.kd t,ix with
 | some (.slice e),.int _ i=>aL (S.tab e) λj=>(match x with
  | .sl _ xs=>(0≤i/\i<xs.length)/\(xs.getD i.toNat default).cells.length=j.size/\K (.imm (xs.getD i.toNat default).cells)
  | .ms id n=>(0≤i/\i<n)/\K (.box id (i.toNat*j.size))
  | _=>False)
 | some (.array n e),.int _ i=>aL (S.tab e) λj=>(match x with
  | .box id o=>(0≤i/\i<n)/\K (.box id (o+i.toNat*j.size))
  | .imm cs=>(0≤i/\i<n)/\K (.imm (cs.drop (i.toNat*j.size)))
  | _=>False)
 | _,_=>False

def aCp(S:Setup)(t:TypeId)(x ix:D)(K:D->Prop):Prop :=
 match S.kd t,ix,x with
 | some .string,.int _ i,.str s=>(0≤i/\i<s.size)/\K (.int .u8 (s.data.getD i.toNat 0).toNat)
 | _,_,_=>False

def aDf(S:Setup)(t:TypeId)(x:D)(K:D->Prop):Prop :=
 match S.kd t,x with
 | some (.slice _),.sl _ xs=>K (.int .i64 xs.length)
 | some (.slice _),.ms _ n=>K (.int .i64 n)
 | some .string,.str s=>K (.int .i64 s.size)
 | _,_=>False

def lU:Option D->Option (Option Int)
 | none=>some none
 | some (.int _ n)=>some (some n)
 | _=>none

def oP(S:Setup)(t:TypeId)(x:D)(lo hi mx:Option Int)(K:D->Prop):Prop :=
 match S.kd t,x with
 | some (.slice e),.sl _ xs=>aL (S.tab e) λj =>
  (match mx with|none=>True|some m=>m=hi.getD xs.length) ∧
  (0≤lo.getD 0/\lo.getD 0≤hi.getD xs.length/\hi.getD xs.length≤xs.length)/\(∀d∈xs,d.cells.length=j.size) ∧
  K (.sl (match mx with|none=>.any|some _=>.full) ((xs.take (hi.getD xs.length).toNat).drop (lo.getD 0).toNat))
 | some (.slice e),.ms id n=>(S.tab e).isSome=true/\(mx=none/\lo=none)/\(0≤hi.getD n/\hi.getD n≤n)/\K (.ms id (hi.getD n).toNat)
 | some .string,.str s=>mx=none/\(0≤lo.getD 0/\lo.getD 0≤hi.getD s.size/\hi.getD s.size≤s.size) ∧
  K (.str (s.extract (lo.getD 0).toNat (hi.getD s.size).toNat))
 | _,_=>False

def dF(cs:List D)(off:Nat)(new:List D):List D:=cs.take off++new++cs.drop (off+new.length)

def yA(S:Setup)(fs:List (Nat×TypeId)):List D->List (Nat×D)->Option (List D)
 | cs,[]=>some cs
 | cs,(i,d)::rest=>match fs[i]? with
  | some p=>match S.tab p.2 with
   | some j=>if d.cells.length=j.size/\p.1+j.size≤cs.length then yA S fs (dF cs p.1 d.cells) rest else none
   | none=>none
  | none=>none

def uV(ρ:Operand->Option D):List (Nat×Operand)->Option (List (Nat×D))
 | []=>some []
 | (i,x)::xs=>match ρ x,uV ρ xs with
  | some d,some ds=>some ((i,d)::ds)
  | _,_=>none

def sN(S:Setup)(t:TypeId)(ps:List (Nat×D))(K:D->Prop):Prop :=
 aL (S.tab t) λi=>match i.kind with
 | .struct fs=>aL (yA S fs (i.zero.map ZK.d) ps) λcs=>K (.agg cs)
 | .array _ e=>aL (S.tab e) λ_=>ps=[]/\K (.agg (i.zero.map ZK.d))
 | _=>False

def aTi(x y:D):Option D:=match x,y with
 | .int k a,.int k' b=>if k=k' then some (.int k (if b<a then b else a)) else none
 | _,_=>none
def aVH(x y:D):Option D:=match x,y with
 | .int k a,.int k' b=>if k=k' then some (.int k (if b>a then b else a)) else none
 | _,_=>none

def aQb(S:Setup)(bx:Nat->Option (List D))(f:D)(ds:List D)(K:D->Prop):Prop :=
 match f with
 | .fn fid cap=>∃cx d,FC S fid cx [] [] (ds++cap) d [] []/\(∀p∈cx,bx p.1=some p.2)/\d.ids=[]/\d.tks=[]/\K d
 | .pred I=>∃fid d0 cx d,I=mvI fid d0/\FC S fid cx [] [] (d0::ds) d [] []/\(∀p∈cx,bx p.1=some p.2)/\d.ids=[]/\d.tks=[]/\K d
 | _=>False

def qW(f:Nat)(first cap:Option (List D))(K:D->Prop):Prop :=
 match first with
 | some []=>aL cap λds=>K (.fn f ds)
 | some [d]=>cap=some []/\(d.ids=[]/\d.tks=[])/\K (D.mv f d)
 | _=>False

def jW:D->D
 | .sl (.lab l) xs=>.sl (.lab l) xs
 | .sl _ xs=>.sl .any xs
 | d=>d
def D.strip:D->D
 | .agg cs=>.agg (cs.map jW)
 | d=>jW d

def gZ(S:Setup)(t:TypeId)(n:Nat)(ps:List (Nat×D))(K:D->Prop):Prop :=
 match S.kd t with
 | some (.slice e)=>aL (S.tab e) λj=>ps.map (·.1)=List.range n/\n*j.size≤16777216/\(n=0∨0<j.size) ∧
  (∀p∈ps,p.2.cells.length=j.size/\∀c∈p.2.strip.cells,c.memOk=true)/\K (.sl .full (ps.map (·.2.strip)))
 | _=>False

def aGo(S:Setup)(t:TypeId)(l c:D)(K:D->Prop):Prop :=
 match S.kd t,l,c with
 | some (.slice e),.int _ n,.int _ m=>aL (S.tab e) λi=>aL i.zero.head? λz=>(i.zero.length=1/\0≤n/\n=m)/\((i.bytes:Int)*n≤281474976710656/\n≤9223372036854775807)/\(jW z.d).memOk=true ∧
   K (.sl .any (List.replicate n.toNat (jW z.d)))
 | _,_,_=>False

def aMw(S:Setup)(t:TypeId)(x y:D)(K:D->Prop):Prop :=
 match S.kd t,x,y with
 | some (.slice e),.sl .full xs,.sl _ ys=>aL (S.tab e) λi=>0<i.size/\(∀x∈xs,x.cells.length=i.size)/\(∀x∈ys,x.cells.length=i.size)/\(xs.length+ys.length)*i.bytes≤140737488355328/\xs.length+ys.length≤140737488355328/\K (.sl .any (xs++ys))
 | _,_,_=>False

def opY(S:Setup)(op:Op)(ρ:Operand->Option D)(bx:Nat->Option (List D))(K:D->Prop):Prop :=
 match op with
 | .move x|.assign x=>aL (ρ x) K
 | .pick c a b=>aL (ρ c) λd=>(match d with
  | .bool t=>if t=true then aL (ρ a) K else aL (ρ b) K
  | _=>False)
 | .load t x=>aL (ρ x) λd=>yX S t bx d K
 | .nilCheck x=>aL (ρ x) λd=>(match d with
  | .box ..|.imm _|.fn ..=>K d
  | _=>False)
 | .binOp o t x y _=>aL (ρ x) λdx=>aL (ρ y) λdy=>aGe S o t dx dy K
 | .unOp o _ x=>aL (ρ x) λd=>unY o d K
 | .convert src dst x=>(S.tab src).isSome=true/\aL (ρ x) λd=>aCR S dst d K
 | .makeFunc (.func f) first captured=>qW f (fQ ρ first.toList) (fQ ρ captured.toList) K
 | .fieldAddr t x f=>aL (ρ x) λd=>eO S t f d K
 | .field t x f=>aL (ρ x) λd=>aBO S t f d K
 | .indexAddr t x ix=>aL (ρ x) λd=>aL (ρ ix) λi=>eN S t d i K
 | .index t x ix=>aL (ρ x) λd=>aL (ρ ix) λi=>aCp S t d i K
 | .slice t x lo hi mx=>aL (ρ x) λd=>aL (lU (lo.bind ρ)) λl=>aL (lU (hi.bind ρ)) λh=>aL (lU (mx.bind ρ)) λm =>
   ((lo.isSome=l.isSome/\hi.isSome=h.isSome/\mx.isSome=m.isSome)/\(mx.isSome=true->hi.isSome=true))/\oP S t d l h m K
 | .build t ps=>aL (uV ρ ps.toList) λl=>sN S t l K
 | .buildSlice t n ps=>aL (uV ρ ps.toList) λl=>gZ S t n l K
 | .extract x i=>aL (ρ x) λd=>(match d with
  | .tup ds=>aL ds[i]? K
  | _=>False)
 | .call ⟨.builtin .len,args,tys⟩=>aL (fQ ρ args.toList) λds=>(match ds,tys.toList with
  | [d],[t]=>aDf S t d K
  | _,_=>False)
 | .call ⟨.builtin .min,args,_⟩=>aL (fQ ρ args.toList) λds=>(match ds with
  | [x,y]=>aL (aTi x y) K
  | _=>False)
 | .call ⟨.builtin .max,args,_⟩=>aL (fQ ρ args.toList) λds=>(match ds with
  | [x,y]=>aL (aVH x y) K
  | _=>False)
 | .call ⟨.value f,args,_⟩=>aL (ρ f) λdf=>aL (fQ ρ args.toList) λds=>aQb S bx df ds K
 | .makeSlice t l c=>aL (ρ l) λdl=>aL (ρ c) λdc=>aGo S t dl dc K
 | .call ⟨.builtin .append,args,tys⟩=>aL (fQ ρ args.toList) λds=>(match ds,tys.toList with
  | [x,y],[t,t']=>t=t'/\aMw S t x y K
  | _,_=>False)
 | _=>False

def aSz(G:Ghost)(w:World)(b o:Nat)(cs:List D):Prop :=
 ∀(j:Nat) d,cs[j]?=some d->∃v,w.cell? ⟨b,o+j,none⟩=some v/\Rel G w d v

theorem aSz.drop{G w}{b o:Nat}{cs:List D}(h:aSz G w b o cs)(k:Nat):aSz G w b (o+k) (cs.drop k):=λj d hd=>by
 rw[List.getElem?_drop] at hd;have:=h (k+j) d hd;rwa [←Nat.add_assoc] at this

theorem dD.rd{G w}{g:Nat}{cs:List D}(h:dD G w g cs):aSz G w g 0 cs:=λj d hd=>by
 obtain⟨vs,e,e1,e2,e3⟩:=h;have hlt:j<vs.size:=Nat.lt_of_lt_of_le (zE.1 hd).1 e2;exact⟨vs[j],by simp[World.cell?,e1,hlt],e3 j d _ hd (by simp[hlt])⟩

theorem dD.rdOff{G w}{g:Nat}{cs:List D}(h:dD G w g cs)(off:Nat):aSz G w g off (cs.drop off):=by
 have:=h.rd.drop off;simpa using this

theorem lQ{P:Program}{t:TypeId}{i:TyI}(h:TyOk P t i)(w:World):(isAgg t).run P w=.ok i.agg w:=by
 have hd:=h.desc;unfold TyI.agg;cases hk:i.kind with
 | struct fs=>simp only[hk] at hd;obtain⟨fields,hu,_,_⟩:=hd;simp[isAgg,run_underlying hu]
 | slice e=>simp only[hk] at hd;simp[isAgg,run_underlying hd]
 | array n e=>simp only[hk] at hd;simp[isAgg,run_underlying hd]
 | string=>simp only[hk] at hd;simp[isAgg,run_underlying hd]
 | bool=>simp only[hk] at hd;simp[isAgg,run_underlying hd]
 | int k=>simp only[hk] at hd;simp[isAgg,run_underlying hd]
 | other =>
  simp only[hk] at hd;obtain⟨d,hu,hn⟩:=hd;cases d<;>simp_all [isAgg,run_underlying hu]

theorem run_sizeOf{P:Program}{t:TypeId}{i:TyI}(h:TyOk P t i)(w:World):(sizeOf t).run P w=.ok i.size w:=by
 obtain⟨inf,h1,h2,_⟩:=h.info;simp[sizeOf,typeInfo,h1,h2]

theorem aAl{S:Setup}{G}{w:World}{b o:Nat}{t:TypeId}{cs:List D}{K:D->Prop}(hr:aSz G w b o cs)(h:pG S t cs K) :
  ∃d v,K d/\(loadVar t ⟨b,o,none⟩).run S.P w=.ok v w/\Rel G w d v:=by
 obtain⟨i,hi,h⟩:=aI h;have hok:=S.ok t i hi;by_cases ha:i.agg=true
 ·rw[if_pos ha] at h;obtain⟨hl,hK⟩:=h;let vl:=(List.range i.size).map λj=>(w.cell? ⟨b,o+j,none⟩).getD undef;have hlen:vl.length=i.size:=by simp[vl]
  have hcell:∀j v,vl[j]?=some v->w.cell? ((⟨b,o,none⟩:Addr).add j)=some v:=λj v hv=>by
   have hj:j<i.size:=by rw[←hlen];exact(zE.1 hv).1
   obtain⟨v',h1,_⟩:=hr j _ (zB (show j<cs.length by omega));rw[Addr.add_lit,h1];simp only[vl,zI,List.getElem?_range hj,Option.map_some,h1,Option.getD_some] at hv;exact hv
  refine⟨_,.agg vl.toArray,hK,?_,?_⟩
  ·have:=run_loadCells_list (P:=S.P) w ⟨b,o,none⟩ vl hcell;rw[hlen] at this;simp[loadVar,lQ hok,ha,run_sizeOf hok,this]
  ·refine .agg (by simp[hlen];omega) λj d v hd hv=>?_;have hj:j<i.size:=by rw[←hlen];exact(zE.1 hv).1
   rw[List.getElem?_take,if_pos hj] at hd;obtain⟨v',h1,h2⟩:=hr j d hd;have:=hcell j v hv;rw[Addr.add_lit,h1] at this;obtain rfl:v'=v:=by simpa using this
   exact h2
 ·rw[if_neg ha] at h;obtain⟨d,hd,hK⟩:=aI h;have h0:cs[0]?=some d:=by rw[←hd];exact(List.head?_eq_getElem? (l:=cs)).symm
  obtain⟨v,h1,h2⟩:=hr 0 d h0;simp only[Nat.add_zero] at h1;exact⟨d,v,hK,by simp[loadVar,lQ hok,ha,h1],h2⟩

theorem aCL{S:Setup}{B}{L:LS}{G:Ghost}{a w}(hs:Sim B L G a w){t:TypeId}{x:D}{u:Value}(hx:Rel G w x u){K:D->Prop}(h:yX S t L.getBox x K) :
  ∃d v,K d/\(Instr.loadAt t u).run S.P w=.ok v w/\Rel G w d v:=by
 cases hx with
 | @imm cs b o hk hst hr =>
  obtain⟨d,v,h1,h2,h3⟩:=aAl (S:=S) (b:=b) (o:=o) (G:=G) (w:=w) (λj d hd=>let ⟨_,v,hv⟩:=hst j d hd;⟨v,hv,hr j d v hd hv⟩) h;exact⟨d,v,h1,by simp[Instr.loadAt,Instr.sureAddr,h2],h3⟩
 | @box id off g hb =>
  obtain⟨cs,hcs,h⟩:=aI h;have hx:∃g,G.β id=some g/\dD G w g cs:=by
   unfold LS.getBox at hcs;split at hcs
   ·rename_i c hc;obtain rfl:c=cs:=by simpa using hcs
    obtain⟨g,h1,h2,_⟩:=hs.W.boxes id c hc;exact⟨g,h1,h2⟩
   ·obtain⟨g,h1,h2,_⟩:=hs.W.robs id cs hcs;exact⟨g,h1,h2⟩
  obtain⟨g',h1,h2⟩:=hx;rw[hb] at h1;obtain rfl:=zA h1;obtain⟨d,v,h1,h2,h3⟩:=aAl (S:=S) (h2.rdOff off) h;exact⟨d,v,h1,by simp[Instr.loadAt,Instr.sureAddr,h2],h3⟩
 | _=>exact h.elim

theorem aOG{S:Setup}{G w}{op:BinOp}{t:TypeId}{k:IntKind}{x y:Int}{K:D->Prop}(h:l9 op k x y K) :
  ∃d v,K d/\(binOp op t (.int k x) (.int k y)).run S.P w=.ok v w/\Rel G w d v:=by
 unfold l9 at h;cases op<;>simp only at h
 case add=>exact⟨_,_,h,by simp[binOp_add,Op.intArith],.int⟩
 case sub=>exact⟨_,_,h,by simp[binOp_sub,Op.intArith],.int⟩
 case mul=>exact⟨_,_,h,by simp[binOp_mul,Op.intArith],.int⟩
 case quo=>exact⟨_,_,h.2,by simp[binOp_quo,Op.intDiv,h.1],.int⟩
 case rem=>exact⟨_,_,h.2,by simp[binOp_rem,Op.intDiv,h.1],.int⟩
 case eql=>exact⟨_,_,h,by simp[binOp_eql],.bool⟩
 case neq=>exact⟨_,_,h,by simp[binOp_neq],.bool⟩
 case lss=>exact⟨_,_,h,by simp[binOp_lss],.bool⟩
 case leq=>exact⟨_,_,h,by simp[binOp_leq],.bool⟩
 case gtr=>exact⟨_,_,h,by simp[binOp_gtr],.bool⟩
 case geq=>exact⟨_,_,h,by simp[binOp_geq],.bool⟩
 case and=>exact⟨_,_,h,by simp[binOp_and,intBits_and],.int⟩
 case or=>exact⟨_,_,h,by simp[binOp_or,intBits_or],.int⟩
 case xor=>exact⟨_,_,h,by simp[binOp_xor,intBits_xor],.int⟩
 case andNot=>exact⟨_,_,h,by simp[binOp_andNot,intBits_andNot],.int⟩
theorem aL9{S:Setup}{G w}{op:BinOp}{t:TypeId}{k k':IntKind}{x y:Int}{K:D->Prop}(h:m5 op k k' x y K) :
  ∃d v,K d/\(binOp op t (.int k x) (.int k' y)).run S.P w=.ok v w/\Rel G w d v:=by
 by_cases h1:op=.shl
 ·subst h1;obtain⟨⟨h1,h2⟩,h3⟩:=h;exact⟨_,_,h3,by rw[binOp_shl,shift_shl k k' x y h1 h2];simp,.int⟩
 ·by_cases h2:op=.shr
  ·subst h2;obtain⟨⟨h1,h2⟩,h3⟩:=h;exact⟨_,_,h3,by rw[binOp_shr,shift_shr k k' x y h1 h2];simp,.int⟩
  ·have h3:k=k'/\l9 op k x y K:=by
    cases op<;>first|exact h|exact absurd rfl h1|exact absurd rfl h2
   obtain⟨rfl,h3⟩:=h3;exact aOG h3

theorem aNZ{S:Setup}{G w}{op:BinOp}{t:TypeId}{x y:ByteArray}{K:D->Prop}(h:aW7 op x y K) :
  ∃d v,K d/\(binOp op t (.string x) (.string y)).run S.P w=.ok v w/\Rel G w d v:=by
 unfold aW7 at h;cases op<;>simp only at h
 case add =>
  refine⟨_,_,h.2,?_,.str⟩;have:¬(9223372036854775807<(x.size:Int)+y.size):=by omega
  simp[binOp_string_add,Op.stringOp,this]
 case eql=>exact⟨_,_,h,by simp[binOp_string_eql],.bool⟩
 case neq=>exact⟨_,_,h,by simp[binOp_string_neq],.bool⟩
 case lss=>exact⟨_,_,h,by simp[binOp_string_lss],.bool⟩

theorem aHB{S:Setup}{t:TypeId}{k:TK}(h:S.kd t=some k):∃i,S.tab t=some i/\i.kind=k:=by
 unfold Setup.kd at h;cases hi:S.tab t with
 | none=>simp[hi] at h
 | some i=>exact⟨i,rfl,by simpa[hi] using h⟩
theorem aN{S:Setup}{t e:TypeId}(h:S.kd t=some (.slice e)):S.P.underlying t=some (.slice e):=by
 obtain⟨i,h1,h2⟩:=aHB h;have:=(S.ok t i h1).desc;rwa [h2] at this
theorem aAP{S:Setup}{t e:TypeId}{n:Nat}(h:S.kd t=some (.array n e)):S.P.underlying t=some (.array n e):=by
 obtain⟨i,h1,h2⟩:=aHB h;have:=(S.ok t i h1).desc;rwa [h2] at this
theorem aWp{S:Setup}{t:TypeId}(h:S.kd t=some .bool):S.P.underlying t=some .bool:=by
 obtain⟨i,h1,h2⟩:=aHB h;have:=(S.ok t i h1).desc;rwa [h2] at this
theorem aBl{S:Setup}{t:TypeId}(h:S.kd t=some .string):S.P.underlying t=some .string:=by
 obtain⟨i,h1,h2⟩:=aHB h;have:=(S.ok t i h1).desc;rwa [h2] at this
theorem aYU{S:Setup}{t:TypeId}{k:IntKind}(h:S.kd t=some (.int k)):S.P.underlying t=some (.int k):=by
 obtain⟨i,h1,h2⟩:=aHB h;have:=(S.ok t i h1).desc;rwa [h2] at this
theorem nC{S:Setup}{t:TypeId}{fs:List (Nat×TypeId)}(h:S.kd t=some (.struct fs)):∃fields,S.P.underlying t=some (.struct fields)/\fields.toList.map (λf=>(f.offset,f.type))=fs/\∃places,fields.toList.mapM (λf=>(S.P.info? f.type).map λi=>(f.offset,i.size))=some places:=by
 obtain⟨i,h1,h2⟩:=aHB h;have:=(S.ok t i h1).desc;rwa [h2] at this
theorem lW{fields:Array Field}{fs:List (Nat×TypeId)}(h:fields.toList.map (λf=>(f.offset,f.type))=fs){n:Nat}{p:Nat×TypeId}(hp:fs[n]?=some p):∃f,fields[n]?=some f/\f.offset=p.1/\f.type=p.2:=by
 subst h;simp only[zI,Option.map_eq_some_iff] at hp;obtain⟨f,h1,rfl⟩:=hp;exact⟨f,by simpa using h1,rfl,rfl⟩

theorem aNs{S:Setup}{G w}{op:BinOp}{t:TypeId}{x y:D}{u v:Value}(hx:Rel G w x u)(hy:Rel G w y v)(ox oy:Operand){K:D->Prop}(h:aGe S op t x y K) :
  ∃d r,K d/\(do eqGuard op t ox oy u v;binOp op t u v:Sem Value).run S.P w=.ok r w/\Rel G w d r:=by
 unfold aGe at h;split at h
 ·cases hx;cases hy
  obtain⟨d,r,h1,h2,h3⟩:=aL9 (S:=S) (G:=G) (w:=w) (t:=t) h;exact⟨d,r,h1,by simp[eqGuard_at_int,h2],h3⟩
 ·cases hx;cases hy
  obtain⟨hk,h⟩:=h;have hu:=aWp hk;unfold aKw at h;cases op<;>simp only at h
  case eql=>exact⟨_,_,h,by simp[eqGuard_at_bool,run_eql_bool w t _ _ hu],.bool⟩
  case neq=>exact⟨_,_,h,by simp[eqGuard_at_bool,run_neq_bool w t _ _ hu],.bool⟩
 ·cases hx;cases hy
  obtain⟨d,r,h1,h2,h3⟩:=aNZ (S:=S) (G:=G) (w:=w) (t:=t) h;exact⟨d,r,h1,by simp[eqGuard_at_string,h2],h3⟩
 ·rename_i tk xs;obtain⟨⟨e,hk⟩,h⟩:=h;have hu:=aN hk;cases hx with
  | @sl tk xs A n c b o s hn hc hm ht hA hku hkk hst hr =>
  cases hy with
  | sl hn' hc' hm' ht' hA' hu' hk' hst' hr' =>
  obtain⟨rfl,rfl,rfl⟩:=ht';have hne:xs≠[]->A.isNone=false:=λhx=>by
   rcases hA with h0|h0
   ·exact absurd h0 hx
   ·rw[h0];rfl
  have heql:=Lib.run_eql_slice_nil (P:=S.P) w t e A n c 0 0 hu;have hneq:=run_neq_slice_nil_any (P:=S.P) w t e A n c 0 0 hu;have key:(op=.eql/\K (.bool A.isNone))∨(op=.neq/\K (.bool (!A.isNone))):=by
   cases tk<;>cases op<;>simp only[aGf] at h
   case nil.eql=>obtain⟨rfl,_,_⟩:=ht;exact .inl ⟨rfl,h⟩
   case nil.neq=>obtain⟨rfl,_,_⟩:=ht;exact .inr ⟨rfl,h⟩
   case nl.eql=>obtain⟨rfl,_⟩:=ht;exact .inl ⟨rfl,h⟩
   case nl.neq=>obtain⟨rfl,_⟩:=ht;exact .inr ⟨rfl,h⟩
   case nn.eql =>
    cases A with
    | none=>exact absurd rfl ht
    | some a=>exact .inl ⟨rfl,h⟩
   case nn.neq =>
    cases A with
    | none=>exact absurd rfl ht
    | some a=>exact .inr ⟨rfl,h⟩
   all_goals first
    | exact .inl ⟨rfl,by rw[hne h.1];exact h.2⟩
    | exact .inr ⟨rfl,by rw[hne h.1];exact h.2⟩
  rcases key with⟨rfl,hK⟩|⟨rfl,hK⟩
  ·exact⟨_,_,hK,by simp[eqGuard_at_slice,heql],.bool⟩
  ·exact⟨_,_,hK,by simp[eqGuard_at_slice,hneq],.bool⟩
 ·exact h.elim



theorem dC{s:Nat}:∀ {xs:List D},(∀x∈xs,x.cells.length=s)->(flat xs).length=xs.length*s
 | [],_=>by simp[flat]
 | x::xs,h=>by
  have ih:=dC (s:=s) (xs:=xs) λy hy=>h y (zG _ hy);have h0:=h x zH;simp only[flat,List.flatMap_cons,zK] at ih ⊢;rw[ih,h0,List.length_cons,Nat.add_mul];omega

theorem nQ(x:D)(xs:List D):flat (x::xs)=x.cells++flat xs:=rfl
theorem gD(xs ys:List D):flat (xs++ys)=flat xs++flat ys:=by simp[flat]

theorem aB7{s:Nat}:∀ {xs:List D} (k:Nat),(∀x∈xs,x.cells.length=s)->flat (xs.drop k)=(flat xs).drop (k*s)
 | [],k,_=>by simp[flat]
 | x::xs,0,_=>by simp
 | x::xs,k+1,h=>by
  have ih:=aB7 (s:=s) (xs:=xs) k λy hy=>h y (zG _ hy);have h0:=h x zH;simp only[List.drop_succ_cons,nQ];rw[ih,Nat.add_mul,Nat.one_mul,List.drop_append,h0,show (k*s+s-s)=k*s by omega];have:x.cells.drop (k*s+s)=[]:=List.drop_eq_nil_of_le (by omega);rw[this,List.nil_append]

theorem aG0{s:Nat}:∀ {xs:List D} (k:Nat),(∀x∈xs,x.cells.length=s)->flat (xs.take k)=(flat xs).take (k*s)
 | [],k,_=>by simp[flat]
 | x::xs,0,_=>by simp[flat]
 | x::xs,k+1,h=>by
  have ih:=aG0 (s:=s) (xs:=xs) k λy hy=>h y (zG _ hy);have h0:=h x zH;simp only[List.take_succ_cons,nQ];rw[ih,Nat.add_mul,Nat.one_mul,List.take_append,h0,show (k*s+s-s)=k*s by omega];have:x.cells.take (k*s+s)=x.cells:=List.take_of_length_le (by omega);rw[this]

theorem vE{s:Nat}{xs:List D}(h:∀x∈xs,x.cells.length=s){i:Nat}(hi:i<xs.length){j:Nat}{d:D}(hj:xs[i].cells[j]?=some d):(flat xs)[i*s+j]?=some d:=by
 have h1:=aB7 (s:=s) i h;have h2:xs.drop i=xs[i]::xs.drop (i+1):=by rw[List.drop_eq_getElem_cons hi]
 rw[←List.getElem?_drop,←h1,h2,nQ,zL (zE.1 hj).1];exact hj

theorem aCA{xs:List D}(h:∀d∈flat xs,d.memOk=true){x:D}(hx:x∈xs):∀d∈x.cells,d.memOk=true:=λd hd =>
 h d (List.mem_flatMap.2 ⟨x,hx,hd⟩)

theorem e8(b o n:Nat):Addr.add ⟨b,o,none⟩ n=⟨b,o+n,none⟩:=by
 unfold Addr.add;split
 ·rename_i h;subst h;rfl
 ·rfl

theorem aCf{S:Setup}{G w}{t:TypeId}{x ix:D}{u iv:Value}(hx:Rel G w x u)(hi:Rel G w ix iv){K:D->Prop}(h:eN S t x ix K) :
  ∃d v,K d/\(Instr.indexAt t u iv).run S.P w=.ok v w/\Rel G w d v:=by
 unfold eN at h;split at h
 ·rename_i e k i hk;cases hi;have hu:=aN hk;obtain⟨j,hj,h⟩:=aI h;have hok:=S.ok e j hj;cases hx with
  | @sl tk xs A n c b o s hn hc hm ht hA hku hkk hst hr =>
   obtain⟨⟨h0,h1⟩,hsz,hK⟩:=h;have hlt:i.toNat<xs.length:=by omega
   have hne:xs≠[]:=λe=>by subst e;simp at hlt
   have hA':A=some ⟨b,o,none⟩:=hA.resolve_left hne;subst hA';have hget:xs.getD i.toNat default=xs[i.toNat]:=by simp[List.getD,hlt]
   rw[hget] at hsz hK;have hs:s=j.size:=by rw[←hsz];exact(hku _ (List.getElem_mem hlt)).symm
   subst hs;refine⟨_,.pointer (some ⟨b,o+i.toNat*j.size,none⟩),hK,?_,?_⟩
   ·have hin:0≤i/\i<(n:Int):=⟨h0,by omega⟩;simp[Instr.indexAt,asIntOf,run_underlying hu,run_sizeOf hok,hin,e8]
   ·refine .imm (aCA hkk (List.getElem_mem hlt)) (λq d hd=>?_) (λq d v hd hv=>?_)
    ·rw[Nat.add_assoc];exact hst _ d (vE hku hlt hd)
    ·rw[Nat.add_assoc] at hv;exact hr _ d v (vE hku hlt hd) hv
  | @ms id n c g hb hc hn =>
   obtain⟨⟨h0,h1⟩,hK⟩:=h;refine⟨_,.pointer (some ⟨g,i.toNat*j.size,none⟩),hK,?_,.box hb⟩;have hin:0≤i/\i<(n:Int):=⟨h0,h1⟩;simp[Instr.indexAt,asIntOf,run_underlying hu,run_sizeOf hok,hin,e8]
  | _=>exact h.elim
 ·rename_i n e k i hk;cases hi;have hu:=aAP hk;obtain⟨j,hj,h⟩:=aI h;have hok:=S.ok e j hj;cases hx with
  | @box id off g hb =>
   obtain⟨⟨h0,h1⟩,hK⟩:=h;refine⟨_,.pointer (some ⟨g,off+i.toNat*j.size,none⟩),hK,?_,.box hb⟩;have hin:0≤i/\i<(n:Int):=⟨h0,h1⟩;simp[Instr.indexAt,asIntOf,run_underlying hu,run_sizeOf hok,hin,e8,Instr.sureAddr]
  | @imm cs b o hk2 hst hr =>
   obtain⟨⟨h0,h1⟩,hK⟩:=h;refine⟨_,.pointer (some ⟨b,o+i.toNat*j.size,none⟩),hK,?_,?_⟩
   ·have hin:0≤i/\i<(n:Int):=⟨h0,h1⟩;simp[Instr.indexAt,asIntOf,run_underlying hu,run_sizeOf hok,hin,e8,Instr.sureAddr]
   ·refine .imm (λd hd=>hk2 d (List.mem_of_mem_drop hd)) (λq d hd=>?_) (λq d v hd hv=>?_)
    ·rw[List.getElem?_drop] at hd;rw[Nat.add_assoc];exact hst _ d hd
    ·rw[List.getElem?_drop] at hd;rw[Nat.add_assoc] at hv;exact hr _ d v hd hv
  | _=>exact h.elim
 ·exact h.elim

theorem aIV{S:Setup}{G w}{t:TypeId}{x ix:D}{u iv:Value}(hx:Rel G w x u)(hi:Rel G w ix iv){K:D->Prop}(h:aCp S t x ix K) :
  ∃d v,K d/\(Instr.index t u iv).run S.P w=.ok v w/\Rel G w d v:=by
 unfold aCp at h;split at h
 ·rename_i k i s hk;cases hi;cases hx
  have hu:=aBl hk;obtain⟨⟨h0,h1⟩,hK⟩:=h;have hlt:i.toNat<s.size:=by omega
  refine⟨_,_,hK,?_,.int⟩;have hget:s[i.toNat]?=some (s.data.getD i.toNat 0):=by
   have hlt':i.toNat<s.data.size:=hlt;simp only[Array.getD_eq_getD_getElem?,Array.getElem?_eq_getElem hlt',Option.getD_some];exact getElem?_pos s i.toNat hlt
  simp[Instr.index,asIntOf,run_underlying hu,h0,hget]
 ·exact h.elim

theorem aNn{S:Setup}{G w}{t ty:TypeId}{x:D}{u:Value}(hx:Rel G w x u){K:D->Prop}(h:aDf S t x K) :
  ∃d v,K d/\(Builtin.len_ #[t] ty #[u]).run S.P w=.ok v w/\Rel G w d v:=by
 unfold aDf at h;split at h
 ·rename_i e tk xs hk;have hu:=aN hk;cases hx with
  | sl hn hc hm ht hA hku hkk hst hr=>exact⟨_,_,h,by simp[Builtin.len_,run_underlying hu,goInt,hn],.int⟩
 ·rename_i e id n hk;have hu:=aN hk;cases hx;exact⟨_,_,h,by simp[Builtin.len_,run_underlying hu,goInt],.int⟩
 ·rename_i s hk;have hu:=aBl hk;cases hx;exact⟨_,_,h,by simp[Builtin.len_,run_underlying hu,goInt],.int⟩
 ·exact h.elim

theorem aBH{S:Setup}{G w}{t:TypeId}{f:Nat}{x:D}{u:Value}(hx:Rel G w x u){K:D->Prop}(h:eO S t f x K) :
  ∃d v,K d/\(Instr.fieldAt t u f).run S.P w=.ok v w/\Rel G w d v:=by
 unfold eO at h;split at h
 ·rename_i fs hk;obtain⟨fields,hu,hfs,_⟩:=nC hk;obtain⟨p,hp,h⟩:=aI h;obtain⟨j,hj,hne,h⟩:=aI h;obtain⟨fl,hf,ho,hty⟩:=lW hfs hp;have hok:=S.ok p.2 j hj;have hsz:(sizeOf fl.type).run S.P w=.ok j.size w:=by rw[hty];exact run_sizeOf hok w
  cases hx with
  | @imm cs b o hkk hst hr =>
   refine⟨_,.pointer (some ⟨b,o+p.1,none⟩),h,?_,?_⟩
   ·simp[Instr.fieldAt,run_underlying hu,hf,Instr.sureAddr,fieldPlace,hsz,hne,e8,ho]
   ·refine .imm (λd hd=>hkk d (List.mem_of_mem_drop hd)) (λq d hd=>?_) (λq d v hd hv=>?_)
    ·rw[List.getElem?_drop] at hd;rw[Nat.add_assoc];exact hst _ d hd
    ·rw[List.getElem?_drop] at hd;rw[Nat.add_assoc] at hv;exact hr _ d v hd hv
  | @box id off g hb =>
   refine⟨_,.pointer (some ⟨g,off+p.1,none⟩),h,?_,.box hb⟩;simp[Instr.fieldAt,run_underlying hu,hf,Instr.sureAddr,fieldPlace,hsz,hne,e8,ho]
  | _=>exact h.elim
 ·exact h.elim

theorem aMG{S:Setup}{G w}{t:TypeId}{cs:List D}{vl:List Value}{off:Nat}{K:D->Prop}(hl:vl.length=cs.length)
  (hr:∀(j:Nat) d v,cs[j]?=some d->vl[j]?=some v->Rel G w d v) (h:pG S t (cs.drop off) K) :
  ∃d v,K d/\(part t vl.toArray off).run S.P w=.ok v w/\Rel G w d v:=by
 obtain⟨i,hi,h⟩:=aI h;have hok:=S.ok t i hi;by_cases ha:i.agg=true
 ·rw[if_pos ha] at h;obtain⟨hlen,hK⟩:=h;refine⟨_,.agg ((vl.drop off).take i.size).toArray,hK,?_,?_⟩
  ·simp[part,lQ hok,ha,run_sizeOf hok,List.extract_toArray]
  ·refine .agg (by simp at hlen ⊢;omega) λj d v hd hv=>?_;rw[List.getElem?_take] at hd hv;split at hd
   ·rename_i hj;rw[if_pos hj,List.getElem?_drop] at hv;rw[List.getElem?_drop] at hd;exact hr _ d v hd hv
   ·cases hd
 ·rw[if_neg ha] at h;obtain⟨d,hd,hK⟩:=aI h;have h0:cs[off]?=some d:=by
   have:(cs.drop off)[0]?=some d:=by rw[←hd];exact(List.head?_eq_getElem? (l:=cs.drop off)).symm
   simpa[List.getElem?_drop] using this
  have hlt:off<vl.length:=by rw[hl];exact(zE.1 h0).1
  exact⟨d,vl[off],hK,by simp[part,lQ hok,ha,hlt],hr off d _ h0 (by simp[hlt])⟩

theorem aHZ{S:Setup}{G w}{t:TypeId}{f:Nat}{x:D}{u:Value}(hx:Rel G w x u){K:D->Prop}(h:aBO S t f x K) :
  ∃d v,K d/\(Instr.field t u f).run S.P w=.ok v w/\Rel G w d v:=by
 unfold aBO at h;split at h
 ·rename_i fs cs hk;obtain⟨fields,hu,hfs,_⟩:=nC hk;obtain⟨p,hp,h⟩:=aI h;obtain⟨fl,hf,ho,hty⟩:=lW hfs hp;cases hx with
  | @agg cs vl hl hr =>
   obtain⟨d,v,h1,h2,h3⟩:=aMG (S:=S) hl hr h;exact⟨d,v,h1,by simp[Instr.field,run_underlying hu,hf,asAgg,ho,hty,h2],h3⟩
 ·exact h.elim

theorem aSj{S:Setup}{G w}{op:UnOp}{x:D}{u:Value}(hx:Rel G w x u){K:D->Prop}(h:unY op x K) :
  ∃d v,K d/\(Op.unary op u).run S.P w=.ok v w/\Rel G w d v:=by
 unfold unY at h;split at h
 ·cases hx;exact⟨_,_,h,by simp[unary_not],.bool⟩
 ·cases hx;exact⟨_,_,h,by simp[unary_neg,Op.intArith],.int⟩
 ·exact h.elim

theorem aMf{S:Setup}{G w}{src dst:TypeId}{x:D}{u:Value}(hs:(S.tab src).isSome=true)(hx:Rel G w x u){K:D->Prop}(h:aCR S dst x K) :
  ∃d v,K d/\(convert src dst u).run S.P w=.ok v w/\Rel G w d v:=by
 unfold aCR at h;split at h
 ·split at h
  ·rename_i k hk;cases hx;have hu:=aYU hk;obtain⟨i,hi⟩:=Option.isSome_iff_exists.1 hs;have hd:=(S.ok src i hi).desc;have:∃d,S.P.underlying src=some d:=by
    cases hkk:i.kind<;>simp only[hkk] at hd<;>first|exact⟨_,hd⟩|exact⟨_,hd.choose_spec.1⟩
   obtain⟨d,hsrc⟩:=this;exact⟨_,_,h,by cases d<;>simp[convert,run_underlying hu,run_underlying hsrc,Conv.intToInt],.int⟩
  ·exact h.elim
 ·exact h.elim


theorem aDF{G w}{tk tk':Tk}{xs:List D}{A A':Option Addr}{n c c' l hh s:Nat}(hx:Rel G w (.sl tk xs) (.slice A n c))(h1:l≤hh)(h2:hh≤n)(h3:hh-l≤c')(h4:c'≤maxLen)
  (hs:∀x∈xs,x.cells.length=s) (hA:l<hh->A'=A.map (·.add (l*s))) (ht:dZ G w tk' ((xs.take hh).drop l) A' (hh-l) c'):Rel G w (.sl tk' ((xs.take hh).drop l)) (.slice A' (hh-l) c'):=by
 cases hx with
 | @sl _ _ _ _ _ b o s' hn hc hm _ hA0 hu hk hst hr =>
 have hmem:∀x∈(xs.take hh).drop l,x∈xs:=λx hx=>List.mem_of_mem_take (List.mem_of_mem_drop hx);have hfl:flat ((xs.take hh).drop l)=((flat xs).take (hh*s)).drop (l*s):=by
  rw[aB7 l (λx hx=>hs x (List.mem_of_mem_take hx)),aG0 hh hs]
 have hget:∀(j:Nat) d,(flat ((xs.take hh).drop l))[j]?=some d->(flat xs)[l*s+j]?=some d:=λj d hd=>by
  rw[hfl,List.getElem?_drop,List.getElem?_take] at hd;split at hd
  ·exact hd
  ·cases hd
 refine .sl (b:=b) (o:=o+l*s) (s:=s) (by simp;omega) h3 h4 ht ?_ (λx hx=>hs x (hmem x hx)) (λd hd=>?_) (λj d hd=>?_) (λj d v hd hv=>?_)
 ·by_cases hlt:l<hh
  ·right
   rw[hA hlt];have:xs≠[]:=λe=>by subst e;simp at hn;omega
   rw[hA0.resolve_left this];simp[e8]
  ·left
   exact List.eq_nil_of_length_eq_zero (by simp;omega)
 ·obtain⟨x,hx,hd⟩:=List.mem_flatMap.1 hd;exact hk d (List.mem_flatMap.2 ⟨x,hmem x hx,hd⟩)
 ·rw[Nat.add_assoc];exact hst _ d (hget j d hd)
 ·rw[Nat.add_assoc] at hv;exact hr _ d v (hget j d hd) hv

theorem aOP{o:Option D}{r:Option Int}(h:lU o=some r):(o=none/\r=none)∨∃k n,o=some (.int k n)/\r=some n:=by
 unfold lU at h;split at h
 ·exact .inl ⟨rfl,(zA h).symm⟩
 ·exact .inr ⟨_,_,rfl,(zA h).symm⟩
 ·cases h

theorem fK{P:Program}(w:World)(isS:Bool)(len cap:Nat)(lo hi:Option Value)(l h:Option Int)
  (hl:(lo=none/\l=none)∨∃k n,lo=some (.int k n)/\l=some n) (hh:(hi=none/\h=none)∨∃k n,hi=some (.int k n)/\h=some n)
  (h0:0≤l.getD 0) (h1:l.getD 0≤h.getD len) (h2:h.getD len≤len) (h3:len≤cap) :
  (Instr.sliceBounds isS len cap lo hi none).run P w=.ok ((l.getD 0).toNat,(h.getD len).toNat,cap) w:=by
 rcases hl with⟨rfl,rfl⟩|⟨k,n,rfl,rfl⟩<;>rcases hh with⟨rfl,rfl⟩|⟨k',n',rfl,rfl⟩<;>simp only[Option.getD_none,Option.getD_some] at h0 h1 h2 ⊢
 ·simp[Instr.sliceBounds]
 ·simp[Instr.sliceBounds,run_sliceBound,show n'≤(cap:Int) by omega,show 0≤n' by omega]
 ·simp[Instr.sliceBounds,run_sliceBound,h0,h1]
 ·have e:=run_sliceBound (P:=P) w k n n'.toNat .sliceB h0 (by omega);simp[Instr.sliceBounds,run_sliceBound,show n'≤(cap:Int) by omega,show 0≤n' by omega,e]

theorem aAs{P:Program}(w:World)(isS:Bool)(len cap:Nat)(lo:Option Value)(kh km:IntKind)(h:Int)(l:Option Int)
  (hl:(lo=none/\l=none)∨∃k n,lo=some (.int k n)/\l=some n) (h0:0≤l.getD 0) (h1:l.getD 0≤h) (h2:h≤len) (h3:len≤cap) :
  (Instr.sliceBounds isS len cap lo (some (.int kh h)) (some (.int km h))).run P w=.ok ((l.getD 0).toNat,h.toNat,h.toNat) w:=by
 have e0:0≤h:=by omega
 have e1:h≤(cap:Int):=by omega
 have e2:=run_sliceBound (P:=P) w kh h h.toNat .slice3B e0 (by omega);rcases hl with⟨rfl,rfl⟩|⟨k,n,rfl,rfl⟩<;>simp only[Option.getD_none,Option.getD_some] at h0 h1 ⊢
 ·simp[Instr.sliceBounds,run_sliceBound,e0,e1,e2]
 ·have e3:=run_sliceBound (P:=P) w k n h.toNat .slice3C h0 (by omega);simp[Instr.sliceBounds,run_sliceBound,e0,e1,e2,e3]

theorem aI3{S:Setup}{G w}{t:TypeId}{x:D}{u:Value}{lo hi mx:Option Value}{l h m:Option Int}(hx:Rel G w x u)
  (hl:(lo=none/\l=none)∨∃k n,lo=some (.int k n)/\l=some n) (hh:(hi=none/\h=none)∨∃k n,hi=some (.int k n)/\h=some n)
  (hm:(mx=none/\m=none)∨∃k n,mx=some (.int k n)/\m=some n) (hmh:mx.isSome=true->hi.isSome=true) {K:D->Prop} (hy:oP S t x l h m K) :
  ∃d v,K d/\(Instr.sliceAt t u lo hi mx).run S.P w=.ok v w/\Rel G w d v:=by
 unfold oP at hy;split at hy
 ·rename_i e tk xs hk;have hu:=aN hk;obtain⟨j,hj,hmx,⟨h0,h1,h2⟩,hs,hK⟩:=aI hy;have hok:=S.ok e j hj;have hx':=hx;cases hx with
  | @sl _ _ A n c b o s' hn hc hml _ hA0 hu0 hk0 hst hr =>
  subst hn;have he:S.P.elem t=e:=by simp[Program.elem,hu]
  have hu':S.P.underlying t=some (.slice (S.P.elem t)):=by rw[he];exact hu
  rcases hm with⟨rfl,rfl⟩|⟨km,mv,rfl,rfl⟩
  ·simp only at hK hmx;refine⟨_,sliced A (l.getD 0).toNat (h.getD xs.length).toNat c j.size,hK,?_,?_⟩
   ·rw[run_sliceAt_slice w t _ _ _ _ hu',run_slice_any w t _ _ _ hu',fK w true xs.length c lo hi l h hl hh h0 h1 h2 hc];simp[he,run_sizeOf hok]
   ·unfold sliced;by_cases hcl:c=(l.getD 0).toNat
    ·rw[if_pos hcl];exact aDF hx' (by omega) (by omega) (by omega) (by omega) hs (λhlt=>absurd hlt (by omega)) trivial
    ·rw[if_neg hcl];exact aDF hx' (by omega) (by omega) (by omega) (by omega) hs (λ_=>rfl) trivial
  ·simp only at hK hmx;rcases hh with⟨rfl,rfl⟩|⟨kh,hv,rfl,rfl⟩
   ·exact absurd (hmh rfl) (by simp)
   ·simp only[Option.getD_some] at hmx h1 h2 hK;subst hmx;refine⟨_,sliced A (l.getD 0).toNat mv.toNat mv.toNat j.size,hK,?_,?_⟩
    ·rw[run_sliceAt_slice w t _ _ _ _ hu',run_slice_any w t _ _ _ hu',aAs w true xs.length c lo kh km mv l hl h0 h1 h2 hc];simp[he,run_sizeOf hok]
    ·unfold sliced;by_cases hcl:mv.toNat=(l.getD 0).toNat
     ·rw[if_pos hcl];exact aDF hx' (by omega) (by omega) (by omega) (by omega) hs (λhlt=>absurd hlt (by omega)) rfl
     ·rw[if_neg hcl];exact aDF hx' (by omega) (by omega) (by omega) (by omega) hs (λ_=>rfl) rfl
 ·rename_i e id n hk;have hu:=aN hk;obtain⟨hse,⟨rfl,rfl⟩,⟨h1,h2⟩,hK⟩:=hy;obtain⟨j,hj⟩:=Option.isSome_iff_exists.1 hse;have hok:=S.ok e j hj;have he:S.P.elem t=e:=by simp[Program.elem,hu]
  have hu':S.P.underlying t=some (.slice (S.P.elem t)):=by rw[he];exact hu
  cases hx with
  | @ms _ _ c g hb hc hml =>
  rcases hl with⟨rfl,_⟩|⟨_,_,_,e0⟩
  ·rcases hm with⟨rfl,_⟩|⟨_,_,_,e0⟩
   ·refine⟨_,sliced (some ⟨g,0,none⟩) 0 (h.getD n).toNat c j.size,hK,?_,?_⟩
    ·rw[run_sliceAt_slice w t _ _ _ _ hu',run_slice_any w t _ _ _ hu',fK w true n c none hi none h (.inl ⟨rfl,rfl⟩) hh (by simp) (by simpa using h1) h2 hc];simp[he,run_sizeOf hok]
    ·unfold sliced;have hA:(if c=0 then some (⟨g,0,none⟩:Addr) else (some (⟨g,0,none⟩:Addr)).map (·.add (0*j.size)))=some ⟨g,0,none⟩:=by
      split
      ·rfl
      ·simp[Addr.add]
     rw[hA,Nat.sub_zero,Nat.sub_zero];exact .ms hb (by omega) hml
   ·cases e0
  ·cases e0
 ·rename_i s hk;have hu:=aBl hk;obtain⟨rfl,⟨h0,h1,h2⟩,hK⟩:=hy;cases hx;rcases hm with⟨rfl,_⟩|⟨_,_,_,e⟩
  ·refine⟨_,_,hK,?_,.str⟩;rw[run_sliceAt_string w t _ _ _ _ hu];simp[Instr.slice,run_underlying hu,fK w false s.size s.size lo hi l h hl hh h0 h1 h2 (Nat.le_refl _)]
  ·cases e
 ·exact hy.elim

def sA(G:Ghost)(w:World)(cs:List D)(arr:Array Value):Prop :=
 arr.size=cs.length/\∀(j:Nat) d v,cs[j]?=some d->arr[j]?=some v->Rel G w d v

def laid(off:Nat)(cells:Array Value)(l:List (Value×Nat)):Array Value:=l.foldl (λcs p=>cs.setIfInBounds (off+p.2) p.1) cells

theorem aBF(off:Nat):∀(l:List Value) (k:Nat) (cells:Array Value),(laid off cells (l.zipIdx k)).size=cells.size ∧
  ∀i,i<cells.size->(laid off cells (l.zipIdx k))[i]?=if off+k≤i/\i<off+k+l.length then l[i-(off+k)]? else cells[i]?
 | [],k,cells=>⟨rfl,λi _=>by rw[if_neg (by simp)];rfl⟩
 | v::l,k,cells=>by
  obtain⟨h1,h2⟩:=aBF off l (k+1) (cells.setIfInBounds (off+k) v);have e:laid off cells ((v::l).zipIdx k)=laid off (cells.setIfInBounds (off+k) v) (l.zipIdx (k+1)):=rfl;rw[e];refine⟨by rw[h1];simp,λi hi=>?_⟩;rw[h2 i (by simpa using hi)];by_cases c1:off+(k+1)≤i/\i<off+(k+1)+l.length
  ·rw[if_pos c1,if_pos (by simp only[List.length_cons];omega),show i-(off+k)=(i-(off+(k+1)))+1 by omega];simp
  ·rw[if_neg c1];by_cases c2:i=off+k
   ·subst c2;rw[if_pos (by simp only[List.length_cons];omega)];simp[hi]
   ·rw[if_neg (by simp only[List.length_cons];omega),Array.getElem?_setIfInBounds_ne (by omega)]

theorem rS{cs new:List D}{off:Nat}(h:off+new.length≤cs.length)(i:Nat) :
  (dF cs off new)[i]?=if off≤i/\i<off+new.length then new[i-off]? else cs[i]?:=by
 unfold dF;have hl:(cs.take off).length=off:=by simp;omega
 by_cases h1:i<off
 ·rw[if_neg (by omega),List.append_assoc,zL (by omega),List.getElem?_take,if_pos h1]
 ·by_cases h2:i<off+new.length
  ·rw[if_pos (by omega),List.append_assoc,zM (by omega),hl,zL (by omega)]
  ·rw[if_neg (by omega),List.getElem?_append_right (by simp;omega),List.getElem?_drop];congr 1
   simp;omega
theorem mX{cs new:List D}{off:Nat}(h:off+new.length≤cs.length):(dF cs off new).length=cs.length:=by
 unfold dF;simp;omega

theorem aGC(off:Nat)(v:Value)(cells:Array Value):v.cells.zipIdx.foldl (λcs (c,j)=>cs.setIfInBounds (off+j) c) cells=laid off cells (v.cells.toList.zipIdx 0):=by
 rw[←Array.foldl_toList];simp[laid]

theorem aMy{G w}{cs:List D}{arr:Array Value}(h:sA G w cs arr){d:D}{v:Value}(hv:Rel G w d v){off:Nat}(hl:off+d.cells.length≤cs.length) :
  sA G w (dF cs off d.cells) (laid off arr (v.cells.toList.zipIdx 0)):=by
 obtain⟨h1,h2⟩:=h;obtain⟨c1,c2⟩:=hv.cells;obtain⟨l1,l2⟩:=aBF off v.cells.toList 0 arr;refine⟨by rw[l1,mX hl];exact h1,λj e u he hu=>?_⟩;have hj:j<arr.size:=by rw[←l1];exact(Array.getElem?_eq_some_iff.1 hu).1
 rw[l2 j hj] at hu;rw[rS hl] at he;have hlen:v.cells.toList.length=d.cells.length:=by simpa using c1
 simp only[Nat.add_zero,hlen] at hu;by_cases hc:off≤j/\j<off+d.cells.length
 ·rw[if_pos hc] at he hu;exact c2 _ e u he (by simpa using hu)
 ·rw[if_neg hc] at he hu;exact h2 j e u he hu

inductive PRel (G:Ghost) (w:World):List (Nat×D)->List (Nat×Value)->Prop
 | nil:PRel G w [] []
 | cons {i d v ps vs} (h:Rel G w d v) (hr:PRel G w ps vs):PRel G w ((i,d)::ps) ((i,v)::vs)

theorem nU{B L G}{a:Act}{w}(h:Sim B L G a w):∀ {xs:List (Nat×Operand)} {ps:List (Nat×D)},uV (aM L) xs=some ps →
  PRel G w ps (xs.map λ(i,x)=>(i,a.eval x))
 | [],ps,he=>by
  obtain rfl:=(zA he).symm;exact .nil
 | (i,x)::xs,ps,he=>by
  unfold uV at he;split at he
  ·rename_i d ds h1 h2;obtain rfl:=(zA he).symm;exact .cons (aO h h1) (nU h h2)
  ·cases he

theorem aEn{S:Setup}{G w}{fs:List (Nat×TypeId)}{place:Nat->Option (Nat×Nat)}
  (hp:∀(i:Nat) p j,fs[i]?=some p->S.tab p.2=some j->place i=some (p.1,j.size)):∀ {ps:List (Nat×D)} {vs:List (Nat×Value)} {cs cs':List D} {arr:Array Value},PRel G w ps vs →
  sA G w cs arr->yA S fs cs ps=some cs'->∃arr',Instr.fill place arr vs=some arr'/\sA G w cs' arr':=by
 intro ps vs cs cs' arr h;induction h generalizing cs arr with
 | nil =>
  intro hr hb;obtain rfl:=(zA hb).symm;exact⟨arr,rfl,hr⟩
 | @cons i d v ps vs hv hr' ih =>
  intro hr hb;unfold yA at hb;split at hb
  ·rename_i p hpi;split at hb
   ·rename_i j hj;split at hb
    ·rename_i hc;have hcells:=hv.cells.1;obtain⟨arr',e1,e2⟩:=ih (aMy hr hv (off:=p.1) (by rw[hc.1];exact hc.2)) hb;refine⟨arr',?_,e2⟩;have hcond:(decide (v.cells.size≠j.size)||decide (p.1+v.cells.size>arr.size))=false:=by
      rw[hcells,hc.1,hr.1];simp;exact hc.2
     simp only[Instr.fill,hp i p j hpi hj,aGC];rw[if_neg (by rw[hcond];simp)];exact e1
    ·cases hb
   ·cases hb
  ·cases hb

theorem jN{S:Setup}{G w}{t:TypeId}{i:TyI}(hi:S.tab t=some i):∃z,(zeroValue t).run S.P w=.ok z w/\sA G w (i.zero.map ZK.d) z.cells/\z.cells.size=i.size:=by
 obtain⟨inf,h1,_,_,z,h2,h3,_⟩:=(S.ok t i hi).info;refine⟨z,by simp[zeroValue,typeInfo,h1,h2],⟨by rw[h3];simp,λj d v hd hv=>?_⟩,by rw[h3];simp[TyI.size]⟩;rw[h3] at hv;simp only[List.getElem?_toArray,zI,Option.map_eq_some_iff] at hd hv;obtain⟨k,hk,rfl⟩:=hd;obtain⟨k',hk',rfl⟩:=hv;rw[hk] at hk';obtain rfl:=zA hk';cases k<;>first
  | exact .int
  | exact .bool
  | exact .str
  | exact rU
  | exact .raw (by intro cs h;cases h)

theorem pR{α β:Type}{f:α->Option β}:∀ {l:List α} {r:List β},l.mapM f=some r->∀(i:Nat) x,l[i]?=some x->∃y,f x=some y/\r[i]?=some y
 | [],r,h,i,x,hx=>by simp at hx
 | a::l,r,h,i,x,hx=>by
  simp only[List.mapM_cons,Option.bind_eq_bind,Option.pure_def] at h;cases hf:f a with
  | none=>simp[hf] at h
  | some b =>
   cases hr:l.mapM f with
   | none=>simp[hf,hr] at h
   | some rest =>
    simp[hf,hr] at h;subst h;cases i with
    | zero=>simp at hx;subst hx;exact⟨b,hf,rfl⟩
    | succ i =>
     obtain⟨y,h1,h2⟩:=pR hr i x (by simpa using hx);exact⟨y,h1,by simpa using h2⟩

theorem aJe{S:Setup}{G w}{t:TypeId}{ps:List (Nat×D)}{vs:Array (Nat×Value)}(hv:PRel G w ps vs.toList){K:D->Prop}(h:sN S t ps K) :
  ∃d v,K d/\(Instr.build t vs).run S.P w=.ok v w/\Rel G w d v:=by
 obtain⟨i,hi,h⟩:=aI h;split at h
 ·rename_i fs hk;obtain⟨cs,hb,hK⟩:=aI h;obtain⟨fields,hu,hfs,places,hpl⟩:=nC (S:=S) (t:=t) (fs:=fs) (by unfold Setup.kd;rw[hi];simp[hk]);obtain⟨z,hz,hrz,_⟩:=jN (S:=S) (G:=G) (w:=w) hi;have hp:∀(q:Nat) p j,fs[q]?=some p->S.tab p.2=some j->(places.toArray[q]?:Option (Nat×Nat))=some (p.1,j.size):=λq p j hq hj=>by
   obtain⟨fl,hf,ho,hty⟩:=lW hfs hq;obtain⟨y,h1,h2⟩:=pR hpl q fl (by simpa using hf);obtain⟨inf,k1,k2,_⟩:=(S.ok p.2 j hj).info;rw[hty,k1] at h1;simp at h1;subst h1;simpa[ho,k2] using h2
  obtain⟨arr,e1,e2⟩:=aEn (S:=S) hp hv hrz hb;refine⟨_,.agg arr,hK,?_,?_⟩
  ·refine run_build (P:=S.P) w t vs arr ?_;obtain⟨inf,k1,_,_,z',k2,_⟩:=(S.ok t i hi).info;have hzz:z'=z:=by
    have:(zeroValue t).run S.P w=.ok z' w:=by simp[zeroValue,typeInfo,k1,k2]
    rw[this] at hz;simpa using hz
   subst hzz;simp only[Program.built,k1,hu,k2,hpl];exact e1
  ·have:arr=arr.toList.toArray:=by simp
   rw[this];exact .agg (by simpa using e2.1) λj d v hd hv=>e2.2 j d v hd (by simpa using hv)
 ·rename_i n e hk;obtain⟨je,hje,rfl,hK⟩:=aI h;have hvs:vs=#[]:=by
   cases vs with
   | mk l =>
    cases l with
    | nil=>rfl
    | cons _ _=>cases hv
  subst hvs;have hu:=aAP (S:=S) (t:=t) (n:=n) (e:=e) (by unfold Setup.kd;rw[hi];simp[hk]);obtain⟨z,hz,hrz,_⟩:=jN (S:=S) (G:=G) (w:=w) hi;obtain⟨inf,k1,_,_,z',k2,_⟩:=(S.ok t i hi).info;have hzz:z'=z:=by
   have:(zeroValue t).run S.P w=.ok z' w:=by simp[zeroValue,typeInfo,k1,k2]
   rw[this] at hz;simpa using hz
  subst hzz;obtain⟨ie,hie,_⟩:=(S.ok e je hje).info;refine⟨_,.agg z'.cells,hK,?_,?_⟩
  ·refine run_build (P:=S.P) w t #[] z'.cells ?_;simp[Program.built,k1,hu,k2,hie,Instr.fill]
  ·have:z'.cells=z'.cells.toList.toArray:=by simp
   rw[this];exact .agg (by simpa using hrz.1) λj d v hd hv=>hrz.2 j d v hd (by simpa using hv)
 ·exact h.elim

theorem aFv{G w}{s:Nat}:∀ {ps:List (Nat×D)} {vs:List (Nat×Value)} {k n:Nat} {dn:List D} {arr:Array Value},PRel G w ps vs->ps.map (·.1)=(List.range' k (n-k))->k≤n →
  (∀p∈ps,p.2.cells.length=s)->dn.length=k->(∀x∈dn,x.cells.length=s)->arr.size=n*s->(∀(j:Nat) d v,(flat dn)[j]?=some d->arr[j]?=some v->Rel G w d v) →
  ∃arr',Instr.fill (λi=>some (i*s,s)) arr vs=some arr'/\sA G w (flat (dn++ps.map (·.2))) arr':=by
 intro ps vs k n dn arr h;induction h generalizing k dn arr with
 | nil =>
  intro hi hkn hs hd hds ha hr;have hk:n=k:=by
   have:=congrArg List.length hi;simp at this;omega
  subst hk;refine⟨arr,rfl,?_,by simpa using hr⟩;simp only[List.map_nil,List.append_nil];rw[dC hds,hd];exact ha
 | @cons i d v ps vs hv hr' ih =>
  intro hi hkn hs hd hds ha hr;have hlt:k<n:=by
   have:=congrArg List.length hi;simp at this;omega
  rw[show n-k=(n-(k+1))+1 by omega,List.range'_succ,List.map_cons] at hi;simp only[List.cons.injEq] at hi;obtain⟨hik,hi⟩:=hi;have hik:i=k:=hik;subst hik;have h0:=hs (i,d) zH;have h0:d.cells.length=s:=h0;have hcs:v.cells.size=s:=by rw[hv.cells.1];exact h0
  obtain⟨l1,l2⟩:=aBF (i*s) v.cells.toList 0 arr;have hms:i*s+s≤n*s:=by
   have:=Nat.mul_le_mul_right s (show i+1≤n by omega);rwa [Nat.add_mul,Nat.one_mul] at this
  obtain⟨arr',e1,e2⟩:=ih (k:=i+1) (dn:=dn++[d]) (arr:=laid (i*s) arr (v.cells.toList.zipIdx 0)) hi (by omega) (λp hp=>hs p (List.mem_cons_of_mem _ hp)) (by simp[hd])
   (λx hx=>by
    rcases zP.1 hx with hx|hx
    ·exact hds x hx
    ·obtain rfl:=zN.1 hx;exact h0)
   (by rw[l1];exact ha) (λj e u he hu=>by
    have hj:j<arr.size:=by rw[←l1];exact(Array.getElem?_eq_some_iff.1 hu).1
    rw[l2 j hj] at hu;have hvl:v.cells.toList.length=s:=by simpa using hcs
    simp only[Nat.add_zero,hvl] at hu;have hfl:(flat dn).length=i*s:=by rw[dC hds,hd]
    rw[gD] at he;by_cases hc:j<i*s
    ·rw[if_neg (by omega)] at hu;rw[zL (by omega)] at he;exact hr j e u he hu
    ·rw[zM (by omega),hfl] at he;have hfd:flat [d]=d.cells:=by simp[flat]
     rw[hfd] at he;have hlt':=(zE.1 he).1;rw[if_pos (by omega)] at hu;exact hv.cells.2 _ e u he (by simpa using hu))
  refine⟨arr',?_,by simpa[List.append_assoc] using e2⟩;have hcond:(decide (v.cells.size≠s)||decide (i*s+v.cells.size>arr.size))=false:=by
   rw[hcs,ha];simp;exact hms
  simp only[Instr.fill,aGC];rw[if_neg (by rw[hcond];simp)];exact e1


theorem aGL(d:D):D.le d (jW d):=by
 cases d with
 | sl tk xs=>cases tk<;>first|exact .any|exact .refl _
 | _=>exact .refl _
theorem aTp(d:D):D.le d d.strip:=by
 cases d with
 | agg cs =>
  refine .agg (by simp) λj c d hc hd=>?_;simp only[zI,hc,Option.map_some,Option.some.injEq] at hd;subst hd;exact aGL c
 | sl tk xs=>exact aGL _
 | _=>exact .refl _
theorem iX(d:D):d.strip.cells.length=d.cells.length:=by
 cases d with
 | agg cs=>simp[D.strip,D.cells]
 | sl tk xs=>cases tk<;>rfl
 | _=>rfl

theorem PRel.strip{G w}{ps:List (Nat×D)}{vs:List (Nat×Value)}(h:PRel G w ps vs):PRel G w (ps.map λp=>(p.1,p.2.strip)) vs:=by
 induction h with
 | nil=>exact .nil
 | @cons i d v ps vs hv hr ih=>exact .cons (hv.le (aTp d)) ih


def Ghost.grow(G:Ghost)(g n:Nat):Ghost:={G with lim:=λb=>if b=g then n else G.lim b}

theorem aEB{B}{bx ro:List (Nat×List D)}{tk:List Nat}{G:Ghost}{w:World}(_h:SimW B bx ro tk G w)(o:Obj)(n:Nat):Mono G (G.grow w.heap.size n) w (w.alloc o):=by
 refine⟨λb q v h1 h2=>?_,λb _=>rfl⟩;have hlt:=kK h2;refine⟨by simp only[Ghost.grow];rw[if_neg (by omega)];exact h1,?_⟩;rw[bY (Below.heap_alloc w o b hlt)];exact h2

theorem mB{B}{bx ro:List (Nat×List D)}{tk:List Nat}{G:Ghost}{w:World}(h:SimW B bx ro tk G w)(o:Obj)(n:Nat){d:D}{v:Value}(hr:Rel G w d v):Rel (G.grow w.heap.size n) (w.alloc o) d v :=
 hr.mono (aEB h o n) (λ_ _ _ h=>h) (λk _=>.inr ⟨rfl,λg e z hk=>by
  obtain⟨_,_,⟨cur,hc,_⟩,_⟩:=h.tau k g e z hk;have hlt:=bX hc;exact⟨by simp only[Ghost.grow];rw[if_neg (by omega)],dP (Below.heap_alloc w o g hlt)⟩⟩)

theorem aOq{B}{bx ro:List (Nat×List D)}{tk:List Nat}{G:Ghost}{w:World}(h:SimW B bx ro tk G w)(o:Obj)(n:Nat):SimW B bx ro tk (G.grow w.heap.size n) (w.alloc o):=by
 have hold:∀b,b<w.heap.size->(w.alloc o).heap[b]?=w.heap[b]?:=λb hb=>Below.heap_alloc w o b hb;have hlim:∀b,b<w.heap.size->(G.grow w.heap.size n).lim b=G.lim b:=λb hb=>by simp only[Ghost.grow];rw[if_neg (by omega)]
 have hbox:∀ {g cs},dD G w g cs->dD (G.grow w.heap.size n) (w.alloc o) g cs:=λ⟨vs,e,e1,e2,e3⟩ =>
  ⟨vs,e,by rw[hold _ (bX e1)];exact e1,e2,λj d v hd hv=>mB h o n (e3 j d v hd hv)⟩
 exact {
  boxes:=λid cs hl=>by
   obtain⟨g,h1,h2,h3,h4⟩:=h.boxes id cs hl;exact⟨g,h1,hbox h2,by rw[hlim g (h.blt _ _ h1)];exact h3,h4⟩
  robs:=λid cs hl=>by
   obtain⟨g,h1,h2,h3,h4⟩:=h.robs id cs hl;exact⟨g,h1,hbox h2,h3,h4⟩
  toks:=h.toks
  tau:=λk g e z hk=>by
   obtain⟨h1,h2,⟨cur,h3,h4⟩,h5⟩:=h.tau k g e z hk;exact⟨h1,h2,⟨cur,by rw[hold _ (bX h3)];exact h3,by rw[hlim _ (bX h3)];exact h4⟩,h5⟩
  tinj:=h.tinj
  binj:=h.binj
  blt:=λi g hg=>by have:=h.blt i g hg;simp;omega
  lablt:=λb hb=>by have:=h.lablt b hb;simp;omega
  old:=λb hlt hab=>by
   have hs:=h.sz;rw[hold b (by omega),hlim b (by omega)];exact h.old b hlt hab
  olda:=λb hlt=>by
   have hs:=h.sz;rw[hlim b (by omega)];refine⟨(h.olda b hlt).1,λq v hq hc=>?_⟩;rw[bY (hold b (by omega))];exact(h.olda b hlt).2 q v hq hc
  oldl:=h.oldl
  tlab:=h.tlab
  blab:=h.blab
  oldu:=h.oldu
  labw:=λb hb hor=>by
   obtain⟨vs,e,h1⟩:=h.labw b hb hor;exact⟨vs,e,by rw[hold b (h.lablt b hb)];exact h1⟩
  ids:=h.ids
  sz:=by have:=h.sz;simp;omega
  os:=h.os
  tape:=h.tape
  out:=h.out
  dr:=h.dr}

theorem mN(G:Ghost)(w:World)(o:Obj)(n:Nat):Quiet G (G.grow w.heap.size n) w (w.alloc o) :=
 ⟨λb hb=>⟨Below.heap_alloc w o b hb,by simp only[Ghost.grow];rw[if_neg (by omega)],rfl⟩,rfl,rfl,by simp⟩
theorem nI{B L}{G:Ghost}{a}{w:World}(h:Sim B L G a w)(o:Obj)(n:Nat):Sim B L (G.grow w.heap.size n) a (w.alloc o) :=
 h.move (aOq h.W o n) λ_ _ hr=>mB h.W o n hr

theorem i7(w:World)(cells:Array Value)(e:TypeId)(j:Nat):(w.alloc (.cells cells e)).cell? ⟨w.heap.size,j,none⟩=cells[j]?:=by
 have h:=heap_alloc_new w (.cells cells e);unfold World.cell?;simp only[h];rfl

theorem aBT{S:Setup}{B L}{G:Ghost}{a}{w:World}(hs:Sim B L G a w){t:TypeId}{n:Nat}{ps:List (Nat×D)}{vs:Array (Nat×Value)}(hv:PRel G w ps vs.toList){K:D->Prop}
  (h:gZ S t n ps K):∃d v G' w',K d/\(Instr.buildSlice t n vs).run S.P w=.ok v w'/\Sim B L G' a w'/\Rel G' w' d v/\Quiet G G' w w':=by
 unfold gZ at h;split at h
 ·rename_i e hk;obtain⟨j,hj,hidx,hsmall,hpos,hcell,hK⟩:=aI h;have hu:=aN hk;have hok:=S.ok e j hj;obtain⟨inf,i1,i2,i3,z,i4,i5,i6⟩:=hok.info;have hzs:z.cells.size=j.size:=by rw[i5];simp[TyI.size]
  have hlen:ps.length=n:=by have:=congrArg List.length hidx;simpa using this
  let qs:=ps.map λp=>(p.1,p.2.strip);have hq:PRel G w qs vs.toList:=hv.strip;have hqi:qs.map (·.1)=List.range' 0 (n-0):=by
   simp only[qs,List.map_map,Nat.sub_zero];rw[←List.range_eq_range',←hidx];rfl
  have hqc:∀p∈qs,p.2.cells.length=j.size:=λp hp=>by
   obtain⟨p0,h0,rfl⟩:=zJ.1 hp;simp only[iX];exact(hcell p0 h0).1
  obtain⟨arr,e1,e2⟩:=aFv (s:=j.size) (k:=0) (n:=n) (dn:=[]) (arr:=(Array.range (n*j.size)).map (z.cells[· % z.cells.size]!)) hq hqi (Nat.zero_le _) hqc rfl (by simp) (by simp) (by simp[flat]);simp only[List.nil_append] at e2;have hq2:qs.map (·.2)=ps.map (·.2.strip):=by simp[qs]
  rw[hq2] at e2;refine⟨_,.slice (some ⟨w.heap.size,0,none⟩) n n,G.grow w.heap.size arr.size,w.alloc (.cells arr e),hK,?_,nI hs _ _,?_,mN _ _ _ _⟩
  ·by_cases hn:n*j.size=0
   ·have hps:ps=[]:=by
     rcases hpos with h0|h0
     ·exact List.eq_nil_of_length_eq_zero (by omega)
     ·have:n=0:=by
       rcases Nat.mul_eq_zero.1 hn with h|h<;>omega
      exact List.eq_nil_of_length_eq_zero (by omega)
    have hn0:n=0:=by rw[←hlen,hps];rfl
    subst hps;subst hn0;have hvs:vs.toList=[]:=by generalize vs.toList=l at hv;cases hv;rfl
    have harr:arr=#[]:=by
     have:=e2.1;simp[flat] at this;exact this
    subst harr;simp[Instr.buildSlice,run_underlying hu,run_sizeOf hok,hvs,Instr.fill,newRow,Array.range_zero']
   ·refine run_buildSlice (P:=S.P) w t e n vs arr inf z hu i1 i4 (by rw[i2];omega) (by rw[i2];exact hn) ?_;rw[i2];exact e1
  ·have hmem:∀d∈flat (ps.map (·.2.strip)),d.memOk=true:=λd hd=>by
    obtain⟨x,hx,hd⟩:=List.mem_flatMap.1 hd;obtain⟨p,hp,rfl⟩:=zJ.1 hx;exact(hcell p hp).2 d hd
   have hu2:∀x∈ps.map (·.2.strip),x.cells.length=j.size:=λx hx=>by
    obtain⟨p,hp,rfl⟩:=zJ.1 hx;rw[iX];exact(hcell p hp).1
   have hnm:n≤maxLen:=by
    rcases hpos with h0|h0
    ·subst h0;exact Nat.zero_le _
    ·have:=Nat.le_mul_of_pos_right n h0;simp only[maxLen];omega
   refine .sl (b:=w.heap.size) (o:=0) (s:=j.size) (by simp[hlen]) (Nat.le_refl _) hnm rfl (.inr rfl) hu2 hmem (λq d hd=>?_) (λq d v hd hv'=>?_)
   ·have hlt:q<arr.size:=by rw[e2.1];exact(zE.1 hd).1
    simp only[Nat.zero_add];refine⟨by simpa[Ghost.grow] using hlt,arr[q],?_⟩;rw[i7];simp[hlt]
   ·simp only[Nat.zero_add,i7] at hv';exact mB hs.W _ _ (e2.2 q d v hd hv')
 ·exact h.elim

def Yld(S:Setup)(o:Oper)(B:Base)(L:LS)(G:Ghost)(a:Act)(w:World)(d:D):Prop :=
 ∀(K':Act->World->Prop) (Q:Exit->Act->World->Prop),(∀v G' w',Sim B L G' a w'->Rel G' w' d v->Quiet G G' w w'->K' (a.put o.dst v) w')->o.wp S.P a w K' Q

theorem Yld.of_runQ{S:Setup}{o B L G G'}{a:Act}{w w'}{d:D}{v:Value}(hr:(execOp a.eval o).run S.P w=.ok (.value v) w')(h:Sim B L G' a w')(hv:Rel G' w' d v)(hq:Quiet G G' w w'):Yld S o B L G a w d:=by
 intro K' Q hK;unfold Oper.wp;rw[hr];exact hK v G' w' h hv hq
theorem Yld.of_run{S:Setup}{o B L G}{a:Act}{w}{d:D}{v:Value}(hr:(execOp a.eval o).run S.P w=.ok (.value v) w)(h:Sim B L G a w)(hv:Rel G w d v):Yld S o B L G a w d:=.of_runQ hr h hv (.refl G w)

theorem gW{P:Program}{f:FuncId}(h:Enters P f)(args:Array Value)(w:World):(callFunc f args).run P w=.ok (.enter f args) w:=by
 obtain⟨fn,h1,h2,h3⟩:=h;have h2':¬fn.name = "runtime.NumGoroutine" := by simpa using h2
 have h3':¬fn.body=none:=by intro e;rw[e] at h3;cases h3
 simp[callFunc,h1,h2',h3']

theorem pJ{S:Setup}{G w}{e:TypeId}{i:TyI}(hi:S.tab e=some i)(hp:0<i.size)(n:Nat) :
  ∃inf z,S.P.info? e=some inf/\inf.zero=some z/\inf.size=i.size/\inf.bytes=i.bytes/\sA G w (List.replicate n (i.zero.map ZK.d)).flatten (madeCells z.cells (n*i.size)):=by
 obtain⟨inf,h1,h2,h3,z,h4,h5,_⟩:=(S.ok e i hi).info;obtain⟨z',hz',hr,hzs⟩:=jN (S:=S) (G:=G) (w:=w) hi;have hzz:z'=z:=by
  have:(zeroValue e).run S.P w=.ok z w:=by simp[zeroValue,typeInfo,h1,h4]
  rw[this] at hz';simpa using hz'.symm
 subst hzz;refine⟨inf,z',h1,h4,h2,h3,?_,λj d v hd hv=>?_⟩
 ·simp[size_madeCells,TyI.size]
 ·have hlen:(i.zero.map ZK.d).length=i.size:=by simp[TyI.size]
  have hfl:(List.replicate n (i.zero.map ZK.d)).flatten[j]?=some d:=hd;have hj:j<n*i.size:=by
   have:=(zE.1 hfl).1;simpa[TyI.size] using this
  have key:∀(n j:Nat),j<n*i.size->(List.replicate n (i.zero.map ZK.d)).flatten[j]?=(i.zero.map ZK.d)[j%i.size]?:=by
   intro n;induction n with
   | zero=>intro j hj;omega
   | succ n ih =>
    intro j hj;rw[List.replicate_succ,List.flatten_cons];by_cases h:j<i.size
    ·rw[zL (by omega),Nat.mod_eq_of_lt h]
    ·rw[zM (by omega),hlen,ih (j-i.size) (by have:=Nat.add_mul n 1 i.size;omega),Nat.mod_eq_sub_mod (show i.size≤j by omega)]
  rw[key n j hj] at hfl;have hm:j%i.size<z'.cells.size:=by rw[hzs];exact Nat.mod_lt _ hp
  have hv':v=z'.cells[j%z'.cells.size]!:=by
   simp only[madeCells,Array.getElem?_map] at hv;rw[Array.getElem?_range] at hv;rw[if_pos hj] at hv;simpa using hv.symm
  rw[hzs] at hv';refine hr.2 (j%i.size) d v hfl ?_;rw[hv'];simp[hm]

theorem aKh{S:Setup}{B L}{G:Ghost}{a}{w:World}(hs:Sim B L G a w){t:TypeId}{l c:D}{ul uc:Value}(hl:Rel G w l ul)(hc:Rel G w c uc){K:D->Prop}
  (h:aGo S t l c K):∃d v G' w',K d/\(Instr.makeSlice t ul uc).run S.P w=.ok v w'/\Sim B L G' a w'/\Rel G' w' d v/\Quiet G G' w w':=by
 unfold aGo at h;split at h
 ·rename_i e k n k' m hk;obtain⟨i,hi,h⟩:=aI h;obtain⟨z,hz,⟨h1,h2,rfl⟩,⟨h3,h4⟩,h5,hK⟩:=aI h;cases hl;cases hc
  have hu:=aN hk;have hz1:i.zero=[z]:=by
   cases hzz:i.zero with
   | nil=>rw[hzz] at hz;cases hz
   | cons a r =>
    rw[hzz] at hz h1;simp only[List.head?_cons,Option.some.injEq] at hz;simp only[List.length_cons] at h1;rw[hz,List.length_eq_zero_iff.1 (show r.length=0 by omega)]
  have hsz:i.size=1:=by simp[TyI.size,hz1]
  obtain⟨inf,zv,i1,i2,i3,i4,hrel⟩:=pJ (G:=G) (w:=w) hi (by omega) n.toNat;have hr:=run_make (P:=S.P) w t e inf zv hu i1 i2 k k' n n h2 (Int.le_refl _) (by rw[i4];exact h3) h4;rw[i3] at hr;rw[hsz,Nat.mul_one] at hrel hr;have hfl:(List.replicate n.toNat (i.zero.map ZK.d)).flatten=List.replicate n.toNat z.d:=by
   rw[hz1];generalize n.toNat=q;induction q with
   | zero=>rfl
   | succ q ih=>rw[List.replicate_succ,List.flatten_cons,ih,List.replicate_succ];rfl
  rw[hfl] at hrel;have hcells:(jW z.d).cells=[jW z.d]:=by cases z<;>rfl
  have hflat:flat (List.replicate n.toNat (jW z.d))=List.replicate n.toNat (jW z.d):=by
   unfold flat;generalize n.toNat=q;induction q with
   | zero=>rfl
   | succ q ih=>rw[List.replicate_succ,List.flatMap_cons,ih,hcells];rfl
  have hle:∀ {G':Ghost} {w':World} {v:Value},Rel G' w' z.d v->Rel G' w' (jW z.d) v:=λhr=>by
   cases z<;>first|exact hr|exact hr.le .any
  have hsize:(madeCells zv.cells n.toNat).size=n.toNat:=by simpa using hrel.1
  refine⟨_,_,_,_,hK,hr,nI hs (.cells (madeCells zv.cells n.toNat) e) n.toNat,?_,mN _ _ _ _⟩;have hrl:∀d v,Rel G w d v->Rel (G.grow w.heap.size n.toNat) (w.alloc (.cells (madeCells zv.cells n.toNat) e)) d v:=λ_ _ hr=>mB hs.W (.cells (madeCells zv.cells n.toNat) e) n.toNat hr;refine .sl (b:=w.heap.size) (o:=0) (s:=1) (by simp) (Nat.le_refl _) (by simp only[maxLen];omega) trivial (.inr rfl) (λx hx=>?_) (λd hd=>?_) (λj d hd=>?_) (λj d v hd hv=>?_)
  ·rw[(List.mem_replicate.1 hx).2,hcells];rfl
  ·rw[hflat] at hd;rw[(List.mem_replicate.1 hd).2];exact h5
  ·rw[hflat] at hd;have hj:j<n.toNat:=by have:=(List.getElem?_eq_some_iff.1 hd).1;simpa using this
   rw[Nat.zero_add,i7];exact⟨by simpa[Ghost.grow] using hj,(madeCells zv.cells n.toNat)[j]'(by omega),by simp[show j<(madeCells zv.cells n.toNat).size by omega]⟩
  ·rw[hflat] at hd;have hj:j<n.toNat:=by have:=(List.getElem?_eq_some_iff.1 hd).1;simpa using this
   rw[Nat.zero_add,i7] at hv;have e0:d=jW z.d:=(List.mem_replicate.1 (zF hd)).2;subst e0;exact hle (hrl _ _ (hrel.2 j z.d v (by simp[hj]) hv))
 ·exact h.elim

theorem aRv:∀ {d:D},d.memOk=true->d.one=true
 | .int ..,_=>rfl
 | .bool _,_=>rfl
 | .str _,_=>rfl
 | .imm _,_=>rfl
 | .sl _ _,_=>rfl
 | .fn _ _,_=>rfl

theorem kI{G:Ghost}{w:World}{tk:Tk}{ys:List D}{A:Option Addr}{m c:Nat}(h:Rel G w (.sl tk ys) (.slice A m c)) :
  m=ys.length/\m≤c/\c≤maxLen/\(∀d∈flat ys,d.memOk=true)/\(ys≠[]->∃b o,A=some ⟨b,o,none⟩/\∃news:List Value,news.length=(flat ys).length/\(∀(j:Nat) u,news[j]?=some u->w.cell? ⟨b,o+j,none⟩=some u) ∧
   (∀(j:Nat) d u,(flat ys)[j]?=some d->news[j]?=some u->Rel G w d u)/\(∀u∈news,u.oneCell'=true)/\∀j,j<(flat ys).length->o+j<G.lim b):=by
 cases h with
 | @sl _ _ _ _ _ b o s hn hc hm ht hA hu hk hst hr =>
 refine⟨hn,hc,hm,hk,λhne=>⟨b,o,hA.resolve_left hne,(List.range (flat ys).length).map (λj=>(w.cell? ⟨b,o+j,none⟩).getD undef),by simp,λj u hu'=>?_,λj d u hd hu'=>?_,λu hu'=>?_,λj hj=>?_⟩⟩
 ·have hj:j<(flat ys).length:=by have:=(List.getElem?_eq_some_iff.1 hu').1;simpa using this
  obtain⟨_,v,hv⟩:=hst j _ (zB hj);simp only[zI,List.getElem?_range hj,Option.map_some,hv,Option.getD_some,Option.some.injEq] at hu';subst hu';exact hv
 ·have hj:j<(flat ys).length:=(zE.1 hd).1;obtain⟨_,v,hv⟩:=hst j d hd;simp only[zI,List.getElem?_range hj,Option.map_some,hv,Option.getD_some,Option.some.injEq] at hu';subst hu';exact hr j d v hd hv
 ·obtain⟨j,hj,rfl⟩:=zJ.1 hu';have hj':j<(flat ys).length:=by simpa using hj
  obtain⟨_,v,hv⟩:=hst j _ (zB hj');rw[hv];exact(hr j _ v (zB hj') hv).one (aRv (hk _ (List.getElem_mem hj')))
 ·exact(hst j _ (zB hj)).1

theorem mV{P:Program}(w:World)(t ty e:TypeId)(i:TypeInfo)(ht:P.underlying t=some (.slice e))(hi:P.info? e=some i)(A:Option Addr)(n c:Nat)(hnc:n≤c)(A2:Option Addr)(c2:Nat) :
  (Builtin.append_ #[t,t] ty #[.slice A n c,.slice A2 0 c2]).run P w=.ok (.slice A n c) w:=by
 cases A<;>cases A2<;>simp[Builtin.append_,run_underlying ht,sizeOf,typeInfo,hi,Builtin.lenOf,Builtin.firstCells,loadCells,loadCellsFrom,hnc,storeCells]

theorem aHv{B L G a}{w:World}(h:Sim B L G a w):Sim B L G a {w with drawn:=w.drawn+1}:=by
 have hr:∀d v,Rel G w d v->Rel G {w with drawn:=w.drawn+1} d v:=λd v hr =>
  hr.mono (show Mono G G w {w with drawn:=w.drawn+1} from⟨λ_ _ _ h1 h2=>⟨h1,h2⟩,λ_ _=>rfl⟩) (λ_ _ _ h=>h) (λ_ _=>.inr ⟨rfl,λ_ _ _ _=>⟨rfl,rfl⟩⟩)
 have hb:∀ {g cs},dD G w g cs->dD G {w with drawn:=w.drawn+1} g cs:=λ⟨vs,e,e1,e2,e3⟩=>⟨vs,e,e1,e2,λj d v hd hv=>hr d v (e3 j d v hd hv)⟩;exact h.move {h.W with
  boxes:=λid cs hl=>let ⟨g,h1,h2,h3⟩:=h.W.boxes id cs hl;⟨g,h1,hb h2,h3⟩
  robs:=λid cs hl=>let ⟨g,h1,h2,h3⟩:=h.W.robs id cs hl;⟨g,h1,hb h2,h3⟩
  tau:=h.W.tau
  old:=h.W.old
  olda:=h.W.olda
  os:=h.W.os
  tape:=h.W.tape
  out:=h.W.out
  dr:=Nat.le_trans h.W.dr (Nat.le_succ _)} hr
theorem aE1{G G'}{w w':World}(q:Quiet G G' w.drew w'):Quiet G G' w w':=⟨q.heap,q.beta,q.tau,q.sz⟩
theorem aMv{S:Setup}{B L}{G:Ghost}{a}{w:World}(hs:Sim B L G a w){t ty:TypeId}{dx dy:D}{v u:Value}(hx:Rel G w dx v)(hy:Rel G w dy u){K:D->Prop}(h:aMw S t dx dy K) :
  ∃d v' G' w',K d/\(Builtin.append_ #[t,t] ty #[v,u]).run S.P w=.ok v' w'/\Sim B L G' a w'/\Rel G' w' d v'/\Quiet G G' w w':=by
 unfold aMw at h;split at h
 ·rename_i e xs tk2 ys hk;obtain⟨i,hi,hz,hux,huy,hb,h63,hK⟩:=aI h;have ht:=aN hk;obtain⟨inf,i1,i2,i3,z,i4,i5,_⟩:=(S.ok e i hi).info;obtain⟨A,n,c,rfl⟩:∃A n c,v=.slice A n c:=by cases hx;exact⟨_,_,_,rfl⟩
  obtain⟨A2,m,c2,rfl⟩:∃A n c,u=.slice A n c:=by cases hy;exact⟨_,_,_,rfl⟩
  obtain⟨xn,xc,xm,xk,xl⟩:=kI hx;obtain⟨yn,yc,ym,yk,yl⟩:=kI hy;have hml:(140737488355328:Nat)≤maxLen:=by simp[maxLen]
  have huxy:∀y∈xs++ys,y.cells.length=i.size:=λy hy=>by
   rcases zP.1 hy with hy|hy
   ·exact hux y hy
   ·exact huy y hy
  have hfxy:flat (xs++ys)=flat xs++flat ys:=by simp[flat]
  have hmxy:∀d∈flat (xs++ys),d.memOk=true:=λd hd=>by
   rw[hfxy] at hd;rcases zP.1 hd with hd|hd
   ·exact xk d hd
   ·exact yk d hd
  have hfx:=dC hux;have hfy:=dC huy;have hnc:n=c:=by
   cases hx with
   | @sl _ _ _ _ _ b o s hn hcc hm htk hA hu hk0 hstt hrr=>exact htk
  by_cases hm0:ys=[]
  ·subst hm0;have hm:m=0:=by rw[yn];rfl
   subst hm;rw[List.append_nil] at hK;exact⟨_,_,G,w,hK,mV (P:=S.P) w t ty e inf ht i1 A n c xc A2 c2,hs,hx.le .any,Quiet.refl _ _⟩
  ·obtain⟨b2,o2,rfl,news,n1,n2,n3,n4,_⟩:=yl hm0;have hmp:0<m:=by rw[yn];exact List.length_pos_iff.2 hm0
   have hnl:news.length=m*inf.size:=by rw[n1,hfy,yn,i2]
   have hnews:∀(j:Nat) u,news[j]?=some u->w.cell? ((⟨b2,o2,none⟩:Addr).add j)=some u:=λj u hu=>by rw[e8];exact n2 j u hu
   have hzs:z.cells.size=inf.size:=by rw[i5,i2];simp[TyI.size]
   have hnm63:((n+m:Nat):Int)≤9223372036854775807:=by omega
   have hbytes:(n+m)*inf.bytes≤140737488355328:=by rw[i3,xn,yn];exact hb
   have hlen:(xs++ys).length=n+m:=by rw[zK,xn,yn]
   have hsd:Sim B L G a w.drew:=aHv hs;have hrd:∀d v,Rel G w d v->Rel G w.drew d v:=λd v hr =>
    hr.mono (show Mono G G w w.drew from⟨λ_ _ _ h1 h2=>⟨h1,h2⟩,λ_ _=>rfl⟩) (λ_ _ _ h=>h) (λ_ _=>.inr ⟨rfl,λ_ _ _ _=>⟨rfl,rfl⟩⟩)
   have grow:∀(olds:List Value),olds.length=(flat xs).length->(∀(j:Nat) d u,(flat xs)[j]?=some d->olds[j]?=some u->Rel G w d u) →
     (Builtin.append_ #[t,t] ty #[.slice A n c,.slice (some ⟨b2,o2,none⟩) m c2]).run S.P w =
      .ok (.slice (some ⟨w.heap.size,0,none⟩) (n+m) (grownCap w (n+m) c e)) (w.drew.alloc (.cells (olds.toArray++news.toArray++Builtin.zeroCells z.cells (grownCap w (n+m) c e-(n+m))) e)) →
     ∃d v' G' w',K d/\(Builtin.append_ #[t,t] ty #[.slice A n c,.slice (some ⟨b2,o2,none⟩) m c2]).run S.P w=.ok v' w'/\Sim B L G' a w'/\Rel G' w' d v'/\Quiet G G' w w':=λolds ho hor hrun=>by
    have hcap:=grownCap_ge w (n+m) c e;refine⟨_,_,_,_,hK,hrun,nI hsd (.cells (olds.toArray++news.toArray++Builtin.zeroCells z.cells (grownCap w (n+m) c e-(n+m))) e) ((flat (xs++ys)).length),?_,aE1 (mN G w.drew _ _)⟩;generalize harr:olds.toArray++news.toArray++Builtin.zeroCells z.cells (grownCap w (n+m) c e-(n+m))=arr;have hlf:(flat (xs++ys)).length=(flat xs).length+(flat ys).length:=by rw[hfxy,zK]
    have hlarr:(flat (xs++ys)).length≤arr.size:=by
     rw[←harr,hlf];simp[ho,n1]
    have hrl:∀d v,Rel G w d v->Rel (G.grow w.drew.heap.size ((flat (xs++ys)).length)) (w.drew.alloc (.cells arr e)) d v:=λd v hr=>mB hsd.W (.cells arr e) ((flat (xs++ys)).length) (hrd d v hr);refine .sl (b:=w.heap.size) (o:=0) (s:=i.size) hlen.symm hcap (grownCap_le_maxLen w (n+m) c e (by omega)) trivial (.inr rfl) huxy hmxy (λj d hd=>?_) (λj d v hd hv=>?_)
    ·have hj:j<(flat (xs++ys)).length:=(zE.1 hd).1;have e0:w.heap.size=w.drew.heap.size:=rfl;rw[Nat.zero_add,e0,i7];exact⟨by simpa[Ghost.grow] using hj,arr[j]'(by omega),by simp[show j<arr.size by omega]⟩
    ·have e0:w.heap.size=w.drew.heap.size:=rfl;rw[Nat.zero_add,e0,i7,←harr] at hv;refine hrl d v ?_;rw[hfxy] at hd;by_cases hj:j<(flat xs).length
     ·rw[zL hj] at hd;rw[Array.append_assoc,Array.getElem?_append_left (by simpa[ho] using hj)] at hv;exact hor j d v hd (by simpa using hv)
     ·rw[zM (by omega)] at hd;have hlt:=(zE.1 hd).1;rw[Array.append_assoc,Array.getElem?_append_right (by simp;omega),Array.getElem?_append_left (by simp;omega)] at hv;exact n3 _ d v hd (by simpa[ho] using hv)
   subst hnc;cases A with
   | none =>
    have hxs:xs=[]:=by
     cases hxe:xs with
     | nil=>rfl
     | cons q r =>
      obtain⟨b,o,h0,_⟩:=xl (by rw[hxe];simp);cases h0
    subst hxs;have hn0:n=0:=xn;subst hn0;have hr:=run_append_nil (P:=S.P) w t ty e inf z ht i1 i4 ⟨b2,o2,none⟩ m c2 news hnl hnews hmp (by omega) (by simp only[Nat.zero_add] at hbytes;omega);exact grow [] (by simp[flat]) (by simp) (by simpa using hr)
   | some ad =>
    by_cases hxe:xs=[]
    ·subst hxe;have hn0:n=0:=xn;subst hn0;have hr:=run_append_grow (P:=S.P) w t ty e inf z ht i1 i4 ad 0 0 [] (by simp) (by simp) ⟨b2,o2,none⟩ m c2 news hnl hnews (by omega) (by omega) (growslice_fits (by omega) hbytes);exact grow [] (by simp[flat]) (by simp) hr
    ·obtain⟨b,o,h0,olds,o1,o2',o3,_,_⟩:=xl hxe;obtain rfl:=zA h0;have hr:=run_append_grow (P:=S.P) w t ty e inf z ht i1 i4 ⟨b,o,none⟩ n n olds (by rw[o1,hfx,xn,i2]) (λj u hu=>by rw[e8];exact o2' j u hu) ⟨b2,o2,none⟩ m c2 news hnl hnews (by omega) hnm63 (growslice_fits (by omega) hbytes);exact grow olds o1 o3 hr
 ·exact h.elim

theorem rD{α:Type}{l:List α}(h:l.length=2):∃u v,l=[u,v]:=by
 match l,h with
 | [u,v],_=>exact⟨u,v,rfl⟩

theorem aBI{S:Setup}{o:Oper}{B}{L:LS}{G}{a:Act}{w}(hs:Sim B L G a w){K:D->Prop}(h:opY S o.op (aM L) L.getBox K):∃d,K d/\Yld S o B L G a w d:=by
  obtain⟨dst,op,type,pos,after,guard⟩:=o;simp only at h;unfold opY at h;split at h
  case h_1 x =>
    obtain⟨d,hd,hK⟩:=aI h;exact⟨d,hK,.of_run (by simp[execOp]) hs (aO hs hd)⟩
  case h_2 x =>
    obtain⟨d,hd,hK⟩:=aI h;exact⟨d,hK,.of_run (by simp[execOp]) hs (aO hs hd)⟩
  case h_3 c x y =>
    obtain⟨d,hd,h⟩:=aI h;split at h
    · rename_i t;have hc:=aO hs hd;have hc':a.eval c=.bool t:=by generalize a.eval c=u at hc;cases hc;rfl
      cases t
      · simp only[Bool.false_eq_true,if_false] at h;obtain⟨d,hd,hK⟩:=aI h;exact⟨d,hK,.of_run (by simp[execOp,hc',asBool]) hs (aO hs hd)⟩
      · simp only[if_true] at h;obtain⟨d,hd,hK⟩:=aI h;exact⟨d,hK,.of_run (by simp[execOp,hc',asBool]) hs (aO hs hd)⟩
    · exact h.elim
  case h_4 t x =>
    obtain⟨d,hd,h⟩:=aI h;obtain⟨d,v,hK,hr,hv⟩:=aCL hs (aO hs hd) h;exact⟨d,hK,.of_run (by simp[execOp,hr]) hs hv⟩
  case h_5 x =>
    obtain⟨d,hd,h⟩:=aI h;have hv:=aO hs hd;generalize hu:a.eval x=u at hv;cases hv<;>first
      | exact h.elim
      | exact⟨_,h,.of_run (v:=a.eval x) (by simp[execOp,hu]) hs (aO hs hd)⟩
  case h_6 bop t x y yt =>
    obtain⟨dx,hx,h⟩:=aI h;obtain⟨dy,hy,h⟩:=aI h;obtain⟨d,v,hK,hr,hv⟩:=aNs (aO hs hx) (aO hs hy) x y h;exact⟨d,hK,.of_run (by unfold execOp;dsimp only;rw[Sem.run_bind,hr];rfl) hs hv⟩
  case h_7 uop t x =>
    obtain⟨d,hd,h⟩:=aI h;obtain⟨d,v,hK,hr,hv⟩:=aSj (S:=S) (aO hs hd) h;exact⟨d,hK,.of_run (by simp[execOp,hr]) hs hv⟩
  case h_8 src dst x =>
    obtain⟨hsrc,h⟩:=h;obtain⟨d,hd,h⟩:=aI h;obtain⟨d,v,hK,hr,hv⟩:=aMf hsrc (aO hs hd) h;exact⟨d,hK,.of_run (by simp[execOp,hr]) hs hv⟩
  case h_9 f first captured =>
    unfold qW at h;split at h
    · rename_i hf;obtain⟨ds,hds,hK⟩:=aI h;obtain⟨e1,e2⟩:=eE hs hds;obtain⟨f1,_⟩:=eE hs hf;have hf':first=#[]:=by
        obtain⟨l⟩:=first
        have:l=[]:=List.length_eq_zero_iff.1 (by simpa using f1.symm);rw[this]
      subst hf';refine⟨_,hK,.of_run (v:=.func (.func f) #[] (captured.toList.map a.eval).toArray) ?_ hs ?_⟩
      · simp[execOp,Instr.makeFunc,←Array.toList_map]
      · exact .fn (by simp[e1]) e2
    · rename_i d hf;obtain⟨hc,⟨hi,ht⟩,hK⟩:=h;obtain⟨e1,_⟩:=eE hs hc;obtain⟨f1,f2⟩:=eE hs hf;have hc':captured=#[]:=by
        obtain⟨l⟩:=captured;have:l=[]:=List.length_eq_zero_iff.1 (by simpa using e1.symm);rw[this]
      subst hc';obtain⟨x,hx⟩:∃x,first=#[x]:=by
        obtain⟨l⟩:=first
        match l,f1 with
        | [x],_=>exact⟨x,rfl⟩
      subst hx;have hr:=f2 0 d (a.eval x) rfl rfl;exact⟨_,hK,.of_run (v:=.func (.func f) #[a.eval x] #[]) (by simp[execOp,Instr.makeFunc]) hs (hr.mv hi ht)⟩
    · exact h.elim
  case h_10 t x f =>
    obtain⟨d,hd,h⟩:=aI h;obtain⟨d,v,hK,hr,hv⟩:=aBH (aO hs hd) h;exact⟨d,hK,.of_run (by simp[execOp,hr]) hs hv⟩
  case h_11 t x f =>
    obtain⟨d,hd,h⟩:=aI h;obtain⟨d,v,hK,hr,hv⟩:=aHZ (aO hs hd) h;exact⟨d,hK,.of_run (by simp[execOp,hr]) hs hv⟩
  case h_12 t x ix =>
    obtain⟨dx,hx,h⟩:=aI h;obtain⟨di,hi,h⟩:=aI h;obtain⟨d,v,hK,hr,hv⟩:=aCf (aO hs hx) (aO hs hi) h;exact⟨d,hK,.of_run (by simp[execOp,hr]) hs hv⟩
  case h_13 t x ix =>
    obtain⟨dx,hx,h⟩:=aI h;obtain⟨di,hi,h⟩:=aI h;obtain⟨d,v,hK,hr,hv⟩:=aIV (aO hs hx) (aO hs hi) h;exact⟨d,hK,.of_run (by simp[execOp,hr]) hs hv⟩
  case h_14 t x lo hi mx =>
    obtain⟨dx,hx,h⟩:=aI h;obtain⟨l,hl,h⟩:=aI h;obtain⟨hh,hhi,h⟩:=aI h;obtain⟨m,hm,h⟩:=aI h;obtain⟨⟨⟨q1,q2,q3⟩,q4⟩,h⟩:=h
    have opt : ∀ {o : Option Operand} {r : Option Int}, lU     (o.bind (aM    L)) = some r → o.isSome = r.isSome →
        (o.map a.eval=none/\r=none)∨∃k n,o.map a.eval=some (.int k n)/\r=some n:=by
      intro o r hr hsome;cases o with
      | none =>
        left
        cases r with
        | none=>exact⟨rfl,rfl⟩
        | some n=>cases hsome
      | some y =>
        right
        rcases aOP hr with⟨_,rfl⟩|⟨k,n,e1,rfl⟩
        · cases hsome
        · have he:aM L y=some (.int k n):=by simpa using e1
          have hv:=aO hs he;generalize hu:a.eval y=u at hv;cases hv;exact⟨k,n,by simp[hu],rfl⟩
    obtain⟨d,v,hK,hr,hv⟩:=aI3 (aO hs hx) (opt hl q1) (opt hhi q2) (opt hm q3) (by simpa using q4) h;exact⟨d,hK,.of_run (by simp[execOp,hr]) hs hv⟩
  case h_15 t ps =>
    obtain⟨l,hl,h⟩:=aI h;obtain⟨d,v,hK,hr,hv⟩:=aJe (vs:=ps.map λ(i,x)=>(i,a.eval x)) (by simpa using nU hs hl) h;exact⟨d,hK,.of_run (by simp[execOp,hr]) hs hv⟩
  case h_16 t n ps =>
    obtain⟨l,hl,h⟩:=aI h;obtain⟨d,v,G',w',hK,hr,hs',hv,hq⟩:=aBT hs (vs:=ps.map λ(i,x)=>(i,a.eval x)) (by simpa using nU hs hl) h;exact⟨d,hK,.of_runQ (by simp[execOp,hr]) hs' hv hq⟩
  case h_17 x i =>
    obtain⟨d,hd,h⟩:=aI h;have hv:=aO hs hd;generalize hu:a.eval x=u at hv;cases hv<;>first
      | exact h.elim
      | (rename_i ds vl hl hr
         obtain⟨d,hdi,hK⟩:=aI h;have hlt:i<vl.length:=by rw[hl];exact(zE.1 hdi).1
         exact⟨d,hK,.of_run (v:=vl[i]) (by simp[execOp,hu,Instr.extract,hlt]) hs (hr i d _ hdi (by simp[hlt]))⟩)
  case h_18 args tys =>
    obtain⟨ds,hds,h⟩:=aI h;obtain⟨e1,e2⟩:=eE hs hds;split at h
    · rename_i d t htys;have hal:(args.toList.map a.eval).length=1:=by simpa using e1.symm
      obtain⟨u,hu⟩:=List.length_eq_one_iff.1 hal;have hx:=e2 0 d u rfl (by rw[hu];rfl);obtain⟨d,v,hK,hr,hv⟩:=aNn (ty:=type) hx h;refine⟨d,hK,.of_run (v:=v) ?_ hs hv⟩;have ha:args.map a.eval=#[u]:=by rw[←Array.toArray_toList (xs:=args.map a.eval),Array.toList_map,hu]
      have ht:tys=#[t]:=by rw[←Array.toArray_toList (xs:=tys),htys]
      simp[execOp,resolve,invoke,builtin,ha,ht,hr]
    · exact h.elim
  case h_19 args tys =>
    obtain⟨ds,hds,h⟩:=aI h;obtain⟨e1,e2⟩:=eE hs hds;split at h
    · rename_i x y;obtain⟨d,hd,hK⟩:=aI h;unfold aTi at hd;split at hd
      · rename_i k p k' q;split at hd
        · rename_i hkk;subst hkk;obtain rfl:=zA hd;have hal:(args.toList.map a.eval).length=2:=by simpa using e1.symm
          obtain⟨u,v,hu⟩:=rD hal;have h1:=e2 0 _ u rfl (by rw[hu];rfl);have h2:=e2 1 _ v rfl (by rw[hu];rfl);cases h1;cases h2
          have ha:args.map a.eval=#[.int k p,.int k q]:=by rw[←Array.toArray_toList (xs:=args.map a.eval),Array.toList_map,hu]
          exact⟨_,hK,.of_run (by simp[execOp,resolve,invoke,builtin,ha,run_min_int2]) hs .int⟩
        · cases hd
      · cases hd
    · exact h.elim
  case h_20 args tys =>
    obtain⟨ds,hds,h⟩:=aI h;obtain⟨e1,e2⟩:=eE hs hds;split at h
    · rename_i x y;obtain⟨d,hd,hK⟩:=aI h;unfold aVH at hd;split at hd
      · rename_i k p k' q;split at hd
        · rename_i hkk;subst hkk;obtain rfl:=zA hd;have hal:(args.toList.map a.eval).length=2:=by simpa using e1.symm
          obtain⟨u,v,hu⟩:=rD hal;have h1:=e2 0 _ u rfl (by rw[hu];rfl);have h2:=e2 1 _ v rfl (by rw[hu];rfl);cases h1;cases h2
          have ha:args.map a.eval=#[.int k p,.int k q]:=by rw[←Array.toArray_toList (xs:=args.map a.eval),Array.toList_map,hu]
          exact⟨_,hK,.of_run (by simp[execOp,resolve,invoke,builtin,ha,run_max_int2]) hs .int⟩
        · cases hd
      · cases hd
    · exact h.elim
  case h_21 f args tys =>
    obtain⟨df,hf,h⟩:=aI h;obtain⟨ds,hds,h⟩:=aI h;obtain⟨e1,e2⟩:=eE hs hds;unfold aQb at h;split at h
    · rename_i fid cap _;obtain⟨cx,d,fc,hcx,hid,htk,hK⟩:=h;have hv:=aO hs hf;generalize hu:a.eval f=u at hv;cases hv with
      | @fn _ _ vl hl hr =>
      refine⟨d,hK,?_⟩;intro K' Q hK';have hrun:(execOp a.eval ⟨dst,.call ⟨.value f,args,tys⟩,type,pos,after,guard⟩).run S.P w=.ok (.enter fid (args.map a.eval++vl.toArray)) w:=by
        simp[execOp,resolve,hu,Deferred.ofValue,invoke,gW fc.1]
      unfold Oper.wp;rw[hrun,Oper.upon_enter];refine(aCY hs (vals:=args.map a.eval++vl.toArray) ?_ ?_ hcx fc hid htk).mono ?_
      · simp at e1;simp[e1,hl]
      · intro j d v hd hv;have hsz:(args.map a.eval).size=ds.length:=by simp at e1;simp[e1]
        by_cases hj:j<ds.length
        · rw[zL hj] at hd;rw[Array.getElem?_append_left (by omega)] at hv;exact e2 j d v hd (by simpa using hv)
        · rw[zM (by omega)] at hd;rw[Array.getElem?_append_right (by omega),hsz] at hv;exact hr _ d v hd (by simpa using hv)
      · rintro e w' ⟨v,G',rfl,h1,h2,hq⟩;exact hK' v G' w' h1 h2 hq
    · obtain⟨fid,d0,cx,d,rfl,fc,hcx,hid,htk,hK⟩:=h;have hv:=aO hs hf;obtain⟨u0,hu,hr0⟩:=hv.mv_inv;refine⟨d,hK,?_⟩;intro K' Q hK';have hrun:(execOp a.eval ⟨dst,.call ⟨.value f,args,tys⟩,type,pos,after,guard⟩).run S.P w=.ok (.enter fid (#[u0]++args.map a.eval)) w:=by
        simp[execOp,resolve,hu,Deferred.ofValue,invoke,gW fc.1]
      unfold Oper.wp;rw[hrun,Oper.upon_enter];refine(aCY hs (vals:=#[u0]++args.map a.eval) ?_ ?_ hcx fc hid htk).mono ?_
      · simp at e1;simp[e1];omega
      · intro j d v hd hv;match j with
        | 0 =>
          obtain rfl:d0=d:=by simpa using hd
          rw[Array.getElem?_append_left (by simp)] at hv;obtain rfl:u0=v:=by simpa using hv
          exact hr0
        | j+1 =>
          simp only[List.getElem?_cons_succ] at hd;rw[Array.getElem?_append_right (by simp)] at hv;exact e2 j d v hd (by simpa using hv)
      · rintro e w' ⟨v,G',rfl,h1,h2,hq⟩;exact hK' v G' w' h1 h2 hq
    · exact h.elim
  case h_22 t l c =>
    obtain⟨dl,hdl,h⟩:=aI h;obtain⟨dc,hdc,h⟩:=aI h;obtain⟨d,v,G',w',hK,hr,hs',hv,hq⟩:=aKh hs (aO hs hdl) (aO hs hdc) h;exact⟨d,hK,.of_runQ (by simp[execOp,hr]) hs' hv hq⟩
  case h_23 args tys =>
    obtain⟨ds,hds,h⟩:=aI h;obtain⟨e1,e2⟩:=eE hs hds;split at h
    · rename_i x y t t' htys;obtain⟨rfl,h⟩:=h;have hal:(args.toList.map a.eval).length=2:=by simpa using e1.symm
      obtain⟨u,v,hu⟩:=rD hal;have hx:=e2 0 _ u rfl (by rw[hu];rfl);have hy:=e2 1 _ v rfl (by rw[hu];rfl);obtain⟨d,v',G',w',hK,hr,hs',hv,hq⟩:=aMv (ty:=type) hs hx hy h;have ha:args.map a.eval=#[u,v]:=by rw[←Array.toArray_toList (xs:=args.map a.eval),Array.toList_map,hu]
      have ht:tys=#[t,t]:=by rw[←Array.toArray_toList (xs:=tys),htys]
      exact⟨d,hK,.of_runQ (by simp[execOp,resolve,invoke,builtin,ha,ht,hr]) hs' hv hq⟩
    · exact h.elim
  case h_24=>exact h.elim

def dG{α:Type}(k:Nat):List (Nat×α)->List (Nat×α)
 | []=>[]
 | (k',x)::r=>if k'=k then dG k r else (k',x)::dG k r
theorem fD{α:Type}(k:Nat)(l:List (Nat×α))(t:Nat):look (dG k l) t=if k=t then none else look l t:=by
 induction l with
 | nil=>simp[dG,look]
 | cons p r ih =>
  obtain⟨k',x⟩:=p;by_cases h:k'=k
  ·subst h;simp only[dG,if_true,ih,look];by_cases h2:k'=t<;>simp[h2]
  ·simp only[dG,if_neg h,look,ih];by_cases h2:k'=t
   ·subst h2;have:¬k=k':=λe=>h e.symm;simp[this]
   ·simp[h2]
def sY{α:Type}(f:α->Bool):List (Nat×α)->List (Nat×α)
 | []=>[]
 | (k,x)::r=>if f x=true then (k,x)::sY f r else dG k (sY f r)
theorem fX{α:Type}(f:α->Bool)(l:List (Nat×α))(t:Nat)(x:α)(h:look (sY f l) t=some x):look l t=some x/\f x=true:=by
 induction l with
 | nil=>cases h
 | cons p r ih =>
  obtain⟨k,y⟩:=p;by_cases hf:f y=true
  ·simp only[sY,hf,if_true,look] at h ⊢;by_cases hk:k=t
   ·simp only[hk,if_true,Option.some.injEq] at h ⊢;subst h;exact⟨rfl,hf⟩
   ·rw[if_neg hk] at h ⊢;exact ih h
  ·simp only[sY] at h;rw[if_neg hf,fD] at h;by_cases hk:k=t
   ·rw[if_pos hk] at h;cases h
   ·rw[if_neg hk] at h;simp only[look];rw[if_neg hk];exact ih h

def aW9(id:Nat)(d:D):Bool:=!d.ids.contains id
def aAj(id:Nat)(cs:List D):Bool:=!(D.idsL cs).contains id

def LS.forget(L:LS)(id:Nat):LS :=
 {L with env:=sY (aW9 id) L.env,boxes:=dG id (sY (aAj id) L.boxes),ro:=dG id (sY (aAj id) L.ro)}
def LS.newBox(L:LS)(t id:Nat)(cs:List D)(dd:D):LS :=
 {L.forget id with env:=eU (L.forget id).env t dd,boxes:=eU (L.forget id).boxes id cs}

theorem v8{id:Nat}{d:D}(h:aW9 id d=true):id∉d.ids:=by
 simpa[aW9] using h
theorem jQ{id:Nat}{cs:List D}(h:aAj id cs=true):id∉D.idsL cs:=by
 simpa[aAj] using h

def Ghost.addBox(G:Ghost)(g id:Nat):Ghost:={G.grow g 0 with β:=λi=>if i=id then some g else G.β i}

theorem aJI{B}{L:LS}{G:Ghost}{a:Act}{w:World}(h:Sim B L G a w){t id:Nat}{cs:List D}{arr:Array Value}(e:TypeId)(ht:t<L.n)(hfix:id∉L.fix)(hcs:id∉D.idsL cs)(hr:cs.length≤arr.size/\∀(j:Nat) d v,cs[j]?=some d->arr[j]?=some v->Rel G w d v)
  {dd:D} {vv:Value} (hd0:Rel (G.addBox w.heap.size id) (w.alloc (.cells arr e)) dd vv) :
  Sim B (L.newBox t id cs dd) (G.addBox w.heap.size id) (a.put (some t) vv) (w.alloc (.cells arr e)):=by
 have hW:=h.W;have hmn:Mono G (G.addBox w.heap.size id) w (w.alloc (.cells arr e)):=by
  have:=aEB hW (.cells arr e) 0;exact⟨this.cell,this.lab⟩
 have hold:∀b,b<w.heap.size->(w.alloc (.cells arr e)).heap[b]?=w.heap[b]?:=λb hb=>Below.heap_alloc w _ b hb;have hlim:∀b,b<w.heap.size->(G.addBox w.heap.size id).lim b=G.lim b:=λb hb=>by simp only[Ghost.addBox,Ghost.grow];rw[if_neg (by omega)]
 have hβ:∀i g,i≠id->G.β i=some g->(G.addBox w.heap.size id).β i=some g:=λi g hne hg=>by simp only[Ghost.addBox];rw[if_neg hne];exact hg
 have rG:∀ {d v},id∉d.ids->Rel G w d v->Rel (G.addBox w.heap.size id) (w.alloc (.cells arr e)) d v:=λ{d v} hid hr =>
  hr.mono hmn (λi hi g hg=>hβ i g (λe=>hid (e ▸ hi)) hg) (λk _=>.inr ⟨rfl,λg e' z hk=>by
   obtain⟨_,_,⟨cur,hc,_⟩,_⟩:=hW.tau k g e' z hk;have hlt:=bX hc;exact⟨hlim g hlt,dP (hold g hlt)⟩⟩)
 have hbox:∀ {g cs},id∉D.idsL cs->dD G w g cs->dD (G.addBox w.heap.size id) (w.alloc (.cells arr e)) g cs:=λ{g cs} hid ⟨vs,e',e1,e2,e3⟩ =>
  ⟨vs,e',by rw[hold _ (bX e1)];exact e1,e2,λj d v hd hv=>rG (λhi=>hid (iF (zF hd) hi)) (e3 j d v hd hv)⟩
 refine⟨h.defers,by simpa[Act.put,LS.newBox,LS.forget] using h.size,λt' d hd=>?_,?_,h.fixed⟩
 ·simp only[LS.newBox,b7] at hd;by_cases e0:t=t'
  ·subst e0;simp only[if_true,Option.some.injEq] at hd;subst hd;exact⟨_,by simp[Act.put,h.size,ht],hd0⟩
  ·rw[if_neg e0] at hd;simp only[LS.forget] at hd;obtain⟨h1,h2⟩:=fX _ _ _ _ hd;obtain⟨v,h3,h4⟩:=h.env t' d h1;exact⟨v,by simp only[Act.put];rw[Array.getElem?_setIfInBounds_ne e0];exact h3,rG (v8 h2) h4⟩
 ·exact {
   boxes:=λi cs' hl=>by
    simp only[LS.newBox,b7] at hl;by_cases e0:id=i
    ·subst e0;simp only[if_true,Option.some.injEq] at hl;subst hl;refine⟨w.heap.size,by simp[Ghost.addBox],⟨arr,e,heap_alloc_new w _,hr.1,λj d v hd hv=>?_⟩,by simp[Ghost.addBox,Ghost.grow],.inl hW.sz⟩;exact rG (λhi=>hcs (iF (zF hd) hi)) (hr.2 j d v hd hv)
    ·rw[if_neg e0] at hl;simp only[LS.forget,fD,if_neg e0] at hl;obtain⟨h1,h2⟩:=fX _ _ _ _ hl;obtain⟨g,k1,k2,k3,k4⟩:=hW.boxes i cs' h1;exact⟨g,hβ i g (λe=>e0 e.symm) k1,hbox (jQ h2) k2,by rw[hlim g (hW.blt _ _ k1)];exact k3,k4⟩
   robs:=λi cs' hl=>by
    simp only[LS.newBox,LS.forget,fD] at hl;by_cases e0:id=i
    ·rw[if_pos e0] at hl;cases hl
    ·rw[if_neg e0] at hl;obtain⟨h1,h2⟩:=fX _ _ _ _ hl;obtain⟨g,k1,k2,k3,k4⟩:=hW.robs i cs' h1;exact⟨g,hβ i g (λe=>e0 e.symm) k1,hbox (jQ h2) k2,k3,k4⟩
   toks:=hW.toks
   tau:=λk g e' z hk=>by
    obtain⟨h1,h2,⟨cur,h3,h4⟩,h5⟩:=hW.tau k g e' z hk;refine⟨h1,h2,⟨cur,by rw[hold _ (bX h3)];exact h3,by rw[hlim _ (bX h3)];exact h4⟩,λi hi=>?_⟩;simp only[Ghost.addBox] at hi;split at hi
    ·have:=bX h3;have:=zA hi;omega
    ·exact h5 i hi
   tinj:=hW.tinj
   binj:=λi j g hi hj=>by
    simp only[Ghost.addBox] at hi hj;split at hi<;>split at hj
    ·omega
    ·have:=hW.blt _ _ hj;have:=zA hi;omega
    ·have:=hW.blt _ _ hi;have:=zA hj;omega
    ·exact hW.binj i j g hi hj
   blt:=λi g hi=>by
    simp only[Ghost.addBox] at hi;split at hi
    ·have:=Option.some.inj hi;simp;omega
    ·have:=hW.blt _ _ hi;simp;omega
   lablt:=λb hb=>by have:=hW.lablt b hb;simp;omega
   old:=λb hlt hab=>by
    have hs:=hW.sz;rw[hold b (by omega),hlim b (by omega)];exact hW.old b hlt hab
   olda:=λb hlt=>by
    have hs:=hW.sz;rw[hlim b (by omega)];refine⟨(hW.olda b hlt).1,λq v hq hc=>?_⟩;rw[bY (hold b (by omega))];exact(hW.olda b hlt).2 q v hq hc
   oldl:=hW.oldl
   tlab:=hW.tlab
   blab:=λi g hi=>by
    simp only[Ghost.addBox] at hi;split at hi
    ·obtain rfl:=zA hi;exact Classical.byContradiction λhne=>Nat.lt_irrefl _ (hW.lablt _ hne)
    ·exact hW.blab i g hi
   oldu:=hW.oldu
   labw:=λb hb hor=>by
    obtain⟨vs,e',h1⟩:=hW.labw b hb hor;exact⟨vs,e',by rw[hold b (hW.lablt b hb)];exact h1⟩
   ids:=λp hp=>hβ p.1 p.2 (λe=>hfix (e ▸ h.fixed p hp)) (hW.ids p hp)
   sz:=by have:=hW.sz;simp;omega
   os:=hW.os
   tape:=hW.tape
   out:=hW.out
   dr:=hW.dr}

theorem yQ{B}{L:LS}{G:Ghost}{a:Act}{w:World}(h:Sim B L G a w){t id:Nat}{cs:List D}{arr:Array Value}(e:TypeId)(ht:t<L.n)(hfix:id∉L.fix)(hcs:id∉D.idsL cs)(hr:sA G w cs arr)
  {dd:D} {vv:Value} (hd0:Rel (G.addBox w.heap.size id) (w.alloc (.cells arr e)) dd vv) :
  Sim B (L.newBox t id cs dd) (G.addBox w.heap.size id) (a.put (some t) vv) (w.alloc (.cells arr e)) :=
 aJI h e ht hfix hcs ⟨Nat.le_of_eq hr.1.symm,hr.2⟩ hd0

theorem aBZ{B}{L:LS}{G:Ghost}{a}{w:World}(h:Sim B L G a w){id off:Nat}{cs new:List D}{vl:List Value}(hl:look L.boxes id=some cs)(hoff:off+new.length≤cs.length)
  (hn:vl.length=new.length) (hr:∀(j:Nat) d v,new[j]?=some d->vl[j]?=some v->Rel G w d v) (h1:∀v∈vl,v.oneCell'=true) :
  ∃g w',G.β id=some g/\(∀P:Program,(storeCells ⟨g,off,none⟩ vl).run P w=.ok () w')/\Sim B {L with boxes:=eU L.boxes id (dF cs off new)} G a w':=by
 have hW:=h.W;obtain⟨g,k1,⟨vs,e,e1,e2,e3⟩,k3,k4⟩:=hW.boxes id cs hl;let vs':=(vs.toList.take (off+0)++vl++vs.toList.drop (off+0+vl.length)).toArray;have hg:=bX e1;have hsame:(w.setRow g vs').heap[g]?=some (.cells vs' e (0,0)):=setRow_heap w g vs vs' e (0,0) e1;have hother:∀b,b≠g->(w.setRow g vs').heap[b]?=w.heap[b]?:=λb hb=>setRow_other w g b vs' hb;have hmn:Mono G G w (w.setRow g vs'):=by
  refine⟨λb o v h1 h2=>⟨h1,?_⟩,λ_ _=>rfl⟩;have hb:b≠g:=λe=>by subst e;rw[k3] at h1;omega
  rw[bY (hother b hb)];exact h2
 have hτg:∀ {k g' e' z},G.τ k=some (some (g',e',z))->g'≠g:=λ{k g' e' z} hk e=>by
  subst e;exact(hW.tau k _ e' z hk).2.2.2 id k1
 have rG:∀ {d v},Rel G w d v->Rel G (w.setRow g vs') d v:=λhr =>
  hr.mono hmn (λ_ _ _ h=>h) (λk _=>.inr ⟨rfl,λg' e' z hk=>⟨rfl,dP (hother g' (hτg hk))⟩⟩)
 have hbox:∀ {g' cs},g'≠g->dD G w g' cs->dD G (w.setRow g vs') g' cs:=λ{g' cs} hne ⟨vs,e',e1,e2,e3⟩ =>
  ⟨vs,e',by rw[hother _ hne];exact e1,e2,λj d v hd hv=>rG (e3 j d v hd hv)⟩
 refine⟨g,w.setRow g vs',k1,λP=>?_,h.defers,h.size,λt d hd=>?_,?_,h.fixed⟩
 ·exact run_storeCells_at P g off e vl 0 vs w e1 (by omega) h1
 ·obtain⟨v,h1,h2⟩:=h.env t d hd;exact⟨v,h1,rG h2⟩
 ·have hsz:(w.setRow g vs').heap.size=w.heap.size:=by simp[World.setRow]
  exact {
   boxes:=λi cs' hl'=>by
    simp only[b7] at hl';by_cases e0:id=i
    ·subst e0;simp only[if_true,Option.some.injEq] at hl';subst hl';refine⟨g,k1,⟨vs',e,hsame,?_,λj d v hd hv=>?_⟩,k3,k4⟩
     ·rw[mX hoff];simp[vs'];omega
     ·rw[rS hoff] at hd;have hvg:vs'[j]?=if off≤j/\j<off+new.length then vl[j-off]? else vs.toList[j]?:=by
       have hlen:(vs.toList.take (off+0)).length=off:=by simp;omega
       simp only[vs',List.getElem?_toArray];by_cases c1:j<off
       ·rw[if_neg (by omega),List.append_assoc,zL (by omega),List.getElem?_take,if_pos (by omega)]
       ·by_cases c2:j<off+new.length
        ·rw[if_pos (by omega),List.append_assoc,zM (by omega),hlen,zL (by omega)]
        ·rw[if_neg (by omega),List.getElem?_append_right (by simp;omega),List.getElem?_drop];congr 1
         simp;omega
      rw[hvg] at hv;by_cases hc:off≤j/\j<off+new.length
      ·rw[if_pos hc] at hd hv;exact rG (hr _ d v hd hv)
      ·rw[if_neg hc] at hd hv;exact rG (e3 j d v hd (by simpa using hv))
    ·rw[if_neg e0] at hl';obtain⟨g',q1,q2,q3,q4⟩:=hW.boxes i cs' hl';exact⟨g',q1,hbox (λe=>e0 (by subst e;exact hW.binj _ _ _ k1 q1)) q2,q3,q4⟩
   robs:=λi cs' hl'=>by
    obtain⟨g',q1,q2,q3,q4⟩:=hW.robs i cs' hl';refine⟨g',q1,hbox (λe=>?_) q2,q3,q4⟩;subst e;rcases k4 with k4|k4
    ·omega
    ·exact q4 k4
   toks:=hW.toks
   tau:=λk g' e' z hk=>by
    obtain⟨q1,q2,⟨cur,q3,q4⟩,q5⟩:=hW.tau k g' e' z hk;exact⟨q1,q2,⟨cur,by rw[hother _ (hτg hk)];exact q3,q4⟩,q5⟩
   tinj:=hW.tinj
   binj:=hW.binj
   blt:=λi g' hi=>by rw[hsz];exact hW.blt i g' hi
   lablt:=λb hb=>by rw[hsz];exact hW.lablt b hb
   old:=λb hlt hab=>by
    have hb:b≠g:=λe=>by
     subst e;rcases k4 with k4|k4
     ·omega
     ·exact hab k4
    rw[hother b hb];exact hW.old b hlt hab
   olda:=λb hlt=>by
    obtain⟨q1,q2⟩:=hW.olda b hlt;refine⟨q1,λo v ho hc=>?_⟩;have hb:b≠g:=λe=>by subst e;rw[k3] at q1;omega
    rw[bY (hother b hb)];exact q2 o v ho hc
   oldl:=hW.oldl
   tlab:=hW.tlab
   blab:=hW.blab
   oldu:=hW.oldu
   labw:=λb hb hor=>by
    obtain⟨vs,e',h1⟩:=hW.labw b hb hor;refine⟨vs,e',?_⟩;rw[hother b (λe0=>hb (by rw[e0];exact hW.blab _ _ k1))];exact h1
   ids:=hW.ids
   sz:=by rw[hsz];exact hW.sz
   os:=hW.os
   tape:=hW.tape
   out:=hW.out
   dr:=hW.dr}

end Go.Lg
