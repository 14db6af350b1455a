/-
  Lg: LgOpen, LgRow, LgGrow, one behind the other.
-/
import Derived.Test.YtkfkdgginfpdnaaGreatDoorLgK3
import GoSem.ClaimChange
import Derived.ProofKit
import Derived.OpenShut
import Derived.JoinedCond
import Derived.Carry
import Derived.ChangeSame
import Derived.Test.YtkfkdgginfpdnaaGreatDoorLgK4
import Derived.Test.YtkfkdgginfpdnaaGreatDoorLgK2
import Derived.Laws.Append
/-
  Lg, part 24: an argument that reads as data, taken for a logical value.
-/
namespace Go.Lg
open Go Go.RowKit

def layB (tab:Nat→Option TyI):Nat→List (Nat×Nat)→Option Nat
 | o,[]=>some o
 | o,(off,t)::r=>if off=o then (match tab t with|some j=>layB tab (o+j.size) r|none=>none) else none
def clB (tab:Nat→Option TyI):Nat→Nat→Bool
 | 0,_=>false
 | m+1,t=>match tab t with
  | some i=>(match i.kind with
   | .int _|.bool|.string=>true
   | .slice e=>clB tab m e&&(match tab e with|some j=>decide (0<j.size)|none=>false)
   | .struct fs=>(layB tab 0 fs==some i.size)&&fs.all fun p=>clB tab m p.2
   | _=>false)
  | none=>false

def ofCells (i:TyI) (ds:List D):D:=match i.agg with
 | true=>.agg ds
 | false=>ds.headD default

inductive WC (S:Setup):Nat→List D→Prop
 | int {t k n} (ht:S.kd t=some (.int k)) (hn:(Lit.int k n).wf=true):WC S t [.int k n]
 | bool {t b} (ht:S.kd t=some .bool):WC S t [.bool b]
 | str {t s} (ht:S.kd t=some .string) (hn:s.size≤maxLen):WC S t [.str s]
 | sl {t e i} {dss:List (List D)} (ht:S.kd t=some (.slice e)) (hi:S.tab e=some i) (hn:dss.length≤maxLen) (hz:∀ds∈dss,ds.length=i.size) (h:∀ds∈dss,WC S e ds):WC S t [.sl .any (dss.map (ofCells i))]
 | st {t fs} {css:List (List D)} (ht:S.kd t=some (.struct fs)) (hl:css.length=fs.length) (h:∀(j:Nat) p cs,fs[j]?=some p→css[j]?=some cs→WC S p.2 cs):WC S t css.flatten

noncomputable def limOf (w:World) (b:Nat):Nat:=match w.heap[b]? with
 | some (.cells c _ _)=>c.size
 | _=>0
noncomputable def openG (w:World):Ghost:=⟨limOf w,fun _=>[],fun _=>none,fun _=>none⟩

theorem cell_lim {w:World} {b o:Nat} {v:Value} (h:w.cell? ⟨b,o,none⟩=some v):o<limOf w b:=by
 unfold World.cell? at h
 unfold limOf
 simp only at h ⊢
 cases hc:w.heap[b]? with
 | none=>rw[hc] at h;simp at h
 | some o' =>
  rw[hc] at h
  cases o' with
  | cells c e fr =>
   simp only at h ⊢
   exact(Array.getElem?_eq_some_iff.1 (by simpa using h)).1
  | _=>simp at h

theorem memOk_cell {d:D} (h:d.memOk=true):d.cells=[d]:=by cases d<;>first|rfl|(simp[D.memOk] at h)
theorem ofCells_cells {S:Setup} {e:Nat} {i:TyI} (hi:S.tab e=some i) {ds:List D} (hl:ds.length=i.size) (hk:∀d∈ds,d.memOk=true):(ofCells i ds).cells=ds:=by
 unfold ofCells
 cases ha:i.agg with
 | true=>rfl
 | false =>
  obtain⟨inf,_,_,_,z,_,_,h1⟩:=(S.ok e i hi).info
  rw[h1 ha] at hl
  match ds,hl with
  | [d],_=>exact memOk_cell (hk d (by simp))

theorem kd_of {S:Setup} {t:Nat} {i:TyI} (h:S.tab t=some i):S.kd t=some i.kind:=by simp[Setup.kd,h]

theorem mapM_len {α β:Type} {f:α→Option β}:∀ {l:List α} {r:List β},l.mapM f=some r→r.length=l.length
 | [],r,h=>by simp at h;subst h;rfl
 | x::l,r,h=>by
  rw[List.mapM_cons] at h
  cases hx:f x with
  | none=>simp[hx] at h
  | some y =>
   cases hr:l.mapM f with
   | none=>simp[hx,hr] at h
   | some ys =>
    simp[hx,hr] at h
    subst h
    simp[mapM_len hr]

structure Opened (S:Setup) (w:World) (t:Nat) (cs:List Value) (ds:List D):Prop where
 len:ds.length=cs.length
 size:∃i,S.tab t=some i∧cs.length=i.size
 rel:∀(j:Nat) d v,ds[j]?=some d→cs[j]?=some v→Rel (openG w) w d v
 ok:∀d∈ds,d.memOk=true
 wc:WC S t ds

theorem struct_open {S:Setup} {w:World} {cs:List Value}:∀ {fs:List (Nat×Nat)} {o z:Nat} {css:List (List D)},layB S.tab o fs=some z→z=cs.length→css.length=fs.length →
  (∀(j:Nat) p ds,fs[j]?=some p→css[j]?=some ds→∃i,S.tab p.2=some i∧Opened S w p.2 ((cs.drop p.1).take i.size) ds) →
  css.flatten.length+o=z∧(∀(j:Nat) d v,css.flatten[j]?=some d→cs[o+j]?=some v→Rel (openG w) w d v)∧∀d∈css.flatten,d.memOk=true
 | [],o,z,css,h,hz,hl,_=>by
  have:css=[]:=List.length_eq_zero_iff.1 hl
  subst this
  simp only[layB,Option.some.injEq] at h
  simp[h]
 | (off,t)::fs,o,z,css,h,hz,hl,hh=>by
  match css,hl with
  | ds::css,hl =>
   simp only[layB] at h
   split at h
   ·rename_i ho
    subst ho
    split at h
    ·rename_i j hj
     obtain⟨i,h1,hop⟩:=hh 0 (off,t) ds rfl rfl
     simp only at h1 hop
     rw[hj] at h1
     obtain rfl:=Option.some.inj h1
     obtain⟨k1,k2,k3⟩:=struct_open (S:=S) (w:=w) (cs:=cs) h hz (by simpa using hl) (fun j p ds h1 h2=>hh (j+1) p ds (by simpa using h1) (by simpa using h2))
     obtain⟨i',hi',hsz⟩:=hop.size
     rw[hj] at hi'
     obtain rfl:=Option.some.inj hi'
     have hlen:ds.length=j.size:=hop.len.trans hsz
     refine⟨by simp only[List.flatten_cons,List.length_append];omega,fun q d v hd hv=>?_,fun d hd=>?_⟩
     ·simp only[List.flatten_cons] at hd
      by_cases hq:q<ds.length
      ·rw[List.getElem?_append_left hq] at hd
       exact hop.rel q d v hd (by rw[List.getElem?_take,if_pos (by omega),List.getElem?_drop];exact hv)
      ·rw[List.getElem?_append_right (by omega)] at hd
       exact k2 (q-ds.length) d v hd (by rw[show off+j.size+(q-ds.length)=off+q by omega];exact hv)
     ·simp only[List.flatten_cons,List.mem_append] at hd
      rcases hd with hd|hd
      ·exact hop.ok d hd
      ·exact k3 d hd
    ·cases h
   ·cases h

theorem choose_list {α:Type} {P:Nat→α→Prop}:∀(n:Nat),(∀i<n,∃x,P i x)→∃l:List α,l.length=n∧∀(i:Nat) x,l[i]?=some x→P i x
 | 0,_=>⟨[],rfl,by simp⟩
 | n+1,h=>by
  obtain⟨l,hl,hP⟩:=choose_list n fun i hi=>h i (by omega)
  obtain⟨x,hx⟩:=h n (by omega)
  refine⟨l++[x],by simp[hl],fun i y hy=>?_⟩
  by_cases hi:i<l.length
  ·rw[List.getElem?_append_left hi] at hy;exact hP i y hy
  ·rw[List.getElem?_append_right (by omega)] at hy
   have:i-l.length=0:=by
    have:=(List.getElem?_eq_some_iff.1 hy).1
    simp at this
    omega
   rw[this] at hy
   obtain rfl:x=y:=by simpa using hy
   rw[show i=n by omega];exact hx

section inv
variable {H:Type} {enc:TypeId×Value→H} {P:Program} {w:World} {sp:Nat→Bool} {n t:Nat} {cs:List Value} {x:DataW H×List MemPlace}
theorem inv_int {k:IntKind} (hu:P.underlying t=some (.int k)) (h:DataW.trod enc P w 0 sp true (n+1) t cs=some x):∃a,cs=[.int k a]∧(Lit.int k a).wf=true:=by
 unfold DataW.trod at h
 rw[hu] at h
 rcases cs with _|⟨v,_|⟨v2,r⟩⟩
 ·simp at h
 ·cases v<;>simp at h
  obtain⟨⟨rfl,h2⟩,_⟩:=h
  exact⟨_,rfl,h2⟩
 ·simp at h
theorem inv_bool (hu:P.underlying t=some .bool) (h:DataW.trod enc P w 0 sp true (n+1) t cs=some x):∃b,cs=[.bool b]:=by
 unfold DataW.trod at h
 rw[hu] at h
 rcases cs with _|⟨v,_|⟨v2,r⟩⟩
 ·simp at h
 ·cases v<;>simp at h
  exact⟨_,rfl⟩
 ·simp at h
theorem inv_string (hu:P.underlying t=some .string) (h:DataW.trod enc P w 0 sp true (n+1) t cs=some x):∃s,cs=[.string s]∧s.size≤maxLen:=by
 unfold DataW.trod at h
 rw[hu] at h
 rcases cs with _|⟨v,_|⟨v2,r⟩⟩
 ·simp at h
 ·cases v<;>simp at h
  exact⟨_,rfl,h.1⟩
 ·simp at h
theorem inv_struct {fs:Array Field} (hu:P.underlying t=some (.struct fs)) (h:DataW.trod enc P w 0 sp true (n+1) t cs=some x):cs.length=P.cellsOf t∧∃xs,fs.toList.mapM (fun f=>DataW.trod enc P w 0 sp true n f.type ((cs.drop f.offset).take (P.cellsOf f.type)))=some xs:=by
 unfold DataW.trod at h
 rw[hu] at h
 simp only at h
 split at h
 ·rename_i hl
  refine⟨hl,?_⟩
  cases hm:fs.toList.mapM (fun f=>DataW.trod enc P w 0 sp true n f.type ((cs.drop f.offset).take (P.cellsOf f.type))) with
  | none=>rw[hm] at h;cases h
  | some xs=>exact⟨xs,rfl⟩
 ·cases h
theorem inv_slice {e:TypeId} (hu:P.underlying t=some (.slice e)) (h:DataW.trod enc P w 0 sp true (n+1) t cs=some x):cs=[.slice none 0 0]∨∃a len cap,cs=[.slice (some a) len cap]∧len≤cap∧cap≤maxLen ∧
  ∀i<len,∃vs y,w.cells? 0 (a.add (i*P.cellsOf e)) (P.cellsOf e)=some vs∧DataW.trod enc P w 0 sp true n e vs=some y:=by
 unfold DataW.trod at h
 rw[hu] at h
 rcases cs with _|⟨v,_|⟨v2,r⟩⟩
 ·simp at h
 ·cases v<;>try (simp at h;done)
  rename_i A len cap
  cases A with
  | none =>
   left
   split at h<;>simp_all
  | some a =>
   right
   refine⟨a,len,cap,rfl,?_⟩
   simp only at h
   split at h
   ·rename_i hh
    refine⟨hh.2.1,hh.2.2,fun i hi=>?_⟩
    cases hm:(List.range len).mapM fun i=>(w.cells? 0 (a.add (i*P.cellsOf e)) (P.cellsOf e)).bind (DataW.trod enc P w 0 sp true n e) with
    | none=>rw[hm] at h;cases h
    | some xs =>
     obtain⟨y,hy,_⟩:=mapM_get hm i i (by simp[hi])
     cases hv:w.cells? 0 (a.add (i*P.cellsOf e)) (P.cellsOf e) with
     | none=>rw[hv] at hy;cases hy
     | some vs=>rw[hv] at hy;exact⟨vs,y,rfl,hy⟩
   ·cases h
 ·simp at h
end inv

theorem addr_add_add (a:Addr) (m n:Nat):(a.add m).add n=a.add (m+n):=by
 unfold Addr.add
 by_cases hm:m=0<;>by_cases hn:n=0<;>simp[hm,hn,Nat.add_assoc]
theorem trod_open {S:Setup} {H:Type} {enc:TypeId×Value→H} {w:World} {sp:Nat→Bool}:∀(n m:Nat) {t:Nat} {cs:List Value} {x:DataW H×List MemPlace},
  DataW.trod enc S.P w 0 sp true n t cs=some x→clB S.tab m t=true→∃ds,Opened S w t cs ds
 | 0,_,_,_,_,h,_=>by simp[DataW.trod] at h
 | _+1,0,_,_,_,_,h=>by simp[clB] at h
 | n+1,m+1,t,cs,x,h,hc=>by
  unfold clB at hc
  cases ht:S.tab t with
  | none=>rw[ht] at hc;cases hc
  | some i =>
   rw[ht] at hc
   simp only at hc
   have hkd:=kd_of ht
   have hok:=S.ok t i ht
   obtain⟨inf,hinf,hsz,_,z0,_,_,h1⟩:=hok.info
   have hcells:S.P.cellsOf t=i.size:=by simp[Program.cellsOf,hinf,hsz]
   have hdesc:=hok.desc
   cases hk:i.kind with
   | int k =>
    rw[hk] at hdesc hkd
    obtain⟨a,rfl,hwf⟩:=inv_int hdesc h
    refine⟨[.int k a],rfl,⟨i,ht,by rw[h1 (by simp[TyI.agg,hk])];rfl⟩,fun j d v hd hv=>?_,by simp[D.memOk],.int hkd hwf⟩
    match j with
    | 0=>simp at hd hv;subst hd;subst hv;exact .int
   | bool =>
    rw[hk] at hdesc hkd
    obtain⟨b,rfl⟩:=inv_bool hdesc h
    refine⟨[.bool b],rfl,⟨i,ht,by rw[h1 (by simp[TyI.agg,hk])];rfl⟩,fun j d v hd hv=>?_,by simp[D.memOk],.bool hkd⟩
    match j with
    | 0=>simp at hd hv;subst hd;subst hv;exact .bool
   | string =>
    rw[hk] at hdesc hkd
    obtain⟨s,rfl,hs⟩:=inv_string hdesc h
    refine⟨[.str s],rfl,⟨i,ht,by rw[h1 (by simp[TyI.agg,hk])];rfl⟩,fun j d v hd hv=>?_,by simp[D.memOk],.str hkd hs⟩
    match j with
    | 0=>simp at hd hv;subst hd;subst hv;exact .str
   | slice e =>
    rw[hk] at hdesc hkd hc
    simp only[Bool.and_eq_true] at hc
    cases hte:S.tab e with
    | none=>rw[hte] at hc;exact absurd hc.2 (by decide)
    | some j =>
    rw[hte] at hc
    have hz:0<j.size:=by simpa using hc.2
    have hce:S.P.cellsOf e=j.size:=by
     obtain⟨inf,e1,e2,_⟩:=(S.ok _ _ hte).info
     simp[Program.cellsOf,e1,e2]
    have hone:i.size=1:=h1 (by simp[TyI.agg,hk])
    rcases inv_slice hdesc h with rfl|⟨a,len,cap,rfl,hlc,hcm,hel⟩
    ·refine⟨[.sl .any []],rfl,⟨i,ht,by rw[hone];rfl⟩,fun q d v hd hv=>?_,by simp[D.memOk],.sl (dss:=[]) hkd hte (Nat.zero_le _) (fun _ h=>by cases h) (fun _ h=>by cases h)⟩
     match q with
     | 0 =>
      simp at hd hv;subst hd;subst hv
      exact .sl (b:=0) (o:=0) (s:=0) rfl (Nat.le_refl _) (Nat.zero_le _) trivial (.inl rfl) (fun _ h=>by cases h) (fun _ h=>by cases h) (fun _ _ h=>by simp[flat] at h) (fun _ _ _ h=>by simp[flat] at h)
    ·have hex:∀q<len,∃ds,∃vs,S.P.cellsOf e=j.size∧w.cells? 0 (a.add (q*j.size)) j.size=some vs∧Opened S w e vs ds:=fun q hq=>by
      obtain⟨vs,y,h2,h3⟩:=hel q hq
      rw[hce] at h2
      obtain⟨ds,hds⟩:=trod_open n m h3 hc.1
      exact⟨ds,vs,hce,h2,hds⟩
     obtain⟨dss,hdl,hdss⟩:=choose_list len hex
     have hcell:∀(q:Nat) ds,dss[q]?=some ds→ds.length=j.size∧(∀d∈ds,d.memOk=true)∧WC S e ds∧∀(r:Nat) d,ds[r]?=some d→∃v,w.cell? ((a.add (q*j.size)).add r)=some v∧Rel (openG w) w d v:=fun q ds hd=>by
      obtain⟨vs,_,h2,hds⟩:=hdss q ds hd
      obtain⟨j',hj',hs⟩:=hds.size
      rw[hte] at hj'
      obtain rfl:=Option.some.inj hj'
      refine⟨hds.len.trans hs,hds.ok,hds.wc,fun r d hr=>?_⟩
      have hrl:r<vs.length:=by rw[←hds.len];exact(List.getElem?_eq_some_iff.1 hr).1
      unfold World.cells? at h2
      rw[if_pos (Nat.zero_le _)] at h2
      have hvl:vs.length=j.size:=by rw[mapM_len h2];simp
      have hrr:(List.range j.size)[r]?=some r:=List.getElem?_range (by omega)
      obtain⟨v,hv1,hv2⟩:=mapM_get h2 r r hrr
      exact⟨v,hv1,hds.rel r d v hr hv2⟩
     have hcl:∀(q:Nat) ds,dss[q]?=some ds→(ofCells j ds).cells=ds:=fun q ds hd=>ofCells_cells hte (hcell q ds hd).1 (hcell q ds hd).2.1
     have hu:∀x∈dss.map (ofCells j),x.cells.length=j.size:=fun x hx=>by
      obtain⟨ds,hds,rfl⟩:=List.mem_map.1 hx
      obtain⟨q,hq⟩:=List.getElem?_of_mem hds
      rw[hcl q ds hq];exact(hcell q ds hq).1
     have hat:∀(q:Nat) d,(flat (dss.map (ofCells j)))[q]?=some d→d.memOk=true∧∃v,w.cell? (a.add q)=some v∧Rel (openG w) w d v:=fun q d hd=>by
      have hlt:q<len*j.size:=by
       have:=(List.getElem?_eq_some_iff.1 hd).1
       rw[flat_length hu] at this
       simpa[hdl] using this
      have hi:q / j.size<len:=(Nat.div_lt_iff_lt_mul hz).2 hlt
      have hr:q%j.size<j.size:=Nat.mod_lt _ hz
      obtain⟨ds,hds⟩:∃ds,dss[q / j.size]?=some ds:=⟨_,List.getElem?_eq_getElem (by omega)⟩
      obtain⟨c1,c2,_,c3⟩:=hcell _ ds hds
      obtain⟨d',hd'⟩:∃d',ds[q%j.size]?=some d':=⟨_,List.getElem?_eq_getElem (by omega)⟩
      have hfl:=flat_at hu (i:=q / j.size) (by simp;omega) (j:=q%j.size) (d:=d') (by
       rw[List.getElem_map,show dss[q / j.size]=ds from (List.getElem?_eq_some_iff.1 hds).2,hcl _ ds hds];exact hd')
      rw[show q / j.size*j.size+q%j.size=q by rw[Nat.mul_comm];exact Nat.div_add_mod _ _] at hfl
      obtain rfl:d=d':=by rw[hd] at hfl;exact Option.some.inj hfl
      refine⟨c2 d (List.mem_of_getElem? hd'),?_⟩
      obtain⟨v,hv1,hv2⟩:=c3 _ d hd'
      refine⟨v,?_,hv2⟩
      have:(a.add (q / j.size*j.size)).add (q%j.size)=a.add q:=by
       rw[addr_add_add]
       rw[show q / j.size*j.size+q%j.size=q by rw[Nat.mul_comm];exact Nat.div_add_mod _ _]
      rw[←this];exact hv1
     have hA:dss.map (ofCells j)=[]∨a=⟨a.block,a.off,none⟩:=by
      by_cases h0:len=0
      ·left
       have:dss=[]:=List.length_eq_zero_iff.1 (by omega)
       simp[this]
      ·right
       obtain⟨d,hd⟩:∃d,(flat (dss.map (ofCells j)))[0]?=some d:=⟨_,List.getElem?_eq_getElem (by rw[flat_length hu];simp only[List.length_map,hdl];exact Nat.mul_pos (by omega) hz)⟩
       obtain⟨_,v,hv,_⟩:=hat 0 d hd
       obtain⟨b,o,sp⟩:=a
       cases sp with
       | none=>rfl
       | some q =>
        exfalso
        unfold World.cell? at hv
        simp only[Addr.add] at hv
        split at hv<;>simp at hv
     refine⟨[.sl .any (dss.map (ofCells j))],rfl,⟨i,ht,by rw[hone];rfl⟩,fun q d v hd hv=>?_,by simp[D.memOk],.sl hkd hte (by omega) (fun ds hds=>?_) (fun ds hds=>?_)⟩
     ·match q with
      | 0 =>
       simp at hd hv;subst hd;subst hv
       have key:∀(q:Nat) d,(flat (dss.map (ofCells j)))[q]?=some d→∃v,w.cell? ⟨a.block,a.off+q,none⟩=some v∧Rel (openG w) w d v:=fun q d hd=>by
        obtain⟨_,v,hv,hr⟩:=hat q d hd
        rcases hA with h0|h0
        ·rw[h0] at hd;simp[flat] at hd
        ·refine⟨v,?_,hr⟩
         rw[h0,add_mk] at hv
         exact hv
       refine .sl (b:=a.block) (o:=a.off) (s:=j.size) (by simp[hdl]) hlc hcm trivial (hA.imp id fun e=>by rw[←e]) hu (fun d hd=>?_) (fun q d hd=>?_) (fun q d v hd hv=>?_)
       ·obtain⟨q,hq⟩:=List.getElem?_of_mem hd
        exact(hat q d hq).1
       ·obtain⟨v,hv,_⟩:=key q d hd
        exact⟨cell_lim hv,v,hv⟩
       ·obtain⟨v',hv',hr⟩:=key q d hd
        rw[hv] at hv'
        obtain rfl:=Option.some.inj hv'
        exact hr
     ·obtain⟨q,hq⟩:=List.getElem?_of_mem hds
      exact(hcell q ds hq).1
     ·obtain⟨q,hq⟩:=List.getElem?_of_mem hds
      exact(hcell q ds hq).2.2.1
   | struct fs =>
    rw[hk] at hdesc hkd hc
    obtain⟨fields,hu,hfs,_⟩:=hdesc
    obtain⟨hl,xs,hxs⟩:=inv_struct hu h
    simp only[Bool.and_eq_true,beq_iff_eq,List.all_eq_true] at hc
    have hex:∀j<fs.length,∃ds,∃p,fs[j]?=some p∧∃q,S.tab p.2=some q∧Opened S w p.2 ((cs.drop p.1).take q.size) ds:=fun j hj=>by
     have hfl:fs.length=fields.toList.length:=by rw[←hfs];simp
     obtain⟨f,hf⟩:∃f,fields.toList[j]?=some f:=⟨_,List.getElem?_eq_getElem (by omega)⟩
     obtain⟨y,hy,_⟩:=mapM_get hxs j f hf
     have hp:fs[j]?=some (f.offset,f.type):=by rw[←hfs,List.getElem?_map,hf];rfl
     obtain⟨ds,hds⟩:=trod_open n m hy (hc.2 _ (List.mem_of_getElem? hp))
     obtain⟨q,hq,hqs⟩:=hds.size
     refine⟨ds,_,hp,q,hq,?_⟩
     have:S.P.cellsOf f.type=q.size:=by
      obtain⟨inf,e1,e2,_⟩:=(S.ok _ _ hq).info
      simp[Program.cellsOf,e1,e2]
     rw[←this];exact hds
    obtain⟨css,hcl,hcs⟩:=choose_list fs.length hex
    have hcs':∀(j:Nat) p ds,fs[j]?=some p→css[j]?=some ds→∃q,S.tab p.2=some q∧Opened S w p.2 ((cs.drop p.1).take q.size) ds:=fun j p ds hp hd=>by
     obtain⟨p',hp',q,hq,ho⟩:=hcs j ds hd
     rw[hp] at hp'
     obtain rfl:=Option.some.inj hp'
     exact⟨q,hq,ho⟩
    obtain⟨k1,k2,k3⟩:=struct_open (S:=S) (w:=w) (cs:=cs) hc.1 (by rw[hl,hcells]) hcl hcs'
    refine⟨css.flatten,by omega,⟨i,ht,by rw[hl,hcells]⟩,fun j d v hd hv=>k2 j d v hd (by rw[Nat.zero_add];exact hv),k3,.st hkd hcl fun j p ds hp hd=>?_⟩
    obtain⟨q,_,ho⟩:=hcs' j p ds hp hd
    exact ho.wc
   | array k e=>rw[hk] at hc;cases hc
   | other=>rw[hk] at hc;cases hc
end Go.Lg
/-
  Lg, part 25: a contract, called at what a row hands over.
-/
namespace Go.Lg
open Go Go.RowKit

theorem open_simW (w:World):SimW (baseOf (openG w) w [] []) [] [] [] (openG w) w where
 boxes:=fun _ _ h=>by cases h
 robs:=fun _ _ h=>by cases h
 toks:=fun _ h=>by cases h
 tau:=fun _ _ _ _ h=>by cases h
 tinj:=fun _ _ _ _ _ _ _ h=>by cases h
 binj:=fun _ _ _ h=>by cases h
 blt:=fun _ _ h=>by cases h
 lablt:=fun _ h=>absurd rfl h
 old:=fun _ _ _=>⟨rfl,rfl⟩
 olda:=fun _ _=>⟨Nat.le_refl _,fun _ _ _ h=>h⟩
 oldl:=fun _ _ h=>absurd rfl h
 tlab:=fun _ _ _ _ h=>by cases h
 blab:=fun _ _ h=>by cases h
 oldu:=fun _ _ _ _=>rfl
 labw:=fun _ h=>absurd rfl h
 ids:=fun _ h=>by cases h
 sz:=Nat.le_refl _
 os:=rfl
 tape:=rfl
 out:=rfl
 dr:=by first|exact Nat.le_refl _|exact Nat.le_succ _|exact .inr (Nat.le_refl _)|exact .inr (Nat.le_succ _)

theorem value_open {S:Setup} {H:Type} {enc:TypeId×Value→H} {W:World} {sp:Nat→Bool} {base m t:Nat} {v:Value} {d0:DataW H} {p:List MemPlace} (hval:Value.okWide S.P W .any base t v) (hT:DataW.Trod enc S.P W 0 sp true t v d0 p) (hc:clB S.tab m t=true) :
  ∃i ds,S.tab t=some i∧ds.length=i.size∧WC S t ds∧Rel (openG W) W (ofCells i ds) v:=by
 obtain⟨n,hn⟩:=hT
 obtain⟨ds,hds⟩:=trod_open n m hn hc
 obtain⟨i,hi,hsz⟩:=hds.size
 refine⟨i,ds,hi,hds.len.trans hsz,hds.wc,?_⟩
 have hrel:=hds.rel
 have hdesc:=(S.ok t i hi).desc
 have one:(∀cs,v≠.agg cs)→i.agg=false→Rel (openG W) W (ofCells i ds) v:=fun hv ha=>by
  have hcell:v.cells.toList=[v]:=by cases v<;>first|rfl|exact absurd rfl (hv _)
  have hl:=hds.len
  rw[hcell] at hl hrel
  match ds,hl with
  | [d],_ =>
   have:=hrel 0 d v rfl rfl
   simpa[ofCells,ha] using this
 cases hk:i.kind with
 | struct fs =>
  rw[hk] at hdesc
  obtain⟨fields,hu,_⟩:=hdesc
  unfold Value.okWide at hval
  rw[hu] at hval
  obtain⟨cs,rfl,_⟩:=hval
  have ha:i.agg=true:=by simp[TyI.agg,hk]
  simp only[ofCells,ha]
  exact .agg hds.len.symm hrel
 | array k e =>
  cases m with
  | zero=>simp[clB] at hc
  | succ m=>simp[clB,hi,hk] at hc
 | other =>
  cases m with
  | zero=>simp[clB] at hc
  | succ m=>simp[clB,hi,hk] at hc
 | int k =>
  rw[hk] at hdesc
  refine one (fun cs e=>?_) (by simp[TyI.agg,hk])
  subst e
  simp[Value.okWide,hdesc,Cell.okWide,Cell.ok] at hval
 | bool =>
  rw[hk] at hdesc
  refine one (fun cs e=>?_) (by simp[TyI.agg,hk])
  subst e
  simp[Value.okWide,hdesc,Cell.okWide,Cell.ok] at hval
 | string =>
  rw[hk] at hdesc
  refine one (fun cs e=>?_) (by simp[TyI.agg,hk])
  subst e
  simp[Value.okWide,hdesc,Cell.okWide,Cell.ok] at hval
 | slice e =>
  rw[hk] at hdesc
  refine one (fun cs e=>?_) (by simp[TyI.agg,hk])
  subst e
  simp[Value.okWide,hdesc,Cell.okWide,Cell.ok] at hval

section
variable {H:Type} {enc:TypeId×Value→H}
theorem args_open {S:Setup} {W:World} {sp:Nat→Bool} {base m:Nat}:∀ {ts:List TypeId} {vs:List Value} {ds:List (DataW H)} {p:List MemPlace},
  DataW.TrodAll enc S.P W 0 sp true ts vs ds p→(∀(j:Nat) t v,ts[j]?=some t→vs[j]?=some v→Value.okWide S.P W .any base t v)→(∀t∈ts,clB S.tab m t=true) →
  vs.length=ts.length∧ds.length=ts.length∧∃args:List D,args.length=ts.length∧(∀(j:Nat) t d,ts[j]?=some t→args[j]?=some d→∃i cs,S.tab t=some i∧cs.length=i.size∧WC S t cs∧d=ofCells i cs) ∧
   ∀(j:Nat) d v,args[j]?=some d→vs[j]?=some v→Rel (openG W) W d v
 | [],[],[],_,_,_,_=>⟨rfl,rfl,[],rfl,by simp,by simp⟩
 | t::ts,v::vs,d::ds,_,h,hv,hc=>by
  obtain⟨p,q,h1,h2,_⟩:=h
  obtain⟨i,cs,e1,e2,e3,e4⟩:=value_open (hv 0 t v rfl rfl) h1 (hc t (by simp))
  obtain⟨k1,k0,args,k2,k3,k4⟩:=args_open h2 (fun j t v ht hv'=>hv (j+1) t v (by simpa using ht) (by simpa using hv')) (fun t ht=>hc t (List.mem_cons_of_mem _ ht))
  refine⟨by simp[k1],by simp[k0],ofCells i cs::args,by simp[k2],fun j t' d' ht hd=>?_,fun j d' v' hd hv'=>?_⟩
  ·cases j with
   | zero=>simp at ht hd;subst ht;subst hd;exact⟨i,cs,e1,e2,e3,rfl⟩
   | succ j=>exact k3 j t' d' (by simpa using ht) (by simpa using hd)
  ·cases j with
   | zero=>simp at hd hv';subst hd;subst hv';exact e4
   | succ j=>exact k4 j d' v' (by simpa using hd) (by simpa using hv')
 | [],_::_,_,_,h,_,_=>by simp[DataW.TrodAll] at h
 | [],[],_::_,_,h,_,_=>by simp[DataW.TrodAll] at h
 | _::_,[],_,_,h,_,_=>by simp[DataW.TrodAll] at h
 | _::_,_::_,[],_,h,_,_=>by simp[DataW.TrodAll] at h

theorem args_stay {P:Program} (hl:laidOutB P=true) {W W':World} (hb:Below W.heap.size W W') (sp:Nat→Bool):∀ {ts:List TypeId} {vs:List Value} {ds:List (DataW H)} {p:List MemPlace},DataW.TrodAll enc P W 0 (fun _=>true) true ts vs ds p →
  (∀t∈ts,P.readableRec t=true∧t<P.types.size)→(∀x∈p,x.block<W.heap.size∧sp x.block=true)→DataW.TrodAll enc P W' 0 sp true ts vs ds p
 | [],[],[],_,h,_,_=>h
 | t::ts,v::vs,d::ds,_,h,hr,hlt=>by
  obtain⟨p,q,h1,h2,rfl⟩:=h
  exact⟨p,q,WideElems.Trod_stays hl (hr t (by simp)).1 (hr t (by simp)).2 h1 (fun x hx=>hb.same (hlt x (by simp[hx])).1) (fun x hx=>(hlt x (by simp[hx])).2),
   args_stay hl hb sp h2 (fun t ht=>hr t (List.mem_cons_of_mem _ ht)) (fun x hx=>hlt x (by simp[hx])),rfl⟩
 | [],_::_,_,_,h,_,_=>by simp[DataW.TrodAll] at h
 | [],[],_::_,_,h,_,_=>by simp[DataW.TrodAll] at h
 | _::_,[],_,_,h,_,_=>by simp[DataW.TrodAll] at h
 | _::_,_::_,[],_,h,_,_=>by simp[DataW.TrodAll] at h

theorem trod_app {P:Program} {w:World} {base:Nat} {sp:Nat→Bool} {hd:Bool}:∀ {ts:List TypeId} {vs:List Value} {ds:List (DataW H)} {p:List MemPlace} {ts':List TypeId} {vs':List Value} {ds':List (DataW H)} {p':List MemPlace},
  DataW.TrodAll enc P w base sp hd ts vs ds p→DataW.TrodAll enc P w base sp hd ts' vs' ds' p'→DataW.TrodAll enc P w base sp hd (ts++ts') (vs++vs') (ds++ds') (p++p')
 | [],[],[],_,_,_,_,_,h,h'=>by
  have:_=[]:=h
  subst this
  simpa using h'
 | t::ts,v::vs,d::ds,_,_,_,_,_,h,h'=>by
  obtain⟨p,q,h1,h2,rfl⟩:=h
  exact⟨p,q++_,h1,trod_app h2 h',by simp⟩
 | [],_::_,_,_,_,_,_,_,h,_=>by simp[DataW.TrodAll] at h
 | [],[],_::_,_,_,_,_,_,h,_=>by simp[DataW.TrodAll] at h
 | _::_,[],_,_,_,_,_,_,h,_=>by simp[DataW.TrodAll] at h
 | _::_,_::_,[],_,_,_,_,_,h,_=>by simp[DataW.TrodAll] at h

end

section types
variable {S:Setup}
def In64 (n:Int):Prop:=-9223372036854775808≤n∧n≤9223372036854775807
theorem wc_int {t:Nat} {cs:List D} {k:IntKind} (hk:S.kd t=some (.int k)) (h:WC S t cs):∃n,cs=[.int k n]∧(Lit.int k n).wf=true:=by
 cases h with
 | int ht hn=>rw[hk] at ht;cases ht;exact⟨_,rfl,hn⟩
 | bool ht=>rw[hk] at ht;cases ht
 | str ht=>rw[hk] at ht;cases ht
 | sl ht=>rw[hk] at ht;cases ht
 | st ht=>rw[hk] at ht;cases ht
theorem wc_sl {t e:Nat} {i:TyI} {cs:List D} (hk:S.kd t=some (.slice e)) (hi:S.tab e=some i) (h:WC S t cs):∃dss:List (List D),cs=[.sl .any (dss.map (ofCells i))]∧dss.length≤maxLen∧∀ds∈dss,ds.length=i.size∧WC S e ds:=by
 cases h with
 | int ht hn=>rw[hk] at ht;cases ht
 | bool ht=>rw[hk] at ht;cases ht
 | str ht=>rw[hk] at ht;cases ht
 | sl ht hi' hn hz hh =>
  rw[hk] at ht;cases ht
  rw[hi] at hi';cases hi'
  exact⟨_,rfl,hn,fun ds hd=>⟨hz ds hd,hh ds hd⟩⟩
 | st ht=>rw[hk] at ht;cases ht
theorem wc_st {t:Nat} {fs:List (Nat×TypeId)} {cs:List D} (hk:S.kd t=some (.struct fs)) (h:WC S t cs):∃css:List (List D),cs=css.flatten∧css.length=fs.length∧∀(j:Nat) p cs,fs[j]?=some p→css[j]?=some cs→WC S p.2 cs:=by
 cases h with
 | int ht hn=>rw[hk] at ht;cases ht
 | bool ht=>rw[hk] at ht;cases ht
 | str ht=>rw[hk] at ht;cases ht
 | sl ht=>rw[hk] at ht;cases ht
 | st ht hl hh=>rw[hk] at ht;cases ht;exact⟨_,rfl,hl,hh⟩
theorem in64_wf {n:Int} (h:(Lit.int .i64 n).wf=true):In64 n:=by
 simpa[In64,Lit.wf,IntKind.min,IntKind.max,IntKind.signed,IntKind.bits] using h
theorem wc_list {α:Type} {t e:Nat} {i:TyI} {cs:List D} (hk:S.kd t=some (.slice e)) (hi:S.tab e=some i) (h:WC S t cs) (g:α→D) (ok:α→Prop) (he:∀ds,ds.length=i.size→WC S e ds→∃a,ofCells i ds=g a∧ok a) :
  ∃xs:List α,cs=[.sl .any (xs.map g)]∧∀x∈xs,ok x:=by
 obtain⟨dss,rfl,hlen,hd⟩:=wc_sl hk hi h
 have:∃xs:List α,dss.map (ofCells i)=xs.map g∧∀x∈xs,ok x:=by
  clear h hlen
  induction dss with
  | nil=>exact⟨[],rfl,by simp⟩
  | cons ds r ih =>
   obtain⟨a,ha,hok⟩:=he ds (hd ds (by simp)).1 (hd ds (by simp)).2
   obtain⟨xs,hx,hxs⟩:=ih fun ds hds=>hd ds (by simp[hds])
   refine⟨a::xs,by simp[ha,hx],fun x hx'=>?_⟩
   rcases List.mem_cons.1 hx' with rfl|h
   ·exact hok
   ·exact hxs x h
 obtain⟨xs,hx,hxs⟩:=this
 exact⟨xs,by rw[hx],hxs⟩
theorem wc_ints {t e b:Nat} {z:List ZK} {cs:List D} (hk:S.kd t=some (.slice e)) (hi:S.tab e=some ⟨.int .i64,b,z⟩) (h:WC S t cs):∃xs:List Int,cs=[.sl .any (xs.map (.int .i64))]∧∀x∈xs,In64 x:=by
 refine wc_list hk hi h (.int .i64) In64 fun ds _ hw=>?_
 obtain⟨n,rfl,hn⟩:=wc_int (kd_of hi) hw
 exact⟨n,rfl,in64_wf hn⟩
end types
end Go.Lg
/-
  Lg, part 31: room for an empty list (package slices' Grow of a nil slice).
-/
namespace Go.Lg
open Go Go.RowKit

theorem run_append_zeros {P:Program} (w:World) (t u ty e:TypeId) (k:IntKind) (i:TypeInfo) (z:Value) (ht:P.underlying t=some (.slice e)) (hu:P.underlying u=some (.int k)) (hi:P.info? e=some i) (hz:i.zero=some z) (n:Nat)
  (h0:0<n) (h63:(n:Int)≤9223372036854775807) (h48:n*i.bytes≤281474976710656) (hs:0<i.size) :
  (Builtin.append_ #[t,u] ty #[.slice none 0 0,.int .i64 n]).run P w =
   .ok (.slice (some ⟨w.heap.size,0,none⟩) n (grownCap w n 0 e)) (w.drew.alloc (.cells (Builtin.zeroCells z.cells n++Builtin.zeroCells z.cells (grownCap w n 0 e-n)) e)):=by
 have hn:n≠0:=by omega
 have h63':¬(9223372036854775807<(n:Int)):=by omega
 have h48':¬(281474976710656<Builtin.nextslicecap n 0*i.bytes):=by rw[nextslicecap_zero h0];omega
 have hw:IntKind.i64.wrap (n:Int)=n:=wrap64 (by omega) h63
 have hl:¬((n:Int)<0):=by omega
 have hb:¬(281474976710656<(n:Int)*(i.bytes:Int)):=by
  have:((n*i.bytes:Nat):Int)≤281474976710656:=by omega
  rw[Int.natCast_mul] at this
  omega
 have hz0:¬(n*i.size=0):=by
  have:=Nat.mul_pos h0 hs
  omega
 simp[Builtin.append_,run_underlying ht,run_underlying hu,sizeOf,typeInfo,zeroValue,hi,hz,Builtin.lenOf,hn,h63',h48',Question.forced,run_firstCells_none,newRow,grownCap,hw,hl,hb,hz0,asInt,asIntOf,Sem.run_bind,Sem.run_pure]
theorem run_cap_slice {P:Program} (w:World) {t ty e:TypeId} (ht:P.underlying t=some (.slice e)) (a:Option Addr) (n c:Nat) :
  (Builtin.cap_ #[t] ty #[.slice a n c]).run P w=.ok (.int .i64 c) w:=by
 simp[Builtin.cap_,run_underlying ht,goInt]
theorem run_slice_zero {P:Program} (w:World) {t e:TypeId} {i:TypeInfo} (ht:P.underlying t=some (.slice e)) (hi:P.info? e=some i) (a:Option Addr) (n c:Nat) :
  (Instr.slice t (.slice a n c) none (some (.int .i64 0)) none).run P w=.ok (.slice a 0 c) w:=by
 cases a<;>simp[Instr.slice,Instr.sliceBounds,Instr.sliceBound,run_underlying ht,sizeOf,typeInfo,hi,asIntOf,Addr.add]
section
variable {S:Setup} {B:Base} {ops:Array Oper} {l:List Oper} {L:LS} {K:LS→Prop}
theorem nil_shape {G:Ghost} {w:World} {v:Value} (h:Rel G w (.sl .nil []) v):v=.slice none 0 0:=by
 cases h with
 | @sl _ _ A n c b o s hn hcc hm ht' hA hu hk hst hr =>
  obtain⟨h1,h2,h3⟩:=ht'
  simp_all
theorem int_shape {G:Ghost} {w:World} {k:IntKind} {n:Int} {v:Value} (h:Rel G w (.int k n) v):v=.int k n:=by cases h;rfl
theorem raw_shape {G:Ghost} {w:World} {u v:Value} (h:Rel G w (.raw u) v):v=u:=by cases h;rfl
theorem LopsW.capNil {t s:Nat} {T ty e:TypeId} {pos:String} {aft:Array Edge} (ht:evalO L (.tmp s)=some (.sl .nil [])) (hk:S.kd T=some (.slice e)) (hd:t<L.n) (h:LopsW S B ops l (L.put t (.int .i64 0)) K) :
  LopsW S B ops (⟨some t,.call ⟨.builtin .cap,#[.tmp s],#[T]⟩,ty,pos,aft,none⟩::l) L K:=by
 intro G a w hs Q hQ
 refine wpList_step fun N hN=>?_
 rw[if_pos (guardY_sound (S:=S) (b:=true) rfl hs rfl)]
 have hv:=nil_shape (eval_sound hs ht)
 have hrun:(execOp a.eval ⟨some t,.call ⟨.builtin .cap,#[.tmp s],#[T]⟩,ty,pos,aft,none⟩).run S.P w=.ok (.value (.int .i64 0)) w:=by
  simp[execOp,resolve,invoke,builtin,hv,run_cap_slice w (kd_slice hk)]
 unfold Oper.wp
 rw[hrun]
 exact hN _ _ (h G _ w (hs.put hd .int) Q hQ)
theorem LopsW.sliceNil {t x y:Nat} {T ty e:TypeId} {pos:String} {aft:Array Edge} (ht:evalO L (.tmp x)=some (.sl .nil [])) (hy:evalO L (.tmp y)=some (.int .i64 0)) (hk:S.kd T=some (.slice e)) {j:_} (hj:S.tab e=some j) (hd:t<L.n) (h:LopsW S B ops l (L.put t (.sl .nil [])) K) :
  LopsW S B ops (⟨some t,.slice T (.tmp x) none (some (.tmp y)) none,ty,pos,aft,none⟩::l) L K:=by
 intro G a w hs Q hQ
 refine wpList_step fun N hN=>?_
 rw[if_pos (guardY_sound (S:=S) (b:=true) rfl hs rfl)]
 have hr:=eval_sound hs ht
 have hv:=nil_shape hr
 have hn:a.eval (.tmp y)=.int .i64 0:=int_shape (eval_sound hs hy)
 obtain⟨i,hi,_⟩:=(S.ok e j hj).info
 have hrun:(execOp a.eval ⟨some t,.slice T (.tmp x) none (some (.tmp y)) none,ty,pos,aft,none⟩).run S.P w=.ok (.value (.slice none 0 0)) w:=by
  simp[execOp,hv,hn,Instr.sliceAt,run_underlying (kd_slice hk),run_slice_zero w (kd_slice hk) hi]
 unfold Oper.wp
 rw[hrun]
 exact hN _ _ (h G _ w (hs.put hd (hv ▸ hr)) Q hQ)
theorem growNil_sound {G:Ghost} {a:Act} {w:World} (hs:Sim B L G a w) {tok:Nat} (hc:L.clean (fun k=>k==tok)=true) {t u ty e:TypeId} {k:IntKind} {i:TyI} (hk:S.kd t=some (.slice e)) (hu:S.P.underlying u=some (.int k)) (hi:S.tab e=some i) (hz:0<i.size) (n:Nat)
  (h0:0<n) (hb:n*i.bytes≤140737488355328) (h63:n≤140737488355328) :
  ∃A cap G' w',(Builtin.append_ #[t,u] ty #[.slice none 0 0,.int .i64 n]).run S.P w=.ok (.slice A n cap) w'∧Sim B {L with toks:=tok::L.toks} G' a w'∧Rel G' w' (.sl (.own tok e i.size) []) (.slice A 0 cap):=by
 obtain⟨inf,i1,i2,i3,z,i4,i5,_⟩:=(S.ok e i hi).info
 have hzs:z.cells.size=inf.size:=by rw[i5,i2];simp[TyI.size]
 have hcap:=grownCap_ge w n 0 e
 obtain⟨G',q1,q2⟩:=grow_case hs hc .nil hz (xs:=[]) (by simp) (by simp[flat]) (Builtin.zeroCells z.cells n++Builtin.zeroCells z.cells (grownCap w n 0 e-n)) (grownCap w n 0 e) (Nat.zero_le _)
  (grownCap_le_maxLen w n 0 e (by simp only[maxLen];omega)) (by
   simp only[Array.size_append,size_zeroCells,hzs,i2,←Nat.add_mul]
   congr 1
   omega) (fun j d u hd hu=>by simp[flat] at hd)
 exact⟨_,_,G',_,run_append_zeros w t u ty e k inf z (kd_slice hk) hu i1 i4 n h0 (by omega) (by rw[i3];omega) (by rw[i2];exact hz),q1,q2⟩
theorem LopsW.grow {x y z0 u t1 t2 t3:Nat} {T I R ty ty1 ty2 ty3 e:TypeId} {k:IntKind} {i:TyI} {n:Nat} {tok:Nat} {p0 p1 p2 p3:String} {a0 a1 a2 a3:Array Edge}
  (hx:evalO L (.tmp x)=some (.sl .nil [])) (hy:evalO L (.tmp y)=some (.int .i64 n)) (hz0:evalO L (.tmp z0)=some (.sl .nil [])) (hk:S.kd T=some (.slice e)) (hI:S.P.underlying I=some (.int k)) (hi:S.tab e=some i) (hsz:0<i.size) {e2:TypeId} (hR:S.P.underlying R=some (.slice e2))
  (h0:0<n) (hb:n*i.bytes≤140737488355328) (h63:n≤140737488355328) (hc:L.clean (fun k=>k==tok)=true)
  (hne:u≠z0∧u≠t1∧u≠t2∧t1≠t2) (hd:u<L.n∧t1<L.n∧t2<L.n∧t3<L.n)
  (h:∀v,LopsW S B ops l ((((({L with toks:=tok::L.toks}.put u (.raw v)).put t1 (.sl .nil [])).put t2 (.int .i64 0))).put t3 (.sl (.own tok e i.size) [])) K) :
  LopsW S B ops (⟨some u,.call ⟨.builtin .append,#[.tmp x,.tmp y],#[T,I]⟩,ty,p0,a0,none⟩::⟨some t1,.move (.tmp z0),ty1,p1,a1,none⟩::⟨some t2,.call ⟨.builtin .len,#[.tmp t1],#[R]⟩,ty2,p2,a2,none⟩::⟨some t3,.slice T (.tmp u) none (some (.tmp t2)) none,ty3,p3,a3,none⟩::l) L K:=by
 intro G a w hs Q hQ
 refine wpList_step fun N hN=>?_
 rw[if_pos (guardY_sound (S:=S) (b:=true) rfl hs rfl)]
 have hv:=nil_shape (eval_sound hs hx)
 have hn:=int_shape (eval_sound hs hy)
 obtain⟨A,cap,G',w',hrun,hs',hr'⟩:=growNil_sound (ty:=ty) hs hc hk hI hi hsz n h0 hb h63
 have hrun:(execOp a.eval ⟨some u,.call ⟨.builtin .append,#[.tmp x,.tmp y],#[T,I]⟩,ty,p0,a0,none⟩).run S.P w=.ok (.value (.slice A n cap)) w':=by
  simp[execOp,resolve,invoke,builtin,hv,hn,hrun]
 unfold Oper.wp
 rw[hrun]
 refine hN _ _ ?_
 have hs1:=hs'.put (t:=u) hd.1 (d:=.raw (.slice A n cap)) (.raw (by intro cs h;cases h))
 have hz1:evalO ({L with toks:=tok::L.toks}.put u (.raw (.slice A n cap))) (.tmp z0)=some (.sl .nil []):=by
  simpa[evalO,LS.get,LS.put,look_setA,hne.1] using hz0
 have hr1:=eval_sound hs1 hz1
 have hv1:=nil_shape hr1
 rw[hv1] at hr1
 refine wpList_step fun N2 hN2=>?_
 rw[if_pos (guardY_sound (S:=S) (b:=true) rfl hs1 rfl)]
 have hrun2:(execOp (a.put (some u) (.slice A n cap)).eval ⟨some t1,.move (.tmp z0),ty1,p1,a1,none⟩).run S.P w'=.ok (.value (.slice none 0 0)) w':=by
  simp[execOp,hv1]
 unfold Oper.wp
 rw[hrun2]
 refine hN2 _ _ ?_
 have hs2:=hs1.put (t:=t1) hd.2.1 hr1
 refine wpList_step fun N3 hN3=>?_
 rw[if_pos (guardY_sound (S:=S) (b:=true) rfl hs2 rfl)]
 have hv2:=nil_shape (eval_sound hs2 (x:=.tmp t1) (d:=.sl .nil []) (by simp[evalO,LS.get,LS.put,look_setA]))
 have hrun3:(execOp ((a.put (some u) (.slice A n cap)).put (some t1) (.slice none 0 0)).eval ⟨some t2,.call ⟨.builtin .len,#[.tmp t1],#[R]⟩,ty2,p2,a2,none⟩).run S.P w'=.ok (.value (.int .i64 0)) w':=by
  simp[execOp,resolve,invoke,builtin,hv2,Builtin.len_,run_underlying hR,goInt]
 unfold Oper.wp
 rw[hrun3]
 refine hN3 _ _ ?_
 have hs3:=hs2.put (t:=t2) (d:=.int .i64 0) hd.2.2.1 .int
 refine wpList_step fun N4 hN4=>?_
 rw[if_pos (guardY_sound (S:=S) (b:=true) rfl hs3 rfl)]
 have hv3:=eval_sound hs3 (x:=.tmp u) (d:=.raw (.slice A n cap)) (by simp[evalO,LS.get,LS.put,look_setA,Ne.symm hne.2.1,Ne.symm hne.2.2.1])
 have hv4:=int_shape (eval_sound hs3 (x:=.tmp t2) (d:=.int .i64 0) (by simp[evalO,LS.get,LS.put,look_setA]))
 obtain⟨inf,hinf,_⟩:=(S.ok e i hi).info
 have hrun4:(execOp (((a.put (some u) (.slice A n cap)).put (some t1) (.slice none 0 0)).put (some t2) (.int .i64 0)).eval ⟨some t3,.slice T (.tmp u) none (some (.tmp t2)) none,ty3,p3,a3,none⟩).run S.P w'=.ok (.value (.slice A 0 cap)) w':=by
  have hv3':(((a.put (some u) (.slice A n cap)).put (some t1) (.slice none 0 0)).put (some t2) (.int .i64 0)).eval (.tmp u)=.slice A n cap:=raw_shape hv3
  simp[execOp,hv3',hv4,Instr.sliceAt,run_underlying (kd_slice hk),run_slice_zero w' (kd_slice hk) hinf]
 unfold Oper.wp
 rw[hrun4]
 exact hN4 _ _ (h _ G' _ w' (hs3.put hd.2.2.2 hr') Q hQ)
end
end Go.Lg
