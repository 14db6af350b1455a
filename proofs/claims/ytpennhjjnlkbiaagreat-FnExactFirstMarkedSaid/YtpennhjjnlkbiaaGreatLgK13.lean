/-
  Lg: LgOld, LgStoreO, LgXL, LgFrzB, one behind the other.
-/
import Derived.Test.YtpennhjjnlkbiaaGreatLgK11
/-
  Lg: a function that is handed no memory: all that it is handed may be taken as labelled, so that its own new lists are seen to lie elsewhere.
-/
namespace Go.Lg
open Go Go.RowKit
mutual
def D.lb (l:List Nat):D→D
 | .sl .any xs=>.sl (.lab l) (D.lbL l xs)
 | .agg cs=>.agg (D.lbL l cs)
 | d=>d
def D.lbL (l:List Nat):List D→List D
 | []=>[]
 | d::ds=>d.lb l::D.lbL l ds
end
mutual
def D.okLb:D→Bool
 | .int ..|.bool _|.str _=>true
 | .sl .any xs=>D.okLbL xs
 | .agg cs=>!cs.isEmpty&&D.okLbL cs
 | _=>false
def D.okLbL:List D→Bool
 | []=>true
 | d::ds=>d.okLb&&D.okLbL ds
end
mutual
def D.noLb:D→Bool
 | .int ..|.bool _|.str _|.raw _=>true
 | .sl (.lab _) _=>false
 | .sl _ xs=>D.noLbL xs
 | .agg cs|.tup cs=>D.noLbL cs
 | _=>false
def D.noLbL:List D→Bool
 | []=>true
 | d::ds=>d.noLb&&D.noLbL ds
end
theorem lbL_map (l:List Nat) (ds:List D):D.lbL l ds=ds.map (D.lb l):=by
 induction ds with
 | nil=>rfl
 | cons d r ih=>simp[D.lbL,ih]
theorem lbL_mapf {α:Type} (l:List Nat) (f:α→D) (xs:List α):D.lbL l (xs.map f)=xs.map fun x=>(f x).lb l:=by rw[lbL_map,List.map_map];rfl
theorem lbL_ints (l:List Nat) (k:IntKind) (xs:List Int):D.lbL l (xs.map (.int k))=xs.map (.int k):=by rw[lbL_mapf];rfl
theorem okLbL_mem {ds:List D} (h:D.okLbL ds=true) {d:D} (hd:d∈ds):d.okLb=true:=by
 induction ds with
 | nil=>cases hd
 | cons x r ih =>
  simp only[D.okLbL,Bool.and_eq_true] at h
  rcases List.mem_cons.1 hd with rfl|hd
  ·exact h.1
  ·exact ih h.2 hd
theorem okLbL_map {α:Type} {f:α→D} (h:∀x,(f x).okLb=true):∀xs:List α,D.okLbL (xs.map f)=true
 | []=>rfl
 | x::r=>by simp only[List.map_cons,D.okLbL,h x,okLbL_map h r,Bool.and_self]
theorem noLbL_mem {ds:List D} (h:D.noLbL ds=true) {d:D} (hd:d∈ds):d.noLb=true:=by
 induction ds with
 | nil=>cases hd
 | cons x r ih =>
  simp only[D.noLbL,Bool.and_eq_true] at h
  rcases List.mem_cons.1 hd with rfl|hd
  ·exact h.1
  ·exact ih h.2 hd
theorem noLbL_map {α:Type} {f:α→D} (h:∀x,(f x).noLb=true):∀xs:List α,D.noLbL (xs.map f)=true
 | []=>rfl
 | x::r=>by simp only[List.map_cons,D.noLbL,h x,noLbL_map h r,Bool.and_self]
theorem lb_cells (l:List Nat) (d:D):(d.lb l).cells=d.cells.map (D.lb l):=by
 cases d with
 | agg cs=>simp[D.lb,D.cells,lbL_map]
 | sl tk xs=>cases tk<;>simp[D.lb,D.cells]
 | _=>simp[D.lb,D.cells]
theorem lb_flat (l:List Nat) (xs:List D):flat (D.lbL l xs)=(flat xs).map (D.lb l):=by
 induction xs with
 | nil=>rfl
 | cons d r ih=>simp[flat,D.lbL,lb_cells] at ih ⊢;exact ih
theorem lb_memOk (l:List Nat) {d:D} (h:d.memOk=true):(d.lb l).memOk=true:=by
 cases d with
 | sl tk xs=>cases tk<;>first|rfl|(simp[D.memOk] at h)
 | _=>exact h
theorem okLb_cells {x:D} (h:x.okLb=true):x.cells≠[]∧∀d∈x.cells,d.okLb=true:=by
 cases x with
 | agg cs =>
  simp only[D.okLb,Bool.and_eq_true,Bool.not_eq_true',List.isEmpty_eq_false_iff] at h
  exact⟨h.1,fun d hd=>okLbL_mem h.2 hd⟩
 | _=>exact⟨by simp[D.cells],fun d hd=>by rw[show d=_ from List.mem_singleton.1 hd];exact h⟩
theorem okLb_flat {xs:List D} (h:D.okLbL xs=true):∀d∈flat xs,d.okLb=true:=fun d hd=>by
 obtain⟨x,hx,hd⟩:=List.mem_flatMap.1 hd
 exact(okLb_cells (okLbL_mem h hx)).2 d hd
theorem noLb_cells {x:D} (h:x.noLb=true):∀d∈x.cells,d.noLb=true:=by
 cases x with
 | agg cs=>exact fun d hd=>noLbL_mem (ds:=cs) (by simpa[D.noLb] using h) hd
 | _=>intro d hd;rw[show d=_ from List.mem_singleton.1 hd];exact h
theorem noLb_flat {xs:List D} (h:D.noLbL xs=true):∀d∈flat xs,d.noLb=true:=fun d hd=>by
 obtain⟨x,hx,hd⟩:=List.mem_flatMap.1 hd
 exact noLb_cells (noLbL_mem h hx) d hd
theorem lb_rel {l:List Nat} (hl:l≠[]) {G G':Ghost} {w:World} (hlim:G'.lim=G.lim) (hlab:∀b,b<w.heap.size→G'.lab b=l) {d:D} {v:Value} (h:Rel G w d v):d.okLb=true→Rel G' w (d.lb l) v:=by
 have hj:∀ {ds:List D} {j:Nat} {d:D},(D.lbL l ds)[j]?=some d→∃d0,ds[j]?=some d0∧d=d0.lb l:=fun {ds j d} h=>by
  rw[lbL_map,List.getElem?_map] at h
  obtain⟨d0,h1,h2⟩:=Option.map_eq_some_iff.1 h
  exact⟨d0,h1,h2.symm⟩
 induction h with
 | int=>exact fun _=>.int
 | bool=>exact fun _=>.bool
 | str=>exact fun _=>.str
 | agg hlen hr ih =>
  intro h
  simp only[D.okLb,Bool.and_eq_true] at h
  refine .agg (by rw[lbL_map,List.length_map];exact hlen) fun j d v h1 hv=>?_
  obtain⟨d0,h2,rfl⟩:=hj h1
  exact ih j d0 v h2 hv (okLbL_mem h.2 (List.mem_of_getElem? h2))
 | @sl tk0 xs A n c b o s hn hc hm ht hA hu hk hst hr ih =>
  intro h
  cases tk0 with
  | any =>
   have hP:D.okLbL xs=true:=by simpa[D.okLb] using h
   have hnil:xs=[]→D.lbL l xs=[]:=fun e=>by rw[e];rfl
   have hlen:(D.lbL l xs).length=xs.length:=by rw[lbL_map,List.length_map]
   refine .sl (b:=b) (o:=o) (s:=s) (hn.trans hlen.symm) hc hm ?_ (hA.imp hnil id) (fun x hx=>?_) (fun d hd=>?_) (fun j d h1=>?_) (fun j d v h1 hv=>?_)
   ·rcases hA with hA|hA
    ·exact .inl (hnil hA)
    ·cases hx:xs with
     | nil=>exact .inl (by rfl)
     | cons x r =>
      refine .inr ⟨b,o,hA,hlab b ?_,hl⟩
      have hxx:=okLb_cells (okLbL_mem hP (show x∈xs by rw[hx];exact List.mem_cons_self))
      obtain⟨c0,hc0⟩:∃c0,(flat xs)[0]?=some c0:=by
       rw[hx]
       simp only[flat,List.flatMap_cons]
       cases hxc:x.cells with
       | nil=>exact absurd hxc hxx.1
       | cons c0 r0=>exact⟨c0,by simp⟩
      obtain⟨_,v0,hv0⟩:=hst 0 c0 hc0
      exact cell_lt hv0
   ·rw[lbL_map] at hx
    obtain⟨x0,h1,rfl⟩:=List.mem_map.1 hx
    rw[lb_cells,List.length_map];exact hu x0 h1
   ·rw[lb_flat] at hd
    obtain⟨d0,h1,rfl⟩:=List.mem_map.1 hd
    exact lb_memOk l (hk d0 h1)
   ·rw[lb_flat,List.getElem?_map] at h1
    obtain⟨d0,h2,rfl⟩:=Option.map_eq_some_iff.1 h1
    rw[hlim];exact hst j d0 h2
   ·rw[lb_flat,List.getElem?_map] at h1
    obtain⟨d0,h2,rfl⟩:=Option.map_eq_some_iff.1 h1
    exact ih j d0 v h2 hv (okLb_flat hP d0 (List.mem_of_getElem? h2))
  | _=>simp[D.okLb] at h
 | _=>intro h;simp[D.okLb] at h
theorem noLb_rel {G G':Ghost} {w:World} (hlim:G'.lim=G.lim) (hτ:G'.τ=G.τ) {d:D} {v:Value} (h:Rel G w d v):d.noLb=true→Rel G' w d v:=by
 induction h with
 | int=>exact fun _=>.int
 | bool=>exact fun _=>.bool
 | str=>exact fun _=>.str
 | raw h=>exact fun _=>.raw h
 | agg hlen hr ih=>exact fun h=>.agg hlen fun j d v hj hv=>ih j d v hj hv (noLbL_mem (by simpa[D.noLb] using h) (List.mem_of_getElem? hj))
 | tup hlen hr ih=>exact fun h=>.tup hlen fun j d v hj hv=>ih j d v hj hv (noLbL_mem (by simpa[D.noLb] using h) (List.mem_of_getElem? hj))
 | @sl tk0 xs A n c b o s hn hc hm ht hA hu hk hst hr ih =>
  intro h
  have key:D.noLbL xs=true→TkOk G' w tk0 xs A n c→Rel G' w (.sl tk0 xs) (.slice A n c):=fun hP ht' =>
   .sl (b:=b) (o:=o) hn hc hm ht' hA hu hk (fun j d hj=>by rw[hlim];exact hst j d hj) fun j d v hj hv=>ih j d v hj hv (noLb_flat hP d (List.mem_of_getElem? hj))
  cases tk0 with
  | lab l=>simp[D.noLb] at h
  | own k e z=>exact key (by simpa[D.noLb] using h) (by simp only[TkOk] at ht ⊢;rw[hτ,hlim];exact ht)
  | que k e=>exact key (by simpa[D.noLb] using h) (by simp only[TkOk] at ht ⊢;rw[hτ,hlim];exact ht)
  | any=>exact key (by simpa[D.noLb] using h) ht
  | nil=>exact key (by simpa[D.noLb] using h) ht
  | nl=>exact key (by simpa[D.noLb] using h) ht
  | nn=>exact key (by simpa[D.noLb] using h) ht
  | full=>exact key (by simpa[D.noLb] using h) ht
 | _=>intro h;simp[D.noLb] at h
theorem fc_old {S:Setup} {f:FuncId} {args:List D} {d:D} {tk':List Nat} (l:List Nat) (hl:l≠[]) (hok:D.okLbL args=true) (hd:d.noLb=true) (h:FC S f [] [] [] (D.lbL l args) d [] tk'):FC S f [] [] [] args d [] tk':=by
 refine⟨h.1,fun w G vals hs=>?_⟩
 have hW:=hs.W
 let G0:Ghost:={lim:=G.lim,lab:=fun b=>if b<w.heap.size then l else [],β:=fun _=>none,τ:=fun _=>none}
 have hlab0:∀b,b<w.heap.size→G0.lab b=l:=fun b hb=>by simp[G0,hb]
 have hno:∀(G1:Ghost) b,¬(baseOf G1 w [] []).ab b:=fun G1 b=>by
  rintro (⟨p,hp,_⟩|⟨k,hk,_⟩)
  ·cases hp
  ·cases hk
 have hlen:(D.lbL l args).length=args.length:=by rw[lbL_map,List.length_map]
 have h0:Sim (baseOf G0 w [] []) ⟨(D.lbL l args).length,enumD 0 (D.lbL l args),[],[],[],[]⟩ G0 ⟨vals,[]⟩ w:=by
  refine⟨rfl,by rw[hlen];exact hs.size,fun t d' hd'=>?_,?_,fun p hp=>by cases hp⟩
  ·rw[look_enumD] at hd'
   simp only[Nat.zero_le,if_true,Nat.sub_zero,lbL_map,List.getElem?_map] at hd'
   obtain⟨d0,h1,rfl⟩:=Option.map_eq_some_iff.1 hd'
   obtain⟨v,h2,h3⟩:=hs.env t d0 (by simp only[look_enumD,Nat.zero_le,if_true,Nat.sub_zero];exact h1)
   exact⟨v,h2,lb_rel hl (G:=G) (G':=G0) rfl hlab0 h3 (okLbL_mem hok (List.mem_of_getElem? h1))⟩
  ·exact {
    boxes:=fun id cs hl=>by cases hl
    robs:=fun id cs hl=>by cases hl
    toks:=fun k hk=>by cases hk
    tau:=fun k g e z hk=>by cases hk
    tinj:=fun k k' g e z e' z' hk=>by cases hk
    binj:=fun i j g hi=>by cases hi
    blt:=fun i g hi=>by cases hi
    lablt:=fun b hb=>by
     simp only[G0] at hb
     split at hb
     ·assumption
     ·exact absurd rfl hb
    old:=fun _ _ _=>⟨rfl,rfl⟩
    olda:=fun _ _=>⟨Nat.le_refl _,fun _ _ _ h=>h⟩
    oldl:=fun _ _ _=>rfl
    tlab:=fun k g e z hk=>by cases hk
    blab:=fun i g hi=>by cases hi
    oldu:=fun _ _ _ h=>h
    labw:=fun b hb hor=>by
     rcases hor with hor|hor
     ·simp only[G0] at hb
      split at hb
      ·rename_i hlt;exact absurd hlt (Nat.not_lt.2 hor)
      ·exact absurd rfl hb
     ·exact absurd hor (hno _ b)
    ids:=fun p hp=>by cases hp
    sz:=Nat.le_refl _
    os:=rfl
    tape:=rfl
    out:=rfl
    dr:=Nat.le_refl _}
 refine(h.2 w G0 vals h0).mono ?_
 rintro e w' ⟨v,G',rfl,hend⟩
 have hE:=hend.W
 let G2:Ghost:={lim:=G'.lim,lab:=fun b=>if b<w.heap.size then G.lab b else G'.lab b,β:=G'.β,τ:=G'.τ}
 have hl2:∀b,¬b<w.heap.size→G2.lab b=G'.lab b:=fun b hb=>by simp[G2,hb]
 have hl1:∀b,b<w.heap.size→G2.lab b=G.lab b:=fun b hb=>by simp[G2,hb]
 have hold:∀b,b<w.heap.size→G'.lab b=l:=fun b hb=>by
  have e0:=hlab0 b hb
  exact(hE.oldl b hb (show G0.lab b≠[] by rw[e0];exact hl)).trans e0
 refine⟨v,G2,rfl,hend.defers,hend.size,fun t d' hd'=>?_,?_,fun p hp=>by cases hp⟩
 ·obtain⟨v',h1,h2⟩:=hend.env t d' hd'
  simp only[look] at hd'
  split at hd'
  ·obtain rfl:=Option.some.inj hd'
   exact⟨v',h1,noLb_rel (G:=G') (G':=G2) rfl rfl h2 hd⟩
  ·cases hd'
 ·exact {
   boxes:=fun id cs hl=>by cases hl
   robs:=fun id cs hl=>by cases hl
   toks:=hE.toks
   tau:=fun k g e z hk=>by
    obtain⟨h1,h2⟩:=hE.tau k g e z hk
    exact⟨.inl (h1.resolve_right (hno _ g)),h2⟩
   tinj:=hE.tinj
   binj:=hE.binj
   blt:=hE.blt
   lablt:=fun b hb=>by
    by_cases hlt:b<w.heap.size
    ·exact Nat.lt_of_lt_of_le hlt hE.sz
    ·rw[hl2 b hlt] at hb;exact hE.lablt b hb
   old:=fun b hlt _=>hE.old b hlt (hno _ b)
   olda:=hE.olda
   oldl:=fun b hlt _=>hl1 b hlt
   tlab:=fun k g e z hk=>by
    have h1:=hE.tlab k g e z hk
    by_cases hlt:g<w.heap.size
    ·rw[hold g hlt] at h1;exact absurd h1 hl
    ·rw[hl2 g hlt];exact h1
   blab:=fun i g hi=>by
    have h1:=hE.blab i g hi
    by_cases hlt:g<w.heap.size
    ·rw[hold g hlt] at h1;exact absurd h1 hl
    ·rw[hl2 g hlt];exact h1
   oldu:=fun b hlt _ hb=>by rw[hl1 b hlt];exact hb
   labw:=fun b hb hor=>by
    rcases hor with hor|hor
    ·rw[hl2 b (Nat.not_lt.2 hor)] at hb
     exact hE.labw b hb (.inl hor)
    ·exact absurd hor (hno _ b)
   ids:=fun p hp=>by cases hp
   sz:=hE.sz
   os:=hE.os
   tape:=hE.tape
   out:=hE.out
   dr:=hE.dr}
end Go.Lg
/-
  Lg: a store into an own list of numbers, of which the token stays: what is kept of the state must be seen not to read that list.
-/
namespace Go.Lg
open Go Go.RowKit
def StO (k:Nat) (e:TypeId) (tk:List Nat) (ys zs:List Int) (d d':D):Prop :=
 (d.safeI k tk=true∧d'=d)∨(d=.sl (.own k e 1) (ys.map (.int .i64))∧d'=.sl (.own k e 1) (zs.map (.int .i64)))
theorem storeO_sound {B:Base} {L:LS} {G:Ghost} {a:Act} {w:World} (hs:Sim B L G a w) (hB:∀b,¬B.ab b) {k:Nat} {e:TypeId} (hk:k∈L.toks) {ys:List Int} {A:Option Addr} {n c:Nat} (hv:Rel G w (.sl (.own k e 1) (ys.map (.int .i64))) (.slice A n c)) {j:Nat} (hj:j<ys.length) :
  ∃g,A=some ⟨g,0,none⟩∧n=ys.length∧w.cell? ⟨g,j,none⟩=some (.int .i64 (ys.getD j default))∧∀m,∃w',(∀P:Program,(storeCells ⟨g,j,none⟩ [.int .i64 m]).run P w=.ok () w') ∧
   SimW B [] [] L.toks G w' ∧
   (∀d d' u,StO k e L.toks ys (ys.set j m) d d'→Rel G w d u→Rel G w' d' u)∧∀b',b'≠g→w'.heap[b']?=w.heap[b']?:=by
 have hW:=hs.W
 obtain⟨x,hx⟩:=hW.toks k hk
 have hne':ys.map (D.int .i64)≠[]:=by rintro h;rw[List.map_eq_nil_iff.1 h] at hj;cases hj
 cases hv with
 | @sl _ _ _ _ _ b o s hn hc hm ht hA hu hmem hst hr =>
 have hA':=hA.resolve_left hne'
 subst hA'
 simp only[TkOk,hx] at ht
 match x,hx,ht with
 | none,_,ht=>exact absurd (List.length_eq_zero_iff.1 (hn.symm.trans ht.1)) hne'
 | some (g,e2,z2),hx,ht =>
 obtain⟨⟨rfl,rfl⟩,h2,h3,h4,h5⟩:=ht
 simp only[Option.some.injEq,Addr.mk.injEq,and_true] at h2
 obtain⟨rfl,rfl⟩:=h2
 obtain⟨t1,t2,⟨cur,t3,t4⟩,t5⟩:=hW.tau k b e2 1 hx
 have hg:=heap_lt t3
 have hnew:B.w.heap.size≤b:=t1.resolve_right (hB b)
 have hfl:flat (ys.map (D.int .i64))=ys.map (.int .i64):=flat_ints ys
 have hnl:n=ys.length:=by simpa using hn
 have hlimb:G.lim b=ys.length:=by omega
 have hcell:∀i,w.cell? ⟨b,i,none⟩=cur[i]?:=fun i=>by simp[World.cell?,t3]
 have hval:∀i,(hi:i<ys.length)→cur[i]?=some (.int .i64 ys[i]):=fun i hi=>by
  have hlt:i<cur.size:=by omega
  have h0:(flat (ys.map (D.int .i64)))[i]?=some (.int .i64 ys[i]):=by rw[hfl];simp[hi]
  have:=hr i _ cur[i] h0 (by rw[Nat.zero_add,hcell];simp[hlt])
  rw[Array.getElem?_eq_getElem hlt]
  generalize cur[i]=u at this
  cases this;rfl
 refine⟨b,rfl,hnl,?_,fun m=>?_⟩
 ·rw[hcell,hval j hj]
  simp[List.getD,hj]
 have hsl:∀o v,o<G.lim b→w.cell? ⟨b,o,none⟩=some v→∃m,v=.int .i64 m:=fun o v ho hv=>by
  rw[hcell,hval o (by omega)] at hv
  exact⟨_,(Option.some.inj hv).symm⟩
 have hide:∀ {d v},d.safeI k L.toks=true→Rel G w d v→Rel (G.hide b) w d v:=fun {d v} hd hr=>safeI_hide hW.toks (fun k' e z h=>hW.tinj k' k b e z e2 1 h hx) (hW.tlab k b e2 1 hx) hsl hr hd
 let vs':=(cur.toList.take (j+0)++[Value.int .i64 m]++cur.toList.drop (j+0+1)).toArray
 have hsame:(w.setRow b vs').heap[b]?=some (.cells vs' e2 (0,0)):=setRow_heap w b cur vs' e2 (0,0) t3
 have hother:∀b',b'≠b→(w.setRow b vs').heap[b']?=w.heap[b']?:=fun b' hb=>setRow_other w b b' vs' hb
 have hsize:vs'.size=cur.size:=by simp[vs'];omega
 have hcell':∀i,(w.setRow b vs').cell? ⟨b,i,none⟩=if i=j then some (.int .i64 m) else cur[i]?:=fun i=>by
  have:(w.setRow b vs').cell? ⟨b,i,none⟩=vs'[i]?:=by simp[World.cell?,hsame]
  rw[this]
  simp only[vs',List.getElem?_toArray]
  have hjc:j<cur.size:=by omega
  rcases Nat.lt_trichotomy i j with h|h|h
  ·rw[if_neg (by omega),List.append_assoc,List.getElem?_append_left (by simp;omega),List.getElem?_take,if_pos (by omega)];simp
  ·subst h
   rw[if_pos rfl,List.append_assoc,List.getElem?_append_right (by simp;omega)]
   simp[Nat.min_eq_left (Nat.le_of_lt hjc)]
  ·rw[if_neg (by omega),List.getElem?_append_right (by simp;omega)]
   simp[Nat.min_eq_left (Nat.le_of_lt hjc)]
   congr 1;omega
 have hshape:(w.setRow b vs').shape? b=w.shape? b:=by
  unfold World.shape?
  rw[hsame,t3]
  simp[hsize]
 have stay:∀ {d v},Rel (G.hide b) w d v→Rel (G.hide b) (w.setRow b vs') d v:=fun {d v} h=>by
  refine h.mono ⟨fun b' o v h1 h2=>⟨h1,?_⟩,fun _ _=>rfl⟩ (fun _ _ _ h=>h) (fun k' _=>?_)
  ·have hne:b'≠b:=fun e=>by subst e;simp[Ghost.hide] at h1
   rw[cell_of_heap (hother b' hne)];exact h2
  ·refine .inr ⟨rfl,fun g' e' z' _=>⟨rfl,?_⟩⟩
   by_cases e:g'=b
   ·subst e;exact hshape
   ·exact shape_of_heap (hother g' e)
 have hback:∀ {d v},d.safeI k L.toks=true→Rel (G.hide b) (w.setRow b vs') d v→Rel G (w.setRow b vs') d v:=fun {d v} hsf h=>by
  refine h.mono (show Mono (G.hide b) G (w.setRow b vs') (w.setRow b vs') from⟨fun b' o v h1 h2=>⟨?_,h2⟩,fun _ _=>rfl⟩) (fun _ _ _ h=>h) (fun k' hk'=>?_)
  ·simp only[Ghost.hide] at h1
   split at h1
   ·omega
   ·exact h1
  ·refine .inr ⟨rfl,fun g' e' z' hg=>⟨?_,rfl⟩⟩
   have hg0:G.τ k'=some (some (g',e',z')):=hg
   simp only[Ghost.hide]
   rw[if_neg]
   rintro rfl
   exact safeI_tks _ hsf k' hk' (hW.tinj k' k g' e' z' e2 1 hg0 hx)
 have keep:∀ {d v},d.safeI k L.toks=true→Rel G w d v→Rel G (w.setRow b vs') d v:=fun hsf h=>hback hsf (stay (hide hsf h))
 refine⟨w.setRow b vs',fun P=>?_,?_,fun d d' u hd hr0=>?_,hother⟩
 ·exact run_storeCells_at P b j e2 [.int .i64 m] 0 cur w t3 (by simp;omega) (fun v hv=>by rw[List.mem_singleton.1 hv];rfl)
 ·have hsz:(w.setRow b vs').heap.size=w.heap.size:=by simp[World.setRow]
  exact {
   boxes:=fun id cs h=>by cases h
   robs:=fun id cs h=>by cases h
   toks:=hW.toks
   tau:=fun k' g' e' z' hg=>by
    obtain⟨h1,h2,⟨cur',y3,y4⟩,h5⟩:=hW.tau k' g' e' z' hg
    refine⟨h1,h2,?_,h5⟩
    by_cases eb:g'=b
    ·subst eb
     have:Obj.cells cur e2 (0,0)=Obj.cells cur' e' (0,0):=Option.some.inj (t3.symm.trans y3)
     obtain⟨rfl,rfl,_⟩:=Obj.cells.inj this
     exact⟨_,hsame,by rw[hsize];exact t4⟩
    ·exact⟨cur',by rw[hother g' eb];exact y3,y4⟩
   tinj:=hW.tinj
   binj:=hW.binj
   blt:=fun i g' hi=>by rw[hsz];exact hW.blt i g' hi
   lablt:=fun b' hb'=>by rw[hsz];exact hW.lablt b' hb'
   old:=fun b' hlt hn=>by
    rw[hother b' (by omega)]
    exact hW.old b' hlt hn
   olda:=fun b' hlt=>by
    obtain⟨h1,h2⟩:=hW.olda b' hlt
    refine⟨h1,fun o v ho hc=>?_⟩
    rw[cell_of_heap (hother b' (by omega))]
    exact h2 o v ho hc
   oldl:=hW.oldl
   tlab:=hW.tlab
   blab:=hW.blab
   oldu:=hW.oldu
   labw:=fun b' hb hor=>by
    obtain⟨vs,e',h1⟩:=hW.labw b' hb hor
    by_cases eb:b'=b
    ·subst eb;exact⟨_,_,hsame⟩
    ·exact⟨vs,e',by rw[hother b' eb];exact h1⟩
   ids:=hW.ids
   sz:=by rw[hsz];exact hW.sz
   os:=hW.os
   tape:=hW.tape
   out:=hW.out
   dr:=hW.dr}
 ·rcases hd with⟨hsf,rfl⟩|⟨rfl,rfl⟩
  ·exact keep hsf hr0
  ·cases hr0 with
   | @sl _ _ A1 n1 c1 b1 o1 s1 hn1 hc1 hm1 ht1 hA1 hu1 hk1 hst1 hr1 =>
   simp only[TkOk,hx] at ht1
   obtain⟨_,rfl,w3,w4,w5⟩:=ht1
   have hn1':n1=ys.length:=by simpa using hn1
   have hfz:flat ((ys.set j m).map (D.int .i64))=(ys.set j m).map (.int .i64):=flat_ints _
   refine .sl (b:=b) (o:=0) (s:=1) (by simpa using hn1') hc1 hm1 ?_ (.inr rfl) (fun x hx=>by obtain⟨p,_,rfl⟩:=List.mem_map.1 hx;rfl) (fun d hd=>?_) (fun i d hi=>?_) (fun i d v hi hv=>?_)
   ·simp only[TkOk,hx]
    exact⟨⟨trivial,trivial⟩,trivial,w3,by rw[hshape];exact w4,fun x hx=>by obtain⟨p,_,rfl⟩:=List.mem_map.1 hx;rfl⟩
   ·rw[hfz] at hd
    obtain⟨p,_,rfl⟩:=List.mem_map.1 hd
    rfl
   ·rw[hfz] at hi
    have hil:i<ys.length:=by have:=(List.getElem?_eq_some_iff.1 hi).1;simpa using this
    rw[Nat.zero_add,hcell']
    refine⟨by omega,?_⟩
    split
    ·exact⟨_,rfl⟩
    ·exact⟨_,hval i hil⟩
   ·rw[hfz,List.getElem?_map] at hi
    obtain⟨p,hp,rfl⟩:=Option.map_eq_some_iff.1 hi
    rw[Nat.zero_add,hcell'] at hv
    have hil:i<ys.length:=by have:=(List.getElem?_eq_some_iff.1 hp).1;simpa using this
    rw[List.getElem?_set] at hp
    by_cases hij:j=i
    ·subst hij
     rw[if_pos rfl,if_pos hj] at hp
     rw[if_pos rfl] at hv
     obtain rfl:=Option.some.inj hp
     obtain rfl:=Option.some.inj hv
     exact .int
    ·rw[if_neg hij] at hp
     rw[if_neg (fun e=>hij e.symm),hval i hil] at hv
     rw[List.getElem?_eq_getElem hil] at hp
     obtain rfl:=Option.some.inj hp
     obtain rfl:=Option.some.inj hv
     exact .int
theorem LopsW.storeOwn {S:Setup} {B:Base} {ops:Array Oper} {l:List Oper} {L:LS} {K:LS→Prop} {t:Nat} {T T2 e2:TypeId} {x i v:Operand} {ty1 ty2:TypeId} {pos1 pos2:String} {aft1 aft2:Array Edge}
  (hB:∀b,¬B.ab b) {inf inf2:TyI} (hkd:S.kd T=some (.slice e2)) (htab:S.tab e2=some inf) (hsz:inf.size=1) (htab2:S.tab T2=some inf2) (hsz2:inf2.size=1) {k:Nat} {e:TypeId} {ys:List Int} {ki:IntKind} {j m:Int}
  (hx:evalO L x=some (.sl (.own k e 1) (ys.map (.int .i64)))) (hk:k∈L.toks) (hi:evalO L i=some (.int ki j)) (hj:0≤j∧j<ys.length) (ht:t<L.n) (hv:∀u,evalO (L.put t (.raw u)) v=some (.int .i64 m))
  (env':List (Nat×D)) (bx':List (Nat×List D)) (henv:∀p∈env',p.1≠t∧∃d,look L.env p.1=some d∧StO k e L.toks ys (ys.set j.toNat m) d p.2)
  (hbx:∀p∈bx',∃cs,look L.boxes p.1=some cs∧p.2.length≤cs.length∧∀(j':Nat) (d':D),p.2[j']?=some d'→∃d,cs[j']?=some d∧StO k e L.toks ys (ys.set j.toNat m) d d')
  (h:LopsW S B ops l ⟨L.n,env',bx',[],L.toks,L.fix⟩ K):LopsW S B ops (⟨some t,.indexAddr T x i,ty1,pos1,aft1,none⟩::⟨none,.store T2 (.tmp t) v,ty2,pos2,aft2,none⟩::l) L K:=by
 intro G a w hs Q hQ
 have hW:=hs.W
 have hxv:=eval_sound hs hx
 have hiv:=eval_sound hs hi
 generalize hu:a.eval x=u at hxv
 generalize hui:a.eval i=ui at hiv
 cases hiv
 obtain⟨A,n,c,rfl⟩:∃A n c,u=.slice A n c:=by cases hxv;exact⟨_,_,_,rfl⟩
 obtain⟨g,rfl,rfl,hcell,hst⟩:=storeO_sound hs hB hk hxv (j:=j.toNat) (by omega)
 obtain⟨w',hrun,hW',hR,hheap⟩:=hst m
 refine wpList_step fun N hN=>?_
 rw[if_pos (guardY_sound (S:=S) (b:=true) rfl hs rfl)]
 unfold Oper.wp
 have hop:(execOp a.eval ⟨some t,.indexAddr T x i,ty1,pos1,aft1,none⟩).run S.P w=.ok (.value (.pointer (some ⟨g,j.toNat,none⟩))) w:=by
  have hin:0≤j∧j<(ys.length:Int):=hj
  simp[execOp,hu,hui,Instr.indexAt,asIntOf,run_underlying (kd_slice hkd),run_sizeOf (S.ok e2 inf htab),hin,add_mk,hsz]
 rw[hop]
 have hs1:Sim B (L.put t (.raw (.pointer (some ⟨g,j.toNat,none⟩)))) G (a.put (some t) (.pointer (some ⟨g,j.toNat,none⟩))) w:=hs.put ht (.raw (fun cs e=>by cases e))
 refine hN _ _ ?_
 have hvv:=eval_sound hs1 (hv _)
 generalize huv:(a.put (some t) (.pointer (some ⟨g,j.toNat,none⟩))).eval v=uv at hvv
 cases hvv
 have hpt:(a.put (some t) (.pointer (some ⟨g,j.toNat,none⟩))).eval (.tmp t)=.pointer (some ⟨g,j.toNat,none⟩):=by
  obtain⟨v0,h1,h2⟩:=hs1.env t (.raw (.pointer (some ⟨g,j.toNat,none⟩))) (by simp only[LS.put,look_setA,if_true])
  cases h2
  show Array.getD _ t undef=_
  rw[Array.getD_eq_getD_getElem?,h1];rfl
 refine wpList_step fun N2 hN2=>?_
 rw[if_pos (guardY_sound (S:=S) (b:=true) rfl hs1 rfl)]
 unfold Oper.wp
 have hop2:(execOp (a.put (some t) (.pointer (some ⟨g,j.toNat,none⟩))).eval ⟨none,.store T2 (.tmp t) v,ty2,pos2,aft2,none⟩).run S.P w=.ok .skip w':=by
  have hsz:=run_sizeOf (S.ok T2 inf2 htab2) w
  simp[execOp,Instr.storeAt,hpt,huv,Instr.sureAddr,storeVar,hsz,hsz2,Value.cells,hrun S.P]
 rw[hop2]
 refine hN2 _ _ (h G _ w' ⟨hs1.defers,hs1.size,fun t' d hd=>?_,?_,hs.fixed⟩ Q hQ)
 ·obtain⟨hne,d0,h1,h2⟩:=henv _ (mem_of_look hd)
  obtain⟨v0,h3,h4⟩:=hs1.env t' d0 (by simp only[LS.put,look_setA];rw[if_neg (fun e=>hne e.symm)];exact h1)
  exact⟨v0,h3,hR _ _ _ h2 h4⟩
 ·have hbox:∀ {g'} {cs cs':List D},BoxAt G w g' cs→g'≠g→cs'.length≤cs.length→(∀(j':Nat) (d':D),cs'[j']?=some d'→∃d,cs[j']?=some d∧StO k e L.toks ys (ys.set j.toNat m) d d')→BoxAt G w' g' cs':=fun {g' cs cs'} ⟨vs,e0,h1,h2,h3⟩ hgb hl hc=>by
   refine⟨vs,e0,by rw[hheap g' hgb];exact h1,by omega,fun j d1 v hd hv=>?_⟩
   obtain⟨d0,hd0,hd1⟩:=hc j d1 hd
   exact hR _ _ _ hd1 (h3 j d0 v hd0 hv)
  have hβ:∀id,G.β id≠some g:=fun id hb=>by
   obtain⟨y,hy⟩:=hW.toks k hk
   cases hxv with
   | sl hn hc hm ht' hA hu hmem hst hr =>
    simp only[TkOk,hy] at ht'
    match y,hy,ht' with
    | none,_,ht'=>omega
    | some (g',e',z'),hy,ht' =>
     obtain⟨_,h2,_⟩:=ht'
     simp only[Option.some.injEq,Addr.mk.injEq,and_true] at h2
     subst h2
     exact(hW.tau k _ e' z' hy).2.2.2 id hb
  exact {hW' with
   boxes:=fun id cs' hl=>by
    obtain⟨cs,h1,h2,h3⟩:=hbx _ (mem_of_look hl)
    obtain⟨g',q1,q2,q3,q4⟩:=hW.boxes id cs h1
    exact⟨g',q1,hbox q2 (fun e0=>hβ id (by rw[←e0];exact q1)) h2 h3,q3,q4⟩
   robs:=fun id cs' hl=>by cases hl}
theorem safeIL_ints (k:Nat) (tk:List Nat) (ki:IntKind) (xs:List Int):D.safeIL k tk (xs.map (.int ki))=true:=safeIL_of fun d hd=>by
 obtain⟨x,_,rfl⟩:=List.mem_map.1 hd;rfl
theorem sto_lab {k:Nat} {e:TypeId} {tk:List Nat} {ys zs:List Int} (l:List Nat) (ki:IntKind) (xs:List Int):StO k e tk ys zs (.sl (.lab l) (xs.map (.int ki))) (.sl (.lab l) (xs.map (.int ki))):=.inl ⟨safeIL_ints k tk ki xs,rfl⟩
theorem sto_plain {k:Nat} {e:TypeId} {tk:List Nat} {ys zs:List Int} {d:D} (h:d.safeI k tk=true):StO k e tk ys zs d d:=.inl ⟨h,rfl⟩
theorem sto_own {k:Nat} {e:TypeId} {tk:List Nat} {ys zs:List Int}:StO k e tk ys zs (.sl (.own k e 1) (ys.map (.int .i64))) (.sl (.own k e 1) (zs.map (.int .i64))):=.inr ⟨rfl,rfl⟩
def StoL (k:Nat) (e:TypeId) (tk:List Nat) (ys zs:List Int):List D→List D→Prop
 | [],[]=>True
 | c::cs,d::ds=>StO k e tk ys zs c d∧StoL k e tk ys zs cs ds
 | _,_=>False
theorem stoL_box {k:Nat} {e:TypeId} {tk:List Nat} {ys zs:List Int}:∀ {cs ds:List D},StoL k e tk ys zs cs ds→ds.length≤cs.length∧∀(j:Nat) (d':D),ds[j]?=some d'→∃d,cs[j]?=some d∧StO k e tk ys zs d d'
 | [],[],_=>⟨Nat.le_refl _,fun j d' h=>by simp at h⟩
 | c::cs,d::ds,⟨h1,h2⟩=>by
  obtain⟨q1,q2⟩:=stoL_box h2
  refine⟨by simpa using q1,fun j d' h=>?_⟩
  cases j with
  | zero=>obtain rfl:=Option.some.inj h;exact⟨c,rfl,h1⟩
  | succ j=>exact q2 j d' h
 | [],_::_,h=>h.elim
 | _::_,[],h=>h.elim
def StoE (k:Nat) (e:TypeId) (tk:List Nat) (ys zs:List Int) (L:LS) (t:Nat):List (Nat×D)→Prop
 | []=>True
 | (i,d)::r=>(i≠t∧∃d0,look L.env i=some d0∧StO k e tk ys zs d0 d)∧StoE k e tk ys zs L t r
def StoX (k:Nat) (e:TypeId) (tk:List Nat) (ys zs:List Int) (L:LS):List (Nat×List D)→Prop
 | []=>True
 | (i,ds)::r=>(∃cs,look L.boxes i=some cs∧StoL k e tk ys zs cs ds)∧StoX k e tk ys zs L r
theorem stoE_mem {k:Nat} {e:TypeId} {tk:List Nat} {ys zs:List Int} {L:LS} {t:Nat}:∀ {l:List (Nat×D)},StoE k e tk ys zs L t l→∀p∈l,p.1≠t∧∃d,look L.env p.1=some d∧StO k e tk ys zs d p.2
 | [],_,p,hp=>by cases hp
 | (i,d)::r,⟨h1,h2⟩,p,hp=>by
  rcases List.mem_cons.1 hp with rfl|hp
  ·exact h1
  ·exact stoE_mem h2 p hp
theorem stoX_mem {k:Nat} {e:TypeId} {tk:List Nat} {ys zs:List Int} {L:LS}:∀ {l:List (Nat×List D)},StoX k e tk ys zs L l→∀p∈l,∃cs,look L.boxes p.1=some cs∧p.2.length≤cs.length∧∀(j:Nat) (d':D),p.2[j]?=some d'→∃d,cs[j]?=some d∧StO k e tk ys zs d d'
 | [],_,p,hp=>by cases hp
 | (i,ds)::r,⟨⟨cs,h0,h1⟩,h2⟩,p,hp=>by
  rcases List.mem_cons.1 hp with rfl|hp
  ·exact⟨cs,h0,stoL_box h1⟩
  ·exact stoX_mem h2 p hp
theorem LopsW.storeOwnL {S:Setup} {B:Base} {ops:Array Oper} {l:List Oper} {L:LS} {K:LS→Prop} {t:Nat} {T T2 e2:TypeId} {x i v:Operand} {ty1 ty2:TypeId} {pos1 pos2:String} {aft1 aft2:Array Edge}
  (env':List (Nat×D)) (bx':List (Nat×List D)) (hB:∀b,¬B.ab b) {inf inf2:TyI} (hkd:S.kd T=some (.slice e2)) (htab:S.tab e2=some inf) (hsz:inf.size=1) (htab2:S.tab T2=some inf2) (hsz2:inf2.size=1) {k:Nat} {e:TypeId} {ys:List Int} {ki:IntKind} {j m:Int}
  (hx:evalO L x=some (.sl (.own k e 1) (ys.map (.int .i64)))) (hi:evalO L i=some (.int ki j)) (hv:∀u,evalO (L.put t (.raw u)) v=some (.int .i64 m)) (hk:k∈L.toks) (hj:0≤j∧j<ys.length) (ht:t<L.n)
  (henv:StoE k e L.toks ys (ys.set j.toNat m) L t env') (hbx:StoX k e L.toks ys (ys.set j.toNat m) L bx')
  (h:LopsW S B ops l ⟨L.n,env',bx',[],L.toks,L.fix⟩ K):LopsW S B ops (⟨some t,.indexAddr T x i,ty1,pos1,aft1,none⟩::⟨none,.store T2 (.tmp t) v,ty2,pos2,aft2,none⟩::l) L K :=
 LopsW.storeOwn hB hkd htab hsz htab2 hsz2 hx hk hi hj ht hv env' bx' (stoE_mem henv) (stoX_mem hbx) h
theorem sw_goTW {S:Setup} {B:Base} {R:LS→Prop} {k:List VItem} {L:LS} (kp:List (Nat×List Nat)) (m:Nat) {id:Nat} {l:List Oper} (hB:drawT .any l.toArray m=true) (h:∀Kq:List Oper→LS→Prop,QOk S l.toArray (fun L'=>LopsW S B l.toArray (l.drop m) L' fun L3=>SW S B R k (L3.keepAt kp id)) Kq→runQ S l.toArray Kq (l.take m) L):SW S B R (.code (.region id l.toArray true)::k) L:=by
 have hq:∀l' L',runQ S l.toArray (fun l' L'=>LexQ S l.toArray L (fun L2=>LopsW S B l.toArray (l.drop m) L2 fun L3=>SW S B R k L3) l' L') l' L'→LexQ S l.toArray L (fun L2=>LopsW S B l.toArray (l.drop m) L2 fun L3=>SW S B R k L3) l' L' :=
  runQ_sound (K':=fun l' L'=>LexQ S l.toArray L (fun L2=>LopsW S B l.toArray (l.drop m) L2 fun L3=>SW S B R k L3) l' L') (fun _ _ h=>h)
 intro G a w hsim
 refine drawT_sound hB (hq _ _ (h _ ?_)) hsim (fun L' G' a' w' hK hs'=>hK G' a' w' hs')
 exact {
  nil:=fun h=>LexQ.nil (h.mono fun _ h'=>sw_keepAt kp id h')
  split:=fun t _ ht h1 h0=>LexQ.split t ht (fun e=>hq _ _ (h1 e)) (fun e=>hq _ _ (h0 e))
  skip:=fun hg hd h=>LexQ.skip hg hd (hq _ _ h)
  call:=fun hg _ _ _ _ _ hf hds fc hside h=>LexQ.call hg hf hds fc hside (hq _ _ h)}
end Go.Lg
/-
  Lg: a drawn region that makes memory, parted where the driver can't go on.
-/
namespace Go.Lg
open Go Go.RowKit
theorem lexX_app {S:Setup} {ops:Array Oper} {bx:Nat→Option (List D)} {n:Nat} {Q:EnvX→Prop} {l2:List Oper}:∀(l1:List Oper) (E:EnvX),lexX S ops bx n (lexX S ops bx n Q l2) l1 E→lexX S ops bx n Q (l1++l2) E
 | [],_,h=>h
 | _::l1,_,⟨p,h1,h2⟩=>⟨p,h1,lexX_app l1 _ h2⟩
theorem lexX_mono {S:Setup} {ops:Array Oper} {bx:Nat→Option (List D)} {n:Nat} {Q Q':EnvX→Prop} (hQ:∀E,Q E→Q' E):∀(l:List Oper) (E:EnvX),lexX S ops bx n Q l E→lexX S ops bx n Q' l E
 | [],E,h=>hQ E h
 | _::l,_,⟨p,h1,h2⟩=>⟨p,h1,lexX_mono hQ l _ h2⟩
theorem LexX.go {S:Setup} {ops:Array Oper} {L0:LS} {N:List (Nat×Fact)→LS→Prop} {F:List (Nat×Fact)} {l:List Oper} {L:LS} (h:∀Kq:List (Nat×Fact)→List Oper→LS→Prop,XOk S ops N Kq→runQ S ops (Kq F) l L):LexX S ops L0 N F l L:=by
 have hq:∀F l' L',runQ S ops (LexX S ops L0 N F) l' L'→LexX S ops L0 N F l' L':=fun F =>
  runQ_soundX (K':=LexX S ops L0 N) (fun _ _ _ h=>h)
 refine hq _ _ _ (h (LexX S ops L0 N) ?_)
 exact {
  nil:=fun h=>LexX.nil h
  split:=fun t _ ht h1 h0=>LexX.split t ht (fun e=>hq _ _ _ (h1 e)) (fun e=>hq _ _ _ (h0 e))
  skip:=fun hg hd h=>LexX.skip rfl hg hd (hq _ _ _ h)
  store:=fun hF0 hx hi hside h=>LexX.store hF0 hx hi hside (hq _ _ _ h)
  call:=fun hg _ _ _ _ _ hf hds fc hside h=>LexX.call hg hf hds fc hside (hq _ _ _ h)
  own:=by
   intro k F l' L' t f args tys ty pos aft g hg fid cap ds xs ro e z hf hds fc hside h
   exact LexX.own k hg hf hds fc hside (hq _ _ _ h)
  alloc:=fun hg hi hside h=>LexX.alloc hg hi hside (hq _ _ _ h)}
theorem LexX.part (q:Nat) {S:Setup} {ops:Array Oper} {L0:LS} {N:List (Nat×Fact)→LS→Prop} {l:List Oper} {L:LS}
  (h:∀Kq:List (Nat×Fact)→List Oper→LS→Prop,XOk S ops (fun F L'=>(F.all fun p=>apartF p.1 (l.drop q))=true∧LexX S ops L0 N F (l.drop q) L') Kq→runQ S ops (Kq []) (l.take q) L):LexX S ops L0 N [] l L:=by
 have h1:=LexX.go (L0:=L0) h
 intro hL hF
 have h2:=h1 hL (fun t f hf=>by simp[look] at hf)
 have h3:=lexX_app (l2:=l.drop q) (Q:=fun E=>∃F' L',E=pairX L' F'∧sameX L' L0∧freeF F' [] L'∧N F' L') _ _ (lexX_mono (fun E ⟨F',L',e,hs,hf,ha,hN⟩=>by
  subst e
  refine hN hs fun t f ht=>⟨(hf t f ht).1,fun o ho=>?_⟩
  have:=List.all_eq_true.1 (List.all_eq_true.1 ha _ (mem_of_look ht)) o ho
  simpa using this) _ _ h2)
 rwa [List.take_append_drop] at h3
theorem sw_goXL {S:Setup} {B:Base} {R:LS→Prop} {k:List VItem} {L:LS} (base:Nat) (kp:List (Nat×List Nat)) (m:Nat) (re:List Nat) {id:Nat} {l:List Oper} (hB:drawX .any l.toArray m=true) (hre:re.all (fun i=>decide (i<m)&&reOk .any l.toArray i&&(match l[i]? with|some o=>(match o.dst with|some d=>decide (d<L.n)|none=>false)|none=>false))=true)
  (h:LexX S l.toArray L (fun F L'=>toF base F L' fun L2=>redoL S (re.filterMap (l[·]?)) L2 fun L3=>LopsW S B l.toArray (l.drop m) L3 fun L4=>SW S B R k (L4.keepAt kp id)) [] (l.take m) L):SW S B R (.code (.region id l.toArray true)::k) L:=fun _ _ _ hs =>
 drawX_soundR (base:=base) hre hB h hs fun _ G' a' w' hK hs'=>sw_keepAt kp id hK G' a' w' hs'
end Go.Lg
/-
  Lg: what was made by 'make', filled, and lies in a cell of a variable in memory, is taken for a list from now on.
-/
namespace Go.Lg
open Go Go.RowKit
theorem freezeBox_sim {B:Base} {L:LS} {G:Ghost} {a:Act} {w:World} (h:Sim B L G a w) {i0 j id n s:Nat} {cs0 cs xs:List D} {tk:Tk} (h0:look L.boxes i0=some cs0) (hj:cs0[j]?=some (.ms id n)) (hne:i0≠id) (hb:look L.boxes id=some cs) (hx:cs=flat xs) (hn:n=xs.length)
  (hu:∀x∈xs,x.cells.length=s) (hk:∀d∈cs,d.memOk=true) (htk:tk=.any∨tk=.nn) :
  ∃G',Sim B {L with boxes:=setA (eraseK id L.boxes) i0 (cs0.set j (.sl tk xs))} G' a w:=by
 have hW:=h.W
 obtain⟨g,hg,⟨vs,e,e1,e2,e3⟩,hl0,hown⟩:=hW.boxes id cs hb
 have hmn:Mono G (G.grow g cs.length) w w:=⟨fun b o u h1 h2=>⟨by
  simp only[Ghost.grow]
  split
  ·rename_i hbg;subst hbg;omega
  ·exact h1,h2⟩,fun _ _=>rfl⟩
 have rG:∀ {d u},Rel G w d u→Rel (G.grow g cs.length) w d u:=fun {d u} hr=>hr.mono hmn (fun _ _ _ h=>h) (fun k _=>.inr ⟨rfl,fun g' e' z hk'=>by
  obtain⟨_,_,_,h5⟩:=hW.tau k g' e' z hk'
  refine⟨?_,rfl⟩
  simp only[Ghost.grow]
  rw[if_neg (by rintro rfl;exact h5 id hg)]⟩)
 have hbox:∀ {g' cs'},BoxAt G w g' cs'→BoxAt (G.grow g cs.length) w g' cs':=fun⟨vs,e,e1,e2,e3⟩=>⟨vs,e,e1,e2,fun j d v hd hv=>rG (e3 j d v hd hv)⟩
 have hcell:∀j,w.cell? ⟨g,j,none⟩=vs[j]?:=fun j=>by simp[World.cell?,e1]
 have hlim:(G.grow g cs.length).lim g=cs.length:=by simp[Ghost.grow]
 have hlim':∀b,b≠g→(G.grow g cs.length).lim b=G.lim b:=fun b hb=>by simp[Ghost.grow,hb]
 have conv:∀ {u},Rel G w (.ms id n) u→Rel (G.grow g cs.length) w (.sl tk xs) u:=fun {u} hr=>by
  cases hr with
  | @ms _ _ c1 g1 hb' hc' hn' =>
   have e0:g1=g:=Option.some.inj (hb'.symm.trans hg)
   rw[e0]
   refine .sl (b:=g) (o:=0) (s:=s) (by omega) hc' hn' ?_ (.inr rfl) hu (hx ▸ hk) (fun j d hj=>?_) (fun j d u hj hu'=>?_)
   ·rcases htk with rfl|rfl
    ·trivial
    ·simp[TkOk]
   ·rw[←hx] at hj
    have hlt:j<cs.length:=(List.getElem?_eq_some_iff.1 hj).1
    rw[Nat.zero_add,hlim,hcell]
    exact⟨hlt,vs[j]'(by omega),by simp[show j<vs.size by omega]⟩
   ·rw[←hx] at hj
    rw[Nat.zero_add,hcell] at hu'
    exact rG (e3 j d u hj hu')
 refine⟨G.grow g cs.length,h.defers,h.size,fun t' d hd=>?_,?_,h.fixed⟩
 ·obtain⟨u,h1,h2⟩:=h.env t' d hd
  exact⟨u,h1,rG h2⟩
 ·exact {hW with
   boxes:=fun i cs' hl=>by
    simp only[look_setA] at hl
    by_cases e9:i0=i
    ·subst e9
     rw[if_pos rfl] at hl
     obtain rfl:=Option.some.inj hl
     obtain⟨g',k1,⟨vs',ee,b1,b2,b3⟩,k3,k4⟩:=hW.boxes i0 cs0 h0
     refine⟨g',k1,⟨vs',ee,b1,by simpa using b2,fun j' d v hd hv=>?_⟩,?_,k4⟩
     ·rw[List.getElem?_set] at hd
      by_cases ej:j=j'
      ·subst ej
       have hlt:j<cs0.length:=(List.getElem?_eq_some_iff.1 hj).1
       rw[if_pos rfl,if_pos hlt] at hd
       obtain rfl:=Option.some.inj hd
       exact conv (b3 j _ v hj hv)
      ·rw[if_neg ej] at hd
       exact rG (b3 j' d v hd hv)
     ·rw[hlim' g' (by rintro rfl;exact hne (hW.binj _ _ _ k1 hg))]
      exact k3
    ·rw[if_neg e9] at hl
     simp only[look_eraseK] at hl
     by_cases e0:id=i
     ·rw[if_pos e0] at hl;cases hl
     ·rw[if_neg e0] at hl
      obtain⟨g',k1,k2,k3,k4⟩:=hW.boxes i cs' hl
      refine⟨g',k1,hbox k2,?_,k4⟩
      rw[hlim' g' (by rintro rfl;exact e0 (hW.binj _ _ _ hg k1))]
      exact k3
   robs:=fun i cs' hl=>by
    obtain⟨g',k1,k2,k3⟩:=hW.robs i cs' hl
    exact⟨g',k1,hbox k2,k3⟩
   tau:=fun k g' e' z hk'=>by
    obtain⟨h1,h2,⟨cur,h3,h4⟩,h5⟩:=hW.tau k g' e' z hk'
    refine⟨h1,h2,⟨cur,h3,?_⟩,h5⟩
    rw[hlim' g' (by rintro rfl;exact h5 id hg)]
    exact h4
   old:=fun b hb1 hb2=>by
    refine⟨(hW.old b hb1 hb2).1,?_⟩
    rw[hlim' b]
    ·exact(hW.old b hb1 hb2).2
    ·rintro rfl
     rcases hown with h|h
     ·omega
     ·exact hb2 h
   olda:=fun b hb1=>by
    refine⟨?_,(hW.olda b hb1).2⟩
    have:=(hW.olda b hb1).1
    by_cases hbg:b=g
    ·subst hbg;rw[hl0] at this;omega
    ·rw[hlim' b hbg];exact this
   lablt:=hW.lablt}
theorem sw_freezeBox {S:Setup} {B:Base} {R:LS→Prop} {k:List VItem} {L:LS} (i0 j s:Nat) (tk:Tk) {id n:Nat} {cs0 cs:List D} (xs:List D) (h0:look L.boxes i0=some cs0) (hj:cs0[j]?=some (.ms id n)) (hb:look L.boxes id=some cs) (hne:i0≠id) (hx:cs=flat xs) (hn:n=xs.length)
  (hu:∀x∈xs,x.cells.length=s) (hk:∀d∈cs,d.memOk=true) (htk:tk=.any∨tk=.nn) (hh:SW S B R k {L with boxes:=setA (eraseK id L.boxes) i0 (cs0.set j (.sl tk xs))}):SW S B R k L:=fun _ a w hs=>by
 obtain⟨G',h'⟩:=freezeBox_sim hs h0 hj hne hb hx hn hu hk htk
 exact hh G' a w h'
theorem sw_boxLe {S:Setup} {B:Base} {R:LS→Prop} {k:List VItem} {L:LS} (id:Nat) {cs:List D} (cs':List D) (hb:look L.boxes id=some cs) (hl:cs'.length=cs.length) (hle:∀(j:Nat) c d,cs[j]?=some c→cs'[j]?=some d→D.le c d) (hh:SW S B R k {L with boxes:=setA L.boxes id cs'}):SW S B R k L:=fun G a w hs=>by
 refine hh G a w ⟨hs.defers,hs.size,hs.env,{hs.W with boxes:=fun i c hi=>?_},hs.fixed⟩
 simp only[look_setA] at hi
 by_cases e:id=i
 ·subst e
  rw[if_pos rfl] at hi
  obtain rfl:=Option.some.inj hi
  obtain⟨g,h1,⟨vs,ee,b1,b2,b3⟩,h3⟩:=hs.W.boxes id cs hb
  refine⟨g,h1,⟨vs,ee,b1,by omega,fun j d v hd hv=>?_⟩,h3⟩
  have hlt:j<cs.length:=by have:=(List.getElem?_eq_some_iff.1 hd).1;omega
  exact(b3 j _ v (List.getElem?_eq_getElem hlt) hv).le (hle j _ d (List.getElem?_eq_getElem hlt) hd)
 ·rw[if_neg e] at hi
  exact hs.W.boxes i c hi
theorem le_two {a b c d:D} (h1:D.le a c) (h2:D.le b d):∀(j:Nat) (x y:D),[a,b][j]?=some x→[c,d][j]?=some y→D.le x y
 | 0,x,y,hx,hy=>by obtain rfl:=Option.some.inj hx;obtain rfl:=Option.some.inj hy;exact h1
 | 1,x,y,hx,hy=>by obtain rfl:=Option.some.inj hx;obtain rfl:=Option.some.inj hy;exact h2
 | j+2,x,y,hx,_=>by simp at hx
end Go.Lg
