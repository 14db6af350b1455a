/-
  Lg: LgDraw4, LgRedo, LgDraw5, LgDrv, one behind the other.
-/
import Derived.Test.YtjaicibmmcpeiaaLgK4
import Derived.KernelRfl
/-
  Lg, part 41: a region that draws its order, in which new memory is made: variables, and lists that calls return as their own.
-/
namespace Go.Lg
open Go Go.RowKit

inductive Fact
 | box (cs:List D)
 | own (k:Nat) (e:TypeId) (z:Nat) (xs:List D)

structure Bare (B:Base) (G:Ghost) (w:World) (g:Nat):Prop where
 ge:B.w.heap.size≤g
 lt:g<w.heap.size
 beta:∀i,G.β i≠some g
 tau:∀k e z,G.τ k≠some (some (g,e,z))
 lab:G.lab g=[]

def FactOk (B:Base) (G:Ghost) (w:World) (o:Option Nat):Fact→Value→Prop
 | .box cs,v=>∃g,o=some g∧v=.pointer (some ⟨g,0,none⟩)∧Bare B G w g∧BoxAt G w g cs∧G.lim g=0∧D.idsL cs=[]∧D.tksL cs=[]
 | .own _ e z xs,v=>Rel G w (.sl .any xs) v∧∃A n c,v=.slice A n c∧((o=none∧n=0∧c=0)∨∃g,o=some g∧Bare B G w g∧A=some ⟨g,0,none⟩∧n*z=G.lim g∧(∀x∈xs,x.cells.length=z)∧0<z∧∃cur,w.heap[g]?=some (.cells cur e (0,0))∧G.lim g≤cur.size∧w.shape? g=some (e,c*z))

section
variable {B:Base} {bx ro:List (Nat×List D)} {tk:List Nat} {G G':Ghost} {w w':World}
theorem Quiet.mono (hW:SimW B bx ro tk G w) (hq:Quiet G G' w w'):Mono G G' w w' :=
 ⟨fun b o v h1 h2=>by
  obtain⟨e1,e2,_⟩:=hq.heap b (cell_lt h2)
  exact⟨by rw[e2];exact h1,by rw[cell_of_heap e1];exact h2⟩,fun b hb=>(hq.heap b (hW.lablt b hb)).2.2,fun b es c hb=>(hq.heap b (heap_lt hb)).1.trans hb⟩
theorem Quiet.rel (hW:SimW B bx ro tk G w) (hq:Quiet G G' w w') {d:D} {v:Value} (hr:Rel G w d v):Rel G' w' d v :=
 hr.mono (hq.mono hW) (fun i _ g hg=>by rw[hq.beta];exact hg) (fun k _=>.inr ⟨by rw[hq.tau],fun g e z hk=>by
  obtain⟨_,_,⟨cur,hc,_⟩,_⟩:=hW.tau k g e z hk
  obtain⟨e1,e2,_⟩:=hq.heap g (heap_lt hc)
  exact⟨e2,shape_of_heap e1⟩⟩)
theorem Quiet.bare (hq:Quiet G G' w w') {g:Nat} (h:Bare B G w g):Bare B G' w' g :=
 ⟨h.ge,Nat.lt_of_lt_of_le h.lt hq.sz,by rw[hq.beta];exact h.beta,by rw[hq.tau];exact h.tau,(hq.heap g h.lt).2.2.trans h.lab⟩
theorem Quiet.fact (hW:SimW B bx ro tk G w) (hq:Quiet G G' w w') {o:Option Nat} {f:Fact} {v:Value} (h:FactOk B G w o f v):FactOk B G' w' o f v:=by
 cases f with
 | box cs =>
  obtain⟨g,h1,h2,h3,⟨vs,e,e1,e2,e3⟩,h5,h6⟩:=h
  obtain⟨q1,q2,_⟩:=hq.heap g h3.lt
  exact⟨g,h1,h2,hq.bare h3,⟨vs,e,by rw[q1];exact e1,e2,fun j d v hd hv=>hq.rel hW (e3 j d v hd hv)⟩,by rw[q2];exact h5,h6⟩
 | own _ e z xs =>
  obtain⟨h1,A,n,c,h2,h3⟩:=h
  refine⟨hq.rel hW h1,A,n,c,h2,?_⟩
  rcases h3 with h3|⟨g,k1,k2,k3,k4,k5,k6,cur,k7,k8,k9⟩
  ·exact .inl h3
  ·obtain⟨q1,q2,_⟩:=hq.heap g k2.lt
   exact .inr ⟨g,k1,hq.bare k2,k3,by rw[q2];exact k4,k5,k6,cur,by rw[q1];exact k7,by rw[q2];exact k8,by rw[shape_of_heap q1];exact k9⟩
theorem FactOk.lt {o:Option Nat} {f:Fact} {v:Value} {g:Nat} (h:FactOk B G w o f v) (ho:o=some g):g<w.heap.size:=by
 cases f with
 | box cs =>
  obtain⟨g',h1,_,h3,_⟩:=h
  rw[ho] at h1
  obtain rfl:=Option.some.inj h1
  exact h3.lt
 | own _ e z xs =>
  obtain⟨_,A,n,c,_,⟨h1,_⟩|⟨g',h1,h2,_⟩⟩:=h
  ·rw[ho] at h1;cases h1
  ·rw[ho] at h1
   obtain rfl:=Option.some.inj h1
   exact h2.lt
theorem FactOk.ghost {G2:Ghost} {o:Option Nat} {f:Fact} {v:Value} (h:FactOk B G w o f v) (hlim:G2.lim=G.lim) (hlab:G2.lab=G.lab) (hb:∀g,o=some g→Bare B G w g→Bare B G2 w g):FactOk B G2 w o f v:=by
 have hm:Mono G G2 w w:=⟨fun b o v h1 h2=>⟨by rw[hlim];exact h1,h2⟩,fun b _=>by rw[hlab],fun _ _ _ h=>h⟩
 have rr:∀ {d v},d.ids=[]→d.tks=[]→Rel G w d v→Rel G2 w d v:=fun hi ht hr=>hr.mono hm (by rw[hi];intro i hi;cases hi) (by rw[ht];intro i hi;cases hi)
 cases f with
 | box cs =>
  obtain⟨g,h1,h2,h3,⟨vs,e,e1,e2,e3⟩,h5,h6,h7⟩:=h
  refine⟨g,h1,h2,hb g h1 h3,⟨vs,e,e1,e2,fun j d v hd hv=>rr ?_ ?_ (e3 j d v hd hv)⟩,by rw[hlim];exact h5,h6,h7⟩
  ·exact List.eq_nil_iff_forall_not_mem.2 fun i hi=>by have:=mem_idsL (List.mem_of_getElem? hd) hi;rw[h6] at this;cases this
  ·exact List.eq_nil_iff_forall_not_mem.2 fun i hi=>by have:=mem_tksL (List.mem_of_getElem? hd) hi;rw[h7] at this;cases this
 | own _ e z xs =>
  obtain⟨h1,A,n,c,h2,h3⟩:=h
  refine⟨rr rfl rfl h1,A,n,c,h2,?_⟩
  rcases h3 with h3|⟨g,k1,k2,k3,k4,k5,k6,cur,k7,k8,k9⟩
  ·exact .inl h3
  ·exact .inr ⟨g,k1,hb g k1 k2,k3,by rw[hlim];exact k4,k5,k6,cur,k7,by rw[hlim];exact k8,k9⟩
end

theorem poke_sim {B:Base} {L:LS} {G:Ghost} {a:Act} {w:World} (h:Sim B L G a w) {g:Nat} {cs new:List D} {vl:List Value} (hb:Bare B G w g) (hbx:BoxAt G w g cs) (h0:G.lim g=0) (hoff:new.length≤cs.length)
  (hn:vl.length=new.length) (hr:∀(j:Nat) d v,new[j]?=some d→vl[j]?=some v→Rel G w d v) (h1:∀v∈vl,v.oneCell'=true) :
  ∃w',(∀P:Program,(storeCells ⟨g,0,none⟩ vl).run P w=.ok () w')∧Sim B L G a w'∧BoxAt G w' g (putCells cs 0 new)∧w'.heap.size=w.heap.size∧(∀b,b≠g→w'.heap[b]?=w.heap[b]?)∧∀d v,Rel G w d v→Rel G w' d v:=by
 have hW:=h.W
 obtain⟨vs,e,e1,e2,e3⟩:=hbx
 let vs':=(vs.toList.take (0+0)++vl++vs.toList.drop (0+0+vl.length)).toArray
 have hg:=heap_lt e1
 have hsame:(w.setRow g vs').heap[g]?=some (.cells vs' e (0,0)):=setRow_heap w g vs vs' e (0,0) e1
 have hother:∀b,b≠g→(w.setRow g vs').heap[b]?=w.heap[b]?:=fun b hb=>setRow_other w g b vs' hb
 have hmn:Mono G G w (w.setRow g vs'):=by
  refine⟨fun b o v h1 h2=>⟨h1,?_⟩,fun _ _=>rfl,fun b es c hm=>(hother b (fun h=>by subst h;rw[e1] at hm;cases hm)).trans hm⟩
  have hb:b≠g:=fun e=>by subst e;rw[h0] at h1;omega
  rw[cell_of_heap (hother b hb)];exact h2
 have hτg:∀ {k g' e' z},G.τ k=some (some (g',e',z))→g'≠g:=fun {k g' e' z} hk e=>by
  subst e
  exact hb.tau k e' z hk
 have hβg:∀ {i g'},G.β i=some g'→g'≠g:=fun {i g'} hi e=>by
  subst e
  exact hb.beta i hi
 have rG:∀ {d v},Rel G w d v→Rel G (w.setRow g vs') d v:=fun hr =>
  hr.mono hmn (fun _ _ _ h=>h) (fun k _=>.inr ⟨rfl,fun g' e' z hk=>⟨rfl,shape_of_heap (hother g' (hτg hk))⟩⟩)
 have hbox:∀ {g' cs},g'≠g→BoxAt G w g' cs→BoxAt G (w.setRow g vs') g' cs:=fun {g' cs} hne ⟨vs,e',e1,e2,e3⟩ =>
  ⟨vs,e',by rw[hother _ hne];exact e1,e2,fun j d v hd hv=>rG (e3 j d v hd hv)⟩
 have hsz:(w.setRow g vs').heap.size=w.heap.size:=by simp[World.setRow]
 have hge:=hb.ge
 refine⟨w.setRow g vs',fun P=>?_,⟨h.defers,h.size,fun t d hd=>?_,?_,h.fixed⟩,⟨vs',e,hsame,?_,fun j d v hd hv=>?_⟩,hsz,hother,fun d v hr=>rG hr⟩
 ·exact run_storeCells_at P g 0 e vl 0 vs w e1 (by omega) h1
 ·obtain⟨v,h1,h2⟩:=h.env t d hd
  exact⟨v,h1,rG h2⟩
 ·exact {hW with
   boxes:=fun i cs' hl'=>by
    obtain⟨g',q1,q2,q3,q4⟩:=hW.boxes i cs' hl'
    exact⟨g',q1,hbox (hβg q1) q2,q3,q4⟩
   robs:=fun i cs' hl'=>by
    obtain⟨g',q1,q2,q3,q4⟩:=hW.robs i cs' hl'
    exact⟨g',q1,hbox (hβg q1) q2,q3,q4⟩
   tau:=fun k g' e' z hk=>by
    obtain⟨q1,q2,⟨cur,q3,q4⟩,q5⟩:=hW.tau k g' e' z hk
    exact⟨q1,q2,⟨cur,by rw[hother _ (hτg hk)];exact q3,q4⟩,q5⟩
   blt:=fun i g' hi=>by rw[hsz];exact hW.blt i g' hi
   lablt:=fun b hb=>by rw[hsz];exact hW.lablt b hb
   old:=fun b hlt hab=>by
    rw[hother b (by omega)]
    exact hW.old b hlt hab
   olda:=fun b hlt=>by
    obtain⟨q1,q2⟩:=hW.olda b hlt
    refine⟨q1,fun o v ho hc=>?_⟩
    rw[cell_of_heap (hother b (by omega))]
    exact q2 o v ho hc
   labw:=fun b hb' hor=>by
    obtain⟨vs,e',h1⟩:=hW.labw b hb' hor
    refine⟨vs,e',?_⟩
    rw[hother b (fun e0=>hb' (by rw[e0];exact hb.lab))]
    exact h1
   sz:=by rw[hsz];exact hW.sz
   os:=hW.os
   tape:=hW.tape
   out:=hW.out
   dr:=hW.dr}
 ·rw[putCells_length (by omega)]
  simp[vs']
  omega
 ·rw[putCells_get (by omega)] at hd
  have hvg:vs'[j]?=if 0≤j∧j<0+new.length then vl[j-0]? else vs.toList[j]?:=by
   simp only[vs',List.getElem?_toArray]
   by_cases c2:j<new.length
   ·rw[if_pos (by omega),List.append_assoc,List.getElem?_append_right (by simp)]
    simp
    rw[List.getElem?_append_left (by omega)]
   ·rw[if_neg (by omega),List.getElem?_append_right (by simp;omega),List.getElem?_drop]
    congr 1
    simp
    omega
  rw[hvg] at hv
  by_cases hc:0≤j∧j<0+new.length
  ·rw[if_pos hc] at hd hv
   exact rG (hr _ d v hd hv)
  ·rw[if_neg hc] at hd hv
   exact rG (e3 j d v hd (by simpa using hv))

abbrev PX:=D×Option Fact
abbrev EnvX:=Nat→Option PX
def fstE (E:EnvX):Env:=fun t=>(E t).map (·.1)
def putX (E:EnvX) (t:Option Nat) (p:PX):EnvX:=match t with|some t=>fun t'=>if t=t' then some p else E t'|none=>E
theorem fstE_put (E:EnvX) (t:Option Nat) (p:PX):fstE (putX E t p)=putE (fstE E) t p.1:=by
 cases t with
 | none=>rfl
 | some t =>
  funext t'
  by_cases h:t=t'<;>simp[fstE,putX,putE,h]
theorem putX_comm (E:EnvX) {x y:Option Nat} (d e:PX) (h:∀t,x=some t→y≠some t):putX (putX E x d) y e=putX (putX E y e) x d:=by
 cases x with
 | none=>rfl
 | some t =>
  cases y with
  | none=>rfl
  | some u =>
   have hne:t≠u:=fun e=>h t rfl (by rw[e])
   funext t'
   simp only[putX]
   by_cases h1:t=t'
   ·subst h1
    have:¬u=t:=fun e=>hne e.symm
    simp[this]
   ·simp[h1]

def isSt:Op→Bool
 | .store _ _ _=>true
 | _=>false
def wrX (o:Oper):Option Nat:=match o.op with
 | .store _ (.tmp t) _=>some t
 | _=>o.dst
theorem wrX_dst {o:Oper} (h:isSt o.op=false):wrX o=o.dst:=by
 unfold wrX
 split
 ·rename_i h1
  rw[h1] at h;cases h
 ·rfl

theorem appO_sound {S:Setup} {B:Base} {L:LS} {G:Ghost} {a:Act} {w:World} (hs:Sim B L G a w) {t ty e:TypeId} {tk:Tk} {ys:List D} {i:TyI} {v u:Value} (hx:Rel G w (.sl .full []) v) (hy:Rel G w (.sl tk ys) u) (ht0:S.kd t=some (.slice e)) (hi:S.tab e=some i)
  (hb:0<i.size∧(∀x∈ys,x.cells.length=i.size)∧ys.length*i.bytes≤140737488355328∧ys.length≤140737488355328) :
  ∃A n c G' w',(Builtin.append_ #[t,t] ty #[v,u]).run S.P w=.ok (.slice A n c) w'∧Sim B L G' a w'∧Rel G' w' (.sl .any ys) (.slice A n c)∧Quiet G G' w w' ∧
   ((n=0∧c=0)∨∃g,w.heap.size≤g∧g<w'.heap.size∧G'.lab g=[]∧A=some ⟨g,0,none⟩∧n*i.size=G'.lim g∧0<i.size∧∃cur,w'.heap[g]?=some (.cells cur e (0,0))∧G'.lim g≤cur.size∧w'.shape? g=some (e,c*i.size)):=by
 obtain⟨hz,huy,hbt,h63⟩:=hb
 have ht:=kd_slice ht0
 obtain⟨inf,i1,i2,i3,z,i4,i5,_⟩:=(S.ok e i hi).info
 obtain⟨A,n,c,rfl⟩:∃A n c,v=.slice A n c:=by cases hx;exact⟨_,_,_,rfl⟩
 obtain⟨A2,m,c2,rfl⟩:∃A n c,u=.slice A n c:=by cases hy;exact⟨_,_,_,rfl⟩
 obtain⟨xn,xc,xm,xk,xl⟩:=rel_list hx
 obtain⟨yn,yc,ym,yk,yl⟩:=rel_list hy
 have hml:(140737488355328:Nat)≤maxLen:=by simp[maxLen]
 have hfy:=flat_length huy
 have hnc:n=c:=by
  cases hx with
  | @sl _ _ _ _ _ b o s hn hcc hm htk hA hu hk0 hstt hrr=>exact htk
 have hn0:n=0:=xn
 subst hn0
 obtain rfl:c=0:=hnc.symm
 by_cases hm0:ys=[]
 ·subst hm0
  have hm:m=0:=by rw[yn];rfl
  subst hm
  exact⟨_,_,_,G,w,run_append_zero (P:=S.P) w t ty e inf ht i1 A 0 0 xc A2 c2,hs,hx.le .any,Quiet.refl _ _,.inl ⟨rfl,rfl⟩⟩
 ·obtain⟨b2,o2,rfl,news,n1,n2,n3,n4,_⟩:=yl hm0
  have hmp:0<m:=by rw[yn];exact List.length_pos_iff.2 hm0
  have hnl:news.length=m*inf.size:=by rw[n1,hfy,yn,i2]
  have hnews:∀(j:Nat) u,news[j]?=some u→w.cell? ((⟨b2,o2,none⟩:Addr).add j)=some u:=fun j u hu=>by rw[add_mk];exact n2 j u hu
  have hzs:z.cells.size=inf.size:=by rw[i5,i2];simp[TyI.size]
  have hbytes:(0+m)*inf.bytes≤140737488355328:=by rw[i3,yn,Nat.zero_add];exact hbt
  have hsd:Sim B L G a w.drew:=drewA_sim hs
  have hrd:∀d v,Rel G w d v→Rel G w.drew d v:=fun d v hr =>
   hr.mono (show Mono G G w w.drew from⟨fun _ _ _ h1 h2=>⟨h1,h2⟩,fun _ _=>rfl,fun _ _ _ h=>h⟩) (fun _ _ _ h=>h) (fun _ _=>.inr ⟨rfl,fun _ _ _ _=>⟨rfl,rfl⟩⟩)
  have hrun:(Builtin.append_ #[t,t] ty #[.slice A 0 0,.slice (some ⟨b2,o2,none⟩) m c2]).run S.P w =
    .ok (.slice (some ⟨w.heap.size,0,none⟩) (0+m) (grownCap w (0+m) 0 e)) (w.drew.alloc (.cells (#[]++news.toArray++Builtin.zeroCells z.cells (grownCap w (0+m) 0 e-(0+m))) e)):=by
   cases A with
   | none=>simpa using run_append_nil (P:=S.P) w t ty e inf z ht i1 i4 ⟨b2,o2,none⟩ m c2 news hnl hnews hmp (by omega) (by simp only[Nat.zero_add] at hbytes;omega)
   | some ad=>exact run_append_grow (P:=S.P) w t ty e inf z ht i1 i4 ad 0 0 [] (by simp) (by simp) ⟨b2,o2,none⟩ m c2 news hnl hnews (by omega) (by omega) (growslice_fits (by omega) hbytes)
  have hcap:=grownCap_ge w (0+m) 0 e
  generalize harr:#[]++news.toArray++Builtin.zeroCells z.cells (grownCap w (0+m) 0 e-(0+m))=arr at hrun
  generalize hcc:grownCap w (0+m) 0 e=cap at *
  have hcm:cap≤maxLen:=by rw[←hcc];exact grownCap_le_maxLen w (0+m) 0 e (by omega)
  have hasz:arr.size=cap*i.size:=by
   rw[←harr]
   have hzc:(Builtin.zeroCells z.cells (cap-(0+m))).size=(cap-(0+m))*z.cells.size:=by simp[Builtin.zeroCells]
   simp only[Array.size_append,hzc,hzs,i2]
   simp only[List.size_toArray,List.length_nil,hnl,i2,Nat.zero_add]
   rw[←Nat.add_mul]
   congr 1
   omega
  have hlarr:(flat ys).length≤arr.size:=by rw[hfy,hasz,←yn];exact Nat.mul_le_mul_right _ (by omega)
  have hrl:∀d v,Rel G w d v→Rel (G.grow w.drew.heap.size ((flat ys).length)) (w.drew.alloc (.cells arr e)) d v:=fun d v hr=>alloc_rel hsd.W (.cells arr e) ((flat ys).length) (hrd d v hr)
  have e0:w.heap.size=w.drew.heap.size:=rfl
  have hnew:(w.drew.alloc (.cells arr e)).heap[w.heap.size]?=some (.cells arr e (0,0)):=heap_alloc_new w.drew _
  refine⟨_,_,_,_,_,hrun,alloc_sim hsd (.cells arr e) ((flat ys).length),?_,quiet_drew (alloc_quiet G w.drew _ _),.inr ⟨w.heap.size,Nat.le_refl _,heap_lt hnew,?_,rfl,?_,hz,arr,hnew,?_,?_⟩⟩
  ·refine .sl (b:=w.heap.size) (o:=0) (s:=i.size) (by rw[Nat.zero_add];exact yn) hcap hcm trivial (.inr rfl) huy yk (fun j d hd=>?_) (fun j d v hd hv=>?_)
   ·have hj:j<(flat ys).length:=(List.getElem?_eq_some_iff.1 hd).1
    rw[Nat.zero_add,e0,alloc_cell]
    exact⟨by simpa[Ghost.grow] using hj,arr[j]'(by omega),by simp[show j<arr.size by omega]⟩
   ·rw[Nat.zero_add,e0,alloc_cell,←harr] at hv
    refine hrl d v ?_
    have hlt:=(List.getElem?_eq_some_iff.1 hd).1
    rw[Array.append_assoc,Array.getElem?_append_right (by simp),Array.getElem?_append_left (by simp;omega)] at hv
    exact n3 _ d v hd (by simpa using hv)
  ·show G.lab w.heap.size=[]
   by_cases e1:G.lab w.heap.size=[]
   ·exact e1
   ·exact absurd (hs.W.lablt _ e1) (Nat.lt_irrefl _)
  ·simp only[Ghost.grow,e0,if_true,Nat.zero_add,hfy,yn]
  ·simp only[Ghost.grow,e0,if_true];exact hlarr
  ·unfold World.shape?
   simp only[hnew,hasz]

inductive Eff (S:Setup) (op:Op) (E:EnvX) (bx:Nat→Option (List D)):PX→Prop
 | quiet {d:D} (hn:isSt op=false) (h:∀K:D→Prop,K d→opY S op (evalE (fstE E)) bx K):Eff S op E bx (d,none)
 | alloc {ty:TypeId} {i:TyI} (h:op=.alloc ty) (hi:S.tab ty=some i):Eff S op E bx (.pred fun _ _ _=>True,some (.box (i.zero.map ZK.d)))
 | own {f:Operand} {args:Array Operand} {tys:Array TypeId} {fid:Nat} {cap ds xs:List D} {ro:List (Nat×List D)} {e:TypeId} {z:Nat} (k:Nat) (h:op=.call ⟨.value f,args,tys⟩) (hf:evalE (fstE E) f=some (.fn fid cap)) (hds:mapO (evalE (fstE E)) args.toList=some ds)
   (hro:∀p∈ro,bx p.1=some p.2) (fc:FC S fid ro [] [] (ds++cap) (.sl (.own 0 e z) xs) [] [0]):Eff S op E bx (.sl .any xs,some (.own k e z xs))
 | app {x y:Operand} {ty e:TypeId} {tk:Tk} {ys:List D} {i:TyI} (k:Nat) (h:op=.call ⟨.builtin .append,#[x,y],#[ty,ty]⟩) (hx:evalE (fstE E) x=some (.sl .full [])) (hy:evalE (fstE E) y=some (.sl tk ys)) (hkd:S.kd ty=some (.slice e)) (hi:S.tab e=some i)
   (hb:0<i.size∧(∀x∈ys,x.cells.length=i.size)∧ys.length*i.bytes≤140737488355328∧ys.length≤140737488355328):Eff S op E bx (.sl .any ys,some (.own k e i.size ys))
 | store {T:TypeId} {t:Nat} {x:Operand} {d d0:D} {i:TyI} {cs:List D} (h:op=.store T (.tmp t) x) (he:E t=some (d0,some (.box cs))) (hx:evalE (fstE E) x=some d) (hi:S.tab T=some i)
   (hs:d.cells.length=i.size∧d.cells.length=cs.length∧d.cells.all D.one=true∧D.idsL d.cells=[]∧D.tksL d.cells=[]):Eff S op E bx (d0,some (.box d.cells))

theorem Eff.congr {S:Setup} {op:Op} {E E':EnvX} {bx:Nat→Option (List D)} {p:PX} (h:∀u,Operand.tmp u∈op.operands→E u=E' u) (he:Eff S op E bx p):Eff S op E' bx p:=by
 have hop:∀x∈op.operands,evalE (fstE E) x=evalE (fstE E') x:=fun x hx=>by
  cases x with
  | tmp u=>simp only[evalE,fstE,h u hx]
  | _=>rfl
 cases he with
 | quiet hn hq=>exact .quiet hn fun K hK=>opY_congr hop (hq K hK)
 | alloc h1 hi=>exact .alloc h1 hi
 | @own f args tys fid cap ds xs ro e z k h1 hf hds hro fc =>
  subst h1
  simp only[Op.operands,Call.operands] at hop
  refine .own k rfl ?_ ?_ hro fc
  ·rw[←hop f (by simp)];exact hf
  ·rw[←mapO_congr (ρ:=evalE (fstE E)) fun x hx=>hop x (by simp at hx ⊢;exact .inr hx)];exact hds
 | @app x y ty e tk ys i k h1 hx hy hkd hi hb =>
  subst h1
  simp only[Op.operands,Call.operands] at hop
  exact .app k rfl (by rw[←hop x (by simp)];exact hx) (by rw[←hop y (by simp)];exact hy) hkd hi hb
 | @store T t x d d0 i cs h1 he hx hi hs =>
  subst h1
  refine .store rfl ?_ ?_ hi hs
  ·rw[←h t (by simp[Op.operands])];exact he
  ·rw[←hop x (by simp[Op.operands])];exact hx

def apartX (ops:Array Oper) (o p:Oper):Bool :=
 (match wrX o with|none=>true|some t=>!(p.looksAt ops).contains t&&wrX p != some t)&&(match wrX p with|none=>true|some t=>!(o.looksAt ops).contains t)
theorem apartX_spec {ops:Array Oper} {o p:Oper} (h:apartX ops o p=true):(∀u,wrX o=some u→u∉p.looksAt ops)∧(∀t,wrX o=some t→wrX p≠some t)∧∀u,wrX p=some u→u∉o.looksAt ops:=by
 unfold apartX at h
 rw[Bool.and_eq_true] at h
 obtain⟨h1,h2⟩:=h
 refine⟨fun u hu=>?_,fun u hu=>?_,fun u hu=>?_⟩
 ·rw[hu] at h1
  simp only[Bool.and_eq_true] at h1
  simpa using h1.1
 ·rw[hu] at h1
  simp only[Bool.and_eq_true] at h1
  simpa using h1.2
 ·rw[hu] at h2
  simpa using h2
def freeX (md:Region.Mode) (ops:Array Oper) (listed:Array Bool) (i:Nat):Bool:=match ops[i]? with
 | none=>false
 | some oi=>(List.range ops.size).all fun j=>j==i||listed.getD j true||(ons md ops j).contains i||(match ops[j]? with|none=>true|some oj=>apartX ops oi oj)
theorem freeX_spec {md:Region.Mode} {ops:Array Oper} {listed:Array Bool} {i:Nat} {oi:Oper} (hi:ops[i]?=some oi) (h:freeX md ops listed i=true):∀j oj,ops[j]?=some oj→j≠i→listed.getD j true=false→(∀e∈oj.after,Region.binds md e=true→e.on≠i)→apartX ops oi oj=true:=fun j oj hj hne hun hno=>by
 unfold freeX at h
 simp only[hi] at h
 have hlt:=(Array.getElem?_eq_some_iff.1 hj).1
 have:=List.all_eq_true.1 h j (List.mem_range.2 hlt)
 simp only[hj,Bool.or_eq_true,beq_iff_eq,hun] at this
 rcases this with ((h1|h1)|h1)|h1
 ·exact absurd h1 hne
 ·cases h1
 ·have h2:i∈ons md ops j:=by simpa using h1
  simp only[ons,hj,List.mem_map,List.mem_filter] at h2
  obtain⟨e,⟨he,hb⟩,hon⟩:=h2
  exact absurd hon (hno e (by simpa using he) hb)
 ·exact h1
def lexHeadX (md:Region.Mode) (ops:Array Oper):Nat→Nat→Array Bool→Bool
 | 0,_,_=>true
 | f+1,k,listed=>(Region.ready md ops listed).contains k&&freeX md ops listed k&&lexHeadX md ops f (k+1) (listed.setIfInBounds k true)
def drawX (md:Region.Mode) (ops:Array Oper) (m:Nat):Bool:=lexHeadX md ops m 0 (Array.replicate ops.size false)&&tailB md ops m&&decide (m≤ops.size)

section
variable {S:Setup} {ops:Array Oper} {bx:Nat→Option (List D)} {n m:Nat} {md:Region.Mode}
def YieldsX (S:Setup) (ops:Array Oper) (bx:Nat→Option (List D)) (n:Nat) (o:Oper) (p:PX) (E:EnvX):Prop :=
 dstN n o.dst∧((guardE ops (fstE E) o.guard=some true∧Eff S o.op E bx p∧(isSt o.op=true→o.dst=none))∨(guardE ops (fstE E) o.guard=some false∧isSt o.op=false∧p=(.raw undef,none)))
def qX (S:Setup) (ops:Array Oper) (bx:Nat→Option (List D)) (n:Nat) (i:Nat) (K:EnvX→Prop) (E:EnvX):Prop :=
 match ops[i]? with
 | none=>K E
 | some o=>∃d,YieldsX S ops bx n o d E∧K (putX E (wrX o) d)
theorem qX_mono {i:Nat} {E:EnvX} {K K':EnvX→Prop} (h:∀E,K E→K' E) (hh:qX S ops bx n i K E):qX S ops bx n i K' E:=by
 unfold qX at *
 split
 ·exact h _ (by simpa[*] using hh)
 ·rename_i o ho
  simp only[ho] at hh
  obtain⟨d,h1,h2⟩:=hh
  exact⟨d,h1,h _ h2⟩
theorem YieldsX.qX {i:Nat} {o:Oper} {d:PX} {E:EnvX} (hi:ops[i]?=some o) (hy:YieldsX S ops bx n o d E) {K:EnvX→Prop} (h:K (putX E (wrX o) d)):qX S ops bx n i K E:=by
 unfold Go.Lg.qX
 simp only[hi]
 exact⟨d,hy,h⟩
theorem yieldsX_put (o:Oper) (E:EnvX) (t:Option Nat) (e d:PX) (h:∀u,t=some u→u∉o.looksAt ops):YieldsX S ops bx n o d (putX E t e)↔YieldsX S ops bx n o d E:=by
 have hop:∀u,Operand.tmp u∈o.op.operands→putX E t e u=E u:=fun u hu=>by
  cases t with
  | none=>rfl
  | some t =>
   have hne:t≠u:=fun e0=>h t rfl (by
    subst e0
    exact List.mem_append_left _ (List.mem_filterMap.2 ⟨.tmp t,by simpa using hu,rfl⟩))
   simp[putX,hne]
 have hgd:guardE ops (fstE (putX E t e)) o.guard=guardE ops (fstE E) o.guard:=by
  rw[fstE_put];exact guardE_put o (fstE E) t e.1 h
 unfold YieldsX
 rw[hgd]
 constructor
 ·rintro⟨h0,⟨h1,h2,h3⟩|h2⟩
  ·exact⟨h0,.inl ⟨h1,h2.congr hop,h3⟩⟩
  ·exact⟨h0,.inr h2⟩
 ·rintro⟨h0,⟨h1,h2,h3⟩|h2⟩
  ·exact⟨h0,.inl ⟨h1,h2.congr fun x hx=>(hop x hx).symm,h3⟩⟩
  ·exact⟨h0,.inr h2⟩
theorem qX_put {j:Nat} {oi oj:Oper} {d:PX} (hj:ops[j]?=some oj) (hap:apartX ops oi oj=true) {K:EnvX→Prop} {E:EnvX}
  (hy:YieldsX S ops bx n oi d E) (h:qX S ops bx n j K (putX E (wrX oi) d)):qX S ops bx n j (fun E'=>YieldsX S ops bx n oi d E'∧K (putX E' (wrX oi) d)) E:=by
 obtain⟨h1,h2,h3⟩:=apartX_spec hap
 unfold qX at *
 simp only[hj] at *
 obtain⟨e,he,hK⟩:=h
 refine⟨e,(yieldsX_put oj E (wrX oi) d e h1).1 he,(yieldsX_put oi E (wrX oj) e d h3).2 hy,?_⟩
 rw[←putX_comm E d e h2]
 exact hK

def wpAnyX (S:Setup) (md:Region.Mode) (ops:Array Oper) (bx:Nat→Option (List D)) (n:Nat) (Q:EnvX→Prop):Nat→Array Bool→EnvX→Prop
 | 0,_,E=>Q E
 | f+1,listed,E=>Region.ready md ops listed≠[]∧∀i∈Region.ready md ops listed,qX S ops bx n i (wpAnyX S md ops bx n Q f (listed.setIfInBounds i true)) E

theorem wpAnyX_first {Q:EnvX→Prop} {i:Nat} {oi:Oper} {d:PX} (hi:ops[i]?=some oi) (hB:tailB md ops m=true) (him:i<m) :
  ∀(f:Nat) (listed:Array Bool) (E:EnvX),InvT md ops m (f+1) listed →
   (∀j oj,ops[j]?=some oj→j≠i→listed.getD j true=false→(∀e∈oj.after,Region.binds md e=true→e.on≠i)→apartX ops oi oj=true) →
   i∈Region.ready md ops listed→YieldsX S ops bx n oi d E →
   wpAnyX S md ops bx n Q f (listed.setIfInBounds i true) (putX E (wrX oi) d)→wpAnyX S md ops bx n Q (f+1) listed E:=by
 intro f
 induction f with
 | zero =>
  intro listed E hinv _ hr hy H
  refine⟨fun h=>(by rw[h] at hr;cases hr),fun j hj=>?_⟩
  have hjm:=hinv.lt hB hj
  obtain rfl:=cntU_one hinv.cnt (mem_ready.1 hr).1 (mem_ready.1 hj).1 him hjm
  exact hy.qX hi H
 | succ f ih =>
  intro listed E hinv hfree hr hy H
  refine⟨fun h=>(by rw[h] at hr;cases hr),fun j hj=>?_⟩
  by_cases hji:j=i
  ·subst hji;exact hy.qX hi H
  ·have h1:=H.2 j (ready_mono hj hji)
   obtain⟨hjun,oj,hoj,hall⟩:=mem_ready.1 hj
   have hnot:∀e∈oj.after,Region.binds md e=true→e.on≠i:=fun e he hb heq=>by
    have h1:=hall e he hb
    have h0:=(getD_tf (mem_ready.1 hr).1).1
    rw[heq,h0] at h1
    cases h1
   have h2:=qX_put hoj (hfree j oj hoj hji hjun hnot) hy h1
   have hfree':∀k ok,ops[k]?=some ok→k≠i→(listed.setIfInBounds j true).getD k true=false →
     (∀e∈ok.after,Region.binds md e=true→e.on≠i)→apartX ops oi ok=true:=fun k ok hk hki hun hno=>by
    refine hfree k ok hk hki ?_ hno
    by_cases hjk:j=k
    ·subst hjk;exact hjun
    ·rw[getD_set_ne true hjk] at hun;exact hun
   refine qX_mono (fun E' h3=>ih (listed.setIfInBounds j true) E' (hinv.set hj (hinv.lt hB hj)) hfree' (ready_mono hr (Ne.symm hji)) h3.1 ?_) h2
   rw[Array.setIfInBounds_comm _ _ hji]
   exact h3.2

def lexX (S:Setup) (ops:Array Oper) (bx:Nat→Option (List D)) (n:Nat) (Q:EnvX→Prop):List Oper→EnvX→Prop
 | [],E=>Q E
 | o::l,E=>∃d,YieldsX S ops bx n o d E∧lexX S ops bx n Q l (putX E (wrX o) d)
theorem wpAnyX_lex {Q:EnvX→Prop} (hB:tailB md ops m=true):∀(l:List Oper) (k:Nat) (listed:Array Bool) (E:EnvX),(∀j,j<l.length→l[j]?=ops[k+j]?)→k+l.length=m→InvT md ops m l.length listed →
  lexHeadX md ops l.length k listed=true→lexX S ops bx n Q l E→wpAnyX S md ops bx n Q l.length listed E
 | [],_,_,_,_,_,_,_,h=>h
 | o::l,k,listed,E,hl,hk,hinv,hL,h=>by
  have h0:ops[k]?=some o:=by simpa using (hl 0 (by simp)).symm
  simp only[List.length_cons,lexHeadX,Bool.and_eq_true] at hL
  obtain⟨⟨hr,hf⟩,hL'⟩:=hL
  have hr':k∈Region.ready md ops listed:=by simpa using hr
  obtain⟨d,hy,hK⟩:=h
  simp only[List.length_cons] at hk
  exact wpAnyX_first h0 hB (by omega) l.length listed E hinv (freeX_spec h0 hf) hr' hy
   (wpAnyX_lex hB l (k+1) _ _ (fun j hj=>by have:=hl (j+1) (by simpa using hj);simpa[Nat.add_assoc,Nat.add_comm 1 j] using this) (by omega) (hinv.set hr' (by omega)) hL' hK)
end

def SimX (B:Base) (L0:LS) (E:EnvX) (G:Ghost) (a:Act) (w:World):Prop :=
 ∃(L:LS) (γ:Nat→Option Nat),(look L.env=fstE E∧L.n=L0.n∧L.boxes=L0.boxes∧L.ro=L0.ro∧L.toks=L0.toks∧L.fix=L0.fix)∧Sim B L G a w ∧
  (∀t d f,E t=some (d,some f)→∃v,a.tmps[t]?=some v∧FactOk B G w (γ t) f v) ∧
  ∀t t' d d' f f' g,E t=some (d,some f)→E t'=some (d',some f')→γ t=some g→γ t'=some g→t=t'

theorem simX_put {B : Base} {L0 L : LS} {E : EnvX} {G G' : Ghost} {a : Act} {w w' : World} {γ : Nat → Option Nat} (hE : look L.env = fstE E ∧ L.n = L0.n ∧ L.boxes = L0.boxes ∧ L.ro = L0.ro ∧ L.toks = L0.toks ∧ L.fix = L0.fix) (hs : Sim B L G a w) (hs' : Sim B L G' a w') (hq : Quiet G G' w w')
    (hf:∀t d f,E t=some (d,some f)→∃v,a.tmps[t]?=some v∧FactOk B G w (γ t) f v) (hi:∀t t' d d' f f' g,E t=some (d,some f)→E t'=some (d',some f')→γ t=some g→γ t'=some g→t=t')
    {t:Option Nat} {d:D} {φ:Option Fact} {o:Option Nat} {v:Value} (ht:dstN L0.n t) (hr:Rel G' w' d v) (hφ:∀f,φ=some f→FactOk B G' w' o f v) (ho:∀g,o=some g→w.heap.size≤g):SimX B L0 (putX E t (d,φ)) G' (a.put t v) w':=by
  obtain⟨h1,h2,h3,h4,h5,h6⟩:=hE
  cases t with
  | none =>
    exact⟨L,γ,⟨h1,h2,h3,h4,h5,h6⟩,hs',fun t d f he=>let ⟨v,e1,e2⟩:=hf t d f he;⟨v,e1,hq.fact hs.W e2⟩,hi⟩
  | some t =>
    refine⟨L.put t d,fun t'=>if t=t' then o else γ t',⟨?_,h2,h3,h4,h5,h6⟩,hs'.put (by rw[h2];exact ht) hr,fun t' d' f he=>?_,fun t1 t2 d1 d2 f1 f2 g e1 e2 g1 g2=>?_⟩
    · rw[fstE_put,←h1]
      funext t'
      simp only[LS.put,look_setA,putE]
    · simp only[putX] at he
      by_cases e:t=t'
      · subst e
        simp only[if_true,Option.some.injEq,Prod.mk.injEq] at he
        exact ⟨v, by have := hs'.size; have hlt : t < L.n := by rw [h2]; exact ht
                     simp[Act.put,this,hlt],by simp only[if_true];exact hφ f he.2⟩
      · rw[if_neg e] at he
        obtain⟨v',e1,e2⟩:=hf t' d' f he
        exact⟨v',by simp only[Act.put];rw[Array.getElem?_setIfInBounds_ne e];exact e1,by simp only[if_neg e];exact hq.fact hs.W e2⟩
    · simp only[putX] at e1 e2
      have old:∀t' d' f',E t'=some (d',some f')→γ t'=some g→g<w.heap.size:=fun t' d' f' he hg=>by
        obtain⟨v',_,e4⟩:=hf t' d' f' he
        exact e4.lt hg
      by_cases q1:t=t1<;>by_cases q2:t=t2
      · omega
      · simp only[if_pos q1,if_neg q2] at g1 g2 e2
        have:=old t2 d2 f2 e2 g2
        have:=ho g g1
        omega
      · simp only[if_neg q1,if_pos q2] at g1 g2 e1
        have:=old t1 d1 f1 e1 g1
        have:=ho g g2
        omega
      · simp only[if_neg q1,if_neg q2] at g1 g2 e1 e2
        exact hi t1 t2 d1 d2 f1 f2 g e1 e2 g1 g2

theorem ZK.d_ids (l:List ZK):D.idsL (l.map ZK.d)=[]:=by
 induction l with
 | nil=>rfl
 | cons q r ih =>
  simp only[List.map_cons,D.idsL,ih,List.append_nil]
  cases q<;>rfl
theorem ZK.d_tks (l:List ZK):D.tksL (l.map ZK.d)=[]:=by
 induction l with
 | nil=>rfl
 | cons q r ih =>
  simp only[List.map_cons,D.tksL,ih,List.append_nil]
  cases q<;>rfl

theorem bare_new {B:Base} {bx ro:List (Nat×List D)} {tk:List Nat} {G G':Ghost} {w w':World} (hW:SimW B bx ro tk G w) (hq:Quiet G G' w w') {g:Nat} (h1:w.heap.size≤g) (h2:g<w'.heap.size) (hl:G'.lab g=[]):Bare B G' w' g where
 ge:=Nat.le_trans hW.sz h1
 lt:=h2
 beta:=fun i hi=>by
  rw[hq.beta] at hi
  have:=hW.blt i g hi
  omega
 tau:=fun k e z hk=>by
  rw[hq.tau] at hk
  obtain⟨_,_,⟨cur,hc,_⟩,_⟩:=hW.tau k g e z hk
  have:=heap_lt hc
  omega
 lab:=hl

theorem wpOp_of_qX {S:Setup} {ops:Array Oper} {B:Base} {L0:LS} {i:Nat} {E:EnvX} {G:Ghost} {a:Act} {w:World} {K:EnvX→Prop} {K':Act→World→Prop} {Q':Exit→Act→World→Prop} (hs:SimX B L0 E G a w)
  (h:∀E G a' w',SimX B L0 E G a' w'→K E→K' a' w') (hh:qX S ops L0.getBox L0.n i K E):wpOp S.P ops Q' i K' a w:=by
 unfold qX at hh
 unfold wpOp
 split
 ·rename_i ho;simp only[ho] at hh;exact h E G a w hs hh
 ·rename_i o ho
  simp only[ho] at hh
  obtain⟨p,⟨hd,hy⟩,hK⟩:=hh
  obtain⟨L,γ,hE,hsim,hf,hi⟩:=hs
  obtain⟨h1,h2,h3,h4,h5,h6⟩:=id hE
  rcases hy with⟨hg,heff,hdn⟩|⟨hg,hst,rfl⟩
  ·rw[if_pos (guardY_sound (S:=S) rfl hsim (by rw[guardE_eq h1];exact hg))]
   left
   rw[←getBox_eq (L:=L) (L0:=L0) h3 h4] at heff
   have hev:evalE (fstE E)=evalO L:=(evalE_eq h1).symm
   have hp:∀op:Op,o.op=op→o=⟨o.dst,op,o.type,o.pos,o.after,o.guard⟩:=fun op e=>by subst e;rfl
   cases heff with
   | @quiet d hst hop =>
    rw[wrX_dst hst] at hK
    rw[hev] at hop
    obtain⟨d',hd',hyld⟩:=opY_sound hsim (hop (fun x=>x=d) rfl)
    subst hd'
    exact hyld K' Q' fun v G' w' hs' hr hq=>h _ G' _ w' (simX_put hE hsim hs' hq hf hi (o:=none) hd hr (fun f hf=>by cases hf) (fun g hg=>by cases hg)) hK
   | @alloc ty inf hop hi0 =>
    rw[wrX_dst (by rw[hop];rfl)] at hK
    obtain⟨z,hz,hr,_⟩:=relArr_zero (S:=S) (G:=G) (w:=w) hi0
    have hrun:(execOp a.eval o).run S.P w=.ok (.value (.pointer (some ⟨w.heap.size,0,none⟩))) (w.alloc (.cells z.cells ty)):=by
     rw[hp _ hop]
     simp[execOp,Instr.alloc,newVar,newRow,hz]
    unfold Oper.wp
    rw[hrun]
    have hs':=alloc_sim hsim (.cells z.cells ty) 0
    have hq:=alloc_quiet G w (.cells z.cells ty) 0
    refine h _ _ _ _ (simX_put hE hsim hs' hq hf hi (o:=some w.heap.size) hd (.pred (by intro cs h;cases h) fun _ _ _=>trivial) (fun f hf=>?_) (fun g hg=>by have:=Option.some.inj hg;omega)) hK
    obtain rfl:=Option.some.inj hf
    refine⟨_,rfl,rfl,bare_new hsim.W hq (Nat.le_refl _) (by simp) ?_,⟨z.cells,ty,heap_alloc_new w _,Nat.le_of_eq hr.1.symm,fun j d v hd hv=>alloc_rel hsim.W _ _ (hr.2 j d v hd hv)⟩,by simp[Ghost.grow],ZK.d_ids _,ZK.d_tks _⟩
    show G.lab w.heap.size=[]
    by_cases e:G.lab w.heap.size=[]
    ·exact e
    ·exact absurd (hsim.W.lablt _ e) (Nat.lt_irrefl _)
   | @own f args tys fid cap ds xs ro e z kk hop hf0 hds hro fc =>
    rw[wrX_dst (by rw[hop];rfl)] at hK
    rw[hev] at hf0 hds
    obtain⟨e1,e2⟩:=mapO_sound hsim hds
    have hv:=eval_sound hsim hf0
    generalize hu:a.eval f=u at hv
    cases hv with
    | @fn _ _ vl hl hr =>
    have hrun:(execOp a.eval o).run S.P w=.ok (.enter fid (args.map a.eval++vl.toArray)) w:=by
     rw[hp _ hop]
     simp[execOp,resolve,hu,Deferred.ofValue,invoke,enter_run fc.1]
    unfold Oper.wp
    rw[hrun,Oper.upon_enter]
    refine(callE_sound hsim (vals:=args.map a.eval++vl.toArray) ?_ ?_ hro fc).mono ?_
    ·simp at e1
     simp[e1,hl]
    ·intro j d v hd hv
     have hsz:(args.map a.eval).size=ds.length:=by simp at e1;simp[e1]
     by_cases hj:j<ds.length
     ·rw[List.getElem?_append_left hj] at hd
      rw[Array.getElem?_append_left (by omega)] at hv
      exact e2 j d v hd (by simpa using hv)
     ·rw[List.getElem?_append_right (by omega)] at hd
      rw[Array.getElem?_append_right (by omega),hsz] at hv
      exact hr _ d v hd (by simpa using hv)
    ·rintro e' w' ⟨v,G',rfl,hs',hq,w0,hend⟩
     obtain⟨v',q1,q2⟩:=hend.env 0 _ rfl
     obtain rfl:v=v':=by simpa using q1
     obtain⟨x,hx⟩:=hend.W.toks 0 (by simp)
     have hab:∀b,¬(baseOf {G with τ:=fun _=>none} w [] []).ab b:=by
      rintro b (⟨p,hp,_⟩|⟨k,hk,_⟩)
      ·cases hp
      ·cases hk
     have r2:Rel {G' with β:=G.β,τ:=G.τ} w' (.sl .any xs) v:=by
      have q3:Rel G' w' (.sl .any xs) v:=q2.le .any
      exact q3.mono (show Mono G' {G' with β:=G.β,τ:=G.τ} w' w' from⟨fun _ _ _ h1 h2=>⟨h1,h2⟩,fun _ _=>rfl,fun _ _ _ h=>h⟩) (by simp[D.ids]) (by simp[D.tks])
     cases q2 with
     | @sl _ _ A n c b o' s hn hc hm ht hA hu2 hk hst hrr =>
     simp only[TkOk,hx] at ht
     match x,hx,ht with
     | none,_,ht =>
      refine h _ _ _ _ (simX_put hE hsim hs' hq hf hi (o:=none) hd r2 (fun f hf=>?_) (fun g hg=>by cases hg)) hK
      obtain rfl:=Option.some.inj hf
      exact⟨r2,A,n,c,rfl,.inl ⟨rfl,ht.1,ht.2⟩⟩
     | some (g,e2',z2),hx,ht =>
      obtain⟨⟨rfl,rfl⟩,k2,k3,k4,k5⟩:=ht
      obtain⟨t1,t2,⟨cur,t3,t4⟩,_⟩:=hend.W.tau 0 g _ _ hx
      have hge:w.heap.size≤g:=t1.resolve_right (hab g)
      refine h _ _ _ _ (simX_put hE hsim hs' hq hf hi (o:=some g) hd r2 (fun f hf=>?_) (fun g' hg=>by have:=Option.some.inj hg;omega)) hK
      obtain rfl:=Option.some.inj hf
      exact⟨r2,A,n,c,rfl,.inr ⟨g,rfl,bare_new hsim.W hq hge (heap_lt t3) (hend.W.tlab 0 g _ _ hx),k2,k3,k5,t2,cur,t3,t4,k4⟩⟩
   | @app x y ty e tk ys inf kk hop hx hy hkd hi0 hb =>
    rw[wrX_dst (by rw[hop];rfl)] at hK
    rw[hev] at hx hy
    obtain⟨A,n,c,G',w',hrun,hs',r2,hq,hown⟩:=appO_sound (ty:=o.type) hsim (eval_sound hsim hx) (eval_sound hsim hy) hkd hi0 hb
    have hr:(execOp a.eval o).run S.P w=.ok (.value (.slice A n c)) w':=by
     rw[hp _ hop]
     simp[execOp,resolve,invoke,builtin,hrun]
    unfold Oper.wp
    rw[hr]
    rcases hown with⟨u1,u2⟩|⟨g,hge,hlt,hlab,k2,k3,t2,cur,t3,t4,k4⟩
    ·refine h _ _ _ _ (simX_put hE hsim hs' hq hf hi (o:=none) hd r2 (fun f hf=>?_) (fun g hg=>by cases hg)) hK
     obtain rfl:=Option.some.inj hf
     exact⟨r2,A,n,c,rfl,.inl ⟨rfl,u1,u2⟩⟩
    ·refine h _ _ _ _ (simX_put hE hsim hs' hq hf hi (o:=some g) hd r2 (fun f hf=>?_) (fun g' hg=>by have:=Option.some.inj hg;omega)) hK
     obtain rfl:=Option.some.inj hf
     exact⟨r2,A,n,c,rfl,.inr ⟨g,rfl,bare_new hsim.W hq hge hlt hlab,k2,k3,hb.2.1,t2,cur,t3,t4,k4⟩⟩
   | @store T t x d d0 inf cs hop he hx hi0 hs =>
    obtain⟨s1,s2,s3,s4,s5⟩:=hs
    obtain⟨v,hv,hfo⟩:=hf t d0 _ he
    obtain⟨g,q1,rfl,q3,q4,q5,_,_⟩:=hfo
    rw[hev] at hx
    have hvx:=eval_sound hsim hx
    obtain⟨c1,c2⟩:=hvx.cells
    have hone:∀u∈(a.eval x).cells.toList,u.oneCell'=true:=fun u hu=>by
     obtain⟨j,hj⟩:=List.getElem?_of_mem hu
     have hlt:j<d.cells.length:=by rw[←c1];have:=(List.getElem?_eq_some_iff.1 hj).1;simpa using this
     exact(c2 j _ u (List.getElem?_eq_getElem hlt) (by simpa using hj)).one (List.all_eq_true.1 s3 _ (List.getElem_mem hlt))
    obtain⟨w',k2,k3,k4,k5,k6,k7⟩:=poke_sim hsim q3 q4 q5 (new:=d.cells) (vl:=(a.eval x).cells.toList) (by omega) (by simpa using c1) (fun j d u hd hu=>c2 j d u hd (by simpa using hu)) hone
    have hput:putCells cs 0 d.cells=d.cells:=by
     unfold putCells
     rw[List.take_zero,List.nil_append,List.drop_of_length_le (by omega),List.append_nil]
    rw[hput] at k4
    have hsz:=run_sizeOf (S.ok T inf hi0) w
    have hdst:=hdn (by rw[hop];rfl)
    have hat:a.eval (.tmp t)=.pointer (some ⟨g,0,none⟩):=by simp[Act.eval,hv]
    have hr:(execOp a.eval o).run S.P w=.ok .skip w':=by
     rw[hp _ hop]
     simp[execOp,Instr.storeAt,hat,Instr.sureAddr,storeVar,hsz,c1,s1,k2 S.P]
    unfold Oper.wp
    rw[hr]
    have hwr:wrX o=some t:=by unfold wrX;rw[hop]
    rw[hwr] at hK
    have hbare:∀ {g'},Bare B G w g'→Bare B G w' g':=fun hb=>⟨hb.ge,by rw[k5];exact hb.lt,hb.beta,hb.tau,hb.lab⟩
    have hput2:a.put o.dst undef=a:=by rw[hdst];rfl
    show K' (a.put o.dst undef) w'
    rw[hput2]
    refine h _ G a w' ⟨L,γ,⟨?_,h2,h3,h4,h5,h6⟩,k3,fun t' d' f' he'=>?_,fun t1 t2 d1 d2 f1 f2 g' e1 e2=>?_⟩ hK
    ·rw[fstE_put,h1]
     funext t'
     by_cases e:t=t'
     ·subst e;simp[putE,fstE,he]
     ·simp[putE,e]
    ·simp only[putX] at he'
     by_cases e:t=t'
     ·subst e
      simp only[if_true,Option.some.injEq,Prod.mk.injEq] at he'
      obtain⟨_,rfl⟩:=he'
      exact⟨_,hv,g,q1,rfl,hbare q3,k4,q5,s4,s5⟩
     ·rw[if_neg e] at he'
      obtain⟨v',e1,e2⟩:=hf t' d' f' he'
      refine⟨v',e1,?_⟩
      have hno:γ t'≠some g:=fun e0=>e (hi t t' d0 d' _ _ g he he' q1 e0)
      cases f' with
      | box cs' =>
       obtain⟨g2,r1,r2,r3,⟨vs,ee,b1,b2,b3⟩,r5⟩:=e2
       have hne:g2≠g:=fun e0=>hno (by rw[r1,e0])
       exact⟨g2,r1,r2,hbare r3,⟨vs,ee,by rw[k6 _ hne];exact b1,b2,fun j d v hd hv=>k7 _ _ (b3 j d v hd hv)⟩,r5⟩
      | own _ e0 z xs =>
       obtain⟨r0,A,n,c,r1,r2⟩:=e2
       refine⟨k7 _ _ r0,A,n,c,r1,?_⟩
       rcases r2 with r2|⟨g2,u1,u2,u3,u4,u5,u6,cur,u7,u8,u9⟩
       ·exact .inl r2
       ·have hne:g2≠g:=fun e0=>hno (by rw[u1,e0])
        exact .inr ⟨g2,u1,hbare u2,u3,u4,u5,u6,cur,by rw[k6 _ hne];exact u7,u8,by rw[shape_of_heap (k6 _ hne)];exact u9⟩
    ·simp only[putX] at e1 e2
     have back:∀u d' f',(if t=u then some (d0,some (Fact.box d.cells)) else E u)=some (d',some f')→∃d2 f2,E u=some (d2,some f2):=fun u d' f' hu=>by
      by_cases e:t=u
      ·subst e;exact⟨_,_,he⟩
      ·rw[if_neg e] at hu;exact⟨_,_,hu⟩
     obtain⟨_,_,e1'⟩:=back _ _ _ e1
     obtain⟨_,_,e2'⟩:=back _ _ _ e2
     exact hi t1 t2 _ _ _ _ g' e1' e2'
  ·rw[wrX_dst hst] at hK
   rw[if_neg (by rw[guardY_sound (S:=S) rfl hsim (by rw[guardE_eq h1];exact hg)];simp)]
   exact h _ G _ w (simX_put hE hsim hsim (.refl G w) hf hi (o:=none) hd (.raw (by intro cs h;cases h)) (fun f hf=>by cases hf) (fun g hg=>by cases hg)) hK

theorem wpAny_of_X {S:Setup} {ops:Array Oper} {m:Nat} {md:Region.Mode} {B:Base} {L0:LS} {r:Nat} {Q:EnvX→Prop} {Q':Exit→Act→World→Prop} (hB:tailB md ops m=true) (hQ:∀listed E G a w,InvT md ops m 0 listed→SimX B L0 E G a w→Q E→wpAny S.P md ops Q' r listed a w):∀(f:Nat) (listed:Array Bool) (E:EnvX) (G:Ghost) (a:Act) (w:World),InvT md ops m f listed→SimX B L0 E G a w →
  wpAnyX S md ops L0.getBox L0.n Q f listed E→wpAny S.P md ops Q' (f+r) listed a w
 | 0,listed,E,G,a,w,hinv,hs,h=>by rw[Nat.zero_add];exact hQ listed E G a w hinv hs h
 | f+1,listed,E,G,a,w,hinv,hs,h=>by
  rw[show f+1+r=(f+r)+1 by omega]
  exact⟨fun h0=>absurd h0 h.1,fun i hi=>wpOp_of_qX hs (fun E G a' w' hs' hK=>wpAny_of_X hB hQ f _ E G a' w' (hinv.set hi (hinv.lt hB hi)) hs' hK) (h.2 i hi)⟩

def pairX (L:LS) (F:List (Nat×Fact)):EnvX:=fun t=>(look L.env t).map fun d=>(d,look F t)
theorem fst_pair (L:LS) (F:List (Nat×Fact)):fstE (pairX L F)=look L.env:=by
 funext t
 simp only[fstE,pairX,Option.map_map]
 cases look L.env t<;>rfl
def freeF (F:List (Nat×Fact)) (l:List Oper) (L:LS):Prop:=∀t f,look F t=some f→(look L.env t).isSome=true∧∀o∈l,o.dst≠some t
def sameX (L L0:LS):Prop:=L.n=L0.n∧L.boxes=L0.boxes∧L.ro=L0.ro∧L.toks=L0.toks∧L.fix=L0.fix
def LexX (S:Setup) (ops:Array Oper) (L0:LS) (K:List (Nat×Fact)→LS→Prop) (F:List (Nat×Fact)) (l:List Oper) (L:LS):Prop :=
 sameX L L0→freeF F l L→lexX S ops L0.getBox L0.n (fun E=>∃F' L',E=pairX L' F'∧sameX L' L0∧freeF F' [] L'∧K F' L') l (pairX L F)

section
variable {S:Setup} {ops:Array Oper} {L0 L:LS} {K:List (Nat×Fact)→LS→Prop} {F:List (Nat×Fact)} {o:Oper} {l:List Oper}
theorem pair_putO {t:Option Nat} {d:D} (hF:∀u,t=some u→look F u=none):pairX (L.putO t d) F=putX (pairX L F) t (d,none):=by
 cases t with
 | none=>rfl
 | some t =>
  funext t'
  simp only[LS.putO,LS.put,pairX,putX,look_setA]
  by_cases e:t=t'
  ·subst e;simp[hF t rfl]
  ·simp[e]
theorem pair_putF {t:Nat} {d:D} {f:Fact}:pairX (L.put t d) ((t,f)::F)=putX (pairX L F) (some t) (d,some f):=by
 funext t'
 simp only[LS.put,pairX,putX,look_setA,look]
 by_cases e:t=t'<;>simp[e]
theorem free_none (h:freeF F (o::l) L):∀u,o.dst=some u→look F u=none:=fun u hu=>by
 cases hf:look F u with
 | none=>rfl
 | some f=>exact absurd hu ((h u f hf).2 o List.mem_cons_self)
theorem some_putO {t:Option Nat} {d:D} {u:Nat} (h:(look L.env u).isSome=true):(look (L.putO t d).env u).isSome=true:=by
 cases t with
 | none=>exact h
 | some t =>
  simp only[LS.putO,LS.put,look_setA]
  split
  ·rfl
  ·exact h
theorem free_tl {t:Option Nat} {d:D} (h:freeF F (o::l) L):freeF F l (L.putO t d):=fun t f hf=>⟨some_putO (h t f hf).1,fun o' ho=>(h t f hf).2 o' (List.mem_cons_of_mem _ ho)⟩
theorem guard_pair (g:Option (Nat×Bool)):guardE ops (fstE (pairX L F)) g=guardY ops L g:=by
 rw[fst_pair];exact(guardE_eq rfl g).symm
theorem eval_pair:evalE (fstE (pairX L F))=evalO L:=by rw[fst_pair];exact(evalE_eq rfl).symm
theorem LexX.nil (h:K F L):LexX S ops L0 K F [] L:=fun hL hF=>⟨F,L,rfl,hL,hF,h⟩
theorem same_putO {t:Option Nat} {d:D} (h:sameX L L0):sameX (L.putO t d) L0:=by cases t<;>exact h
theorem dstOk_N (h:sameX L L0) {t:Option Nat} (hd:dstOk t L):dstN L0.n t:=by
 unfold dstN;unfold dstOk at hd
 rw[h.1] at hd;exact hd
theorem opY_noSt {op:Op} {ρ:Operand→Option D} {bx:Nat→Option (List D)} {K:D→Prop} (h:opY S op ρ bx K):isSt op=false:=by
 cases op<;>first|rfl|exact h.elim
theorem LexX.step (hg:guardY ops L o.guard=some true) (h:opY S o.op (evalO L) L.getBox fun d=>dstOk o.dst L∧LexX S ops L0 K F l (L.putO o.dst d)):LexX S ops L0 K F (o::l) L:=by
 intro hL hF
 have hst:=opY_noSt h
 obtain⟨d,⟨hd,hK⟩,hy⟩:=pick_opY S o.op (evalO L) L.getBox _ h
 refine⟨(d,none),⟨dstOk_N hL hd,.inl ⟨by rw[guard_pair];exact hg,.quiet hst fun K' hk=>?_,fun e=>by rw[hst] at e;cases e⟩⟩,?_⟩
 ·rw[eval_pair,←getBox_eq (L:=L) (L0:=L0) hL.2.1 hL.2.2.1]
  exact hy K' hk
 ·rw[wrX_dst hst,←pair_putO (free_none hF)]
  exact hK (same_putO hL) (free_tl hF)
theorem LexX.skip (hst:isSt o.op=false) (hg:guardY ops L o.guard=some false) (hd:dstOk o.dst L) (h:LexX S ops L0 K F l (L.putO o.dst (.raw undef))):LexX S ops L0 K F (o::l) L:=by
 intro hL hF
 refine⟨(.raw undef,none),⟨dstOk_N hL hd,.inr ⟨by rw[guard_pair];exact hg,hst,rfl⟩⟩,?_⟩
 rw[wrX_dst hst,←pair_putO (free_none hF)]
 exact h (same_putO hL) (free_tl hF)
theorem LexX.split (t:Nat) {b:Bool} (ht:L.get t=some (.bool b)) (h1:b=true→LexX S ops L0 K F l (L.put t (.bool true))) (h0:b=false→LexX S ops L0 K F l (L.put t (.bool false))):LexX S ops L0 K F l L:=by
 intro hL hF
 have key:∀c,b=c→pairX (L.put t (.bool c)) F=pairX L F:=fun c hc=>by
  funext t'
  simp only[pairX,LS.put,look_setA]
  by_cases e:t=t'
  ·subst e
   rw[if_pos rfl,←hc]
   show _=Option.map _ (look L.env t)
   rw[show look L.env t=some (.bool b) from ht]
  ·rw[if_neg e]
 cases hb:b with
 | true=>rw[←key true hb];exact h1 hb hL fun u f hf=>⟨some_putO (t:=some t) (hF u f hf).1,(hF u f hf).2⟩
 | false=>rw[←key false hb];exact h0 hb hL fun u f hf=>⟨some_putO (t:=some t) (hF u f hf).1,(hF u f hf).2⟩
theorem LexX.call {dst:Option Nat} {f:Operand} {args:Array Operand} {tys:Array TypeId} {ty:TypeId} {pos:String} {aft:Array Edge} {g:Option (Nat×Bool)}
  (hg:guardY ops L g=some true) {fid:Nat} {cap ds:List D} {ro:List (Nat×List D)} {d:D} (hf:evalO L f=some (.fn fid cap)) (hds:mapO (evalO L) args.toList=some ds) (fc:FC S fid ro [] [] (ds++cap) d [] [])
  (hside:(∀p∈ro,L.getBox p.1=some p.2)∧d.ids=[]∧d.tks=[]∧dstOk dst L) (h:LexX S ops L0 K F l (L.putO dst d)):LexX S ops L0 K F (⟨dst,.call ⟨.value f,args,tys⟩,ty,pos,aft,g⟩::l) L:=by
 refine LexX.step hg ?_
 show opY S (.call ⟨.value f,args,tys⟩) (evalO L) L.getBox _
 unfold opY
 simp only[hf,hds,someK]
 exact⟨ro,d,fc,hside.1,hside.2.1,hside.2.2.1,hside.2.2.2,h⟩
def apartF (t:Nat) (l:List Oper):Bool:=l.all fun o=>o.dst != some t
theorem free_cons {t:Nat} {d:D} {f:Fact} (h:freeF F (o::l) L) (ha:apartF t l=true):freeF ((t,f)::F) l (L.put t d):=fun u f' hf=>by
 simp only[look] at hf
 by_cases e:t=u
 ·subst e
  refine⟨by simp[LS.put,look_setA],fun o' ho=>?_⟩
  have:=List.all_eq_true.1 ha o' ho
  simpa using this
 ·rw[if_neg e] at hf
  exact⟨some_putO (t:=some t) (h u f' hf).1,fun o' ho=>(h u f' hf).2 o' (List.mem_cons_of_mem _ ho)⟩
theorem LexX.own (k:Nat) {t:Nat} {f:Operand} {args:Array Operand} {tys:Array TypeId} {ty:TypeId} {pos:String} {aft:Array Edge} {g:Option (Nat×Bool)}
  (hg:guardY ops L g=some true) {fid:Nat} {cap ds xs:List D} {ro:List (Nat×List D)} {e:TypeId} {z:Nat} (hf:evalO L f=some (.fn fid cap)) (hds:mapO (evalO L) args.toList=some ds) (fc:FC S fid ro [] [] (ds++cap) (.sl (.own 0 e z) xs) [] [0])
  (hside:(t<L.n∧∀p∈ro,L.getBox p.1=some p.2)∧apartF t l=true) (h:LexX S ops L0 K ((t,.own k e z xs)::F) l (L.put t (.sl .any xs))):LexX S ops L0 K F (⟨some t,.call ⟨.value f,args,tys⟩,ty,pos,aft,g⟩::l) L:=by
 intro hL hF
 refine⟨(.sl .any xs,some (.own k e z xs)),⟨dstOk_N (t:=some t) hL hside.1.1,.inl ⟨by rw[guard_pair];exact hg,.own k rfl ?_ ?_ ?_ fc,fun e=>by cases e⟩⟩,?_⟩
 ·rw[eval_pair];exact hf
 ·rw[eval_pair];exact hds
 ·rw[←getBox_eq (L:=L) (L0:=L0) hL.2.1 hL.2.2.1];exact hside.1.2
 ·rw[wrX_dst rfl,←pair_putF]
  exact h (same_putO (t:=some t) hL) (free_cons hF hside.2)
theorem LexX.app (k:Nat) {t:Nat} {x y:Operand} {tyx e:TypeId} {ty:TypeId} {pos:String} {aft:Array Edge} {g:Option (Nat×Bool)}
  (hg:guardY ops L g=some true) {tk:Tk} {ys:List D} {i:TyI} (hx:evalO L x=some (.sl .full [])) (hy:evalO L y=some (.sl tk ys)) (hkd:S.kd tyx=some (.slice e)) (hi:S.tab e=some i)
  (hb:0<i.size∧(∀x∈ys,x.cells.length=i.size)∧ys.length*i.bytes≤140737488355328∧ys.length≤140737488355328)
  (hside:t<L.n∧apartF t l=true) (h:LexX S ops L0 K ((t,.own k e i.size ys)::F) l (L.put t (.sl .any ys))):LexX S ops L0 K F (⟨some t,.call ⟨.builtin .append,#[x,y],#[tyx,tyx]⟩,ty,pos,aft,g⟩::l) L:=by
 intro hL hF
 refine⟨(.sl .any ys,some (.own k e i.size ys)),⟨dstOk_N (t:=some t) hL hside.1,.inl ⟨by rw[guard_pair];exact hg,.app (tk:=tk) k rfl ?_ ?_ hkd hi hb,fun e=>by cases e⟩⟩,?_⟩
 ·rw[eval_pair];exact hx
 ·rw[eval_pair];exact hy
 ·rw[wrX_dst rfl,←pair_putF]
  exact h (same_putO (t:=some t) hL) (free_cons hF hside.2)
theorem LexX.alloc {t:Nat} {T:TypeId} {i:TyI} {ty:TypeId} {pos:String} {aft:Array Edge} {g:Option (Nat×Bool)}
  (hg:guardY ops L g=some true) (hi:S.tab T=some i) (hside:t<L.n∧apartF t l=true) (h:LexX S ops L0 K ((t,.box (i.zero.map ZK.d))::F) l (L.put t (.pred fun _ _ _=>True))):LexX S ops L0 K F (⟨some t,.alloc T,ty,pos,aft,g⟩::l) L:=by
 intro hL hF
 refine⟨(.pred fun _ _ _=>True,some (.box (i.zero.map ZK.d))),⟨dstOk_N (t:=some t) hL hside.1,.inl ⟨by rw[guard_pair];exact hg,.alloc rfl hi,fun e=>by cases e⟩⟩,?_⟩
 rw[wrX_dst rfl,←pair_putF]
 exact h (same_putO (t:=some t) hL) (free_cons hF hside.2)
theorem LexX.store {t:Nat} {T:TypeId} {x:Operand} {i:TyI} {d:D} {cs:List D} {ty:TypeId} {pos:String} {aft:Array Edge}
  (hF0:look F t=some (.box cs)) (hx:evalO L x=some d) (hi:S.tab T=some i) (hside:(d.cells.length=i.size∧d.cells.length=cs.length)∧d.cells.all D.one=true∧D.idsL d.cells=[]∧D.tksL d.cells=[]) (h:LexX S ops L0 K (setA F t (.box d.cells)) l L):LexX S ops L0 K F (⟨none,.store T (.tmp t) x,ty,pos,aft,none⟩::l) L:=by
 intro hL hF
 obtain⟨d0,hd0⟩:=Option.isSome_iff_exists.1 (hF t _ hF0).1
 refine⟨(d0,some (.box d.cells)),⟨trivial,.inl ⟨rfl,.store rfl (cs:=cs) (by simp[pairX,hd0,hF0]) (by rw[eval_pair];exact hx) hi ⟨hside.1.1,hside.1.2,hside.2.1,hside.2.2.1,hside.2.2.2⟩,fun _=>rfl⟩⟩,?_⟩
 have e:putX (pairX L F) (wrX ⟨none,.store T (.tmp t) x,ty,pos,aft,none⟩) (d0,some (.box d.cells))=pairX L (setA F t (.box d.cells)):=by
  funext u
  simp only[putX,wrX,pairX,look_setA]
  by_cases e0:t=u
  ·subst e0;simp[hd0]
  ·simp[e0]
 rw[e]
 refine h hL fun u f hu=>?_
 simp only[look_setA] at hu
 by_cases e0:t=u
 ·subst e0;exact⟨by rw[hd0];rfl,fun o' ho=>(hF t _ hF0).2 o' (List.mem_cons_of_mem _ ho)⟩
 ·rw[if_neg e0] at hu
  exact⟨(hF u f hu).1,fun o' ho=>(hF u f hu).2 o' (List.mem_cons_of_mem _ ho)⟩
theorem runQ_soundX {K':List (Nat×Fact)→List Oper→LS→Prop} (hK:∀F l L,K' F l L→LexX S ops L0 K F l L):∀(l:List Oper) (L:LS),runQ S ops (K' F) l L→LexX S ops L0 K F l L
 | [],L,h=>hK F [] L h
 | ⟨dst,op,ty,pos,aft,g⟩::l,L,h=>by
  unfold runQ at h
  split at h
  ·exact hK F _ L h
  ·exact hK F _ L h
  ·exact hK F _ L h
  ·rename_i q1 q2 q3
   have hst:isSt op=false:=by
    cases op<;>first|rfl|exact(q3 _ _ _ rfl).elim
   split at h
   ·rename_i hg
    exact LexX.step (o:=⟨dst,op,ty,pos,aft,g⟩) hg (opY_mono h fun d ⟨h1,h2⟩=>⟨h1,runQ_soundX hK l _ h2⟩)
   ·rename_i hg
    exact LexX.skip (o:=⟨dst,op,ty,pos,aft,g⟩) hst hg h.1 (runQ_soundX hK l _ h.2)
   ·exact hK F _ L h
end

def toF (base:Nat):List (Nat×Fact)→LS→(LS→Prop)→Prop
 | [],L,N=>N L
 | (t,.box cs)::F,L,N=>(t<L.n∧base+t∉L.fix)∧(look F t).isNone=true∧toF base F (L.newBox t (base+t) cs (.box (base+t) 0)) N
 | (t,.own kk e z xs)::F,L,N=>(t<L.n∧(L.purge (fun k=>k==kk)).clean (fun k=>k==kk)=true)∧(look F t).isNone=true ∧
   toF base F {L.purge (fun k=>k==kk) with env:=setA (L.purge (fun k=>k==kk)).env t (.sl (.own (kk) e z) xs),toks:=kk::L.toks} N
theorem toF_nil (base:Nat) (L:LS) (N:LS→Prop):toF base [] L N=N L:=rfl
theorem toF_box (base t:Nat) (cs:List D) (F:List (Nat×Fact)) (L:LS) (N:LS→Prop):toF base ((t,.box cs)::F) L N=((t<L.n∧base+t∉L.fix)∧(look F t).isNone=true∧toF base F (L.newBox t (base+t) cs (.box (base+t) 0)) N):=rfl
theorem toF_own (base t kk : Nat) (e : TypeId) (z : Nat) (xs : List D) (F : List (Nat × Fact)) (L : LS) (N : LS → Prop) : toF base ((t, .own kk e z xs) :: F) L N = ((t < L.n ∧ (L.purge (fun k => k == kk)).clean (fun k => k == kk) = true) ∧ (look F t).isNone = true ∧
   toF base F {L.purge (fun k=>k==kk) with env:=setA (L.purge (fun k=>k==kk)).env t (.sl (.own (kk) e z) xs),toks:=kk::L.toks} N):=rfl
theorem toF_go {base:Nat} {F:List (Nat×Fact)} {L:LS} {N:LS→Prop} (h:toF base F L N):toF base F L N:=h
attribute [go_sem] toF_nil toF_box toF_own Option.isNone_none Option.isNone_some
def FactsAt (B:Base) (G:Ghost) (a:Act) (w:World) (F:List (Nat×Fact)):Prop :=
 ∃γ:Nat→Option Nat,(∀t f,look F t=some f→∃v,a.tmps[t]?=some v∧FactOk B G w (γ t) f v)∧∀t t' f f' g,look F t=some f→look F t'=some f'→γ t=some g→γ t'=some g→t=t'

theorem convBox_sim {B:Base} {L:LS} {G:Ghost} {a:Act} {w:World} (h:Sim B L G a w) {t id g:Nat} {cs:List D} (_ht:t<L.n) (hfix:id∉L.fix) (hcs:D.idsL cs=[]) (hv:a.tmps[t]?=some (.pointer (some ⟨g,0,none⟩))) (hb:Bare B G w g) (hbx:BoxAt G w g cs) (hl0:G.lim g=0) :
  Sim B (L.newBox t id cs (.box id 0)) {G with β:=fun i=>if i=id then some g else G.β i} a w:=by
 have hW:=h.W
 let G2:Ghost:={G with β:=fun i=>if i=id then some g else G.β i}
 have hmn:Mono G G2 w w:=⟨fun _ _ _ h1 h2=>⟨h1,h2⟩,fun _ _=>rfl,fun _ _ _ h=>h⟩
 have hβ:∀i q,i≠id→G.β i=some q→G2.β i=some q:=fun i q hne hq=>by simp only[G2];rw[if_neg hne];exact hq
 have rG:∀ {d v},id∉d.ids→Rel G w d v→Rel G2 w d v:=fun {d v} hid hr =>
  hr.mono hmn (fun i hi q hq=>hβ i q (fun e=>hid (e ▸ hi)) hq) (fun k _=>.inr ⟨rfl,fun _ _ _ _=>⟨rfl,rfl⟩⟩)
 have hbox:∀ {q cs},id∉D.idsL cs→BoxAt G w q cs→BoxAt G2 w q cs:=fun {q cs} hid ⟨vs,e',e1,e2,e3⟩ =>
  ⟨vs,e',e1,e2,fun j d v hd hv=>rG (fun hi=>hid (mem_idsL (List.mem_of_getElem? hd) hi)) (e3 j d v hd hv)⟩
 refine⟨h.defers,h.size,fun t' d hd=>?_,?_,h.fixed⟩
 ·simp only[LS.newBox,look_setA] at hd
  by_cases e0:t=t'
  ·subst e0
   simp only[if_true,Option.some.injEq] at hd
   subst hd
   exact⟨_,hv,.box (by simp)⟩
  ·rw[if_neg e0] at hd
   simp only[LS.forget] at hd
   obtain⟨h1,h2⟩:=look_keepA _ _ _ _ hd
   obtain⟨v,h3,h4⟩:=h.env t' d h1
   exact⟨v,h3,rG (noId_spec h2) h4⟩
 ·exact {hW with
   boxes:=fun i cs' hl=>by
    simp only[LS.newBox,look_setA] at hl
    by_cases e0:id=i
    ·subst e0
     simp only[if_true,Option.some.injEq] at hl
     subst hl
     exact⟨g,by simp,hbox (by rw[hcs];simp) hbx,hl0,.inl hb.ge⟩
    ·rw[if_neg e0] at hl
     simp only[LS.forget,look_eraseK,if_neg e0] at hl
     obtain⟨h1,h2⟩:=look_keepA _ _ _ _ hl
     obtain⟨q,k1,k2,k3,k4⟩:=hW.boxes i cs' h1
     exact⟨q,hβ i q (fun e=>e0 e.symm) k1,hbox (noIdL_spec h2) k2,k3,k4⟩
   robs:=fun i cs' hl=>by
    simp only[LS.newBox,LS.forget,look_eraseK] at hl
    by_cases e0:id=i
    ·rw[if_pos e0] at hl;cases hl
    ·rw[if_neg e0] at hl
     obtain⟨h1,h2⟩:=look_keepA _ _ _ _ hl
     obtain⟨q,k1,k2,k3,k4⟩:=hW.robs i cs' h1
     exact⟨q,hβ i q (fun e=>e0 e.symm) k1,hbox (noIdL_spec h2) k2,k3,k4⟩
   tau:=fun k q e' z hk=>by
    obtain⟨h1,h2,h3,h5⟩:=hW.tau k q e' z hk
    refine⟨h1,h2,h3,fun i hi=>?_⟩
    simp only at hi
    split at hi
    ·obtain rfl:=Option.some.inj hi
     exact hb.tau k e' z hk
    ·exact h5 i hi
   binj:=fun i j q hi hj=>by
    simp only at hi hj
    split at hi<;>split at hj
    ·omega
    ·obtain rfl:=Option.some.inj hi
     exact absurd hj (hb.beta j)
    ·obtain rfl:=Option.some.inj hj
     exact absurd hi (hb.beta i)
    ·exact hW.binj i j q hi hj
   blt:=fun i q hi=>by
    simp only at hi
    split at hi
    ·obtain rfl:=Option.some.inj hi;exact hb.lt
    ·exact hW.blt i q hi
   blab:=fun i q hi=>by
    simp only at hi
    split at hi
    ·obtain rfl:=Option.some.inj hi;exact hb.lab
    ·exact hW.blab i q hi
   ids:=fun p hp=>hβ p.1 p.2 (fun e=>hfix (e ▸ h.fixed p hp)) (hW.ids p hp)}

theorem toF_sound {B:Base} {base:Nat} {N:LS→Prop} {a:Act} {w:World}:∀(F:List (Nat×Fact)) (L:LS) (G:Ghost),Sim B L G a w→FactsAt B G a w F→toF base F L N→∃L' G',N L'∧Sim B L' G' a w
 | [],L,G,hs,_,h=>⟨L,G,h,hs⟩
 | (t,f)::F,L,G,hs,⟨γ,hf,hi⟩,h=>by
  have hlk:look ((t,f)::F) t=some f:=by simp[look]
  obtain⟨v,hv,hfo⟩:=hf t f hlk
  have hback:∀u f',look F t=none→look F u=some f'→t≠u∧look ((t,f)::F) u=some f':=fun u f' hn hu=>by
   have hne:t≠u:=fun e=>by subst e;rw[hn] at hu;cases hu
   exact⟨hne,by simp only[look,if_neg hne];exact hu⟩
  cases f with
  | box cs =>
   obtain⟨⟨h1,h2⟩,h3,h4⟩:=h
   have h3':look F t=none:=by simpa using h3
   obtain⟨g,q1,rfl,q3,q4,q5,q6,q7⟩:=hfo
   have hs':=convBox_sim hs (id:=base+t) h1 h2 q6 hv q3 q4 q5
   refine toF_sound F _ _ hs' ⟨γ,fun u f' hu=>?_,fun u u' f1 f2 g' e1 e2 g1 g2=>?_⟩ h4
   ·obtain⟨hne,hu'⟩:=hback u f' h3' hu
    obtain⟨v',e1,e2⟩:=hf u f' hu'
    refine⟨v',e1,e2.ghost rfl rfl fun g' hg' hb'=>⟨hb'.ge,hb'.lt,fun i hi'=>?_,hb'.tau,hb'.lab⟩⟩
    simp only at hi'
    split at hi'
    ·obtain rfl:=Option.some.inj hi'
     exact hne (hi t u _ _ _ hlk hu' q1 hg')
    ·exact hb'.beta i hi'
   ·exact hi u u' f1 f2 g' (hback u f1 h3' e1).2 (hback u' f2 h3' e2).2 g1 g2
  | own kk e z xs =>
   obtain⟨⟨h1,h2⟩,h3,h4⟩:=h
   have h3':look F t=none:=by simpa using h3
   obtain⟨r0,A,n,c,rfl,hcase⟩:=hfo
   have hp:=purge_sim hs (fun k=>k==kk)
   have main:∀x:Option (Nat×TypeId×Nat),(∀g e' z',x=some (g,e',z')→γ t=some g∧Bare B G w g∧0<z'∧∃cur,w.heap[g]?=some (.cells cur e' (0,0))∧G.lim g≤cur.size) →
     Rel (G.setTok (kk) (some x)) w (.sl (.own (kk) e z) xs) (.slice A n c)→∃L' G',N L'∧Sim B L' G' a w:=fun x hx hr=>by
    have hstep:TokStep B G (G.setTok (kk) (some x)) w w (kk):={
     mono:=⟨fun _ _ _ h1 h2=>⟨h1,h2⟩,fun _ _=>rfl,fun _ _ _ h=>h⟩
     beta:=rfl,lab:=rfl,sz:=Nat.le_refl _,os:=rfl,tape:=rfl,out:=rfl,dr:=by first|exact Nat.le_refl _|exact Nat.le_succ _
     tau:=fun k' hk'=>.inr ⟨by simp[Ghost.setTok,hk'],fun _ _ _ _=>⟨rfl,rfl⟩⟩
     block:=fun _ _=>.inl ⟨rfl,rfl⟩
     new:=fun g e' z' hg=>by
      simp only[Ghost.setTok,if_true,Option.some.injEq] at hg
      obtain⟨_,k2,k3,k4⟩:=hx g e' z' hg
      refine⟨.inl k2.ge,k3,k4,k2.beta,fun k e2 z2 hk hk2=>?_,k2.lab⟩
      simp only[Ghost.setTok,if_neg hk] at hk2
      exact k2.tau k e2 z2 hk2
     live:=by simp[Ghost.setTok]}
    have hsim:=tokStep_sim hp hstep h2 (tk:=kk::L.toks) (fun k' hk'=>by
     by_cases e:k'=kk
     ·exact .inl e
     ·rcases List.mem_cons.1 hk' with h|h
      ·exact absurd h e
      ·exact .inr ⟨by simp[Ghost.setTok,e],h⟩)
    refine toF_sound F _ _ (env_set hsim hv hr) ⟨γ,fun u f' hu=>?_,fun u u' f1 f2 g' e1 e2 g1 g2=>?_⟩ h4
    ·obtain⟨hne,hu'⟩:=hback u f' h3' hu
     obtain⟨v',e1,e2⟩:=hf u f' hu'
     refine⟨v',e1,e2.ghost rfl rfl fun g' hg' hb'=>⟨hb'.ge,hb'.lt,hb'.beta,fun k e' z' hk=>?_,hb'.lab⟩⟩
     simp only[Ghost.setTok] at hk
     split at hk
     ·simp only[Option.some.injEq] at hk
      obtain⟨k1,_⟩:=hx g' e' z' hk
      exact hne (hi t u _ _ _ hlk hu' k1 hg')
     ·exact hb'.tau k e' z' hk
    ·exact hi u u' f1 f2 g' (hback u f1 h3' e1).2 (hback u' f2 h3' e2).2 g1 g2
   have r1:∀x,Rel (G.setTok (kk) (some x)) w (.sl .any xs) (.slice A n c):=fun x =>
    r0.mono (show Mono G (G.setTok (kk) (some x)) w w from⟨fun _ _ _ h1 h2=>⟨h1,h2⟩,fun _ _=>rfl,fun _ _ _ h=>h⟩) (by simp[D.ids]) (by simp[D.tks])
   rcases hcase with⟨q0,q1,q2⟩|⟨g,q0,q1,q2,q3,q4,q5,cur,q6,q7,q8⟩
   ·refine main none (fun g e' z' hx=>by cases hx) ?_
    cases r1 none with
    | @sl _ _ _ _ _ b o s hn hc hm ht hA hu hk hst hrr =>
     exact .sl (b:=b) (o:=o) (s:=s) hn hc hm (by simp only[TkOk,Ghost.setTok,if_true];exact⟨q1,q2⟩) hA hu hk hst hrr
   ·refine main (some (g,e,z)) (fun g' e' z' hx=>by
     simp only[Option.some.injEq,Prod.mk.injEq] at hx
     obtain⟨rfl,rfl,rfl⟩:=hx
     exact⟨q0,q1,q5,cur,q6,q7⟩) ?_
    cases r1 (some (g,e,z)) with
    | @sl _ _ _ _ _ b o s hn hc hm ht hA hu hk hst hrr =>
     exact .sl (b:=b) (o:=o) (s:=s) hn hc hm (by simp only[TkOk,Ghost.setTok,if_true];exact⟨⟨trivial,trivial⟩,q2,q3,q8,q4⟩) hA hu hk hst hrr

theorem drawX_sound {S:Setup} {B:Base} {base id m:Nat} {l:List Oper} {L:LS} {G:Ghost} {a:Act} {w:World} {K:LS→Prop} (hB:drawX .any l.toArray m=true) (h:LexX S l.toArray L (fun F L'=>toF base F L' fun L2=>LopsW S B l.toArray (l.drop m) L2 K) [] (l.take m) L) (hs:Sim B L G a w) {Q:Exit→Act→World→Prop}
  (hQ:∀L' G' a' w',K L'→Sim B L' G' a' w'→Q .normal a' w'):(Code.region id l.toArray true).wp S.P Q a w:=by
 simp only[drawX,Bool.and_eq_true,decide_eq_true_eq] at hB
 obtain⟨⟨hL,hT⟩,hm⟩:=hB
 have hml:m≤l.length:=by simpa using hm
 have hlen:(l.take m).length=m:=by simp;omega
 have hinv:InvT .any l.toArray m m (Array.replicate l.toArray.size false):=by
  refine⟨fun j hj=>?_,by simp,fun j _ hj=>?_,?_⟩
  ·by_cases hlt:j<l.length<;>simp[hlt] at hj
  ·have hj':j<l.length:=by simpa using hj
   simp[hj']
  ·unfold cntU
   rw[List.filter_eq_self.2,List.length_range]
   intro j hj
   have hj:=List.mem_range.1 hj
   simp[show j<l.length by omega]
 refine wp_region_any S.mixed ?_
 have hsz:l.toArray.size=m+(l.toArray.size-m):=by simp;omega
 have key:=wpAny_of_X (S:=S) (B:=B) (L0:=L) (r:=l.toArray.size-m) (Q':=Q) (Q:=fun E=>∃F' L',E=pairX L' F'∧sameX L' L∧freeF F' [] L'∧toF base F' L' fun L2=>LopsW S B l.toArray (l.drop m) L2 K) hT ?_ m _ (pairX L []) G a {w with drawn:=w.drawn+1} hinv ⟨L,fun _=>none,⟨(fst_pair L []).symm,rfl,rfl,rfl,rfl,rfl⟩,drew_sim hs,fun t d f he=>?_,fun t t' d d' f f' g he=>?_⟩ ?_
 ·have e:m+(l.toArray.size-m)=l.toArray.size:=hsz.symm
  rw[e] at key
  exact key
 ·rintro listed E G' a' w' hinv' ⟨L1,γ,⟨e1,e2,e3,e4,e5,e6⟩,hs',hf,hi⟩ ⟨F',L',rfl,⟨f2,f3,f4,f5,f6⟩,hfr,hK⟩
  rw[fst_pair] at e1
  have hs2:Sim B L' G' a' w':=⟨hs'.defers,by rw[f2,←e2];exact hs'.size,fun t d hd=>by
   rw[←e1] at hd
   exact hs'.env t d hd,by rw[f3,f4,f5,←e3,←e4,←e5];exact hs'.W,by rw[f6,←e6];exact hs'.fixed⟩
  have hpr:∀t f,look F' t=some f→∃d,pairX L' F' t=some (d,some f):=fun t f hl=>by
   obtain⟨d,hd⟩:=Option.isSome_iff_exists.1 (hfr t f hl).1
   exact⟨d,by simp[pairX,hd,hl]⟩
  obtain⟨L2,G2,hK2,hs3⟩:=toF_sound (B:=B) (base:=base) F' L' G' hs2 ⟨γ,fun t f hl=>by
   obtain⟨d,hd⟩:=hpr t f hl
   exact hf t d f hd,fun t t' f f' g hl hl'=>by
   obtain⟨d,hd⟩:=hpr t f hl
   obtain⟨d',hd'⟩:=hpr t' f' hl'
   exact hi t t' d d' f f' g hd hd'⟩ hK
  exact tail_run hT _ m listed a' w' (by simp;omega) (Nat.le_refl _) hinv'.size hinv'.down (cntU_zero hinv'.cnt) hinv'.rest (by simpa using hK2 G2 a' w' hs3 Q hQ)
 ·simp[pairX,look] at he
 ·simp[pairX,look] at he
 ·have h2:=wpAnyX_lex (S:=S) (bx:=L.getBox) (n:=L.n) (Q:=fun E=>∃F' L',E=pairX L' F'∧sameX L' L∧freeF F' [] L'∧toF base F' L' fun L2=>LopsW S B l.toArray (l.drop m) L2 K) hT (l.take m) 0 (Array.replicate l.toArray.size false) (pairX L []) (fun j hj=>by
   rw[hlen] at hj
   rw[List.getElem?_take,if_pos hj,Nat.zero_add]
   simp) (by omega) (by rw[hlen];exact hinv) (by rw[hlen];exact hL) (h ⟨rfl,rfl,rfl,rfl,rfl⟩ (fun t f hf=>by simp[look] at hf))
  rw[hlen] at h2
  exact h2

structure XOk (S:Setup) (ops:Array Oper) (N:List (Nat×Fact)→LS→Prop) (K:List (Nat×Fact)→List Oper→LS→Prop):Prop where
 nil:∀ {F L},N F L→K F [] L
 split:∀ {F l L} (t:Nat) {b:Bool},L.get t=some (.bool b)→(b=true→runQ S ops (K F) l (L.put t (.bool true)))→(b=false→runQ S ops (K F) l (L.put t (.bool false)))→K F l L
 skip:∀ {F l L} {dst:Option Nat} {c:Call} {ty:TypeId} {pos:String} {aft:Array Edge} {g:Option (Nat×Bool)},guardY ops L g=some false→dstOk dst L→runQ S ops (K F) l (L.putO dst (.raw undef))→K F (⟨dst,.call c,ty,pos,aft,g⟩::l) L
 store:∀ {F:List (Nat×Fact)} {l:List Oper} {L:LS} {t:Nat} {T:TypeId} {x:Operand} {i:TyI} {d:D} {cs:List D} {ty:TypeId} {pos:String} {aft:Array Edge}
  (_:look F t=some (.box cs)) (_:evalO L x=some d) (_:S.tab T=some i) (_:(d.cells.length=i.size∧d.cells.length=cs.length)∧d.cells.all D.one=true∧D.idsL d.cells=[]∧D.tksL d.cells=[]) (_:runQ S ops (K (setA F t (.box d.cells))) l L),K F (⟨none,.store T (.tmp t) x,ty,pos,aft,none⟩::l) L
 call:∀ {F:List (Nat×Fact)} {l:List Oper} {L:LS} {dst:Option Nat} {f:Operand} {args:Array Operand} {tys:Array TypeId} {ty:TypeId} {pos:String} {aft:Array Edge} {g:Option (Nat×Bool)}
  (_:guardY ops L g=some true) {fid:Nat} {cap ds:List D} {ro:List (Nat×List D)} {d:D} (_:evalO L f=some (.fn fid cap)) (_:mapO (evalO L) args.toList=some ds) (_:FC S fid ro [] [] (ds++cap) d [] [])
  (_:(∀p∈ro,L.getBox p.1=some p.2)∧d.ids=[]∧d.tks=[]∧dstOk dst L) (_:runQ S ops (K F) l (L.putO dst d)),K F (⟨dst,.call ⟨.value f,args,tys⟩,ty,pos,aft,g⟩::l) L
 own:∀(k:Nat) {F:List (Nat×Fact)} {l:List Oper} {L:LS} {t:Nat} {f:Operand} {args:Array Operand} {tys:Array TypeId} {ty:TypeId} {pos:String} {aft:Array Edge} {g:Option (Nat×Bool)}
  (_:guardY ops L g=some true) {fid:Nat} {cap ds xs:List D} {ro:List (Nat×List D)} {e:TypeId} {z:Nat} (_:evalO L f=some (.fn fid cap)) (_:mapO (evalO L) args.toList=some ds) (_:FC S fid ro [] [] (ds++cap) (.sl (.own 0 e z) xs) [] [0])
  (_:(t<L.n∧∀p∈ro,L.getBox p.1=some p.2)∧apartF t l=true) (_:runQ S ops (K ((t,.own k e z xs)::F)) l (L.put t (.sl .any xs))),K F (⟨some t,.call ⟨.value f,args,tys⟩,ty,pos,aft,g⟩::l) L
 alloc:∀ {F:List (Nat×Fact)} {l:List Oper} {L:LS} {t:Nat} {T:TypeId} {i:TyI} {ty:TypeId} {pos:String} {aft:Array Edge} {g:Option (Nat×Bool)}
  (_:guardY ops L g=some true) (_:S.tab T=some i) (_:t<L.n∧apartF t l=true) (_:runQ S ops (K ((t,.box (i.zero.map ZK.d))::F)) l (L.put t (.pred fun _ _ _=>True))),K F (⟨some t,.alloc T,ty,pos,aft,g⟩::l) L
theorem XOk.skp {S:Setup} {ops:Array Oper} {N:List (Nat×Fact)→LS→Prop} {K:List (Nat×Fact)→List Oper→LS→Prop} (hK:XOk S ops N K) {F:List (Nat×Fact)} {l:List Oper} {L:LS} {dst:Option Nat} {c:Call} {ty:TypeId} {pos:String} {aft:Array Edge} {g:Option (Nat×Bool)} (hg:guardY ops L g=some false) (hd:dstB dst L.n=true) (h:runQ S ops (K F) l (L.putO dst (.raw undef))):K F (⟨dst,.call c,ty,pos,aft,g⟩::l) L:=hK.skip hg (dst_of hd) h
theorem XOk.c0 {S:Setup} {ops:Array Oper} {N:List (Nat×Fact)→LS→Prop} {K:List (Nat×Fact)→List Oper→LS→Prop} (hK:XOk S ops N K) {F:List (Nat×Fact)} {l:List Oper} {L:LS} {dst:Option Nat} {f:Operand} {args:Array Operand} {tys:Array TypeId} {ty:TypeId} {pos:String} {aft:Array Edge} {g:Option (Nat×Bool)}
  (hg:guardY ops L g=some true) {fid:Nat} {cap ds:List D} {d:D} (hf:evalO L f=some (.fn fid cap)) (hds:mapO (evalO L) args.toList=some ds) (fc:FC S fid [] [] [] (ds++cap) d [] []) (h1:d.ids=[]) (h2:d.tks=[]) (h3:dstB dst L.n=true)
  (h:runQ S ops (K F) l (L.putO dst d)):K F (⟨dst,.call ⟨.value f,args,tys⟩,ty,pos,aft,g⟩::l) L:=hK.call hg hf hds fc ⟨fun _ hp=>(by cases hp),h1,h2,dst_of h3⟩ h
theorem XOk.fork {S:Setup} {ops:Array Oper} {N:List (Nat×Fact)→LS→Prop} {K:List (Nat×Fact)→List Oper→LS→Prop} (hK:XOk S ops N K) {F:List (Nat×Fact)} {l:List Oper} {L:LS} {o:Oper} {p:Nat×Bool} (_:o.guard=some p) {t:Nat} (_:(ops[p.1]?).bind (·.dst)=some t) {b:Bool} (ht:L.get t=some (.bool b)) (h1:b=true→runQ S ops (K F) (o::l) (L.put t (.bool true))) (h0:b=false→runQ S ops (K F) (o::l) (L.put t (.bool false))):K F (o::l) L :=
 hK.split t ht h1 h0

theorem sw_goX {S:Setup} {B:Base} {R:LS→Prop} {k:List VItem} {L:LS} (base:Nat) (kp:List (Nat×List Nat)) (m:Nat) {id:Nat} {l:List Oper} (hB:drawX .any l.toArray m=true) (h:∀Kq:List (Nat×Fact)→List Oper→LS→Prop,XOk S l.toArray (fun F L'=>∀K:List Oper→LS→Prop,KOk S base B l.toArray (fun L'=>SW S B R k (L'.keepAt kp id)) K→toF base F L' fun L2=>runL S base l.toArray K (l.drop m) L2) Kq→runQ S l.toArray (Kq []) (l.take m) L):SW S B R (.code (.region id l.toArray true)::k) L:=by
 have hs:∀l' L',runL S base l.toArray (fun l' L'=>LopsW S B l.toArray l' L' (fun L2=>SW S B R k L2)) l' L'→LopsW S B l.toArray l' L' (fun L2=>SW S B R k L2) :=
  runL_sound (base:=base) (K':=fun l' L'=>LopsW S B l.toArray l' L' (fun L2=>SW S B R k L2)) (fun _ _ h=>h)
 let NX:List (Nat×Fact)→LS→Prop:=fun F L'=>toF base F L' fun L2=>LopsW S B l.toArray (l.drop m) L2 fun L3=>SW S B R k L3
 have hq:∀F l' L',runQ S l.toArray (LexX S l.toArray L NX F) l' L'→LexX S l.toArray L NX F l' L':=fun F =>
  runQ_soundX (K':=LexX S l.toArray L NX) (fun _ _ _ h=>h)
 have hmono:∀F L' (N N':LS→Prop),(∀L,N L→N' L)→toF base F L' N→toF base F L' N':=by
  intro F
  induction F with
  | nil=>exact fun L' N N' h h1=>h L' h1
  | cons p F ih =>
   obtain⟨t,f⟩:=p
   intro L' N N' h h1
   cases f with
   | box cs=>exact⟨h1.1,h1.2.1,ih _ N N' h h1.2.2⟩
   | own _ e z xs=>exact⟨h1.1,h1.2.1,ih _ N N' h h1.2.2⟩
 intro G a w hsim
 refine drawX_sound (base:=base) hB (hq _ _ _ (h (LexX S l.toArray L NX) ?_)) hsim (fun L' G' a' w' hK hs'=>hK G' a' w' hs')
 exact {
  nil:=fun {F L} h=>LexX.nil (hmono F L _ _ (fun _ h=>hs _ _ h) (h _ {
   nil:=fun h=>LopsW.nil (sw_keepAt kp id h)
   raw:=fun h=>h.mono fun _ h'=>sw_keepAt kp id h'
   weak:=fun hc h=>LopsW.weak hc (hs _ _ h)
   split:=fun t _ ht h1 h0=>LopsW.split t ht (fun e=>hs _ _ (h1 e)) (fun e=>hs _ _ (h0 e))
   skip:=fun hg hd h=>LopsW.skip hg hd (hs _ _ h)
   call:=fun hg _ _ _ _ _ hf hds fc hside h=>LopsW.call hg hf hds fc hside (hs _ _ h)
   callB:=fun hg _ _ _ _ _ _ _ _ _ hf hds fc hside h=>LopsW.callB hg hf hds fc hside (hs _ _ h)
   callT:=fun hg _ _ _ _ _ _ _ hf hds fc hside h=>LopsW.callTi hg (base+_) hf hds fc hside (hs _ _ h)
   callM:=fun hg _ _ _ _ _ _ _ hf hds fc hside h=>LopsW.callM hg (base+_) hf hds fc hside (hs _ _ h)}))
  split:=fun t _ ht h1 h0=>LexX.split t ht (fun e=>hq _ _ _ (h1 e)) (fun e=>hq _ _ _ (h0 e))
  skip:=fun hg hd h=>LexX.skip rfl hg hd (hq _ _ _ h)
  store:=fun hF0 hx hi hside h=>LexX.store hF0 hx hi hside (hq _ _ _ h)
  call:=fun hg _ _ _ _ _ hf hds fc hside h=>LexX.call hg hf hds fc hside (hq _ _ _ h)
  own:=by
   intro k F l' L' t f args tys ty pos aft g hg fid cap ds xs ro e z hf hds fc hside h
   exact LexX.own k hg hf hds fc hside (hq _ _ _ h)
  alloc:=fun hg hi hside h=>LexX.alloc hg hi hside (hq _ _ _ h)}
end Go.Lg
/-
  Lg, part 42: a struct that is put together in a drawn part is put together once more behind it: so what has got a token bears it there too.
-/
namespace Go.Lg
open Go Go.RowKit

section
variable {P:Program} {ops:Array Oper} {Q:Exit→Act→World→Prop}
def redo1 (S:Setup) (o:Oper) (L:LS) (N:LS→Prop):Prop:=match o.dst,o.op,o.guard with
 | some d,.build t ps,none=>someK (zipO (evalO L) ps.toList) fun q=>buildY S t q fun d'=>d<L.n∧N (L.put d d')
 | _,_,_=>False
def redoL (S:Setup):List Oper→LS→(LS→Prop)→Prop
 | [],L,N=>N L
 | o::l,L,N=>redo1 S o L fun L'=>redoL S l L' N
theorem redoL_nil (S:Setup) (L:LS) (N:LS→Prop):redoL S [] L N=N L:=rfl
theorem redoL_build (S:Setup) (d:Nat) (t:TypeId) (ps:Array (Nat×Operand)) (ty:TypeId) (pos:String) (aft:Array Edge) (l:List Oper) (L:LS) (N:LS→Prop):redoL S (⟨some d,.build t ps,ty,pos,aft,none⟩::l) L N=someK (zipO (evalO L) ps.toList) fun q=>buildY S t q fun d'=>d<L.n∧redoL S l (L.put d d') N:=by
 simp only[redoL,redo1]
end

attribute [go_sem] redoL_nil redoL_build List.filterMap_cons List.filterMap_nil
end Go.Lg
/-
  Lg, part 43: a region that draws its order, with one operation in the midst that waits for all ahead of it and for which all behind it wait: it may be of any kind.
-/
namespace Go.Lg
open Go Go.RowKit

def first(n m:Nat):Array Bool:=((List.range n).map fun j=>decide (j<m)).toArray
theorem Oper.wp_congrQ {P:Program} {o:Oper} {a:Act} {w:World} {K:Act→World→Prop} {Q Q':Exit→Act→World→Prop} (h:∀e a w,e≠.normal→Q e a w→Q' e a w) (hh:o.wp P a w K Q):o.wp P a w K Q':=by
 have hl:LetsOut Q→LetsOut Q':=fun⟨a,w,hq⟩=>⟨a,w,h _ a w (by simp) hq⟩
 unfold Oper.wp at *
 generalize (execOp a.eval o).run P w=r at hh ⊢
 cases r with
 | ok x w' =>
  cases x with
  | enter f args =>
   refine Calls.mono hh fun e w'' he=>?_
   cases e with
   | returned v=>exact he
   | panicked c=>exact h _ _ _ (by simp) he
   | outgrown=>exact hl he
  | _=>exact hh
 | halt x w' =>
  cases x<;>first|exact h _ _ _ (by simp) hh|exact hh

end Go.Lg
/-
  Lg: the driver's rules with what is reckoned behind them ('the goal is this one').
-/
namespace Go.Lg
open Go Go.RowKit
theorem tTT:True:=trivial
section
variable {S:Setup} {base:Nat} {B:Base} {ops:Array Oper} {N:LS→Prop} {K:List Oper→LS→Prop} {l:List Oper} {L L':LS} {p q:Prop}
theorem runL_g (h:q) (e:runL S base ops K l L=q:=by
 simp (disch:=(refine Om.mk ?_;omega)) only[go_sem]
 rfl):runL S base ops K l L:=e ▸ h
theorem runQ_g (h:q) (e:runQ S ops K l L=q:=by
 simp (disch:=(refine Om.mk ?_;omega)) only[go_sem]
 rfl):runQ S ops K l L:=e ▸ h
theorem and_o {a:Prop} (h:q) (e:a:=by first|omega|(simp only[lens];omega)):a∧q:=⟨e,h⟩
theorem cvA (h:L.covers L':=by
 refine covers_mk0 rfl rfl ?_ ?_ ?_ ?_<;>simp (disch:=(refine Om.mk ?_;omega)) only[go_sem]<;>(try omega)):L.covers L':=h
theorem cvB (h:L.covers L':=by
 refine covers_mk0 rfl rfl ?_ ?_ ?_ ?_<;>simp (disch:=(refine Om.mk ?_;omega)) only[go_sem]<;>(try omega)
 all_goals first|exact⟨rfl,rfl⟩|exact⟨rfl,rfl,rfl⟩|exact⟨rfl,by omega⟩|rfl):L.covers L':=h
section
variable {R:LS→Prop} {k:List VItem}
class Nrm (k:List VItem) (k':outParam (List VItem)):Prop where
 sw:∀ {S:Setup} {B:Base} {R:LS→Prop} {L:LS},SW S B R k' L→SW S B R k L
instance {x y:Code}:Nrm (.code (.seq x y)::k) (.code x::.code y::k):=⟨sw_seq⟩
instance {id:Nat} {c:Code}:Nrm (.code (.block id c)::k) (.code c::.inBlock id::k):=⟨sw_block⟩
instance:Nrm (.code .skip::k) k:=⟨sw_skip⟩
instance {id:Nat}:Nrm (.inBlock id::k) k:=⟨sw_inBlock⟩
theorem sw_n {k':List VItem} [Nrm k k'] (h:SW S B R k' L):SW S B R k L:=Nrm.sw h
theorem sw_retg (h:q) (e:R L=q:=by
 first
  | (simp (disch:=(refine Om.mk ?_;omega)) only[go_sem];rfl)
  | rfl):SW S B R (.code .ret::k) L:=sw_ret (e ▸ h)
theorem sw_retg0 {rs:List ResultVar} {d:D} {bx':List (Nat×List D)} (h:q) (e:Ret0 S rs d bx' L=q:=by
 first
  | (simp (disch:=(refine Om.mk ?_;omega)) only[go_sem];rfl)
  | rfl):SW S B (Ret S rs d bx') (.code .ret::k) L:=sw_ret (ret0 (e ▸ h))
theorem sw_condg {c:Operand} {x y:Code} {b:Bool} (hc:evalO L c=some (.bool b)) (h1:p→SW S B R (.code x::k) L) (h0:q→SW S B R (.code y::k) L) (e1:(b=true)=p:=by
 first
  | (simp (disch:=(refine Om.mk ?_;omega)) only[go_sem];rfl)
  | rfl) (e0:(b=false)=q:=by
 first
  | (simp (disch:=(refine Om.mk ?_;omega)) only[go_sem];rfl)
  | rfl):SW S B R (.code (.cond c x y)::k) L:=sw_cond hc (fun h=>h1 (e1 ▸ h)) fun h=>h0 (e0 ▸ h)
end
theorem runG_fk {o:Oper} {g:Option Bool} {r:Nat×Bool} {t:Nat} {b:Bool} (h1:p→runL S base ops K (o::l) (L.put t (.bool true))) (h0:q→runL S base ops K (o::l) (L.put t (.bool false))) (hp:o.guard=some r:=by exact rfl) (hj:(ops[r.1]?).bind (·.dst)=some t:=by exact rfl) (ht:L.get t=some (.bool b):=by exact rfl) (hc:isVCall o.op=false:=by exact rfl) (hg:g=guardT r.2 (L.get t):=by exact rfl) (e1:(b=true)=p:=by
 first
  | (simp (disch:=(refine Om.mk ?_;omega)) only[go_sem];rfl)
  | rfl) (e0:(b=false)=q:=by
 first
  | (simp (disch:=(refine Om.mk ?_;omega)) only[go_sem];rfl)
  | rfl):runG S base ops K l L o g:=runG_fork hp hj ht hc hg (fun h=>h1 (e1 ▸ h)) fun h=>h0 (e0 ▸ h)
theorem runQG_fk {o:Oper} {g:Option Bool} {r:Nat×Bool} {t:Nat} {b:Bool} (h1:p→runQ S ops K (o::l) (L.put t (.bool true))) (h0:q→runQ S ops K (o::l) (L.put t (.bool false))) (hp:o.guard=some r:=by exact rfl) (hj:(ops[r.1]?).bind (·.dst)=some t:=by exact rfl) (ht:L.get t=some (.bool b):=by exact rfl) (hc:isQCall o.op=false:=by exact rfl) (hg:g=guardT r.2 (L.get t):=by exact rfl) (e1:(b=true)=p:=by
 first
  | (simp (disch:=(refine Om.mk ?_;omega)) only[go_sem];rfl)
  | rfl) (e0:(b=false)=q:=by
 first
  | (simp (disch:=(refine Om.mk ?_;omega)) only[go_sem];rfl)
  | rfl):runQG S ops K l L o g:=runQG_fork hp hj ht hc hg (fun h=>h1 (e1 ▸ h)) fun h=>h0 (e0 ▸ h)
theorem KOk.n0 (hK:KOk S base B ops N K) (h:q) (e:N L=q:=by
 simp only[go_sem]
 rfl):K [] L:=hK.nil (e ▸ h)
theorem QOk.n0 (hK:QOk S ops N K) (h:q) (e:N L=q:=by
 simp only[go_sem]
 rfl):K [] L:=hK.nil (e ▸ h)
theorem XOk.n0 {N:List (Nat×Fact)→LS→Prop} {K:List (Nat×Fact)→List Oper→LS→Prop} (hK:XOk S ops N K) {F:List (Nat×Fact)} (h:q) (e:N F L=q:=by
 simp only[go_sem]
 rfl):K F [] L:=hK.nil (e ▸ h)
variable {f:Operand} {args:Array Operand} {tys:Array TypeId} {ty:TypeId} {pos:String} {aft:Array Edge} {g:Option (Nat×Bool)} {fid:Nat} {cap ds:List D} {d:D} {dst:Option Nat}
theorem KOk.c1 (hK:KOk S base B ops N K) (hg:guardY ops L g=some true) (hf:evalO L f=some (.fn fid cap)) (hds:mapO (evalO L) args.toList=some ds) (fc:FC S fid [] [] [] (ds++cap) d [] []) (h:runL S base ops K l (L.putO dst d)) (h1:d.ids=[]:=by exact rfl) (h2:d.tks=[]:=by exact rfl) (h3:dstB dst L.n=true:=by exact rfl):K (⟨dst,.call ⟨.value f,args,tys⟩,ty,pos,aft,g⟩::l) L:=hK.c0 hg hf hds fc h1 h2 h3 h
theorem QOk.c1 (hK:QOk S ops N K) (hg:guardY ops L g=some true) (hf:evalO L f=some (.fn fid cap)) (hds:mapO (evalO L) args.toList=some ds) (fc:FC S fid [] [] [] (ds++cap) d [] []) (h:runQ S ops K l (L.putO dst d)) (h1:d.ids=[]:=by exact rfl) (h2:d.tks=[]:=by exact rfl) (h3:dstB dst L.n=true:=by exact rfl):K (⟨dst,.call ⟨.value f,args,tys⟩,ty,pos,aft,g⟩::l) L:=hK.c0 hg hf hds fc h1 h2 h3 h
theorem XOk.c1 {N:List (Nat×Fact)→LS→Prop} {K:List (Nat×Fact)→List Oper→LS→Prop} (hK:XOk S ops N K) {F:List (Nat×Fact)} (hg:guardY ops L g=some true) (hf:evalO L f=some (.fn fid cap)) (hds:mapO (evalO L) args.toList=some ds) (fc:FC S fid [] [] [] (ds++cap) d [] []) (h:runQ S ops (K F) l (L.putO dst d)) (h1:d.ids=[]:=by exact rfl) (h2:d.tks=[]:=by exact rfl) (h3:dstB dst L.n=true:=by exact rfl):K F (⟨dst,.call ⟨.value f,args,tys⟩,ty,pos,aft,g⟩::l) L:=hK.c0 hg hf hds fc h1 h2 h3 h
theorem KOk.cR (hK:KOk S base B ops N K) (hg:guardY ops L g=some true) (hf:evalO L f=some (.fn fid cap)) (hds:mapO (evalO L) args.toList=some ds) {ro:List (Nat×List D)} (fc:FC S fid ro [] [] (ds++cap) d [] []) (h:runL S base ops K l (L.putO dst d)) (h0:∀p∈ro,L.getBox p.1=some p.2:=by simp[LS.getBox,Lg.look]) (h1:d.ids=[]:=by exact rfl) (h2:d.tks=[]:=by exact rfl) (h3:dstOk dst L:=by simp only[dstOk,Nat.reduceLT]):K (⟨dst,.call ⟨.value f,args,tys⟩,ty,pos,aft,g⟩::l) L:=hK.call hg hf hds fc ⟨h0,h1,h2,h3⟩ h
theorem QOk.cR (hK:QOk S ops N K) (hg:guardY ops L g=some true) (hf:evalO L f=some (.fn fid cap)) (hds:mapO (evalO L) args.toList=some ds) {ro:List (Nat×List D)} (fc:FC S fid ro [] [] (ds++cap) d [] []) (h:runQ S ops K l (L.putO dst d)) (h0:∀p∈ro,L.getBox p.1=some p.2:=by simp[LS.getBox,Lg.look]) (h1:d.ids=[]:=by exact rfl) (h2:d.tks=[]:=by exact rfl) (h3:dstOk dst L:=by simp only[dstOk,Nat.reduceLT]):K (⟨dst,.call ⟨.value f,args,tys⟩,ty,pos,aft,g⟩::l) L:=hK.call hg hf hds fc ⟨h0,h1,h2,h3⟩ h
theorem XOk.cR {N:List (Nat×Fact)→LS→Prop} {K:List (Nat×Fact)→List Oper→LS→Prop} (hK:XOk S ops N K) {F:List (Nat×Fact)} (hg:guardY ops L g=some true) (hf:evalO L f=some (.fn fid cap)) (hds:mapO (evalO L) args.toList=some ds) {ro:List (Nat×List D)} (fc:FC S fid ro [] [] (ds++cap) d [] []) (h:runQ S ops (K F) l (L.putO dst d)) (h0:∀p∈ro,L.getBox p.1=some p.2:=by simp[LS.getBox,Lg.look]) (h1:d.ids=[]:=by exact rfl) (h2:d.tks=[]:=by exact rfl) (h3:dstOk dst L:=by simp only[dstOk,Nat.reduceLT]):K F (⟨dst,.call ⟨.value f,args,tys⟩,ty,pos,aft,g⟩::l) L:=hK.call hg hf hds fc ⟨h0,h1,h2,h3⟩ h
theorem KOk.cB (hK:KOk S base B ops N K) {t:Nat} (hg:guardY ops L g=some true) (hf:evalO L f=some (.fn fid cap)) (hds:mapO (evalO L) args.toList=some ds) {ro cx cx':List (Nat×List D)} {tk0 tk':List Nat} (fc:FC S fid ro cx tk0 (ds++cap) d cx' tk') (h:q) (s1:t<L.n:=by simp only[Nat.reduceLT])
  (s2:∀p∈ro,L.getBox p.1=some p.2∧p.1∉cx.map (·.1):=by first|(simp;all_goals fail)|(simp[LS.getBox,Lg.look];all_goals fail)) (s3:∀p∈cx,look L.boxes p.1=some p.2:=by(simp[Lg.look];all_goals fail)) (s4:∀k∈tk0,k∈L.toks:=by(simp;all_goals fail)) (s5:∀p∈cx',p.1∈cx.map (·.1):=by(simp;all_goals fail))
  (s6:∀i∈d.ids,i∈cx.map (·.1):=by(simp[D.ids,D.idsL];all_goals fail)) (s7:∀p∈cx',∀i∈D.idsL p.2,i∈cx.map (·.1):=by(simp[D.ids,D.idsL];all_goals fail)) (s8:∀k∈d.tks,k∈tk':=by(simp[D.tks,D.tksL];all_goals fail)) (s9:∀p∈cx',∀k∈D.tksL p.2,k∈tk':=by(simp[D.tks,D.tksL];all_goals fail)) (s10:∀k∈tk',k<1000:=by(simp;all_goals fail))
  (s11:L.clean (inTok (1000*(t+1)))=true:=by exact rfl) (e:runL S base ops K l ((L.after (1000*(t+1)) cx tk0 cx' tk').put t (d.shT (1000*(t+1))))=q:=by
 simp (disch:=(refine Om.mk ?_;omega)) only[go_sem]
 rfl):K (⟨some t,.call ⟨.value f,args,tys⟩,ty,pos,aft,g⟩::l) L:=hK.callB hg hf hds fc ⟨⟨s1,s2,s3,s4,s5⟩,⟨s6,s7,s8,s9,s10⟩,s11⟩ (e ▸ h)
theorem KOk.cT (hK:KOk S base B ops N K) {t:Nat} (hg:guardY ops L g=some true) (hf:evalO L f=some (.fn fid cap)) (hds:mapO (evalO L) args.toList=some ds) {ro:List (Nat×List D)} {ys:List Int} {e0:TypeId} {z0:Nat} (fc:FC S fid ro [] [] (ds++cap) (.sl (.own 0 e0 z0) (ys.map (.int .i64))) [] [0]) (h:q) (s1:t<L.n:=by simp only[Nat.reduceLT]) (s2:base+t∉L.fix:=by simp) (s3:∀p∈ro,L.getBox p.1=some p.2:=by simp[Lg.look]) (s4:ys≠[]:=by assumption)
  (e:runL S base ops K l ((L.thawed (base+t) (ys.map (.int .i64))).put t (.ms (base+t) ys.length))=q:=by
 simp (disch:=(refine Om.mk ?_;omega)) only[go_sem]
 rfl):K (⟨some t,.call ⟨.value f,args,tys⟩,ty,pos,aft,g⟩::l) L:=hK.callT hg hf hds fc ⟨⟨s1,s2,s3⟩,s4⟩ (e ▸ h)
theorem KOk.cM (hK:KOk S base B ops N K) {t:Nat} (hg:guardY ops L g=some true) (hf:evalO L f=some (.fn fid cap)) (hds:mapO (evalO L) args.toList=some ds) {ro:List (Nat×List D)} {cs0:List D} {j0 n0:Nat} (fc:FC S fid ro [] [] (ds++cap) (.ms j0 n0) [(j0,cs0)] []) (h:q) (s1:t<L.n:=by simp only[Nat.reduceLT]) (s2:base+t∉L.fix:=by simp) (s3:∀p∈ro,L.getBox p.1=some p.2:=by simp[Lg.look]) (s4:∀d∈cs0,d.memOk=true:=by first|exact memOk_ints _|simp)
  (e:runL S base ops K l ((L.thawed (base+t) cs0).put t (.ms (base+t) n0))=q:=by
 simp (disch:=(refine Om.mk ?_;omega)) only[go_sem]
 rfl):K (⟨some t,.call ⟨.value f,args,tys⟩,ty,pos,aft,g⟩::l) L:=hK.callM hg hf hds fc ⟨⟨s1,s2,s3⟩,s4⟩ (e ▸ h)
end
theorem sw_bndg {S:Setup} {B:Base} {R:LS→Prop} {k:List VItem} {L:LS} (t:Nat) {d:D} {p:Prop} (hk:p→SW S B R k L) (h:look L.env t=some d:=by exact rfl) (e:d.bnd=p:=by
 simp only[D.bnd,List.length_map]
 rfl):SW S B R k L:=sw_bnd t h fun hd=>hk (e ▸ hd)
theorem sw_bnd_aggg {S:Setup} {B:Base} {R:LS→Prop} {k:List VItem} {L:LS} (t j:Nat) {cs:List D} {d:D} {p:Prop} (hk:p→SW S B R k L) (h:look L.env t=some (.agg cs):=by exact rfl) (hj:cs[j]?=some d:=by exact rfl) (e:d.bnd=p:=by
 simp only[D.bnd,List.length_map]
 rfl):SW S B R k L:=sw_bnd_agg t j h hj fun hd=>hk (e ▸ hd)
theorem fcb {S:Setup} {f:FuncId} {fn:Func} {c:Code} {ro bx:List (Nat×List D)} {tk:List Nat} {args:List D} {d:D} {bx':List (Nat×List D)} {L0:LS} (hf:S.P.funcs[f]?=some fn) (h:∀B:Base,SW S B (Ret S fn.results.toList d bx') [.code c] L0) (hb:fn.body=some c:=by exact rfl) (hname:(fn.name == "runtime.NumGoroutine")=false:=by kernel_rfl) (hn:Nat.ble args.length fn.ntmps=true:=by kernel_rfl) (e:(⟨fn.ntmps,enumD 0 args,bx,ro,tk,bx.map (·.1)⟩:LS)=L0:=by
 simp only[go_sem]
 rfl):FC S f ro bx tk args d bx' []:=fc_body hf hb hname (Nat.le_of_ble_eq_true hn) (by rw[e];exact h)
theorem fcb1 {S:Setup} {f:FuncId} {fn:Func} {c:Code} {ro bx:List (Nat×List D)} {tk:List Nat} {args:List D} {d:D} {bx':List (Nat×List D)} {L0:LS} (hf:S.P.funcs[f]?=some fn) (h:∀B:Base,SW S B (Ret1 S fn.results.toList d bx') [.code c] L0) (hb:fn.body=some c:=by exact rfl) (hname:(fn.name == "runtime.NumGoroutine")=false:=by kernel_rfl) (hn:Nat.ble args.length fn.ntmps=true:=by kernel_rfl) (e:(⟨fn.ntmps,enumD 0 args,bx,ro,tk,bx.map (·.1)⟩:LS)=L0:=by
 simp only[go_sem]
 rfl):FC S f ro bx tk args d bx' [0]:=fc_body1 hf hb hname (Nat.le_of_ble_eq_true hn) (by rw[e];exact h)
theorem fcbN {S:Setup} {f:FuncId} {fn:Func} {c:Code} {ro bx:List (Nat×List D)} {tk:List Nat} {args:List D} {d:D} {bx':List (Nat×List D)} {tk':List Nat} {L0:LS} (hf:S.P.funcs[f]?=some fn) (htk:tk'=List.range tk'.length) (h:∀B:Base,SW S B (RetN S fn.results.toList d bx' tk'.length) [.code c] L0) (hb:fn.body=some c:=by exact rfl) (hname:(fn.name == "runtime.NumGoroutine")=false:=by kernel_rfl) (hn:Nat.ble args.length fn.ntmps=true:=by kernel_rfl) (e:(⟨fn.ntmps,enumD 0 args,bx,ro,tk,bx.map (·.1)⟩:LS)=L0:=by
 simp only[go_sem]
 rfl):FC S f ro bx tk args d bx' tk':=fc_bodyN hf hb hname (Nat.le_of_ble_eq_true hn) htk (by rw[e];exact h)
end Go.Lg
