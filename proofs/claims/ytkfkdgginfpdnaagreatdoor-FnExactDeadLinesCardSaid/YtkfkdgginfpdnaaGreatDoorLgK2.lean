/-
  Lg: LgApp, LgApp2, LgCallG, LgStep, LgSeq, LgRun, LgDraw, LgDraw2, LgDraw3, one behind the other.
-/
import Derived.Test.YtkfkdgginfpdnaaGreatDoorLgK1
import Derived.Laws.MakeOwn
/-
  Lg, part 9: append, make.
-/
namespace Go.Lg
open Go Go.RowKit

def LS.purge (L:LS) (p:Nat→Bool):LS :=
 {L with env:=mapA (D.pu p) L.env,boxes:=mapA (List.map (D.pu1 p)) L.boxes,ro:=mapA (List.map (D.pu1 p)) L.ro}

def LS.clean (L:LS) (p:Nat→Bool):Bool :=
 L.env.all (fun q=>q.2.tks.all fun k=>!p k)&&L.boxes.all (fun q=>(D.tksL q.2).all fun k=>!p k)&&L.ro.all (fun q=>(D.tksL q.2).all fun k=>!p k)

theorem pu1_le_map {p:Nat→Bool} {cs:List D} {j:Nat} {d:D} (h:(cs.map (D.pu1 p))[j]?=some d):∃c,cs[j]?=some c∧D.le c d:=by
 simp only[List.getElem?_map,Option.map_eq_some_iff] at h
 obtain⟨c,h1,rfl⟩:=h
 exact⟨c,h1,D.le_pu1 p c⟩

theorem purge_sim {B:Base} {L:LS} {G:Ghost} {a:Act} {w:World} (h:Sim B L G a w) (p:Nat→Bool):Sim B (L.purge p) G a w:=by
 have hbox:∀ {g cs},BoxAt G w g cs→BoxAt G w g (cs.map (D.pu1 p)):=fun {g cs} ⟨vs,e,e1,e2,e3⟩ =>
  ⟨vs,e,e1,by simpa using e2,fun j d v hd hv=>by
   obtain⟨c,h1,h2⟩:=pu1_le_map hd
   exact(e3 j c v h1 hv).le h2⟩
 refine⟨h.defers,h.size,fun t d hd=>?_,{h.W with boxes:=fun id cs hl=>?_,robs:=fun id cs hl=>?_},h.fixed⟩
 ·simp only[LS.purge,look_mapA,Option.map_eq_some_iff] at hd
  obtain⟨d0,hd,rfl⟩:=hd
  obtain⟨v,h1,h2⟩:=h.env t d0 hd
  exact⟨v,h1,h2.le (D.le_pu p d0)⟩
 ·simp only[LS.purge,look_mapA,Option.map_eq_some_iff] at hl
  obtain⟨c0,hl,rfl⟩:=hl
  obtain⟨g,h1,h2,h3⟩:=h.W.boxes id c0 hl
  exact⟨g,h1,hbox h2,h3⟩
 ·simp only[LS.purge,look_mapA,Option.map_eq_some_iff] at hl
  obtain⟨c0,hl,rfl⟩:=hl
  obtain⟨g,h1,h2,h3⟩:=h.W.robs id c0 hl
  exact⟨g,h1,hbox h2,h3⟩

theorem clean_env {L:LS} {p:Nat→Bool} (h:L.clean p=true) {t:Nat} {d:D} (hd:look L.env t=some d) {k:Nat} (hk:k∈d.tks):p k=false:=by
 simp only[LS.clean,Bool.and_eq_true,List.all_eq_true] at h
 have:=h.1.1 _ (mem_of_look hd) k hk
 simpa using this
theorem clean_box {L:LS} {p:Nat→Bool} (h:L.clean p=true) {t:Nat} {cs:List D} (hd:look L.boxes t=some cs) {d:D} (hm:d∈cs) {k:Nat} (hk:k∈d.tks):p k=false:=by
 simp only[LS.clean,Bool.and_eq_true,List.all_eq_true] at h
 have:=h.1.2 _ (mem_of_look hd) k (mem_tksL hm hk)
 simpa using this
theorem clean_ro {L:LS} {p:Nat→Bool} (h:L.clean p=true) {t:Nat} {cs:List D} (hd:look L.ro t=some cs) {d:D} (hm:d∈cs) {k:Nat} (hk:k∈d.tks):p k=false:=by
 simp only[LS.clean,Bool.and_eq_true,List.all_eq_true] at h
 have:=h.2 _ (mem_of_look hd) k (mem_tksL hm hk)
 simpa using this

def Ghost.setTok (G:Ghost) (tok:Nat) (x:Option (Option (Nat×TypeId×Nat))):Ghost:={G with τ:=fun k=>if k=tok then x else G.τ k}

structure TokStep (B:Base) (G G':Ghost) (w w':World) (tok:Nat):Prop where
 mono:Mono G G' w w'
 beta:G'.β=G.β
 lab:G'.lab=G.lab
 sz:w.heap.size≤w'.heap.size
 os:w'.os=w.os
 tape:w'.tape=w.tape
 out:w'.output=w.output
 dr:w.drawn≤w'.drawn
 tau:∀k,k≠tok→G'.τ k=none∨(G'.τ k=G.τ k∧∀g e z,G.τ k=some (some (g,e,z))→G'.lim g=G.lim g∧w'.heap[g]?=w.heap[g]?)
 block:∀b,b<w.heap.size→(w'.heap[b]?=w.heap[b]?∧G'.lim b=G.lim b)∨((B.w.heap.size≤b∨B.ab b)∧(∀i,G.β i≠some b)∧G.lim b≤G'.lim b∧G.lab b=[])
 new:∀g e z,G'.τ tok=some (some (g,e,z))→(B.w.heap.size≤g∨B.ab g)∧0<z∧(∃cur,w'.heap[g]?=some (.cells cur e (0,0))∧G'.lim g≤cur.size)∧(∀i,G.β i≠some g) ∧
  (∀k e' z',k≠tok→G'.τ k≠some (some (g,e',z')))∧G.lab g=[]
 live:G'.τ tok≠none

theorem tokStep_sim {B:Base} {L:LS} {G G':Ghost} {a:Act} {w w':World} {tok:Nat} (h:Sim B L G a w) (hs:TokStep B G G' w w' tok) (hc:L.clean (fun k=>k==tok)=true) {tk:List Nat}
  (htk:∀k∈tk,k=tok∨(G'.τ k=G.τ k∧k∈L.toks)):Sim B {L with toks:=tk} G' a w':=by
 have hW:=h.W
 have rG:∀ {d v},(∀k∈d.tks,k≠tok)→Rel G w d v→Rel G' w' d v:=fun {d v} hne hr =>
  hr.mono hs.mono (fun i _ g hg=>by rw[hs.beta];exact hg) (fun k hk=>by
   rcases hs.tau k (hne k hk) with h1|⟨h1,h2⟩
   ·exact .inl h1
   ·exact .inr ⟨h1,fun g e z hg=>⟨(h2 g e z hg).1,shape_of_heap (h2 g e z hg).2⟩⟩)
 have hsame:∀i g,G.β i=some g→w'.heap[g]?=w.heap[g]?∧G'.lim g=G.lim g:=fun i g hg=>by
  rcases hs.block g (hW.blt i g hg) with h1|⟨_,h2,_⟩
  ·exact h1
  ·exact absurd hg (h2 i)
 have ne_of:∀ {k:Nat},(fun k=>k==tok) k=false→k≠tok:=fun hk e=>by subst e;simp at hk
 refine⟨h.defers,h.size,fun t d hd=>?_,?_,h.fixed⟩
 ·obtain⟨v,h1,h2⟩:=h.env t d hd
  exact⟨v,h1,rG (fun k hk=>ne_of (clean_env hc hd hk)) h2⟩
 ·exact {
   boxes:=fun id cs hl=>by
    obtain⟨g,k1,⟨vs,e,e1,e2,e3⟩,k3,k4⟩:=hW.boxes id cs hl
    refine⟨g,by rw[hs.beta];exact k1,⟨vs,e,by rw[(hsame id g k1).1];exact e1,e2,fun j d v hd hv=>?_⟩,by rw[(hsame id g k1).2];exact k3,k4⟩
    exact rG (fun k hk=>ne_of (clean_box hc hl (List.mem_of_getElem? hd) hk)) (e3 j d v hd hv)
   robs:=fun id cs hl=>by
    obtain⟨g,k1,⟨vs,e,e1,e2,e3⟩,k3,k4⟩:=hW.robs id cs hl
    refine⟨g,by rw[hs.beta];exact k1,⟨vs,e,by rw[(hsame id g k1).1];exact e1,e2,fun j d v hd hv=>?_⟩,k3,k4⟩
    exact rG (fun k hk=>ne_of (clean_ro hc hl (List.mem_of_getElem? hd) hk)) (e3 j d v hd hv)
   toks:=fun k hk=>by
    rcases htk k hk with rfl|⟨h1,h2⟩
    ·cases hx:G'.τ k with
     | none=>exact absurd hx hs.live
     | some x=>exact⟨x,rfl⟩
    ·rw[h1];exact hW.toks k h2
   tau:=fun k g e z hk=>by
    by_cases hkt:k=tok
    ·subst hkt
     obtain⟨h1,h2,h3,h4,_,_⟩:=hs.new g e z hk
     exact⟨h1,h2,h3,fun i=>by rw[hs.beta];exact h4 i⟩
    ·rcases hs.tau k hkt with h1|⟨h1,h2⟩
     ·rw[h1] at hk;cases hk
     ·rw[h1] at hk
      obtain⟨q1,q2,⟨cur,q3,q4⟩,q5⟩:=hW.tau k g e z hk
      obtain⟨q6,q7⟩:=h2 g e z hk
      exact⟨q1,q2,⟨cur,by rw[q7];exact q3,by rw[q6];exact q4⟩,fun i=>by rw[hs.beta];exact q5 i⟩
   tinj:=fun k k' g e z e' z' hk hk'=>by
    by_cases h1:k=tok
    ·subst h1
     by_cases h2:k'=k
     ·exact h2.symm
     ·exact absurd hk' ((hs.new g e z hk).2.2.2.2.1 k' e' z' h2)
    ·by_cases h2:k'=tok
     ·subst h2
      exact absurd hk ((hs.new g e' z' hk').2.2.2.2.1 k e z h1)
     ·rcases hs.tau k h1 with q|⟨q,_⟩
      ·rw[q] at hk;cases hk
      ·rcases hs.tau k' h2 with q'|⟨q',_⟩
       ·rw[q'] at hk';cases hk'
       ·rw[q] at hk;rw[q'] at hk'
        exact hW.tinj k k' g e z e' z' hk hk'
   binj:=by rw[hs.beta];exact hW.binj
   blt:=fun i g hg=>by rw[hs.beta] at hg;exact Nat.lt_of_lt_of_le (hW.blt i g hg) hs.sz
   lablt:=fun b hb=>by rw[hs.lab] at hb;exact Nat.lt_of_lt_of_le (hW.lablt b hb) hs.sz
   old:=fun b hlt hab=>by
    have hs1:=hW.sz
    obtain⟨h1,h2⟩:=hW.old b hlt hab
    rcases hs.block b (by omega) with⟨q1,q2⟩|⟨q1,_,_⟩
    ·exact⟨q1.trans h1,q2.trans h2⟩
    ·rcases q1 with q1|q1
     ·omega
     ·exact absurd q1 hab
   olda:=fun b hlt=>by
    have hs1:=hW.sz
    obtain⟨h1,h2⟩:=hW.olda b hlt
    have hle:G.lim b≤G'.lim b:=by
     rcases hs.block b (by omega) with⟨_,q2⟩|⟨_,_,q3⟩
     ·omega
     ·exact q3.1
    exact⟨Nat.le_trans h1 hle,fun o v ho hc=>(hs.mono.cell b o v (by omega) (h2 o v ho hc)).2⟩
   oldl:=fun b hlt hb=>by rw[hs.lab];exact hW.oldl b hlt hb
   tlab:=fun k g e z hk=>by
    rw[hs.lab]
    by_cases hkt:k=tok
    ·subst hkt
     exact(hs.new g e z hk).2.2.2.2.2
    ·rcases hs.tau k hkt with h1|⟨h1,_⟩
     ·rw[h1] at hk;cases hk
     ·rw[h1] at hk;exact hW.tlab k g e z hk
   blab:=fun i g hg=>by rw[hs.beta] at hg;rw[hs.lab];exact hW.blab i g hg
   oldu:=fun b hlt hab hb=>by rw[hs.lab];exact hW.oldu b hlt hab hb
   labw:=fun b hb hor=>by
    rw[hs.lab] at hb
    obtain⟨vs,e,h1⟩:=hW.labw b hb hor
    rcases hs.block b (hW.lablt b hb) with⟨q1,_⟩|⟨_,_,_,q4⟩
    ·exact⟨vs,e,by rw[q1];exact h1⟩
    ·exact absurd q4 hb
   ids:=fun p hp=>by rw[hs.beta];exact hW.ids p hp
   sz:=Nat.le_trans hW.sz hs.sz
   os:=hs.os.trans hW.os
   tape:=hs.tape.trans hW.tape
   out:=hs.out.trans hW.out
   dr:=dr_t hW.dr hs.dr}


theorem fresh_step {B:Base} {L:LS} {G:Ghost} {a:Act} {w:World} (h:Sim B L G a w) (arr:Array Value) (e:TypeId) (z N:Nat) (hz:0<z) (hN:N≤arr.size) (tok:Nat) (τ':Nat→Option (Option (Nat×TypeId×Nat)))
  (hτ:∀k,τ' k=none∨τ' k=G.τ k) :
  TokStep B G (({G.grow w.heap.size N with τ:=τ'}:Ghost).setTok tok (some (some (w.heap.size,e,z)))) w (w.drew.alloc (.cells arr e)) tok:=by
 have hW:=h.W
 have hold:∀b,b<w.heap.size→(w.drew.alloc (.cells arr e)).heap[b]?=w.heap[b]?:=fun b hb=>Below.heap_alloc w.drew _ b hb
 have hlim:∀b,b<w.heap.size→(G.grow w.heap.size N).lim b=G.lim b:=fun b hb=>by simp only[Ghost.grow];rw[if_neg (by omega)]
 have hmn:Mono G (({G.grow w.heap.size N with τ:=τ'}:Ghost).setTok tok (some (some (w.heap.size,e,z)))) w (w.drew.alloc (.cells arr e)):=by
  refine⟨fun b o v h1 h2=>?_,fun _ _=>rfl,fun b es c hb=>(hold b (heap_lt hb)).trans hb⟩
  have hlt:=cell_lt h2
  exact⟨by show o<(G.grow w.heap.size N).lim b;rw[hlim b hlt];exact h1,by rw[cell_of_heap (hold b hlt)];exact h2⟩
 have hnew:(w.drew.alloc (.cells arr e)).heap[w.heap.size]?=some (.cells arr e (0,0)):=heap_alloc_new w.drew _
 refine {
  mono:=hmn
  beta:=rfl
  lab:=rfl
  sz:=by simp
  os:=rfl
  tape:=rfl
  out:=rfl
  dr:=by first|exact Nat.le_refl _|exact Nat.le_succ _|exact .inr (Nat.le_refl _)|exact .inr (Nat.le_succ _)
  tau:=fun k hk=>?_
  block:=fun b hb=>.inl ⟨hold b hb,hlim b hb⟩
  new:=fun g e' z' hg=>?_
  live:=by simp[Ghost.setTok]}
 ·simp only[Ghost.setTok,if_neg hk]
  rcases hτ k with h1|h1
  ·exact .inl h1
  ·refine .inr ⟨h1,fun g e' z' hg=>?_⟩
   obtain⟨_,_,⟨cur,hc,_⟩,_⟩:=hW.tau k g e' z' hg
   exact⟨hlim g (heap_lt hc),hold g (heap_lt hc)⟩
 ·simp only[Ghost.setTok,if_true,Option.some.injEq,Prod.mk.injEq] at hg
  obtain⟨rfl,rfl,rfl⟩:=hg
  refine⟨.inl hW.sz,hz,⟨arr,hnew,by simpa[Ghost.setTok,Ghost.grow] using hN⟩,fun i hi=>?_,fun k e' z' hk hkk=>?_,Classical.byContradiction fun hne=>Nat.lt_irrefl _ (hW.lablt _ hne)⟩
  ·have:=hW.blt _ _ hi;omega
  ·simp only[Ghost.setTok,if_neg hk] at hkk
   rcases hτ k with h1|h1
   ·rw[h1] at hkk;cases hkk
   ·rw[h1] at hkk
    obtain⟨_,_,⟨cur,hc,_⟩,_⟩:=hW.tau k _ _ _ hkk
    have:=heap_lt hc
    omega

end Go.Lg
/-
  Lg, part 10: append, whole.
-/
namespace Go.Lg
open Go Go.RowKit

def appendable (xs ys:List D) (toks:List Nat) (e:TypeId) (z:Nat):Tk→Prop
 | .nil=>True
 | .full=>xs=[]∨ys≠[]
 | .own k e' z'=>e'=e∧z'=z∧k∈toks
 | _=>False
def Tk.key:Tk→Option Nat
 | .own k _ _=>some k
 | _=>none
def killed (tk:Tk) (toks:List Nat):List Nat:=match tk with|.own k _ _=>toks.filter (fun x=>!(x==k))|_=>toks

def killτ (tk:Tk) (τ:Nat→Option (Option (Nat×TypeId×Nat))):Nat→Option (Option (Nat×TypeId×Nat)):=match tk with
 | .own k _ _=>fun x=>if x=k then none else τ x
 | _=>τ
theorem killτ_or (tk:Tk) (τ:Nat→Option (Option (Nat×TypeId×Nat))) (k:Nat):killτ tk τ k=none∨killτ tk τ k=τ k:=by
 cases tk with
 | own q e z =>
  simp only[killτ]
  split
  ·exact .inl rfl
  ·exact .inr rfl
 | _=>exact .inr rfl
theorem mem_killed {tk:Tk} {toks:List Nat} {k:Nat} (h:k∈killed tk toks) (τ:Nat→Option (Option (Nat×TypeId×Nat))):killτ tk τ k=τ k∧k∈toks:=by
 cases tk<;>simp only[killed,killτ] at h ⊢<;>first|exact⟨trivial,h⟩|skip
 rename_i q _ _
 simp only[List.mem_filter,Bool.not_eq_true',beq_eq_false_iff_ne] at h
 exact⟨by rw[if_neg h.2],h.1⟩

theorem rel_step {B:Base} {G G':Ghost} {w w':World} {tok:Nat} (hs:TokStep B G G' w w' tok) {d:D} {v:Value} (hr:Rel G w d v) (hm:d.memOk=true):Rel G' w' d v :=
 hr.mono hs.mono (by rw[memOk_ids hm];intro i hi;cases hi) (by rw[memOk_tks hm];intro i hi;cases hi)

theorem grow_case {B:Base} {L:LS} {G:Ghost} {a:Act} {w:World} (hs:Sim B L G a w) {tok:Nat} (hc:L.clean (fun k=>k==tok)=true) (tk:Tk) {e:TypeId} {z:Nat} (hz:0<z) {xs:List D} (hu:∀x∈xs,x.cells.length=z)
  (hmem:∀d∈flat xs,d.memOk=true) (arr:Array Value) (cap:Nat) (h1:xs.length≤cap) (h2:cap≤maxLen) (h3:arr.size=cap*z) (hr:∀(j:Nat) d u,(flat xs)[j]?=some d→arr[j]?=some u→Rel G w d u) :
  ∃G',Sim B {L with toks:=tok::killed tk L.toks} G' a (w.drew.alloc (.cells arr e))∧Rel G' (w.drew.alloc (.cells arr e)) (.sl (.own tok e z) xs) (.slice (some ⟨w.heap.size,0,none⟩) xs.length cap):=by
 have hfl:=flat_length hu
 have hN:xs.length*z≤arr.size:=by rw[h3];exact Nat.mul_le_mul_right z h1
 have hst:=fresh_step hs arr e z (xs.length*z) hz hN tok (killτ tk G.τ) (killτ_or tk G.τ)
 refine⟨_,tokStep_sim hs hst hc (fun k hk=>?_),?_⟩
 ·rcases List.mem_cons.1 hk with rfl|hk
  ·exact .inl rfl
  ·by_cases hkt:k=tok
   ·exact .inl hkt
   ·refine .inr ⟨?_,(mem_killed hk G.τ).2⟩
    simp only[Ghost.setTok,if_neg hkt]
    exact(mem_killed hk G.τ).1
 ·have hnew:(w.drew.alloc (.cells arr e)).heap[w.heap.size]?=some (.cells arr e (0,0)):=heap_alloc_new w.drew _
  have hcell:∀j,(w.drew.alloc (.cells arr e)).cell? ⟨w.heap.size,j,none⟩=arr[j]?:=fun j=>by
   unfold World.cell?
   simp only[hnew]
   rfl
  refine .sl (b:=w.heap.size) (o:=0) (s:=z) rfl h1 h2 ?_ (.inr rfl) hu hmem (fun j d hd=>?_) (fun j d v hd hv=>?_)
  ·simp only[TkOk,Ghost.setTok,if_true]
   refine⟨⟨trivial,trivial⟩,trivial,by simp[Ghost.grow],?_,hu⟩
   unfold World.shape?
   simp only[hnew,h3]
  ·have hj:j<xs.length*z:=by rw[←hfl];exact(List.getElem?_eq_some_iff.1 hd).1
   simp only[Nat.zero_add]
   refine⟨by simpa[Ghost.setTok,Ghost.grow] using hj,arr[j]'(by omega),?_⟩
   rw[hcell]
   simp[show j<arr.size by omega]
  ·simp only[Nat.zero_add,hcell] at hv
   exact rel_step hst (hr j d v hd hv) (hmem d (List.mem_of_getElem? hd))

theorem stay_step {B:Base} {L:LS} {G:Ghost} {a:Act} {w:World} (h:Sim B L G a w) (tok:Nat) (tk:Tk) (x:Option (Nat×TypeId×Nat))
  (hx:∀g e z,x=some (g,e,z)→∃k,tk.key=some k∧G.τ k=some (some (g,e,z))) :
  TokStep B G (({G with τ:=killτ tk G.τ}:Ghost).setTok tok (some x)) w w tok:=by
 have hW:=h.W
 refine {
  mono:=⟨fun _ _ _ h1 h2=>⟨h1,h2⟩,fun _ _=>rfl,fun _ _ _ h=>h⟩
  beta:=rfl
  lab:=rfl
  sz:=Nat.le_refl _
  os:=rfl
  tape:=rfl
  out:=rfl
  dr:=by first|exact Nat.le_refl _|exact Nat.le_succ _|exact .inr (Nat.le_refl _)|exact .inr (Nat.le_succ _)
  tau:=fun k hk=>?_
  block:=fun b hb=>.inl ⟨rfl,rfl⟩
  new:=fun g e' z' hg=>?_
  live:=by simp[Ghost.setTok]}
 ·simp only[Ghost.setTok,if_neg hk]
  rcases killτ_or tk G.τ k with h1|h1
  ·exact .inl h1
  ·exact .inr ⟨h1,fun _ _ _ _=>⟨trivial,trivial⟩⟩
 ·simp only[Ghost.setTok,if_true,Option.some.injEq] at hg
  obtain⟨k,hk,hτ⟩:=hx g e' z' hg
  obtain⟨h1,h2,h3,h4⟩:=hW.tau k g e' z' hτ
  refine⟨h1,h2,h3,h4,fun k' e'' z'' hk' hkk=>?_,hW.tlab k g e' z' hτ⟩
  simp only[Ghost.setTok,if_neg hk'] at hkk
  cases tk with
  | own q e0 z0 =>
   simp only[Tk.key,Option.some.injEq] at hk
   subst hk
   simp only[killτ] at hkk
   split at hkk
   ·cases hkk
   ·rename_i hne
    exact hne (hW.tinj k' q g e'' z'' e' z' hkk hτ)
  | _=>cases hk

theorem stay_case {B:Base} {L:LS} {G:Ghost} {a:Act} {w:World} (hs:Sim B L G a w) {tok:Nat} (hc:L.clean (fun k=>k==tok)=true) (tk:Tk) (x:Option (Nat×TypeId×Nat))
  (hx:∀g e z,x=some (g,e,z)→∃k,tk.key=some k∧G.τ k=some (some (g,e,z))) {e:TypeId} {z:Nat} {xs:List D} {A:Option Addr} {n c:Nat} (hr:Rel G w (.sl tk xs) (.slice A n c))
  (ht0:x=none→n=0∧c=0) (ht1:∀g e' z',x=some (g,e',z')→(e'=e∧z'=z)∧A=some ⟨g,0,none⟩∧n*z=G.lim g∧w.shape? g=some (e,c*z)∧∀y∈xs,y.cells.length=z) :
  ∃G',Sim B {L with toks:=tok::killed tk L.toks} G' a w∧Rel G' w (.sl (.own tok e z) xs) (.slice A n c):=by
 have hst:=stay_step hs tok tk x hx
 refine⟨_,tokStep_sim hs hst hc (fun k hk=>?_),?_⟩
 ·rcases List.mem_cons.1 hk with rfl|hk
  ·exact .inl rfl
  ·by_cases hkt:k=tok
   ·exact .inl hkt
   ·refine .inr ⟨?_,(mem_killed hk G.τ).2⟩
    simp only[Ghost.setTok,if_neg hkt]
    exact(mem_killed hk G.τ).1
 ·cases hr with
  | @sl _ _ _ _ _ b o s hn hcc hm _ hA hu hk hstt hrr =>
  refine .sl (b:=b) (o:=o) (s:=s) hn hcc hm ?_ hA hu hk hstt (fun j d v hd hv=>rel_step hst (hrr j d v hd hv) (hk d (List.mem_of_getElem? hd)))
  simp only[TkOk,Ghost.setTok,if_true]
  cases x with
  | none=>exact ht0 rfl
  | some p=>exact ht1 p.1 p.2.1 p.2.2 rfl

theorem room_case {B:Base} {L:LS} {G:Ghost} {a:Act} {w:World} (hs:Sim B L G a w) {tok:Nat} (hc:L.clean (fun k=>k==tok)=true) {k:Nat} {e:TypeId} {z g:Nat} {xs ys:List D} {n c:Nat} (hτ:G.τ k=some (some (g,e,z)))
  (hr:Rel G w (.sl (.own k e z) xs) (.slice (some ⟨g,0,none⟩) n c)) (hlim:n*z=G.lim g) (hsh:w.shape? g=some (e,c*z)) (hux:∀y∈xs,y.cells.length=z) (huy:∀y∈ys,y.cells.length=z)
  (hmy:∀d∈flat ys,d.memOk=true) {news:List Value} (hnl:news.length=(flat ys).length) (hnr:∀(j:Nat) d u,(flat ys)[j]?=some d→news[j]?=some u→Rel G w d u) (hroom:n+ys.length≤c) {cur:Array Value} (hcur:w.heap[g]?=some (.cells cur e (0,0))) :
  ∃G',Sim B {L with toks:=tok::killed (.own k e z) L.toks} G' a (w.setRow g (cur.toList.take (n*z)++news++cur.toList.drop (n*z+news.length)).toArray) ∧
   Rel G' (w.setRow g (cur.toList.take (n*z)++news++cur.toList.drop (n*z+news.length)).toArray) (.sl (.own tok e z) (xs++ys)) (.slice (some ⟨g,0,none⟩) (n+ys.length) c):=by
 have hW:=hs.W
 let row:=(cur.toList.take (n*z)++news++cur.toList.drop (n*z+news.length)).toArray
 let w':=w.setRow g row
 have hgl:=heap_lt hcur
 have hcs:cur.size=c*z:=by
  have:=hsh
  simp only[World.shape?,hcur,Option.some.injEq,Prod.mk.injEq] at this
  exact this.2
 have hfy:=flat_length huy
 have hnz:n*z+news.length=(n+ys.length)*z:=by rw[hnl,hfy,←Nat.add_mul]
 have hle:(n+ys.length)*z≤c*z:=Nat.mul_le_mul_right z hroom
 have hrow:w'.heap[g]?=some (.cells row e (0,0)):=setRow_heap w g cur row e (0,0) hcur
 have hrs:row.size=c*z:=by simp[row];omega
 have hother:∀b,b≠g→w'.heap[b]?=w.heap[b]?:=fun b hb=>setRow_other w g b row hb
 have hget1:∀j,j<n*z→row[j]?=cur[j]?:=fun j hj=>by
  simp only[row,List.getElem?_toArray]
  rw[List.append_assoc,List.getElem?_append_left (by simp;omega),List.getElem?_take,if_pos hj]
  simp
 have hget2:∀j,j<news.length→row[n*z+j]?=news[j]?:=fun j hj=>by
  simp only[row,List.getElem?_toArray]
  have:(cur.toList.take (n*z)).length=n*z:=by simp;omega
  rw[List.append_assoc,List.getElem?_append_right (by omega),this,List.getElem?_append_left (by omega)]
  congr 1
  omega
 have hcell':∀j,w'.cell? ⟨g,j,none⟩=row[j]?:=fun j=>by simp[World.cell?,hrow]
 have hcell:∀j,w.cell? ⟨g,j,none⟩=cur[j]?:=fun j=>by simp[World.cell?,hcur]
 let G':Ghost:=({G.grow g ((n+ys.length)*z) with τ:=killτ (.own k e z) G.τ}:Ghost).setTok tok (some (some (g,e,z)))
 have hl':G'.lim g=(n+ys.length)*z:=by simp[G',Ghost.setTok,Ghost.grow]
 have hlo:∀b,b≠g→G'.lim b=G.lim b:=fun b hb=>by simp[G',Ghost.setTok,Ghost.grow,hb]
 have hst:TokStep B G G' w w' tok:=by
  obtain⟨q1,q2,q3,q4⟩:=hW.tau k g e z hτ
  refine {
   mono:=⟨fun b o v h1 h2=>?_,fun _ _=>rfl,fun b es c hb=>(hother b (fun h=>by subst h;rw[hcur] at hb;cases hb)).trans hb⟩
   beta:=rfl
   lab:=rfl
   sz:=by simp[w',World.setRow]
   os:=rfl
   tape:=rfl
   out:=rfl
   dr:=by first|exact Nat.le_refl _|exact Nat.le_succ _|exact .inr (Nat.le_refl _)|exact .inr (Nat.le_succ _)
   tau:=fun k' hk'=>?_
   block:=fun b hb=>?_
   new:=fun g' e' z' hg=>?_
   live:=by simp[G',Ghost.setTok]}
  ·by_cases hb:b=g
   ·subst hb
    rw[←hlim] at h1
    have hle2:n*z≤(n+ys.length)*z:=Nat.mul_le_mul_right z (Nat.le_add_right _ _)
    refine⟨by rw[hl'];omega,?_⟩
    rw[hcell',hget1 o h1,←hcell];exact h2
   ·exact⟨by rw[hlo b hb];exact h1,by rw[cell_of_heap (hother b hb)];exact h2⟩
  ·simp only[G',Ghost.setTok,if_neg hk',killτ]
   by_cases hkk:k'=k
   ·exact .inl (by rw[if_pos hkk])
   ·refine .inr ⟨by rw[if_neg hkk],fun g2 e2 z2 h2=>?_⟩
    have hne:g2≠g:=fun e0=>by subst e0;exact hkk (hW.tinj k' k _ e2 z2 e z h2 hτ)
    exact⟨by simp[Ghost.grow,hne],hother g2 hne⟩
  ·by_cases hb':b=g
   ·subst hb'
    refine .inr ⟨q1,q4,?_,hW.tlab k b e z hτ⟩
    rw[hl',←hlim]
    exact Nat.mul_le_mul_right z (Nat.le_add_right _ _)
   ·exact .inl ⟨hother b hb',hlo b hb'⟩
  ·simp only[G',Ghost.setTok,if_true,Option.some.injEq,Prod.mk.injEq] at hg
   obtain⟨rfl,rfl,rfl⟩:=hg
   refine⟨q1,q2,⟨row,hrow,by rw[hl',hrs];exact hle⟩,q4,fun k' e' z' hk' hkk=>?_,hW.tlab k _ _ _ hτ⟩
   simp only[G',Ghost.setTok,if_neg hk',killτ] at hkk
   split at hkk
   ·cases hkk
   ·rename_i hne
    exact hne (hW.tinj k' k _ e' z' _ _ hkk hτ)
 refine⟨G',tokStep_sim hs hst hc (fun k' hk'=>?_),?_⟩
 ·rcases List.mem_cons.1 hk' with rfl|hk'
  ·exact .inl rfl
  ·by_cases hkt:k'=tok
   ·exact .inl hkt
   ·refine .inr ⟨?_,(mem_killed hk' G.τ).2⟩
    simp only[G',Ghost.setTok,if_neg hkt]
    exact(mem_killed hk' G.τ).1
 ·obtain⟨hn,hnc,hcm,hmx,_⟩:=rel_list hr
  have hfx:=flat_length hux
  have huxy:∀y∈xs++ys,y.cells.length=z:=fun y hy=>by
   rcases List.mem_append.1 hy with hy|hy
   ·exact hux y hy
   ·exact huy y hy
  have hmxy:∀d∈flat (xs++ys),d.memOk=true:=fun d hd=>by
   rw[flat_append] at hd
   rcases List.mem_append.1 hd with hd|hd
   ·exact hmx d hd
   ·exact hmy d hd
  have hxcell:∀(j:Nat) d,(flat xs)[j]?=some d→∃v,cur[j]?=some v∧Rel G w d v:=fun j d hd=>by
   cases hr with
   | @sl _ _ _ _ _ b o s hn hcc hm _ hA hu hk hstt hrr =>
   have hne:xs≠[]:=fun e0=>by subst e0;simp[flat] at hd
   have hA':=hA.resolve_left hne
   simp only[Option.some.injEq,Addr.mk.injEq,and_true] at hA'
   obtain⟨rfl,rfl⟩:=hA'
   obtain⟨_,v,hv⟩:=hstt j d hd
   have hv2:=hrr j d v hd hv
   rw[Nat.zero_add,hcell] at hv
   exact⟨v,hv,hv2⟩
  have key:∀(j:Nat) d,(flat (xs++ys))[j]?=some d→∃v,row[j]?=some v∧Rel G w d v:=fun j d hd=>by
   rw[flat_append] at hd
   by_cases hj:j<n*z
   ·rw[List.getElem?_append_left (by rw[hfx,←hn];exact hj)] at hd
    obtain⟨v,h1,h2⟩:=hxcell j d hd
    exact⟨v,by rw[hget1 j hj];exact h1,h2⟩
   ·rw[List.getElem?_append_right (by rw[hfx,←hn];omega),hfx,←hn] at hd
    have hlt:=(List.getElem?_eq_some_iff.1 hd).1
    have h2:=hget2 (j-n*z) (by omega)
    rw[show n*z+(j-n*z)=j by omega] at h2
    have h3:news[j-n*z]?=some (news[j-n*z]'(by omega)):=List.getElem?_eq_getElem (by omega)
    exact⟨_,by rw[h2,h3],hnr _ d _ hd h3⟩
  refine .sl (b:=g) (o:=0) (s:=z) (by simp[hn]) hroom hcm ?_ (.inr rfl) huxy hmxy (fun j d hd=>?_) (fun j d v hd hv=>?_)
  ·have e1:G'.τ tok=some (some (g,e,z)):=by simp[G',Ghost.setTok]
   simp only[TkOk,e1]
   refine⟨⟨trivial,trivial⟩,trivial,by rw[hl'],?_,huxy⟩
   show w'.shape? g=some (e,c*z)
   simp[World.shape?,hrow,hrs]
  ·obtain⟨v,h1,_⟩:=key j d hd
   have hj:j<(n+ys.length)*z:=by
    have:=(List.getElem?_eq_some_iff.1 hd).1
    rw[flat_length huxy,List.length_append,←hn] at this
    exact this
   refine⟨?_,v,?_⟩
   ·rw[hl',Nat.zero_add];exact hj
   ·rw[Nat.zero_add]
    show w'.cell? _=_
    rw[hcell'];exact h1
  ·rw[Nat.zero_add] at hv
   have hv:w'.cell? ⟨g,j,none⟩=some v:=hv
   rw[hcell'] at hv
   obtain⟨v',h1,h2⟩:=key j d hd
   rw[h1] at hv
   obtain rfl:=Option.some.inj hv
   exact rel_step hst h2 (hmxy d (List.mem_of_getElem? hd))

theorem append_sound {S:Setup} {B:Base} {L:LS} {G:Ghost} {a:Act} {w:World} (hs:Sim B L G a w) {tok:Nat} (hc:L.clean (fun k=>k==tok)=true) {t ty e:TypeId} {i:TyI} (hk:S.kd t=some (.slice e)) (hi:S.tab e=some i)
  (hz:0<i.size) {tk tk2:Tk} {xs ys:List D} {v u:Value} (hx:Rel G w (.sl tk xs) v) (hy:Rel G w (.sl tk2 ys) u) (hap:appendable xs ys L.toks e i.size tk) (hux:∀x∈xs,x.cells.length=i.size) (huy:∀x∈ys,x.cells.length=i.size)
  (hb:(xs.length+ys.length)*i.bytes≤140737488355328) (h63:xs.length+ys.length≤140737488355328) :
  ∃v' G' w',(Builtin.append_ #[t,t] ty #[v,u]).run S.P w=.ok v' w'∧Sim B {L with toks:=tok::killed tk L.toks} G' a w'∧Rel G' w' (.sl (.own tok e i.size) (xs++ys)) v':=by
 have ht:=kd_slice hk
 obtain⟨inf,i1,i2,i3,z,i4,i5,_⟩:=(S.ok e i hi).info
 obtain⟨A,n,c,rfl⟩:∃A n c,v=.slice A n c:=by cases hx;exact⟨_,_,_,rfl⟩
 obtain⟨A2,m,c2,rfl⟩:∃A n c,u=.slice A n c:=by cases hy;exact⟨_,_,_,rfl⟩
 obtain⟨xn,xc,xm,xk,xl⟩:=rel_list hx
 obtain⟨yn,yc,ym,yk,yl⟩:=rel_list hy
 have hml:(140737488355328:Nat)≤maxLen:=by simp[maxLen]
 have huxy:∀y∈xs++ys,y.cells.length=i.size:=fun y hy=>by
  rcases List.mem_append.1 hy with hy|hy
  ·exact hux y hy
  ·exact huy y hy
 have hmxy:∀d∈flat (xs++ys),d.memOk=true:=fun d hd=>by
  rw[flat_append] at hd
  rcases List.mem_append.1 hd with hd|hd
  ·exact xk d hd
  ·exact yk d hd
 have hfx:=flat_length hux
 have hfy:=flat_length huy
 have hτ:∀k e' z',tk=.own k e' z'→(e'=e∧z'=i.size)∧((G.τ k=some none∧n=0∧c=0) ∨
   ∃g,G.τ k=some (some (g,e,i.size))∧A=some ⟨g,0,none⟩∧n*i.size=G.lim g∧w.shape? g=some (e,c*i.size)):=fun k e' z' e0=>by
  subst e0
  obtain⟨rfl,rfl,hkt⟩:=hap
  refine⟨⟨rfl,rfl⟩,?_⟩
  obtain⟨x,hx0⟩:=hs.W.toks k hkt
  cases hx with
  | @sl _ _ _ _ _ b o s hn hcc hm htk hA hu hk hstt hrr =>
  simp only[TkOk,hx0] at htk
  match x,hx0 with
  | none,hx0=>exact .inl ⟨hx0,htk⟩
  | some (g,e',z'),hx0 =>
   obtain⟨⟨rfl,rfl⟩,h2,h3,h4,_⟩:=htk
   exact .inr ⟨g,hx0,h2,h3,h4⟩
 by_cases hm0:ys=[]
 ·-- nothing is added
  subst hm0
  have hm:m=0:=by rw[yn];rfl
  subst hm
  rw[List.append_nil]
  have hrun:=run_append_zero (P:=S.P) w t ty e inf ht i1 A n c xc A2 c2
  have fin:∀x,(∀g e z,x=some (g,e,z)→∃k,tk.key=some k∧G.τ k=some (some (g,e,z)))→(x=none→n=0∧c=0) →
    (∀g e' z',x=some (g,e',z')→(e'=e∧z'=i.size)∧A=some ⟨g,0,none⟩∧n*i.size=G.lim g∧w.shape? g=some (e,c*i.size)∧∀y∈xs,y.cells.length=i.size) →
    ∃v' G' w',(Builtin.append_ #[t,t] ty #[.slice A n c,.slice A2 0 c2]).run S.P w=.ok v' w'∧Sim B {L with toks:=tok::killed tk L.toks} G' a w'∧Rel G' w' (.sl (.own tok e i.size) xs) v':=fun x h1 h2 h3=>by
   obtain⟨G',q1,q2⟩:=stay_case (e:=e) (z:=i.size) hs hc tk x h1 hx h2 h3
   exact⟨_,G',w,hrun,q1,q2⟩
  have hx':=hx
  cases hx with
  | @sl _ _ _ _ _ b o s hn hcc hm htk hA hu hk0 hstt hrr =>
  cases tk with
  | nil=>exact fin none (by simp) (fun _=>⟨htk.2.1,htk.2.2⟩) (by simp)
  | full =>
   have hxs:xs=[]:=by rcases hap with h|h;exact h;exact absurd rfl h
   subst hxs
   have htk:n=c:=htk
   exact fin none (by simp) (fun _=>⟨by rw[hn];rfl,by rw[←htk,hn];rfl⟩) (by simp)
  | own k e' z' =>
   obtain⟨⟨rfl,rfl⟩,hq⟩:=hτ k e' z' rfl
   rcases hq with⟨_,h1,h2⟩|⟨g,h1,h2,h3,h4⟩
   ·exact fin none (by simp) (fun _=>⟨h1,h2⟩) (by simp)
   ·exact fin (some (g,_,_)) (fun g' e2 z2 h=>by
     obtain⟨rfl,rfl,rfl⟩:=Prod.mk.inj (Option.some.inj h) |>.imp id Prod.mk.inj
     exact⟨k,rfl,h1⟩) (by simp) (fun g' e2 z2 h=>by
     obtain⟨rfl,rfl,rfl⟩:=Prod.mk.inj (Option.some.inj h) |>.imp id Prod.mk.inj
     exact⟨⟨rfl,rfl⟩,h2,h3,h4,hux⟩)
  | _=>exact hap.elim
 ·-- cells are added
  obtain⟨b2,o2,rfl,news,n1,n2,n3,n4,_⟩:=yl hm0
  have hmp:0<m:=by rw[yn];exact List.length_pos_iff.2 hm0
  have hnl:news.length=m*inf.size:=by rw[n1,hfy,yn,i2]
  have hnews:∀(j:Nat) u,news[j]?=some u→w.cell? ((⟨b2,o2,none⟩:Addr).add j)=some u:=fun j u hu=>by rw[add_mk];exact n2 j u hu
  have hzs:z.cells.size=inf.size:=by rw[i5,i2];simp[TyI.size]
  have grow:∀(olds:List Value),olds.length=(flat xs).length→(∀(j:Nat) d u,(flat xs)[j]?=some d→olds[j]?=some u→Rel G w d u) →
    (Builtin.append_ #[t,t] ty #[.slice A n c,.slice (some ⟨b2,o2,none⟩) m c2]).run S.P w =
     .ok (.slice (some ⟨w.heap.size,0,none⟩) (n+m) (grownCap w (n+m) c e)) (w.drew.alloc (.cells (olds.toArray++news.toArray++Builtin.zeroCells z.cells (grownCap w (n+m) c e-(n+m))) e)) →
    ∃v' G' w',(Builtin.append_ #[t,t] ty #[.slice A n c,.slice (some ⟨b2,o2,none⟩) m c2]).run S.P w=.ok v' w'∧Sim B {L with toks:=tok::killed tk L.toks} G' a w'∧Rel G' w' (.sl (.own tok e i.size) (xs++ys)) v':=fun olds ho hor hrun=>by
   have hcap:=grownCap_ge w (n+m) c e
   have hlen:(xs++ys).length=n+m:=by rw[List.length_append,xn,yn]
   obtain⟨G',q1,q2⟩:=grow_case hs hc tk hz huxy hmxy (olds.toArray++news.toArray++Builtin.zeroCells z.cells (grownCap w (n+m) c e-(n+m))) (grownCap w (n+m) c e) (by rw[hlen];exact hcap)
    (grownCap_le_maxLen w (n+m) c e (by omega)) (by
     simp only[Array.size_append,List.size_toArray,size_zeroCells,hzs,ho,hnl,hfx,i2,←xn,←Nat.add_mul]
     congr 1
     omega) (fun j d u hd hu=>by
     rw[flat_append] at hd
     by_cases hj:j<(flat xs).length
     ·rw[List.getElem?_append_left hj] at hd
      rw[Array.append_assoc,Array.getElem?_append_left (by simpa[ho] using hj)] at hu
      exact hor j d u hd (by simpa using hu)
     ·rw[List.getElem?_append_right (by omega)] at hd
      have hlt:=(List.getElem?_eq_some_iff.1 hd).1
      rw[Array.append_assoc,Array.getElem?_append_right (by simp;omega),Array.getElem?_append_left (by simp;omega)] at hu
      exact n3 _ d u hd (by simpa[ho] using hu))
   rw[hlen] at q2
   exact⟨_,G',_,hrun,q1,q2⟩
  have hnm63:((n+m:Nat):Int)≤9223372036854775807:=by omega
  have hbytes:(n+m)*inf.bytes≤140737488355328:=by rw[i3,xn,yn];exact hb
  have nospare:n=c→∃v' G' w',(Builtin.append_ #[t,t] ty #[.slice A n c,.slice (some ⟨b2,o2,none⟩) m c2]).run S.P w=.ok v' w'∧Sim B {L with toks:=tok::killed tk L.toks} G' a w'∧Rel G' w' (.sl (.own tok e i.size) (xs++ys)) v':=fun hnc=>by
   subst hnc
   cases A with
   | none =>
    have hxs:xs=[]:=by
     cases hxe:xs with
     | nil=>rfl
     | cons q r =>
      obtain⟨b,o,h0,_⟩:=xl (by rw[hxe];simp)
      cases h0
    subst hxs
    have hn0:n=0:=xn
    subst hn0
    have hr:=run_append_nil (P:=S.P) w t ty e inf z ht i1 i4 ⟨b2,o2,none⟩ m c2 news hnl hnews hmp (by omega) (by simp only[Nat.zero_add] at hbytes;omega)
    have:=grow [] (by simp[flat]) (by simp) (by simpa using hr)
    exact this
   | some ad =>
    by_cases hxe:xs=[]
    ·subst hxe
     have hn0:n=0:=xn
     subst hn0
     have hr:=run_append_grow (P:=S.P) w t ty e inf z ht i1 i4 ad 0 0 [] (by simp) (by simp) ⟨b2,o2,none⟩ m c2 news hnl hnews (by omega) (by omega) (growslice_fits (by omega) hbytes)
     exact grow [] (by simp[flat]) (by simp) hr
    ·obtain⟨b,o,h0,olds,o1,o2',o3,_,_⟩:=xl hxe
     obtain rfl:=Option.some.inj h0
     have hr:=run_append_grow (P:=S.P) w t ty e inf z ht i1 i4 ⟨b,o,none⟩ n n olds (by rw[o1,hfx,xn,i2]) (fun j u hu=>by rw[add_mk];exact o2' j u hu) ⟨b2,o2,none⟩ m c2 news hnl hnews (by omega) hnm63 (growslice_fits (by omega) hbytes)
     exact grow olds o1 o3 hr
  cases htk:tk with
  | nil =>
   subst htk
   refine nospare ?_
   cases hx with
   | @sl _ _ _ _ _ b o s hn hcc hm htk hA hu hk0 hstt hrr=>obtain⟨_,h1,h2⟩:=htk;omega
  | full =>
   subst htk
   refine nospare ?_
   cases hx with
   | @sl _ _ _ _ _ b o s hn hcc hm htk hA hu hk0 hstt hrr=>exact htk
  | own k e' z' =>
   obtain⟨⟨rfl,rfl⟩,hq⟩:=hτ k e' z' htk
   rcases hq with⟨_,h1,h2⟩|⟨g,h1,rfl,h3,h4⟩
   ·rw[←htk];exact nospare (by omega)
   ·obtain⟨_,_,⟨cur,hcur,hlc⟩,_⟩:=hs.W.tau k g _ _ h1
    have hcs:cur.size=c*i.size:=by
     simp only[World.shape?,hcur,Option.some.injEq,Prod.mk.injEq] at h4
     exact h4.2
    by_cases hroom:n+m≤c
    ·have hfit:n*inf.size+news.length≤cur.size:=by
      rw[hnl,hcs,i2,←Nat.add_mul];exact Nat.mul_le_mul_right _ hroom
     have hr:=run_append_room (P:=S.P) w t ty e' inf ht i1 g n c cur hcur ⟨b2,o2,none⟩ m c2 news hnl hnews n4 hroom hfit
     rw[i2] at hr
     obtain⟨G',q1,q2⟩:=room_case hs hc h1 (by rw[htk] at hx;exact hx) h3 h4 hux huy yk n1 n3 (by rw[←yn];exact hroom) hcur
     rw[←yn] at q2
     exact⟨_,G',_,hr,q1,q2⟩
    ·by_cases hxe:xs=[]
     ·subst hxe
      have hn0:n=0:=xn
      subst hn0
      have hr:=run_append_grow (P:=S.P) w t ty e' inf z ht i1 i4 ⟨g,0,none⟩ 0 c [] (by simp) (by simp) ⟨b2,o2,none⟩ m c2 news hnl hnews (by omega) hnm63 (growslice_fits (by omega) hbytes)
      rw[←htk]
      exact grow [] (by simp[flat]) (by simp) hr
     ·obtain⟨b,o,h0,olds,o1,o2',o3,_,_⟩:=xl hxe
      have h0:=Option.some.inj h0
      have hr:=run_append_grow (P:=S.P) w t ty e' inf z ht i1 i4 ⟨g,0,none⟩ n c olds (by rw[o1,hfx,xn,i2]) (fun j u hu=>by rw[h0,add_mk];exact o2' j u hu) ⟨b2,o2,none⟩ m c2 news hnl hnews (by omega) hnm63 (growslice_fits (by omega) hbytes)
      rw[←htk]
      exact grow olds o1 o3 hr
  | any=>rw[htk] at hap;exact hap.elim
  | nl=>rw[htk] at hap;exact hap.elim
  | nn=>rw[htk] at hap;exact hap.elim
  | lab l=>rw[htk] at hap;exact hap.elim
  | que k e=>rw[htk] at hap;exact hap.elim

end Go.Lg
/-
  Lg, part 11: a call that is handed boxes (to write) and tokens (to append).
-/
namespace Go.Lg
open Go Go.RowKit

theorem look_append {α:Type} (l m:List (Nat×α)) (t:Nat):look (l++m) t=match look l t with|some x=>some x|none=>look m t:=by
 induction l with
 | nil=>rfl
 | cons p r ih =>
  obtain⟨k,x⟩:=p
  by_cases h:k=t
  ·simp[look,h]
  ·simp[look,h,ih]
def eraseKs {α:Type}:List Nat→List (Nat×α)→List (Nat×α)
 | [],l=>l
 | k::ks,l=>eraseK k (eraseKs ks l)
theorem look_eraseKs {α:Type} (ks:List Nat) (l:List (Nat×α)) (t:Nat):look (eraseKs ks l) t=if t∈ks then none else look l t:=by
 induction ks with
 | nil=>simp[eraseKs]
 | cons k ks ih =>
  simp only[eraseKs,look_eraseK,ih,List.mem_cons]
  by_cases h:k=t
  ·subst h;simp
  ·have:¬t=k:=fun e=>h e.symm
   simp[h,this]

def LS.after (L:LS) (off:Nat) (cx:List (Nat×List D)) (tk0:List Nat) (cx':List (Nat×List D)) (tk':List Nat):LS :=
 {L with boxes:=mapA (D.shTL off) cx'++eraseKs (cx.map (·.1)) L.boxes,toks:=tk'.map (· + off)++L.toks.filter (fun k=>!tk0.contains k&&!inTok off k)}

theorem call_soundQ {S:Setup} {B:Base} {L:LS} {G:Ghost} {a:Act} {w:World} (h:Sim B L G a w) {f:FuncId} {ro cx:List (Nat×List D)} {tk0:List Nat} {ds:List D} {d:D} {cx':List (Nat×List D)} {tk':List Nat} {vals:Array Value} {E:Value→Ending} (off:Nat)
  (hv:vals.size=ds.length) (hr:∀(j:Nat) d v,ds[j]?=some d→vals[j]?=some v→Rel G w d v) (hro:∀p∈ro,L.getBox p.1=some p.2∧p.1∉cx.map (·.1)) (hb:∀p∈cx,look L.boxes p.1=some p.2) (ht0:∀k∈tk0,k∈L.toks)
  {q:Prop} {T:World→Prop} (hq:q→B.wk) (hT:B.has T) (fc:FCEq S q T E f ro cx tk0 ds d cx' tk') (hkeys:∀p∈cx',p.1∈cx.map (·.1)) (hid:∀i∈d.ids,i∈cx.map (·.1)) (hid':∀p∈cx',∀i∈D.idsL p.2,i∈cx.map (·.1))
  (hdt:∀k∈d.tks,k∈tk') (hdt':∀p∈cx',∀k∈D.tksL p.2,k∈tk') (hlt:∀k∈tk',k<1000) (hc:L.clean (inTok off)=true) :
  Calls S.P f vals w fun e w'=>∃v G',e=E v∧Sim B (L.after off cx tk0 cx' tk') G' a w'∧Rel G' w' (d.shT off) v:=by
 have hW:=h.W
 let G1:Ghost:={G with τ:=fun k=>if k∈tk0 then G.τ k else none}
 have hm1:Mono G G1 w w:=⟨fun _ _ _ h1 h2=>⟨h1,h2⟩,fun _ _=>rfl,fun _ _ _ h=>h⟩
 have r1:∀ {d v},Rel G w d v→Rel G1 w d v:=fun hr=>hr.mono hm1 (fun _ _ _ h=>h) (fun k _=>by
  by_cases hk:k∈tk0
  ·exact .inr ⟨by simp[G1,hk],fun _ _ _ _=>⟨rfl,rfl⟩⟩
  ·exact .inl (by simp[G1,hk]))
 have hτ1:∀ {k x},G1.τ k=some x→k∈tk0∧G.τ k=some x:=fun {k x} hk=>by
  simp only[G1] at hk
  split at hk
  ·rename_i h;exact⟨h,hk⟩
  ·cases hk
 have hb1:∀ {g cs},BoxAt G w g cs→BoxAt G1 w g cs:=fun⟨vs,e,e1,e2,e3⟩=>⟨vs,e,e1,e2,fun j d v hd hv=>r1 (e3 j d v hd hv)⟩
 have habT:∀ {k g e z},k∈tk0→G.τ k=some (some (g,e,z))→(baseOf G1 w cx tk0).ab g:=fun {k g e z} hk hg=>.inr ⟨k,hk,e,z,by simp[G1,hk,hg]⟩
 have habB:∀ {p g},p∈cx→G.β p.1=some g→(baseOf G1 w cx tk0).ab g:=fun {p g} hp hg=>.inl ⟨p,hp,hg⟩
 have hnab:∀ {b},(∀p∈cx,G.β p.1≠some b)→(∀k∈tk0,∀e z,G.τ k≠some (some (b,e,z)))→¬(baseOf G1 w cx tk0).ab b:=fun {b} h1 h2=>by
  rintro (⟨p,hp,hg⟩|⟨k,hk,e,z,hg⟩)
  ·exact h1 p hp hg
  ·exact h2 k hk e z (hτ1 hg).2
 have hget:∀id cs,L.getBox id=some cs→∃g,G.β id=some g∧BoxAt G w g cs:=fun id cs hgb=>by
  unfold LS.getBox at hgb
  split at hgb
  ·rename_i c hc
   obtain rfl:c=cs:=by simpa using hgb
   obtain⟨g,h1,h2,_⟩:=hW.boxes id c hc
   exact⟨g,h1,h2⟩
  ·obtain⟨g,h1,h2,_⟩:=hW.robs id cs hgb
   exact⟨g,h1,h2⟩
 have hstart:Sim {baseOf G1 w cx tk0 with wk:=q} ⟨ds.length,enumD 0 ds,cx,ro,tk0,cx.map (·.1)⟩ G1 ⟨vals,[]⟩ w:=by
  refine⟨rfl,hv,fun t d hd=>?_,?_,fun p hp=>?_⟩
  ·rw[look_enumD] at hd
   simp only[Nat.zero_le,if_true,Nat.sub_zero] at hd
   have hlt:t<vals.size:=by rw[hv];exact(List.getElem?_eq_some_iff.1 hd).1
   exact⟨vals[t],by simp[hlt],r1 (hr t d _ hd (by simp[hlt]))⟩
  ·exact {
    boxes:=fun id cs hl=>by
     obtain⟨g,h1,h2,h3,_⟩:=hW.boxes id cs (hb _ (mem_of_look hl))
     exact⟨g,h1,hb1 h2,h3,.inr (habB (mem_of_look hl) h1)⟩
    robs:=fun id cs hl=>by
     have hm:=mem_of_look hl
     obtain⟨g,h1,h2⟩:=hget id cs (hro _ hm).1
     have hg:=hW.blt _ _ h1
     refine⟨g,h1,hb1 h2,hg,hnab (fun p hp hpg=>?_) (fun k hk e z hkg=>?_)⟩
     ·have:=hW.binj _ _ _ hpg h1
      exact(hro _ hm).2 (List.mem_map.2 ⟨p,hp,this⟩)
     ·exact(hW.tau k g e z hkg).2.2.2 id h1
    toks:=fun k hk=>by
     obtain⟨x,hx⟩:=hW.toks k (ht0 k hk)
     exact⟨x,by simp[G1,hk,hx]⟩
    tau:=fun k g e z hk=>by
     obtain⟨h1,h2⟩:=hτ1 hk
     obtain⟨_,q2,q3,q4⟩:=hW.tau k g e z h2
     exact⟨.inr (habT h1 h2),q2,q3,q4⟩
    tinj:=fun k k' g e z e' z' hk hk'=>hW.tinj k k' g e z e' z' (hτ1 hk).2 (hτ1 hk').2
    binj:=hW.binj
    blt:=hW.blt
    lablt:=hW.lablt
    old:=fun _ _ _=>⟨rfl,rfl⟩
    olda:=fun _ _=>⟨Nat.le_refl _,fun _ _ _ h=>h⟩
    oldl:=fun _ _ _=>rfl
    tlab:=fun k g e z hk=>hW.tlab k g e z (hτ1 hk).2
    blab:=hW.blab
    oldu:=fun _ _ _ h=>h
    labw:=fun b hb hor=>by
     rcases hor with hor|(⟨p,hp,hpg⟩|⟨k,hk,e,z,hg⟩)
     ·exact absurd (hW.lablt b hb) (Nat.not_lt.2 hor)
     ·exact absurd (hW.blab _ _ hpg) hb
     ·exact absurd (hW.tlab k b e z (hτ1 hg).2) hb
    ids:=fun p hp=>by
     simp only[baseOf,List.mem_filterMap,Option.map_eq_some_iff] at hp
     obtain⟨q,_,g,hg,rfl⟩:=hp
     exact hg
    sz:=Nat.le_refl _
    os:=rfl
    tape:=rfl
    out:=rfl
    dr:=by first|exact Nat.le_refl _|exact Nat.le_succ _|exact .inr (Nat.le_refl _)|exact .inr (Nat.le_succ _)}
  ·simp only[baseOf,List.mem_filterMap,Option.map_eq_some_iff] at hp
   obtain⟨q,hq,g,_,rfl⟩:=hp
   exact List.mem_map_of_mem hq
 have hbase:(baseOf G1 w cx tk0).has T:=fun w2 h2 hsz=>by
  refine hT w2 (fun b hlt hab=>?_) (Nat.le_trans hW.sz hsz)
  refine(h2 b (Nat.lt_of_lt_of_le hlt hW.sz) (hnab (fun p hp hpg=>?_) (fun k hk e z hkg=>?_))).trans (hW.old b hlt hab).1
  ·obtain⟨g,q1,_,_,q2⟩:=hW.boxes p.1 p.2 (hb p hp)
   rw[hpg] at q1
   obtain rfl:=Option.some.inj q1
   rcases q2 with q2|q2
   ·exact absurd q2 (Nat.not_le.2 hlt)
   ·exact hab q2
  ·rcases (hW.tau k b e z hkg).1 with q2|q2
   ·exact absurd q2 (Nat.not_le.2 hlt)
   ·exact hab q2
 refine(fc.2 w G1 vals hbase hstart).mono ?_
 rintro e w' ⟨v,G',he,hend⟩
 have hE:=hend.W
 let G2:Ghost:={G' with β:=G.β,τ:=fun k=>if inTok off k=true then (if k-off∈tk' then G'.τ (k-off) else none) else if k∈tk0 then none else G.τ k}
 have hmn:Mono G G2 w w':=by
  refine⟨fun b o v h1 h2=>?_,fun b hb=>hE.oldl b (hW.lablt b hb) hb,fun b es c hm=>(hE.old b (heap_lt hm) (hnab (fun p hp hpg=>?_) (fun k hk e z hkg=>?_))).1.trans hm⟩
  rotate_left
  ·obtain⟨g,q1,⟨vs,e,e1,_⟩,_⟩:=hW.boxes p.1 p.2 (hb p hp)
   rw[hpg] at q1
   obtain rfl:=Option.some.inj q1
   rw[hm] at e1
   cases e1
  ·obtain⟨_,_,⟨cur,hc,_⟩,_⟩:=hW.tau k b e z hkg
   rw[hm] at hc
   cases hc
  obtain⟨h3,h4⟩:=hE.olda b (cell_lt h2)
  exact⟨Nat.lt_of_lt_of_le h1 h3,h4 o v h1 h2⟩
 have oldT:∀ {k g e z},k∉tk0→G.τ k=some (some (g,e,z))→w'.heap[g]?=w.heap[g]?∧G'.lim g=G.lim g:=fun {k g e z} hk hg=>by
  obtain⟨_,_,⟨cur,hc,_⟩,hne⟩:=hW.tau k g e z hg
  exact hE.old g (heap_lt hc) (hnab (fun p _=>hne p.1) (fun k' hk' e' z' hg'=>hk (by rw[hW.tinj k k' g e z e' z' hg hg'];exact hk')))
 have oldB:∀ {id g},id∉cx.map (·.1)→G.β id=some g→w'.heap[g]?=w.heap[g]?∧G'.lim g=G.lim g:=fun {id g} hni hg =>
  hE.old g (hW.blt _ _ hg) (hnab (fun p hp hpg=>hni (List.mem_map.2 ⟨p,hp,hW.binj _ _ _ hpg hg⟩)) (fun k hk e z hkg=>(hW.tau k g e z hkg).2.2.2 id hg))
 have rG:∀ {d v},(∀k∈d.tks,inTok off k=false)→Rel G w d v→Rel G2 w' d v:=fun {d v} hcl hr =>
  hr.mono hmn (fun _ _ _ h=>h) (fun k hk=>by
   have h0:=hcl k hk
   by_cases hk0:k∈tk0
   ·exact .inl (by simp[G2,h0,hk0])
   ·exact .inr ⟨by simp[G2,h0,hk0],fun g e z hg=>⟨(oldT hk0 hg).2,shape_of_heap (oldT hk0 hg).1⟩⟩)
 have inOff:∀ {k},k∈tk'→inTok off (k+off)=true:=fun {k} hk=>by
  have:=hlt k hk
  simp[inTok];omega
 have rE:∀ {d v},(∀i∈d.ids,i∈cx.map (·.1))→(∀k∈d.tks,k∈tk')→Rel G' w' d v→Rel G2 w' (d.shT off) v:=fun {d v} hi hk hr =>
  Rel.shift (G:=G') (G':=G2) rfl rfl off hr (fun i hi' g hg=>by
   obtain⟨p,hp,rfl⟩:=List.mem_map.1 (hi i hi')
   obtain⟨g0,h1,_⟩:=hW.boxes p.1 p.2 (hb p hp)
   have:=hE.ids (p.1,g0) (by
    simp only[baseOf,List.mem_filterMap]
    exact⟨p,hp,by simp[G1,h1]⟩)
   simp only at this
   rw[this] at hg
   obtain rfl:=Option.some.inj hg
   exact h1) (fun k hk'=>by
   have hm:=hk k hk'
   simp only[G2]
   rw[if_pos (inOff hm),if_pos (by simpa using hm)]
   congr 1
   omega)
 have newT:∀ {k g e z},inTok off k=true→G2.τ k=some (some (g,e,z))→G'.τ (k-off)=some (some (g,e,z))∧k-off∈tk'∧off≤k:=fun {k g e z} hin hg=>by
  simp only[G2,hin,if_true] at hg
  split at hg
  ·rename_i hm
   refine⟨hg,hm,?_⟩
   simp only[inTok,Bool.and_eq_true,decide_eq_true_eq] at hin
   exact hin.1
  ·cases hg
 have oldTok:∀ {k x},inTok off k=false→G2.τ k=some x→k∉tk0∧G.τ k=some x:=fun {k x} hin hg=>by
  simp only[G2,hin,Bool.false_eq_true,if_false] at hg
  split at hg
  ·cases hg
  ·rename_i hm;exact⟨hm,hg⟩
 have newTb:∀ {k g e z},inTok off k=true→G2.τ k=some (some (g,e,z))→w.heap.size≤g∨∃k0∈tk0,∃e z,G.τ k0=some (some (g,e,z)):=fun {k g e z} hin hg=>by
  obtain⟨h1,_,_⟩:=newT hin hg
  obtain⟨q1,_,_,q4⟩:=hE.tau _ g e z h1
  rcases q1 with q1|(⟨p,hp,hpg⟩|⟨k0,hk0,e0,z0,h0⟩)
  ·exact .inl q1
  ·exfalso
   have hpg:G.β p.1=some g:=hpg
   have:=hE.ids (p.1,g) (by
    simp only[baseOf,List.mem_filterMap]
    exact⟨p,hp,by simp[G1,hpg]⟩)
   exact q4 p.1 this
  ·exact .inr ⟨k0,hk0,e0,z0,(hτ1 h0).2⟩
 refine⟨v,G2,he,⟨h.defers,h.size,fun t d hd=>?_,?_,h.fixed⟩,?_⟩
 ·obtain⟨v,h1,h2⟩:=h.env t d hd
  exact⟨v,h1,rG (fun k hk=>clean_env hc hd hk) h2⟩
 ·exact {
   boxes:=fun id cs hl=>by
    simp only[LS.after,look_append,look_mapA,look_eraseKs] at hl
    cases hcx:look cx' id with
    | some c0 =>
     rw[hcx] at hl
     simp only[Option.map_some,Option.some.injEq] at hl
     subst hl
     have hm:=mem_of_look hcx
     obtain⟨p,hp,hpe⟩:=List.mem_map.1 (hkeys _ hm)
     have hpe:p.1=id:=hpe
     obtain⟨g0,h1,h2,h3,h4⟩:=hW.boxes p.1 p.2 (hb p hp)
     obtain⟨g,q1,⟨vs,e,e1,e2,e3⟩,q3,_⟩:=hE.boxes id c0 hcx
     have:=hE.ids (p.1,g0) (by
      simp only[baseOf,List.mem_filterMap]
      exact⟨p,hp,by simp[G1,h1]⟩)
     simp only at this
     rw[hpe,q1] at this
     obtain rfl:=Option.some.inj this
     rw[hpe] at h1
     refine⟨g,h1,⟨vs,e,e1,by rw[shTL_map];simpa using e2,fun j d v hd hv=>?_⟩,q3,h4⟩
     rw[shTL_map,List.getElem?_map,Option.map_eq_some_iff] at hd
     obtain⟨d0,hd,rfl⟩:=hd
     have hmem:=List.mem_of_getElem? hd
     exact rE (fun i hi=>hid' _ hm i (mem_idsL hmem hi)) (fun k hk=>hdt' _ hm k (mem_tksL hmem hk)) (e3 j d0 v hd hv)
    | none =>
     rw[hcx] at hl
     simp only[Option.map_none] at hl
     split at hl
     ·cases hl
     ·rename_i hni
      obtain⟨g,h1,⟨vs,e,e1,e2,e3⟩,h3,h4⟩:=hW.boxes id cs hl
      obtain⟨q1,q2⟩:=oldB hni h1
      refine⟨g,h1,⟨vs,e,by rw[q1];exact e1,e2,fun j d v hd hv=>?_⟩,by show G'.lim g=0;rw[q2];exact h3,h4⟩
      exact rG (fun k hk=>clean_box hc hl (List.mem_of_getElem? hd) hk) (e3 j d v hd hv)
   robs:=fun id cs hl=>by
    obtain⟨g,h1,⟨vs,e,e1,e2,e3⟩,h3,h4⟩:=hW.robs id cs hl
    have hnotcx:id∉cx.map (·.1):=fun hin=>by
     obtain⟨p,hp,rfl⟩:=List.mem_map.1 hin
     obtain⟨g0,q1,_,_,q4⟩:=hW.boxes p.1 p.2 (hb p hp)
     rw[h1] at q1
     obtain rfl:=Option.some.inj q1
     rcases q4 with q4|q4
     ·omega
     ·exact h4 q4
    obtain⟨q1,q2⟩:=oldB hnotcx h1
    exact⟨g,h1,⟨vs,e,by rw[q1];exact e1,e2,fun j d v hd hv=>rG (fun k hk=>clean_ro hc hl (List.mem_of_getElem? hd) hk) (e3 j d v hd hv)⟩,h3,h4⟩
   toks:=fun k hk=>by
    simp only[LS.after,List.mem_append,List.mem_map,List.mem_filter] at hk
    rcases hk with⟨k0,hk0,rfl⟩|⟨hk1,hk2⟩
    ·obtain⟨x,hx⟩:=hE.toks k0 hk0
     exact⟨x,by simp only[G2];rw[if_pos (inOff hk0),if_pos (by simpa using hk0)];simpa using hx⟩
    ·obtain⟨x,hx⟩:=hW.toks k hk1
     simp only[Bool.and_eq_true,Bool.not_eq_true',List.contains_eq_mem,decide_eq_false_iff_not] at hk2
     exact⟨x,by simp only[G2];rw[if_neg (by simp[hk2.2]),if_neg hk2.1];exact hx⟩
   tau:=fun k g e z hk=>by
    by_cases hin:inTok off k=true
    ·obtain⟨h1,_,_⟩:=newT hin hk
     obtain⟨q1,q2,q3,q4⟩:=hE.tau _ g e z h1
     rcases newTb hin hk with hb'|⟨k0,hk0,e0,z0,h0⟩
     ·exact⟨.inl (Nat.le_trans hW.sz hb'),q2,q3,fun i hi=>by have:=hW.blt _ _ hi;omega⟩
     ·obtain⟨p1,_,_,p4⟩:=hW.tau k0 g e0 z0 h0
      exact⟨p1,q2,q3,p4⟩
    ·obtain⟨hk0,hg⟩:=oldTok (by simpa using hin) hk
     obtain⟨q1,q2,⟨cur,q3,q4⟩,q5⟩:=hW.tau k g e z hg
     obtain⟨p1,p2⟩:=oldT hk0 hg
     exact⟨q1,q2,⟨cur,by rw[p1];exact q3,by show G'.lim g≤_;rw[p2];exact q4⟩,q5⟩
   tinj:=fun k k' g e z e' z' hk hk'=>by
    by_cases hin:inTok off k=true<;>by_cases hin':inTok off k'=true
    ·obtain⟨h1,_,h3⟩:=newT hin hk
     obtain⟨h1',_,h3'⟩:=newT hin' hk'
     have:=hE.tinj _ _ g e z e' z' h1 h1'
     omega
    ·obtain⟨hk0,hg⟩:=oldTok (by simpa using hin') hk'
     obtain⟨_,_,⟨cur,hc',_⟩,_⟩:=hW.tau k' g e' z' hg
     rcases newTb hin hk with hb'|⟨k0,hkk,e0,z0,h0⟩
     ·have:=heap_lt hc';omega
     ·exact absurd (hW.tinj k' k0 g e' z' e0 z0 hg h0 ▸ hkk) hk0
    ·obtain⟨hk0,hg⟩:=oldTok (by simpa using hin) hk
     obtain⟨_,_,⟨cur,hc',_⟩,_⟩:=hW.tau k g e z hg
     rcases newTb hin' hk' with hb'|⟨k0,hkk,e0,z0,h0⟩
     ·have:=heap_lt hc';omega
     ·exact absurd (hW.tinj k k0 g e z e0 z0 hg h0 ▸ hkk) hk0
    ·exact hW.tinj k k' g e z e' z' (oldTok (by simpa using hin) hk).2 (oldTok (by simpa using hin') hk').2
   binj:=hW.binj
   blt:=fun i g hg=>Nat.lt_of_lt_of_le (hW.blt i g hg) hE.sz
   lablt:=hE.lablt
   old:=fun b hlt' hab=>by
    obtain⟨h1,h2⟩:=hW.old b hlt' hab
    obtain⟨h3,h4⟩:=hE.old b (Nat.lt_of_lt_of_le hlt' hW.sz) (hnab (fun p hp hpg=>by
     obtain⟨g0,q1,_,_,q4⟩:=hW.boxes p.1 p.2 (hb p hp)
     rw[hpg] at q1
     obtain rfl:=Option.some.inj q1
     rcases q4 with q4|q4
     ·omega
     ·exact hab q4) (fun k _ e z hkg=>by
     rcases (hW.tau k b e z hkg).1 with q4|q4
     ·omega
     ·exact hab q4))
    exact⟨h3.trans h1,h4.trans h2⟩
   olda:=fun b hlt'=>by
    obtain⟨h1,h2⟩:=hW.olda b hlt'
    obtain⟨h3,h4⟩:=hE.olda b (Nat.lt_of_lt_of_le hlt' hW.sz)
    exact⟨Nat.le_trans h1 h3,fun o v ho hc=>h4 o v (Nat.lt_of_lt_of_le ho h1) (h2 o v ho hc)⟩
   oldl:=fun b hlt' hb'=>by
    have h1:=hW.oldl b hlt' hb'
    have:=hE.oldl b (Nat.lt_of_lt_of_le hlt' hW.sz) (show G.lab b≠[] by rw[h1];exact hb')
    exact this.trans h1
   tlab:=fun k g e z hk=>by
    by_cases hin:inTok off k=true
    ·exact hE.tlab _ g e z (newT hin hk).1
    ·obtain⟨hk0,hg⟩:=oldTok (by simpa using hin) hk
     obtain⟨_,_,⟨cur,hc',_⟩,hne⟩:=hW.tau k g e z hg
     exact hE.oldu g (heap_lt hc') (hnab (fun p _=>hne p.1) (fun k' hk' e' z' hg'=>hk0 (by rw[hW.tinj k k' g e z e' z' hg hg'];exact hk'))) (hW.tlab k g e z hg)
   blab:=fun i g hg=>by
    by_cases hi:i∈cx.map (·.1)
    ·obtain⟨p,hp,rfl⟩:=List.mem_map.1 hi
     exact hE.blab p.1 g (hE.ids (p.1,g) (by
      simp only[baseOf,List.mem_filterMap]
      exact⟨p,hp,by
       have:G1.β p.1=some g:=hg
       simp[this]⟩))
    ·exact hE.oldu g (hW.blt _ _ hg) (hnab (fun p hp hpg=>hi (List.mem_map.2 ⟨p,hp,hW.binj _ _ _ hpg hg⟩)) (fun k hk e z hkg=>(hW.tau k g e z hkg).2.2.2 i hg)) (hW.blab i g hg)
   oldu:=fun b hlt' hab h0=>hE.oldu b (Nat.lt_of_lt_of_le hlt' hW.sz) (hnab (fun p hp hpg=>by
     obtain⟨g0,q1,_,_,q4⟩:=hW.boxes p.1 p.2 (hb p hp)
     rw[hpg] at q1
     obtain rfl:=Option.some.inj q1
     rcases q4 with q4|q4
     ·omega
     ·exact hab q4) (fun k _ e z hkg=>by
     rcases (hW.tau k b e z hkg).1 with q4|q4
     ·omega
     ·exact hab q4)) (hW.oldu b hlt' hab h0)
   labw:=fun b hb0 hor=>by
    by_cases hlt':b<w.heap.size
    ·by_cases hab:(baseOf G1 w cx tk0).ab b
     ·exact hE.labw b hb0 (.inr hab)
     ·have hne:G.lab b≠[]:=fun e=>hb0 (hE.oldu b hlt' hab e)
      obtain⟨vs,e,h1⟩:=hW.labw b hne hor
      exact⟨vs,e,by rw[(hE.old b hlt' hab).1];exact h1⟩
    ·exact hE.labw b hb0 (.inl (Nat.not_lt.1 hlt'))
   ids:=hW.ids
   sz:=Nat.le_trans hW.sz hE.sz
   os:=hE.os.trans hW.os
   tape:=hE.tape.trans hW.tape
   out:=hE.out.trans hW.out
   dr:=dr_c hW.dr hE.dr hq}
 ·obtain⟨v',h1,h2⟩:=hend.env 0 d (by simp[look])
  obtain rfl:v=v':=by simpa using h1
  exact rE hid hdt h2
theorem call_soundE {S:Setup} {B:Base} {L:LS} {G:Ghost} {a:Act} {w:World} (h:Sim B L G a w) {f:FuncId} {ro cx:List (Nat×List D)} {tk0:List Nat} {ds:List D} {d:D} {cx':List (Nat×List D)} {tk':List Nat} {vals:Array Value} {E:Value→Ending} (off:Nat)
  (hv:vals.size=ds.length) (hr:∀(j:Nat) d v,ds[j]?=some d→vals[j]?=some v→Rel G w d v) (hro:∀p∈ro,L.getBox p.1=some p.2∧p.1∉cx.map (·.1)) (hb:∀p∈cx,look L.boxes p.1=some p.2) (ht0:∀k∈tk0,k∈L.toks)
  (fc:FCE S E f ro cx tk0 ds d cx' tk') (hkeys:∀p∈cx',p.1∈cx.map (·.1)) (hid:∀i∈d.ids,i∈cx.map (·.1)) (hid':∀p∈cx',∀i∈D.idsL p.2,i∈cx.map (·.1))
  (hdt:∀k∈d.tks,k∈tk') (hdt':∀p∈cx',∀k∈D.tksL p.2,k∈tk') (hlt:∀k∈tk',k<1000) (hc:L.clean (inTok off)=true) :
  Calls S.P f vals w fun e w'=>∃v G',e=E v∧Sim B (L.after off cx tk0 cx' tk') G' a w'∧Rel G' w' (d.shT off) v:=call_soundQ h off hv hr hro hb ht0 (q:=False) (T:=fun _=>True) (fun h=>h.elim) (fun _ _ _=>trivial) ⟨fc.1,fun w G vals _ hs=>fc.2 w G vals hs⟩ hkeys hid hid' hdt hdt' hlt hc
theorem call_sound {S:Setup} {B:Base} {L:LS} {G:Ghost} {a:Act} {w:World} (h:Sim B L G a w) {f:FuncId} {ro cx:List (Nat×List D)} {tk0:List Nat} {ds:List D} {d:D} {cx':List (Nat×List D)} {tk':List Nat} {vals:Array Value} (off:Nat)
  (hv:vals.size=ds.length) (hr:∀(j:Nat) d v,ds[j]?=some d→vals[j]?=some v→Rel G w d v) (hro:∀p∈ro,L.getBox p.1=some p.2∧p.1∉cx.map (·.1)) (hb:∀p∈cx,look L.boxes p.1=some p.2) (ht0:∀k∈tk0,k∈L.toks)
  (fc:FC S f ro cx tk0 ds d cx' tk') (hkeys:∀p∈cx',p.1∈cx.map (·.1)) (hid:∀i∈d.ids,i∈cx.map (·.1)) (hid':∀p∈cx',∀i∈D.idsL p.2,i∈cx.map (·.1))
  (hdt:∀k∈d.tks,k∈tk') (hdt':∀p∈cx',∀k∈D.tksL p.2,k∈tk') (hlt:∀k∈tk',k<1000) (hc:L.clean (inTok off)=true) :
  Calls S.P f vals w fun e w'=>∃v G',e=.returned v∧Sim B (L.after off cx tk0 cx' tk') G' a w'∧Rel G' w' (d.shT off) v:=call_soundE h off hv hr hro hb ht0 fc hkeys hid hid' hdt hdt' hlt hc

end Go.Lg
/-
  Lg, part 12: any operation; a region in the text's order.
-/
namespace Go.Lg
open Go Go.RowKit

def dstOk (dst:Option Nat) (L:LS):Prop:=match dst with|some t=>t<L.n|none=>True

def putC (cs:List D) (off:Nat) (new:List D):List D:=match new with
 | [d]=>cs.set off d
 | new=>putCells cs off new
theorem putC_eq {cs:List D} {off:Nat} {new:List D} (h:off+new.length≤cs.length):putC cs off new=putCells cs off new:=by
 unfold putC
 split
 ·rename_i d
  unfold putCells
  simp only[List.length_cons,List.length_nil,Nat.zero_add] at h ⊢
  rw[List.set_eq_take_append_cons_drop,if_pos (by omega)]
  simp
 ·rfl

theorem putC_one (cs:List D) (off:Nat) (d:D):putC cs off [d]=cs.set off d:=rfl
theorem putC_more (cs:List D) (off:Nat) (a b:D) (r:List D):putC cs off (a::b::r)=putCells cs off (a::b::r):=rfl

def appendY (S:Setup) (L:LS) (t:Nat) (ty:TypeId) (ds:List D) (N:LS→Prop):Prop :=
 match S.kd ty with
 | some (.slice e)=>someK (S.tab e) fun i=>(match ds with
  | [.sl tk xs,.sl _ ys]=>(t<L.n∧0<i.size∧(L.purge (fun k=>k==1000*(t+1))).clean (fun k=>k==1000*(t+1))=true)∧appendable xs ys L.toks e i.size tk ∧
   (∀x∈xs,x.cells.length=i.size)∧(∀x∈ys,x.cells.length=i.size)∧(xs.length+ys.length)*i.bytes≤140737488355328∧xs.length+ys.length≤140737488355328 ∧
   N ({L.purge (fun k=>k==1000*(t+1)) with toks:=1000*(t+1)::killed tk L.toks}.put t (.sl (.own (1000*(t+1)) e i.size) (xs++ys)))
  | _=>False)
 | _=>False

def makeY (S:Setup) (base:Nat) (L:LS) (t:Nat) (ty:TypeId) (same:Bool) (l c:D) (N:LS→Prop):Prop :=
 match S.kd ty,l,c with
 | some (.slice e),.int _ n,.int _ m=>someK (S.tab e) fun i =>
  if same=true then (t<L.n∧base+t∉L.fix∧0≤n∧n=m)∧(i.bytes:Int)*n≤281474976710656∧n≤9223372036854775807∧0<i.size ∧
   N (L.newBox t (base+t) (List.replicate n.toNat (i.zero.map ZK.d)).flatten (.ms (base+t) n.toNat))
  else (t<L.n∧0<i.size∧n=0∧0≤m∧(L.purge (fun k=>k==1000*(t+1))).clean (fun k=>k==1000*(t+1))=true)∧(i.bytes:Int)*m≤281474976710656∧m≤9223372036854775807 ∧
   N ({L.purge (fun k=>k==1000*(t+1)) with toks:=1000*(t+1)::L.toks}.put t (.sl (.own (1000*(t+1)) e i.size) []))
 | _,_,_=>False

def storeY (S:Setup) (L:LS) (dst:Option Nat) (ty:TypeId) (da d:D) (N:LS→Prop):Prop :=
 match da with
 | .box id off=>someK (look L.boxes id) fun cs=>someK (S.tab ty) fun i=>(d.cells.length=i.size∧off+d.cells.length≤cs.length∧d.cells.all D.one=true∧dstOk dst L) ∧
   N ({L with boxes:=setA L.boxes id (putC cs off d.cells)}.putO dst (.raw undef))
 | _=>False

def callB (S:Setup) (L:LS) (t:Nat) (f:D) (ds:List D) (N:LS→Prop):Prop :=
 match f with
 | .fn fid cap=>∃ro cx tk0 d cx' tk',FC S fid ro cx tk0 (ds++cap) d cx' tk'∧(t<L.n∧(∀p∈ro,L.getBox p.1=some p.2∧p.1∉cx.map (·.1))∧(∀p∈cx,look L.boxes p.1=some p.2)∧(∀k∈tk0,k∈L.toks) ∧
   (∀p∈cx',p.1∈cx.map (·.1))∧(∀i∈d.ids,i∈cx.map (·.1))∧(∀p∈cx',∀i∈D.idsL p.2,i∈cx.map (·.1))∧(∀k∈d.tks,k∈tk')∧(∀p∈cx',∀k∈D.tksL p.2,k∈tk')∧(∀k∈tk',k<1000) ∧
   (L.purge (inTok (1000*(t+1)))).clean (inTok (1000*(t+1)))=true) ∧
   N (((L.purge (inTok (1000*(t+1)))).after (1000*(t+1)) (cx.map fun p=>(p.1,p.2.map (D.pu1 (inTok (1000*(t+1)))))) tk0 cx' tk').put t (d.shT (1000*(t+1))))
 | _=>False

def sameOp (l c:Operand):Bool:=match l,c with|.tmp p,.tmp q=>p==q|.const (.int _ p),.const (.int _ q)=>p==q|_,_=>false

def stepY (S:Setup) (base:Nat) (o:Oper) (L:LS) (N:LS→Prop):Prop :=
 match o.op with
 | .box _ x=>(match o.dst with
  | some t=>someK (evalO L x) fun d=>(t<L.n∧base+t∉L.fix∧base+t∉D.idsL d.cells)∧N (L.newBox t (base+t) d.cells (.box (base+t) 0))
  | none=>False)
 | .alloc ty=>(match o.dst with
  | some t=>someK (S.tab ty) fun i=>(t<L.n∧base+t∉L.fix)∧N (L.newBox t (base+t) (i.zero.map ZK.d) (.box (base+t) 0))
  | none=>False)
 | .store ty x v=>someK (evalO L x) fun da=>someK (evalO L v) fun d=>storeY S L o.dst ty da d N
 | .makeSlice ty l c=>(match o.dst with
  | some t=>someK (evalO L l) fun dl=>someK (evalO L c) fun dc=>makeY S base L t ty (sameOp l c) dl dc N
  | none=>False)
 | .call ⟨.builtin .append,args,tys⟩=>(match o.dst,tys.toList with
  | some t,[ty,ty']=>ty=ty'∧someK (mapO (evalO L) args.toList) fun ds=>appendY S L t ty ds N
  | _,_=>False)
 | op=>opY S op (evalO L) L.getBox fun d=>dstOk o.dst L∧N (L.putO o.dst d)

end Go.Lg
/-
  Lg, part 13: what 'stepY' says is what the model does; a region in the text's order.
-/
namespace Go.Lg
open Go Go.RowKit

theorem box_cells {G:Ghost} {w:World} {d:D} {v:Value} (h:Rel G w d v):RelArr G w d.cells v.cells:=h.cells

theorem makeY_inv {S:Setup} {base:Nat} {L:LS} {t:Nat} {ty:TypeId} {same:Bool} {l c:D} {N:LS→Prop} (h:makeY S base L t ty same l c N) :
  ∃e k n k' m,S.kd ty=some (.slice e)∧l=.int k n∧c=.int k' m∧makeY S base L t ty same (.int k n) (.int k' m) N:=by
 have h0:=h
 unfold makeY at h
 split at h
 ·exact⟨_,_,_,_,_,by assumption,rfl,rfl,h0⟩
 ·exact h.elim

theorem stepY_sound {S:Setup} {base:Nat} {B:Base} {o:Oper} {L:LS} {G:Ghost} {a:Act} {w:World} {N:LS→Prop} (hs:Sim B L G a w) (h:stepY S base o L N) (Q:Exit→Act→World→Prop) :
  o.wp S.P a w (fun a' w'=>∃G' L',N L'∧Sim B L' G' a' w') Q:=by
 have quiet:opY S o.op (evalO L) L.getBox (fun d=>dstOk o.dst L∧N (L.putO o.dst d))→o.wp S.P a w (fun a' w'=>∃G' L',N L'∧Sim B L' G' a' w') Q:=fun h=>by
  obtain⟨d,⟨h1,h2⟩,h3⟩:=opY_sound hs h
  refine h3 _ Q fun v G' w' hs' hv _=>⟨G',_,h2,hs'.putO (fun t' ht'=>?_) hv⟩
  rw[ht'] at h1
  exact h1
 obtain⟨dst,op,type,pos,after,guard⟩:=o
 unfold stepY at h
 split at h
 ·-- box
  rename_i T x hop
  obtain rfl:op=.box T x:=hop
  dsimp only at h
  split at h
  ·rename_i t
   obtain⟨d,hd,⟨h1,h2,h3⟩,hN⟩:=someK_get h
   have hv:=eval_sound hs hd
   have hr:(execOp a.eval ⟨some t,.box T x,type,pos,after,guard⟩).run S.P w=.ok (.value (.pointer (some ⟨w.heap.size,0,none⟩))) (w.alloc (.cells (a.eval x).cells T)):=by
    simp[execOp,Instr.box,newVar,newRow]
   unfold Oper.wp
   rw[hr]
   exact⟨_,_,hN,newBox_sim hs T h1 h2 h3 (box_cells hv) (.box (g:=w.heap.size) (by simp[Ghost.addBox]))⟩
  ·exact h.elim
 ·-- alloc
  rename_i T hop
  obtain rfl:op=.alloc T:=hop
  dsimp only at h
  split at h
  ·rename_i t
   obtain⟨i,hi,⟨h1,h2⟩,hN⟩:=someK_get h
   obtain⟨z,hz,hr,_⟩:=relArr_zero (S:=S) (G:=G) (w:=w) hi
   have hrun:(execOp a.eval ⟨some t,.alloc T,type,pos,after,guard⟩).run S.P w=.ok (.value (.pointer (some ⟨w.heap.size,0,none⟩))) (w.alloc (.cells z.cells T)):=by
    simp[execOp,Instr.alloc,newVar,newRow,hz]
   have hno:base+t∉D.idsL (i.zero.map ZK.d):=by
    have:D.idsL (i.zero.map ZK.d)=[]:=by
     induction i.zero with
     | nil=>rfl
     | cons q r ih =>
      simp only[List.map_cons,D.idsL,ih,List.append_nil]
      cases q<;>rfl
    rw[this];simp
   unfold Oper.wp
   rw[hrun]
   exact⟨_,_,hN,newBox_sim hs T h1 h2 hno hr (.box (g:=w.heap.size) (by simp[Ghost.addBox]))⟩
  ·exact h.elim
 ·-- store
  rename_i T x v hop
  obtain rfl:op=.store T x v:=hop
  obtain⟨da,hda,h⟩:=someK_get h
  obtain⟨d,hd,h⟩:=someK_get h
  unfold storeY at h
  split at h
  ·rename_i id off
   obtain⟨cs,hcs,h⟩:=someK_get h
   obtain⟨i,hi,⟨h1,h2,h3,h4⟩,hN⟩:=someK_get h
   have hv:=eval_sound hs hd
   obtain⟨c1,c2⟩:=hv.cells
   have hone:∀u∈(a.eval v).cells.toList,u.oneCell'=true:=fun u hu=>by
    obtain⟨j,hj⟩:=List.getElem?_of_mem hu
    have hlt:j<d.cells.length:=by rw[←c1];have:=(List.getElem?_eq_some_iff.1 hj).1;simpa using this
    exact(c2 j _ u (List.getElem?_eq_getElem hlt) (by simpa using hj)).one (List.all_eq_true.1 h3 _ (List.getElem_mem hlt))
   obtain⟨g,w',k1,k2,k3⟩:=store_sim hs hcs h2 (vl:=(a.eval v).cells.toList) (by simpa using c1) (fun j d u hd hu=>c2 j d u hd (by simpa using hu)) hone
   have hx:=eval_sound hs hda
   generalize hu:a.eval x=u at hx
   cases hx with
   | @box _ _ g' hb =>
   rw[k1] at hb
   obtain rfl:=Option.some.inj hb
   have hsz:=run_sizeOf (S.ok T i hi) w
   have hr:(execOp a.eval ⟨dst,.store T x v,type,pos,after,guard⟩).run S.P w=.ok .skip w':=by
    simp[execOp,Instr.storeAt,hu,Instr.sureAddr,storeVar,hsz,c1,h1,k2 S.P]
   unfold Oper.wp
   rw[hr]
   refine⟨G,_,hN,?_⟩
   rw[putC_eq h2]
   exact k3.putO (fun t' ht'=>by rw[ht'] at h4;exact h4) (.raw (by intro cs h;cases h))
  ·exact h.elim
 ·-- makeSlice
  rename_i T l c hop
  obtain rfl:op=.makeSlice T l c:=hop
  dsimp only at h
  split at h
  ·rename_i t
   obtain⟨dl,hl,h⟩:=someK_get h
   obtain⟨dc,hc,h⟩:=someK_get h
   have hvl:=eval_sound hs hl
   have hvc:=eval_sound hs hc
   obtain⟨e,k,n,k',m,hk,rfl,rfl,h⟩:=makeY_inv h
   ·unfold makeY at h
    simp only[hk] at h
    obtain⟨i,hi,h⟩:=someK_get h
    have hu:=kd_slice hk
    generalize hul:a.eval l=ul at hvl
    generalize huc:a.eval c=uc at hvc
    cases hvl;cases hvc
    split at h
    ·obtain⟨⟨h1,h2,h3,h3'⟩,h4,h5,h6,hN⟩:=h
     subst h3'
     obtain⟨inf,z,i1,i2,i3,i4,hrel⟩:=madeCells_rel (G:=G) (w:=w) hi h6 n.toNat
     have hr:=run_make (P:=S.P) w T e inf z hu i1 i2 k k' n n h3 (Int.le_refl _) (by rw[i4];exact h4) h5
     rw[i3] at hr
     have hrun:(execOp a.eval ⟨some t,.makeSlice T l c,type,pos,after,guard⟩).run S.P w=.ok (.value (.slice (some ⟨w.heap.size,0,none⟩) n.toNat n.toNat)) (w.alloc (.cells (madeCells z.cells (n.toNat*i.size)) e)):=by
      simp[execOp,hul,huc,hr]
     have hno:base+t∉D.idsL (List.replicate n.toNat (i.zero.map ZK.d)).flatten:=by
      have hz:∀d∈(List.replicate n.toNat (i.zero.map ZK.d)).flatten,d.ids=[]:=fun d hd=>by
       obtain⟨l,hl,hd⟩:=List.mem_flatten.1 hd
       obtain⟨_,rfl⟩:=List.mem_replicate.1 hl
       obtain⟨q,_,rfl⟩:=List.mem_map.1 hd
       cases q<;>rfl
      generalize (List.replicate n.toNat (i.zero.map ZK.d)).flatten=l at hz
      have:D.idsL l=[]:=by
       clear hrel hN hr hrun
       induction l with
       | nil=>rfl
       | cons q r ih=>simp[D.idsL,hz q List.mem_cons_self,ih fun d hd=>hz d (List.mem_cons_of_mem _ hd)]
      rw[this];simp
     unfold Oper.wp
     rw[hrun]
     exact⟨_,_,hN,newBox_sim hs e h1 h2 hno hrel (.ms (g:=w.heap.size) (by simp[Ghost.addBox]) (Nat.le_refl _) (by simp only[maxLen];omega))⟩
    ·obtain⟨⟨h1,h2,h3,h4,h5⟩,h6,h7,hN⟩:=h
     subst h3
     obtain⟨inf,z,i1,i2,i3,i4,_⟩:=madeCells_rel (G:=G) (w:=w) hi h2 m.toNat
     have hr:=run_make (P:=S.P) w T e inf z hu i1 i2 k k' 0 m (Int.le_refl _) h4 (by rw[i4];exact h6) h7
     rw[i3] at hr
     have hrun:(execOp a.eval ⟨some t,.makeSlice T l c,type,pos,after,guard⟩).run S.P w=.ok (.value (.slice (some ⟨w.heap.size,0,none⟩) 0 m.toNat)) (w.alloc (.cells (madeCells z.cells (m.toNat*i.size)) e)):=by
      simp[execOp,hul,huc,hr]
     unfold Oper.wp
     rw[hrun]
     have hps:=purge_sim hs (fun k=>k==1000*(t+1))
     have hst:=fresh_step hps (madeCells z.cells (m.toNat*i.size)) e i.size 0 h2 (Nat.zero_le _) (1000*(t+1)) G.τ (fun _=>.inr rfl)
     have hst':TokStep B G (({G.grow w.heap.size 0 with τ:=G.τ}:Ghost).setTok (1000*(t+1)) (some (some (w.heap.size,e,i.size)))) w (w.alloc (.cells (madeCells z.cells (m.toNat*i.size)) e)) (1000*(t+1)) :=
      {mono:=⟨fun b o v q1 q2=>hst.mono.cell b o v q1 q2,hst.mono.lab,hst.mono.mp⟩
       beta:=hst.beta,lab:=hst.lab,sz:=by simp,os:=rfl,tape:=rfl,out:=rfl,dr:=by first|exact Nat.le_refl _|exact Nat.le_succ _|exact .inr (Nat.le_refl _)|exact .inr (Nat.le_succ _)
       tau:=hst.tau,block:=hst.block,new:=hst.new,live:=hst.live}
     have hsim:=tokStep_sim hps hst' h5 (tk:=1000*(t+1)::L.toks) (fun k hk=>by
      rcases List.mem_cons.1 hk with rfl|hk
      ·exact .inl rfl
      ·by_cases hkt:k=1000*(t+1)
       ·exact .inl hkt
       ·exact .inr ⟨by simp[Ghost.setTok,hkt,Ghost.grow],hk⟩)
     refine⟨_,_,hN,hsim.put h1 ?_⟩
     have hnew:(w.alloc (.cells (madeCells z.cells (m.toNat*i.size)) e)).heap[w.heap.size]?=some (.cells (madeCells z.cells (m.toNat*i.size)) e (0,0)):=heap_alloc_new w _
     refine .sl (b:=w.heap.size) (o:=0) (s:=i.size) rfl (Nat.zero_le _) (by simp only[maxLen];omega) ?_ (.inl rfl) (by simp) (by simp[flat]) (by simp[flat]) (by simp[flat])
     simp only[TkOk,Ghost.setTok,if_true]
     refine⟨⟨trivial,trivial⟩,trivial,by simp[Ghost.grow],?_,by simp⟩
     unfold World.shape?
     simp only[hnew,size_madeCells]
  ·exact h.elim
 ·-- append
  rename_i args tys hop
  obtain rfl:op=.call ⟨.builtin .append,args,tys⟩:=hop
  dsimp only at h
  split at h
  ·rename_i t ty ty' htys
   obtain⟨rfl,h⟩:=h
   obtain⟨ds,hds,h⟩:=someK_get h
   obtain⟨e1,e2⟩:=mapO_sound hs hds
   unfold appendY at h
   split at h
   ·rename_i e hk
    obtain⟨i,hi,h⟩:=someK_get h
    split at h
    ·rename_i tk xs tk2 ys
     obtain⟨⟨h1,h2,h3⟩,h4,h5,h6,h7,h8,hN⟩:=h
     have hal:(args.toList.map a.eval).length=2:=by simpa using e1.symm
     obtain⟨u,v,hu⟩:=length_two hal
     have hx:=e2 0 _ u rfl (by rw[hu];rfl)
     have hy:=e2 1 _ v rfl (by rw[hu];rfl)
     obtain⟨v',G',w',q1,q2,q3⟩:=append_sound (ty:=type) (purge_sim hs (fun k=>k==1000*(t+1))) h3 hk hi h2 hx hy h4 h5 h6 h7 h8
     have ha:args.map a.eval=#[u,v]:=by rw[←Array.toArray_toList (xs:=args.map a.eval),Array.toList_map,hu]
     have ht:tys=#[ty,ty]:=by rw[←Array.toArray_toList (xs:=tys),htys]
     have hrun:(execOp a.eval ⟨some t,.call ⟨.builtin .append,args,tys⟩,type,pos,after,guard⟩).run S.P w=.ok (.value v') w':=by
      simp[execOp,resolve,invoke,builtin,ha,ht,q1]
     unfold Oper.wp
     rw[hrun]
     exact⟨_,_,hN,q2.put h1 q3⟩
    ·exact h.elim
   ·exact h.elim
  ·exact h.elim
 ·exact quiet h

end Go.Lg
/-
  Lg, part 14: the operations of a region, one behind the other, up to the next call.
-/
namespace Go.Lg
open Go Go.RowKit

def LopsW (S:Setup) (B:Base) (ops:Array Oper) (l:List Oper) (L:LS) (K:LS→Prop):Prop :=
 ∀G a w,Sim B L G a w→∀Q:Exit→Act→World→Prop,(∀L' G' a' w',K L'→Sim B L' G' a' w'→Q .normal a' w')→wpList S.P ops Q l a w

theorem LopsW.mono {S:Setup} {B:Base} {ops:Array Oper} {l:List Oper} {L:LS} {K K':LS→Prop} (h:LopsW S B ops l L K) (hK:∀L',K L'→K' L'):LopsW S B ops l L K':=fun G a w hs Q hQ=>h G a w hs Q fun L' G' a' w' h1 h2=>hQ L' G' a' w' (hK L' h1) h2
theorem LopsW.nil {S:Setup} {B:Base} {ops:Array Oper} {L:LS} {K:LS→Prop} (h:K L):LopsW S B ops [] L K:=fun G a w hs _ hQ=>wpList_nil (hQ L G a w h hs)

def guardY (ops:Array Oper) (L:LS) (g:Option (Nat×Bool)):Option Bool:=match g with
 | none=>some true
 | some (j,want)=>match (ops[j]?).bind (·.dst) with
  | none=>none
  | some t=>match L.get t with
   | some (.bool b)=>some (b==want)
   | some (.raw (.tuple _))=>some false
   | _=>none

theorem guardY_sound {S:Setup} {B:Base} {ops:Array Oper} {L:LS} {G:Ghost} {a:Act} {w:World} (_S:S=S) (hs:Sim B L G a w) {o:Oper} {b:Bool} (h:guardY ops L o.guard=some b):Region.wanted o (yielded ops a.tmps)=b:=by
 unfold guardY at h
 unfold Region.wanted
 cases hg:o.guard with
 | none=>rw[hg] at h;simp only[Option.some.injEq] at h;exact h
 | some p =>
  obtain⟨j,want⟩:=p
  rw[hg] at h
  simp only at h
  split at h
  ·cases h
  ·rename_i t ht
   split at h
   ·rename_i x hx
    obtain rfl:=Option.some.inj h
    obtain⟨v,h1,h2⟩:=hs.env t _ hx
    cases h2
    simp[yielded,ht,h1]
   ·rename_i vs hx
    obtain rfl:=Option.some.inj h
    obtain⟨v,h1,h2⟩:=hs.env t _ hx
    cases h2
    simp[yielded,ht,h1]
   ·cases h

theorem LopsW.step {S:Setup} {base:Nat} {B:Base} {ops:Array Oper} {o:Oper} {l:List Oper} {L:LS} {K:LS→Prop} (hg:guardY ops L o.guard=some true) (h:stepY S base o L fun L'=>LopsW S B ops l L' K):LopsW S B ops (o::l) L K:=by
 intro G a w hs Q hQ
 refine wpList_step fun N hN=>?_
 rw[if_pos (guardY_sound (S:=S) rfl hs hg)]
 exact Oper.wp_mono (fun a' w' ⟨G',L',h1,h2⟩=>hN a' w' (h1 G' a' w' h2 Q hQ)) (stepY_sound hs h Q)

theorem LopsW.skip {S:Setup} {B:Base} {ops:Array Oper} {o:Oper} {l:List Oper} {L:LS} {K:LS→Prop} (hg:guardY ops L o.guard=some false) (hd:dstOk o.dst L) (h:LopsW S B ops l (L.putO o.dst (.raw undef)) K):LopsW S B ops (o::l) L K:=by
 intro G a w hs Q hQ
 refine wpList_skip (guardY_sound (S:=S) rfl hs hg) (h G _ w (hs.putO (fun t ht=>?_) (.raw (by intro cs h;cases h))) Q hQ)
 rw[ht] at hd
 exact hd

theorem put_same {B:Base} {L:LS} {G:Ghost} {a:Act} {w:World} (hs:Sim B L G a w) {t:Nat} {d d':D} (h:L.get t=some d) (he:d=d'):Sim B (L.put t d') G a w:=by
 subst he
 refine⟨hs.defers,hs.size,fun t' d0 hd=>?_,hs.W,hs.fixed⟩
 simp only[LS.put,look_setA] at hd
 by_cases e:t=t'
 ·subst e
  simp only[if_true,Option.some.injEq] at hd
  subst hd
  exact hs.env t _ h
 ·rw[if_neg e] at hd
  exact hs.env t' d0 hd

theorem LopsW.split {S:Setup} {B:Base} {ops:Array Oper} {l:List Oper} {L:LS} {K:LS→Prop} (t:Nat) {b:Bool} (ht:L.get t=some (.bool b)) (h1:b=true→LopsW S B ops l (L.put t (.bool true)) K) (h0:b=false→LopsW S B ops l (L.put t (.bool false)) K):LopsW S B ops l L K:=by
 intro G a w hs Q hQ
 cases hb:b with
 | true=>exact h1 hb G a w (put_same hs ht (by rw[hb])) Q hQ
 | false=>exact h0 hb G a w (put_same hs ht (by rw[hb])) Q hQ

theorem LopsW.weak {S:Setup} {B:Base} {ops:Array Oper} {l:List Oper} {L L':LS} {K:LS→Prop} (hc:L.covers L') (h:LopsW S B ops l L' K):LopsW S B ops l L K:=fun G a w hs=>h G a w (hs.less hc)

theorem LopsW.call {S:Setup} {B:Base} {ops:Array Oper} {l:List Oper} {L:LS} {K:LS→Prop} {dst:Option Nat} {f:Operand} {args:Array Operand} {tys:Array TypeId} {ty:TypeId} {pos:String} {aft:Array Edge} {g:Option (Nat×Bool)}
  (hg:guardY ops L g=some true) {fid:Nat} {cap ds:List D} {ro:List (Nat×List D)} {d:D} (hf:evalO L f=some (.fn fid cap)) (hds:mapO (evalO L) args.toList=some ds) (fc:FC S fid ro [] [] (ds++cap) d [] [])
  (hside:(∀p∈ro,L.getBox p.1=some p.2)∧d.ids=[]∧d.tks=[]∧dstOk dst L) (h:LopsW S B ops l (L.putO dst d) K):LopsW S B ops (⟨dst,.call ⟨.value f,args,tys⟩,ty,pos,aft,g⟩::l) L K:=by
 refine LopsW.step (base:=0) hg ?_
 show opY S (.call ⟨.value f,args,tys⟩) (evalO L) L.getBox _
 unfold opY
 simp only[hf,hds,someK]
 exact⟨ro,d,fc,hside.1,hside.2.1,hside.2.2.1,hside.2.2.2,h⟩

theorem LopsW.callB {S:Setup} {B:Base} {ops:Array Oper} {l:List Oper} {L:LS} {K:LS→Prop} {t:Nat} {f:Operand} {args:Array Operand} {tys:Array TypeId} {ty:TypeId} {pos:String} {aft:Array Edge} {g:Option (Nat×Bool)}
  (hg:guardY ops L g=some true) {fid:Nat} {cap ds:List D} {ro cx cx':List (Nat×List D)} {tk0 tk':List Nat} {d:D} (hf:evalO L f=some (.fn fid cap)) (hds:mapO (evalO L) args.toList=some ds) (fc:FC S fid ro cx tk0 (ds++cap) d cx' tk')
  (hside:(t<L.n∧(∀p∈ro,L.getBox p.1=some p.2∧p.1∉cx.map (·.1))∧(∀p∈cx,look L.boxes p.1=some p.2)∧(∀k∈tk0,k∈L.toks)∧(∀p∈cx',p.1∈cx.map (·.1)))∧((∀i∈d.ids,i∈cx.map (·.1))∧(∀p∈cx',∀i∈D.idsL p.2,i∈cx.map (·.1)) ∧
   (∀k∈d.tks,k∈tk')∧(∀p∈cx',∀k∈D.tksL p.2,k∈tk')∧(∀k∈tk',k<1000))∧L.clean (inTok (1000*(t+1)))=true)
  (h:LopsW S B ops l ((L.after (1000*(t+1)) cx tk0 cx' tk').put t (d.shT (1000*(t+1)))) K):LopsW S B ops (⟨some t,.call ⟨.value f,args,tys⟩,ty,pos,aft,g⟩::l) L K:=by
 intro G a w hs Q hQ
 obtain⟨⟨s1,s2,s3,s4,s5⟩,⟨s6,s7,s8,s9,s10⟩,s11⟩:=hside
 refine wpList_step fun N hN=>?_
 rw[if_pos (guardY_sound (S:=S) rfl hs (o:=⟨some t,.call ⟨.value f,args,tys⟩,ty,pos,aft,g⟩) hg)]
 obtain⟨e1,e2⟩:=mapO_sound hs hds
 have hv:=eval_sound hs hf
 generalize hu:a.eval f=u at hv
 cases hv with
 | @fn _ _ vl hl hr =>
 have hrun:(execOp a.eval ⟨some t,.call ⟨.value f,args,tys⟩,ty,pos,aft,g⟩).run S.P w=.ok (.enter fid (args.map a.eval++vl.toArray)) w:=by
  simp[execOp,resolve,hu,Deferred.ofValue,invoke,enter_run fc.1]
 unfold Oper.wp
 rw[hrun,Oper.upon_enter]
 refine(call_sound hs (vals:=args.map a.eval++vl.toArray) (1000*(t+1)) ?_ ?_ s2 s3 s4 fc s5 s6 s7 s8 s9 s10 s11).mono ?_
 ·simp at e1
  simp[e1,hl]
 ·intro j d v hd hv
  have hsz:(args.map a.eval).size=ds.length:=by simp at e1;simp[e1]
  by_cases hj:j<ds.length
  ·rw[List.getElem?_append_left hj] at hd
   rw[Array.getElem?_append_left (by omega)] at hv
   exact e2 j d v hd (by simpa using hv)
  ·rw[List.getElem?_append_right (by omega)] at hd
   rw[Array.getElem?_append_right (by omega),hsz] at hv
   exact hr _ d v hd (by simpa using hv)
 ·rintro e w' ⟨v,G',rfl,h1,h2⟩
  exact hN _ _ (h G' _ w' (h1.put s1 h2) Q hQ)

def runL (S:Setup) (base:Nat) (ops:Array Oper) (K:List Oper→LS→Prop):List Oper→LS→Prop
 | [],L=>K [] L
 | ⟨dst,op,ty,pos,aft,g⟩::l,L=>match op with
  | .call ⟨.value f,args,tys⟩=>K (⟨dst,.call ⟨.value f,args,tys⟩,ty,pos,aft,g⟩::l) L
  | op=>match guardY ops L g with
   | some true=>stepY S base ⟨dst,op,ty,pos,aft,g⟩ L (runL S base ops K l)
   | some false=>dstOk dst L∧runL S base ops K l (L.putO dst (.raw undef))
   | none=>K (⟨dst,op,ty,pos,aft,g⟩::l) L

theorem stepY_mono {S:Setup} {base:Nat} {B:Base} {o:Oper} {ops:Array Oper} {l:List Oper} {L:LS} {N:LS→Prop} {K:LS→Prop} (h:stepY S base o L N) (hN:∀L',N L'→LopsW S B ops l L' K):∀G a w,Sim B L G a w→∀Q:Exit→Act→World→Prop,(∀L' G' a' w',K L'→Sim B L' G' a' w'→Q .normal a' w') →
  o.wp S.P a w (wpList S.P ops Q l) Q:=fun _ _ _ hs Q hQ=>Oper.wp_mono (fun a' w' ⟨G',L',h1,h2⟩=>hN L' h1 G' a' w' h2 Q hQ) (stepY_sound hs h Q)

theorem runL_sound {S:Setup} {base:Nat} {B:Base} {ops:Array Oper} {K:LS→Prop} {K':List Oper→LS→Prop} (hK:∀l L,K' l L→LopsW S B ops l L K):∀(l:List Oper) (L:LS),runL S base ops K' l L→LopsW S B ops l L K
 | [],L,h=>hK [] L h
 | ⟨dst,op,ty,pos,aft,g⟩::l,L,h=>by
  unfold runL at h
  split at h
  ·exact hK _ L h
  ·split at h
   ·rename_i hg
    intro G a w hs Q hQ
    refine wpList_step fun N hN=>?_
    rw[if_pos (guardY_sound (S:=S) rfl hs (o:=⟨dst,op,ty,pos,aft,g⟩) hg)]
    exact Oper.wp_mono (fun a' w' h'=>hN a' w' h') (stepY_mono h (fun L' h'=>runL_sound hK l L' h') G a w hs Q hQ)
   ·rename_i hg
    exact LopsW.skip (o:=⟨dst,op,ty,pos,aft,g⟩) hg h.1 (runL_sound hK l _ h.2)
   ·exact hK _ L h

end Go.Lg
/-
  Lg, part 15: a region that draws its order, whose operations are all quiet: the text's order serves every order.
-/
namespace Go.Lg
open Go Go.RowKit

def Pick (F:(D→Prop)→Prop):Prop:=∀K,F K→∃d,K d∧∀K',K' d→F K'

theorem pick_someK {α:Type} {o:Option α} {f:α→(D→Prop)→Prop} (h:∀x,o=some x→Pick (f x)):Pick fun K=>someK o fun x=>f x K:=by
 intro K hK
 obtain⟨x,hx,hk⟩:=someK_get hK
 obtain⟨d,h1,h2⟩:=h x hx K hk
 exact⟨d,h1,fun K' hk'=>by rw[hx];exact h2 K' hk'⟩
theorem pick_and {p:Prop} {F:(D→Prop)→Prop} (h:p→Pick F):Pick fun K=>p∧F K:=by
 rintro K ⟨hp,hF⟩
 obtain⟨d,h1,h2⟩:=h hp K hF
 exact⟨d,h1,fun K' hk'=>⟨hp,h2 K' hk'⟩⟩
theorem pick_K (d:D):Pick fun K=>K d:=fun _ h=>⟨d,h,fun _ hk=>hk⟩
theorem pick_False:Pick fun _=>False:=fun _ h=>h.elim
theorem pick_some (o:Option D):Pick fun K=>someK o K:=by
 cases o with
 | none=>exact pick_False
 | some d=>exact pick_K d
theorem pick_ite {c:Prop} [Decidable c] {F F':(D→Prop)→Prop} (h:Pick F) (h':Pick F'):Pick fun K=>if c then F K else F' K:=by
 by_cases hc:c
 ·simpa[hc] using h
 ·simpa[hc] using h'

theorem pick_cellsY (S:Setup) (t:TypeId) (cs:List D):Pick (cellsY S t cs) :=
 pick_someK fun _ _=>pick_ite (pick_and fun _=>pick_K _) (pick_some _)
theorem pick_loadY (S:Setup) (t:TypeId) (bx:Nat→Option (List D)) (d:D):Pick (loadY S t bx d):=by
 cases d<;>first|exact pick_cellsY S t _|exact pick_someK fun _ _=>pick_cellsY S t _|exact pick_False
theorem pick_intY (op:BinOp) (k:IntKind) (a b:Int):Pick (intY op k a b):=by
 cases op<;>first|exact pick_K _|exact pick_and fun _=>pick_K _|exact pick_False
theorem pick_intYY (op:BinOp) (k k':IntKind) (a b:Int):Pick (intYY op k k' a b):=by
 cases op<;>first|exact pick_and fun _=>pick_K _|exact pick_and fun _=>pick_intY _ _ _ _
theorem pick_strY (op:BinOp) (a b:ByteArray):Pick (strY op a b):=by
 cases op<;>first|exact pick_K _|exact pick_and fun _=>pick_K _|exact pick_False
theorem pick_boolY (op:BinOp) (a b:Bool):Pick (boolY op a b):=by
 cases op<;>first|exact pick_K _|exact pick_False
theorem pick_nilY (op:BinOp) (tk:Tk) (xs:List D):Pick (nilY op tk xs):=by
 cases op<;>cases tk<;>first|exact pick_K _|exact pick_and fun _=>pick_K _|exact pick_False
theorem pick_binY (S:Setup) (op:BinOp) (t:TypeId) (x y:D):Pick (binY S op t x y):=by
 intro K h
 unfold binY at h
 split at h
 ·obtain⟨d,h1,h2⟩:=pick_intYY _ _ _ _ _ K h
  exact⟨d,h1,fun K' hk=>h2 K' hk⟩
 ·obtain⟨d,h1,h2⟩:=pick_and (fun _=>pick_boolY _ _ _) K h
  exact⟨d,h1,fun K' hk=>h2 K' hk⟩
 ·obtain⟨d,h1,h2⟩:=pick_strY _ _ _ K h
  exact⟨d,h1,fun K' hk=>h2 K' hk⟩
 ·obtain⟨d,h1,h2⟩:=pick_and (fun _=>pick_nilY _ _ _) K h
  exact⟨d,h1,fun K' hk=>h2 K' hk⟩
 ·exact h.elim
theorem pick_unY (op:UnOp) (x:D):Pick (unY op x):=by
 cases op<;>cases x<;>first|exact pick_K _|exact pick_False
theorem pick_convY (S:Setup) (dst:TypeId) (x:D):Pick (convY S dst x):=by
 intro K h
 unfold convY at h
 split at h
 ·split at h
  ·rename_i hk
   exact⟨_,h,fun K' hk'=>by unfold convY;simp only[hk];exact hk'⟩
  ·exact h.elim
 ·exact h.elim
theorem pick_fieldAddrY (S:Setup) (t:TypeId) (f:Nat) (x:D):Pick (fieldAddrY S t f x):=by
 intro K h
 unfold fieldAddrY at h
 split at h
 ·rename_i fs hk
  obtain⟨p,hp,h⟩:=someK_get h
  obtain⟨j,hj,hne,h⟩:=someK_get h
  cases x<;>first
   | exact h.elim
   | exact⟨_,h,fun K' hk'=>by unfold fieldAddrY;simp only[hk,hp,hj,someK];exact⟨hne,hk'⟩⟩
 ·exact h.elim
theorem pick_fieldY (S:Setup) (t:TypeId) (f:Nat) (x:D):Pick (fieldY S t f x):=by
 intro K h
 unfold fieldY at h
 split at h
 ·rename_i fs cs hk
  obtain⟨d,h1,h2⟩:=pick_someK (fun (p:Nat×TypeId) hp=>pick_cellsY S p.2 (cs.drop p.1)) K h
  exact⟨d,h1,fun K' hk'=>by unfold fieldY;simp only[hk];exact h2 K' hk'⟩
 ·exact h.elim
theorem pick_indexAddrY (S:Setup) (t:TypeId) (x ix:D):Pick (indexAddrY S t x ix):=by
 intro K h
 unfold indexAddrY at h
 split at h
 ·rename_i e k i hk
  obtain⟨j,hj,h⟩:=someK_get h
  cases x<;>first
   | exact h.elim
   | exact⟨_,h.2.2,fun K' hk'=>by unfold indexAddrY;simp only[hk,hj,someK];exact⟨h.1,h.2.1,hk'⟩⟩
   | exact⟨_,h.2,fun K' hk'=>by unfold indexAddrY;simp only[hk,hj,someK];exact⟨h.1,hk'⟩⟩
 ·rename_i n e k i hk
  obtain⟨j,hj,h⟩:=someK_get h
  cases x<;>first
   | exact h.elim
   | exact⟨_,h.2,fun K' hk'=>by unfold indexAddrY;simp only[hk,hj,someK];exact⟨h.1,hk'⟩⟩
 ·exact h.elim
theorem pick_indexY (S:Setup) (t:TypeId) (x ix:D):Pick (indexY S t x ix):=by
 intro K h
 unfold indexY at h
 split at h
 ·rename_i k i s hk
  exact⟨_,h.2,fun K' hk'=>by unfold indexY;simp only[hk];exact⟨h.1,hk'⟩⟩
 ·exact h.elim
theorem pick_lenY (S:Setup) (t:TypeId) (x:D):Pick (lenY S t x):=by
 intro K h
 unfold lenY at h
 split at h
 ·rename_i hk;exact⟨_,h,fun K' hk'=>by unfold lenY;simp only[hk];exact hk'⟩
 ·rename_i hk;exact⟨_,h,fun K' hk'=>by unfold lenY;simp only[hk];exact hk'⟩
 ·rename_i hk;exact⟨_,h,fun K' hk'=>by unfold lenY;simp only[hk];exact hk'⟩
 ·exact h.elim
theorem pick_sliceY (S:Setup) (t:TypeId) (x:D) (lo hi mx:Option Int):Pick (sliceY S t x lo hi mx):=by
 intro K h
 unfold sliceY at h
 split at h
 ·rename_i e tk xs hk
  obtain⟨j,hj,p1,p2,p3,hK⟩:=someK_get h
  exact⟨_,hK,fun K' hk'=>by unfold sliceY;simp only[hk,hj,someK];exact⟨p1,p2,p3,hk'⟩⟩
 ·rename_i e id n hk
  exact⟨_,h.2.2.2,fun K' hk'=>by unfold sliceY;simp only[hk];exact⟨h.1,h.2.1,h.2.2.1,hk'⟩⟩
 ·rename_i s hk
  exact⟨_,h.2.2,fun K' hk'=>by unfold sliceY;simp only[hk];exact⟨h.1,h.2.1,hk'⟩⟩
 ·exact h.elim
theorem pick_buildY (S:Setup) (t:TypeId) (ps:List (Nat×D)):Pick (buildY S t ps):=by
 refine pick_someK fun i hi=>?_
 intro K h
 split at h
 ·obtain⟨cs,h1,h2⟩:=someK_get h
  exact⟨_,h2,fun K' hk'=>by simp only[h1,someK];exact hk'⟩
 ·obtain⟨j,hj,h1,h2⟩:=someK_get h
  exact⟨_,h2,fun K' hk'=>by simp only[hj,someK];exact⟨h1,hk'⟩⟩
 ·exact h.elim
theorem pick_makeQ (S:Setup) (t:TypeId) (l c:D):Pick (makeQ S t l c):=by
 intro K h
 unfold makeQ at h
 split at h
 ·rename_i e k n k' m hk
  obtain⟨j,hj,h⟩:=someK_get h
  obtain⟨z,hz,h1,h2,h3,hK⟩:=someK_get h
  exact⟨_,hK,fun K' hk'=>by unfold makeQ;simp only[hk,hj,hz,someK];exact⟨h1,h2,h3,hk'⟩⟩
 ·exact h.elim
theorem pick_buildSliceY (S:Setup) (t:TypeId) (n:Nat) (ps:List (Nat×D)):Pick (buildSliceY S t n ps):=by
 intro K h
 unfold buildSliceY at h
 split at h
 ·rename_i e hk
  obtain⟨j,hj,p1,p2,p3,p4,hK⟩:=someK_get h
  exact⟨_,hK,fun K' hk'=>by unfold buildSliceY;simp only[hk,hj,someK];exact⟨p1,p2,p3,p4,hk'⟩⟩
 ·exact h.elim
theorem pick_callY (S:Setup) (bx:Nat→Option (List D)) (f:D) (ds:List D):Pick (callY S bx f ds):=by
 intro K h
 unfold callY at h ⊢
 split at h
 ·obtain⟨cx,d,h1,h2,h3,h4,h5⟩:=h
  exact⟨d,h5,fun K' hk=>⟨cx,d,h1,h2,h3,h4,hk⟩⟩
 ·obtain⟨fid,d0,cx,d,h0,h1,h2,h3,h4,h5⟩:=h
  exact⟨d,h5,fun K' hk=>⟨fid,d0,cx,d,h0,h1,h2,h3,h4,hk⟩⟩
 ·exact h.elim
theorem pick_makeFnY (f:Nat) (a c:Option (List D)):Pick (makeFnY f a c):=by
 intro K h
 unfold makeFnY at h
 split at h
 ·obtain⟨ds,hd,hK⟩:=someK_get h
  exact⟨_,hK,fun K' hk=>by simp only[makeFnY,hd,someK];exact hk⟩
 ·exact⟨_,h.2.2,fun K' hk=>⟨h.1,h.2.1,hk⟩⟩
 ·exact h.elim

theorem pick_appQ (S:Setup) (t:TypeId) (x y:D):Pick (appQ S t x y):=by
 intro K h
 unfold appQ at h
 split at h
 ·rename_i e xs tk ys hk
  obtain⟨i,hi,h1,h2,h3,h4,h5,hK⟩:=someK_get h
  exact⟨_,hK,fun K' hk'=>by unfold appQ;simp only[hk,hi,someK];exact⟨h1,h2,h3,h4,h5,hk'⟩⟩
 ·exact h.elim
theorem pick_opY (S:Setup) (op:Op) (ρ:Operand→Option D) (bx:Nat→Option (List D)):Pick (opY S op ρ bx):=by
 intro K h
 unfold opY at h
 split at h
 case h_1 x=>exact pick_some _ K h
 case h_2 x=>exact pick_some _ K h
 case h_3 c x y =>
  refine pick_someK (f:=fun (d:D) (K:D→Prop)=>match d with
   | .bool t=>if t=true then someK (ρ x) K else someK (ρ y) K
   | _=>False) (fun d _=>?_) K h
  cases d<;>first|exact pick_ite (pick_some _) (pick_some _)|exact pick_False
 case h_4 t x=>exact pick_someK (fun d _=>pick_loadY S t bx d) K h
 case h_5 x =>
  refine pick_someK (f:=fun (d:D) (K:D→Prop)=>match d with
   | .box ..|.imm _|.fn ..=>K d
   | _=>False) (fun d _=>?_) K h
  cases d<;>first|exact pick_K _|exact pick_False
 case h_6 o t x y yt=>exact pick_someK (fun (dx:D) _=>pick_someK fun (dy:D) _=>pick_binY S o t dx dy) K h
 case h_7 o t x=>exact pick_someK (fun d _=>pick_unY o d) K h
 case h_8 src dst x=>exact pick_and (fun _=>pick_someK fun d _=>pick_convY S dst d) K h
 case h_9 f first captured=>exact pick_makeFnY f _ _ K h
 case h_10 t x f=>exact pick_someK (fun d _=>pick_fieldAddrY S t f d) K h
 case h_11 t x f=>exact pick_someK (fun d _=>pick_fieldY S t f d) K h
 case h_12 t x ix=>exact pick_someK (fun d _=>pick_someK fun i _=>pick_indexAddrY S t d i) K h
 case h_13 t x ix=>exact pick_someK (fun d _=>pick_someK fun i _=>pick_indexY S t d i) K h
 case h_14 t x lo hi mx=>exact pick_someK (fun d _=>pick_someK fun l _=>pick_someK fun h _=>pick_someK fun m _=>pick_and fun _=>pick_sliceY S t d l h m) K h
 case h_15 t ps=>exact pick_someK (fun l _=>pick_buildY S t l) K h
 case h_16 t n ps=>exact pick_someK (fun l _=>pick_buildSliceY S t n l) K h
 case h_17 x i =>
  refine pick_someK (f:=fun (d:D) (K:D→Prop)=>match d with
   | .tup ds=>someK ds[i]? K
   | _=>False) (fun d _=>?_) K h
  cases d<;>first|exact pick_some _|exact pick_False
 case h_18 args tys =>
  refine pick_someK (f:=fun (ds:List D) (K:D→Prop)=>match ds,tys.toList with
   | [d],[t]=>lenY S t d K
   | _,_=>False) (fun ds _=>?_) K h
  intro K h
  split at h
  ·exact pick_lenY S _ _ K h
  ·exact h.elim
 case h_19 args tys =>
  refine pick_someK (f:=fun (ds:List D) (K:D→Prop)=>match ds with
   | [x,y]=>someK (minD x y) K
   | _=>False) (fun ds _=>?_) K h
  intro K h
  split at h
  ·exact pick_some _ K h
  ·exact h.elim
 case h_20 args tys =>
  refine pick_someK (f:=fun (ds:List D) (K:D→Prop)=>match ds with
   | [x,y]=>someK (maxD x y) K
   | _=>False) (fun ds _=>?_) K h
  intro K h
  split at h
  ·exact pick_some _ K h
  ·exact h.elim
 case h_21 f args tys=>exact pick_someK (fun df _=>pick_someK fun ds _=>pick_callY S bx df ds) K h
 case h_22 t l c=>exact pick_someK (fun dl _=>pick_someK fun dc _=>pick_makeQ S t dl dc) K h
 case h_23 args tys =>
  refine pick_someK (f:=fun (ds:List D) (K:D→Prop)=>match ds,tys.toList with
   | [x,y],[t,t']=>t=t'∧appQ S t x y K
   | _,_=>False) (fun ds _=>?_) K h
  intro K h
  split at h
  ·obtain⟨e,h⟩:=h
   obtain⟨d,h1,h2⟩:=pick_appQ S _ _ _ K h
   exact⟨d,h1,fun K' hk=>⟨e,h2 K' hk⟩⟩
  ·exact h.elim
 case h_24=>exact h.elim

theorem mapO_congr {ρ ρ':Operand→Option D}:∀ {l:List Operand},(∀x∈l,ρ x=ρ' x)→mapO ρ l=mapO ρ' l
 | [],_=>rfl
 | x::l,h=>by simp only[mapO,h x List.mem_cons_self,mapO_congr fun y hy=>h y (List.mem_cons_of_mem _ hy)]
theorem zipO_congr {ρ ρ':Operand→Option D}:∀ {l:List (Nat×Operand)},(∀p∈l,ρ p.2=ρ' p.2)→zipO ρ l=zipO ρ' l
 | [],_=>rfl
 | (i,x)::l,h=>by simp only[zipO,h (i,x) List.mem_cons_self,zipO_congr fun y hy=>h y (List.mem_cons_of_mem _ hy)]

theorem opY_congr {S:Setup} {op:Op} {ρ ρ':Operand→Option D} {bx:Nat→Option (List D)} {K:D→Prop} (h:∀x∈op.operands,ρ x=ρ' x) (hy:opY S op ρ bx K):opY S op ρ' bx K:=by
 unfold opY at hy
 split at hy<;>simp only[Op.operands,Call.operands] at h<;>unfold opY<;>(try dsimp only)
 case h_9 f first captured =>
  rw[←mapO_congr (ρ:=ρ) (l:=first.toList) fun x hx=>h x (by simp at hx ⊢;exact .inl hx),←mapO_congr (ρ:=ρ) (l:=captured.toList) fun x hx=>h x (by simp at hx ⊢;exact .inr hx)]
  exact hy
 case h_14 t x lo hi mx =>
  have e1:ρ' x=ρ x:=(h x (by simp)).symm
  have e2:lo.bind ρ'=lo.bind ρ:=by cases lo with|none=>rfl|some y=>exact(h y (by simp)).symm
  have e3:hi.bind ρ'=hi.bind ρ:=by cases hi with|none=>rfl|some y=>exact(h y (by simp)).symm
  have e4:mx.bind ρ'=mx.bind ρ:=by cases mx with|none=>rfl|some y=>exact(h y (by simp)).symm
  rw[e1,e2,e3,e4]
  exact hy
 case h_15 t ps =>
  rw[←zipO_congr (ρ:=ρ) fun p hp=>h p.2 (by simp;exact⟨p.1,by simpa using hp⟩)]
  exact hy
 case h_16 t n ps =>
  rw[←zipO_congr (ρ:=ρ) fun p hp=>h p.2 (by simp;exact⟨p.1,by simpa using hp⟩)]
  exact hy
 case h_18 args tys =>
  rw[←mapO_congr (ρ:=ρ) fun x hx=>h x (by simp at hx ⊢;exact hx)]
  exact hy
 case h_19 args tys =>
  rw[←mapO_congr (ρ:=ρ) fun x hx=>h x (by simp at hx ⊢;exact hx)]
  exact hy
 case h_20 args tys =>
  rw[←mapO_congr (ρ:=ρ) fun x hx=>h x (by simp at hx ⊢;exact hx)]
  exact hy
 case h_21 f args tys =>
  rw[←mapO_congr (ρ:=ρ) fun x hx=>h x (by simp at hx ⊢;exact .inr hx),←h f (by simp)]
  exact hy
 case h_23 args tys =>
  rw[←mapO_congr (ρ:=ρ) fun x hx=>h x (by simp at hx ⊢;exact hx)]
  exact hy
 case h_24=>exact hy.elim
 all_goals (simp_all;done)

end Go.Lg
/-
  Lg, part 16: every order of a region of quiet operations. After the kit's Derived/Deep/Quiet.lean, with logical values in the place of the model's, whose names may differ from order to order.
-/
namespace Go.Lg
open Go Go.RowKit

abbrev Env:=Nat→Option D
def putE (E:Env) (t:Option Nat) (d:D):Env:=match t with|some t=>fun t'=>if t=t' then some d else E t'|none=>E
def evalE (E:Env):Operand→Option D
 | .tmp t=>E t
 | .const v=>constD v
 | .func f=>some (.fn f [])
 | .global _=>none
def guardE (ops:Array Oper) (E:Env) (g:Option (Nat×Bool)):Option Bool:=match g with
 | none=>some true
 | some (j,want)=>match (ops[j]?).bind (·.dst) with
  | none=>none
  | some t=>match E t with
   | some (.bool b)=>some (b==want)
   | some (.raw (.tuple _))=>some false
   | _=>none
def dstN (n:Nat) (t:Option Nat):Prop:=match t with|some t=>t<n|none=>True

theorem putE_comm (E:Env) {x y:Option Nat} (d e:D) (h:∀t,x=some t→y≠some t):putE (putE E x d) y e=putE (putE E y e) x d:=by
 cases x with
 | none=>rfl
 | some t =>
  cases y with
  | none=>rfl
  | some u =>
   have hne:t≠u:=fun e=>h t rfl (by rw[e])
   funext t'
   simp only[putE]
   by_cases h1:t=t'
   ·subst h1
    have:¬u=t:=fun e=>hne e.symm
    simp[this]
   ·simp[h1]

section
variable {S:Setup} {ops:Array Oper} {bx:Nat→Option (List D)} {n:Nat} {md:Region.Mode}

def YieldsE (S:Setup) (ops:Array Oper) (bx:Nat→Option (List D)) (n:Nat) (o:Oper) (d:D) (E:Env):Prop :=
 dstN n o.dst∧((guardE ops E o.guard=some true∧∀K,K d→opY S o.op (evalE E) bx K)∨(guardE ops E o.guard=some false∧d=.raw undef))

def qE (S:Setup) (ops:Array Oper) (bx:Nat→Option (List D)) (n:Nat) (i:Nat) (K:Env→Prop) (E:Env):Prop :=
 match ops[i]? with
 | none=>K E
 | some o=>∃d,YieldsE S ops bx n o d E∧K (putE E o.dst d)

def wpAnyE (S:Setup) (md:Region.Mode) (ops:Array Oper) (bx:Nat→Option (List D)) (n:Nat) (Q:Env→Prop):Nat→Array Bool→Env→Prop
 | 0,listed,E=>Region.ready md ops listed=[]∧Q E
 | fuel+1,listed,E=>(Region.ready md ops listed=[]→Q E)∧∀i∈Region.ready md ops listed,qE S ops bx n i (wpAnyE S md ops bx n Q fuel (listed.setIfInBounds i true)) E

theorem qE_mono {i:Nat} {E:Env} {K K':Env→Prop} (h:∀E,K E→K' E) (hh:qE S ops bx n i K E):qE S ops bx n i K' E:=by
 unfold qE at *
 split
 ·exact h _ (by simpa[*] using hh)
 ·rename_i o ho
  simp only[ho] at hh
  obtain⟨d,h1,h2⟩:=hh
  exact⟨d,h1,h _ h2⟩

theorem YieldsE.qE {i:Nat} {o:Oper} {d:D} {E:Env} (hi:ops[i]?=some o) (hy:YieldsE S ops bx n o d E) {K:Env→Prop} (h:K (putE E o.dst d)):qE S ops bx n i K E:=by
 unfold Go.Lg.qE
 simp only[hi]
 exact⟨d,hy,h⟩

theorem evalE_put {E:Env} {t:Option Nat} {d:D} {x:Operand} (h:∀u,t=some u→x≠.tmp u):evalE (putE E t d) x=evalE E x:=by
 cases t with
 | none=>rfl
 | some u =>
  cases x with
  | tmp q =>
   have hne:u≠q:=fun e=>h u rfl (by rw[e])
   simp[evalE,putE,hne]
  | _=>rfl

theorem guardE_put (o:Oper) (E:Env) (t:Option Nat) (d:D) (h:∀u,t=some u→u∉o.looksAt ops):guardE ops (putE E t d) o.guard=guardE ops E o.guard:=by
 cases t with
 | none=>rfl
 | some u =>
  unfold guardE
  cases hg:o.guard with
  | none=>rfl
  | some p =>
   obtain⟨j,want⟩:=p
   simp only
   cases ht:(ops[j]?).bind (·.dst) with
   | none=>rfl
   | some q =>
    have hne:u≠q:=fun e=>h u rfl (by subst e;simp[Oper.looksAt,hg,ht])
    simp[putE,hne]

theorem yieldsE_put (o:Oper) (E:Env) (t:Option Nat) (e d:D) (h:∀u,t=some u→u∉o.looksAt ops):YieldsE S ops bx n o d (putE E t e)↔YieldsE S ops bx n o d E:=by
 have hop:∀x∈o.op.operands,evalE (putE E t e) x=evalE E x:=fun x hx=>evalE_put fun u hu hxu=>h u hu (by
  subst hxu
  exact List.mem_append_left _ (List.mem_filterMap.2 ⟨.tmp u,by simpa using hx,rfl⟩))
 unfold YieldsE
 rw[guardE_put o E t e h]
 constructor
 ·rintro⟨h0,⟨h1,h2⟩|h2⟩
  ·exact⟨h0,.inl ⟨h1,fun K hK=>opY_congr hop (h2 K hK)⟩⟩
  ·exact⟨h0,.inr h2⟩
 ·rintro⟨h0,⟨h1,h2⟩|h2⟩
  ·exact⟨h0,.inl ⟨h1,fun K hK=>opY_congr (fun x hx=>(hop x hx).symm) (h2 K hK)⟩⟩
  ·exact⟨h0,.inr h2⟩

theorem qE_put {j:Nat} {oi oj:Oper} {d:D} (hj:ops[j]?=some oj) (hap:oi.apart ops oj=true) {K:Env→Prop} {E:Env}
  (hy:YieldsE S ops bx n oi d E) (h:qE S ops bx n j K (putE E oi.dst d)):qE S ops bx n j (fun E'=>YieldsE S ops bx n oi d E'∧K (putE E' oi.dst d)) E:=by
 obtain⟨h1,h2,h3⟩:=Oper.apart_spec hap
 unfold qE at *
 simp only[hj] at *
 obtain⟨e,he,hK⟩:=h
 refine⟨e,(yieldsE_put oj E oi.dst d e h1).1 he,(yieldsE_put oi E oj.dst e d h3).2 hy,?_⟩
 rw[←putE_comm E d e h2]
 exact hK

theorem wpAnyE_first {Q:Env→Prop} {i:Nat} {oi:Oper} {d:D} (hi:ops[i]?=some oi) :
  ∀(fuel:Nat) (listed:Array Bool) (E:Env),
   (∀j oj,ops[j]?=some oj→j≠i→listed.getD j true=false→(∀e∈oj.after,Region.binds md e=true→e.on≠i)→oi.apart ops oj=true) →
   i∈Region.ready md ops listed→YieldsE S ops bx n oi d E →
   wpAnyE S md ops bx n Q fuel (listed.setIfInBounds i true) (putE E oi.dst d)→wpAnyE S md ops bx n Q (fuel+1) listed E:=by
 intro fuel
 induction fuel with
 | zero =>
  intro listed E _ hr hy H
  refine⟨fun h=>(by rw[h] at hr;cases hr),fun j hj=>?_⟩
  by_cases hji:j=i
  ·subst hji;exact hy.qE hi H
  ·have:=ready_mono hj hji
   rw[H.1] at this
   cases this
 | succ fuel ih =>
  intro listed E hfree hr hy H
  refine⟨fun h=>(by rw[h] at hr;cases hr),fun j hj=>?_⟩
  by_cases hji:j=i
  ·subst hji;exact hy.qE hi H
  ·have h1:=H.2 j (ready_mono hj hji)
   obtain⟨hjun,oj,hoj,hall⟩:=mem_ready.1 hj
   have hnot:∀e∈oj.after,Region.binds md e=true→e.on≠i:=fun e he hb heq=>by
    have h1:=hall e he hb
    have h0:=(mem_ready.1 hr).1
    rw[heq] at h1
    rcases Nat.lt_or_ge i listed.size with h'|h'
    ·simp[h'] at h0 h1;rw[h0] at h1;cases h1
    ·simp[Array.getElem?_eq_none h'] at h1
   have h2:=qE_put hoj (hfree j oj hoj hji hjun hnot) hy h1
   have hfree':∀k ok,ops[k]?=some ok→k≠i→(listed.setIfInBounds j true).getD k true=false →
     (∀e∈ok.after,Region.binds md e=true→e.on≠i)→oi.apart ops ok=true:=fun k ok hk hki hun hno=>by
    refine hfree k ok hk hki ?_ hno
    by_cases hjk:j=k
    ·subst hjk;exact hjun
    ·rw[getD_set_ne true hjk] at hun;exact hun
   refine qE_mono (fun E' h3=>ih (listed.setIfInBounds j true) E' hfree' (ready_mono hr (Ne.symm hji)) h3.1 ?_) h2
   rw[Array.setIfInBounds_comm _ _ hji]
   exact h3.2

def lexE (S:Setup) (ops:Array Oper) (bx:Nat→Option (List D)) (n:Nat) (Q:Env→Prop):List Oper→Env→Prop
 | [],E=>Q E
 | o::l,E=>∃d,YieldsE S ops bx n o d E∧lexE S ops bx n Q l (putE E o.dst d)

theorem wpAnyE_lex {Q:Env→Prop}:∀(l:List Oper) (k:Nat) (listed:Array Bool) (E:Env),(∀j,l[j]?=ops[k+j]?) →
  Region.lexFrom md ops l.length k listed=true→lexE S ops bx n Q l E→wpAnyE S md ops bx n Q l.length listed E
 | [],_,_,_,_,hB,h=>⟨by simpa[Region.lexFrom] using hB,h⟩
 | o::l,k,listed,E,hl,hB,h=>by
  have h0:ops[k]?=some o:=by simpa using (hl 0).symm
  simp only[List.length_cons,Region.lexFrom,Bool.and_eq_true] at hB
  obtain⟨⟨hr,hf⟩,hB'⟩:=hB
  obtain⟨d,hy,hK⟩:=h
  exact wpAnyE_first h0 l.length listed E (Region.free_spec h0 hf) (by simpa using hr) hy
   (wpAnyE_lex l (k+1) _ _ (fun j=>by have:=hl (j+1);simpa[Nat.add_assoc,Nat.add_comm 1 j] using this) hB' hK)

def SimE (B:Base) (L0:LS) (E:Env) (G:Ghost) (a:Act) (w:World):Prop :=
 ∃L,(look L.env=E∧L.n=L0.n∧L.boxes=L0.boxes∧L.ro=L0.ro∧L.toks=L0.toks∧L.fix=L0.fix)∧Sim B L G a w

theorem evalE_eq {L:LS} {E:Env} (h:look L.env=E):evalO L=evalE E:=by
 funext x
 cases x<;>first|rfl|(simp only[evalO,evalE,LS.get,h])
theorem guardE_eq {L:LS} {E:Env} (h:look L.env=E) (g:Option (Nat×Bool)):guardY ops L g=guardE ops E g:=by
 subst h;rfl
theorem getBox_eq {L L0:LS} (h1:L.boxes=L0.boxes) (h2:L.ro=L0.ro):L.getBox=L0.getBox:=by
 funext id
 simp only[LS.getBox,h1,h2]

theorem SimE.put {B:Base} {L0:LS} {E:Env} {G:Ghost} {a:Act} {w:World} (h:SimE B L0 E G a w) {t:Option Nat} {d:D} {v:Value} (ht:dstN L0.n t) (hr:Rel G w d v):SimE B L0 (putE E t d) G (a.put t v) w:=by
 obtain⟨L,⟨h1,h2,h3,h4,h5,h6⟩,hs⟩:=h
 cases t with
 | none=>exact⟨L,⟨h1,h2,h3,h4,h5,h6⟩,hs⟩
 | some t =>
  refine⟨L.put t d,⟨?_,h2,h3,h4,h5,h6⟩,hs.put (by rw[h2];exact ht) hr⟩
  funext t'
  simp only[LS.put,look_setA,putE,←h1]

theorem wpOp_of_qE {B:Base} {L0:LS} {i:Nat} {E:Env} {G:Ghost} {a:Act} {w:World} {K:Env→Prop} {K':Act→World→Prop} {Q':Exit→Act→World→Prop} (hs:SimE B L0 E G a w)
  (h:∀E G a' w',SimE B L0 E G a' w'→K E→K' a' w') (hh:qE S ops L0.getBox L0.n i K E):wpOp S.P ops Q' i K' a w:=by
 unfold qE at hh
 unfold wpOp
 split
 ·rename_i ho;simp only[ho] at hh;exact h E G a w hs hh
 ·rename_i o ho
  simp only[ho] at hh
  obtain⟨d,⟨hd,hy⟩,hK⟩:=hh
  obtain⟨L,⟨h1,h2,h3,h4,h5,h6⟩,hsim⟩:=hs
  rcases hy with⟨hg,hop⟩|⟨hg,rfl⟩
  ·rw[if_pos (guardY_sound (S:=S) rfl hsim (by rw[guardE_eq h1];exact hg))]
   left
   have hop':opY S o.op (evalO L) L.getBox (fun x=>x=d):=by rw[evalE_eq h1,getBox_eq h3 h4];exact hop _ rfl
   obtain⟨d',hd',hyld⟩:=opY_sound hsim hop'
   subst hd'
   exact hyld K' Q' fun v G' w' hs' hr _=>h _ G' _ w' (SimE.put ⟨L,⟨h1,h2,h3,h4,h5,h6⟩,hs'⟩ hd hr) hK
  ·rw[if_neg (by rw[guardY_sound (S:=S) rfl hsim (by rw[guardE_eq h1];exact hg)];simp)]
   exact h _ G _ w (SimE.put ⟨L,⟨h1,h2,h3,h4,h5,h6⟩,hsim⟩ hd (.raw (by intro cs h;cases h))) hK

theorem wpAny_of_E {B:Base} {L0:LS} {Q:Env→Prop} {Q':Exit→Act→World→Prop} (hQ:∀E G a w,SimE B L0 E G a w→Q E→Q' .normal a w):∀(fuel:Nat) (listed:Array Bool) (E:Env) (G:Ghost) (a:Act) (w:World),SimE B L0 E G a w →
  wpAnyE S md ops L0.getBox L0.n Q fuel listed E→wpAny S.P md ops Q' fuel listed a w
 | 0,_,_,_,_,_,hs,h=>⟨h.1,hQ _ _ _ _ hs h.2⟩
 | fuel+1,_,_,_,_,_,hs,h=>⟨fun h0=>hQ _ _ _ _ hs (h.1 h0),fun i hi=>wpOp_of_qE hs (fun E G a' w' hs' hK=>wpAny_of_E hQ fuel _ E G a' w' hs' hK) (h.2 i hi)⟩
end

def LexQ (S:Setup) (ops:Array Oper) (L0:LS) (K:LS→Prop) (l:List Oper) (L:LS):Prop :=
 (L.n=L0.n∧L.boxes=L0.boxes∧L.ro=L0.ro∧L.toks=L0.toks∧L.fix=L0.fix) →
 lexE S ops L0.getBox L0.n (fun E=>∃L',look L'.env=E∧(L'.n=L0.n∧L'.boxes=L0.boxes∧L'.ro=L0.ro∧L'.toks=L0.toks∧L'.fix=L0.fix)∧K L') l (look L.env)

theorem LexQ.nil {S:Setup} {ops:Array Oper} {L0 L:LS} {K:LS→Prop} (h:K L):LexQ S ops L0 K [] L:=fun hL=>⟨L,rfl,hL,h⟩

theorem look_putO (L:LS) (t:Option Nat) (d:D):look (L.putO t d).env=putE (look L.env) t d:=by
 cases t with
 | none=>rfl
 | some t=>funext t';simp only[LS.putO,LS.put,look_setA,putE]

theorem LexQ.step {S:Setup} {ops:Array Oper} {L0 L:LS} {K:LS→Prop} {o:Oper} {l:List Oper} (hg:guardY ops L o.guard=some true) (h:opY S o.op (evalO L) L.getBox fun d=>dstOk o.dst L∧LexQ S ops L0 K l (L.putO o.dst d)):LexQ S ops L0 K (o::l) L:=by
 intro hL
 obtain⟨h1,h2,h3,h4,h5⟩:=hL
 obtain⟨d,⟨hd,hK⟩,hy⟩:=pick_opY S o.op (evalO L) L.getBox _ h
 refine⟨d,⟨?_,.inl ⟨by rw[←guardE_eq rfl];exact hg,fun K' hk=>?_⟩⟩,?_⟩
 ·unfold dstN;unfold dstOk at hd
  rw[h1] at hd;exact hd
 ·rw[←evalE_eq rfl,←getBox_eq (L:=L) (L0:=L0) h2 h3]
  exact hy K' hk
 ·rw[←look_putO]
  exact hK (by cases o.dst<;>exact⟨h1,h2,h3,h4,h5⟩)

theorem LexQ.skip {S:Setup} {ops:Array Oper} {L0 L:LS} {K:LS→Prop} {o:Oper} {l:List Oper} (hg:guardY ops L o.guard=some false) (hd:dstOk o.dst L) (h:LexQ S ops L0 K l (L.putO o.dst (.raw undef))):LexQ S ops L0 K (o::l) L:=by
 intro hL
 have hL':=hL
 obtain⟨h1,h2,h3,h4,h5⟩:=hL
 refine⟨.raw undef,⟨?_,.inr ⟨by rw[←guardE_eq rfl];exact hg,rfl⟩⟩,?_⟩
 ·unfold dstN;unfold dstOk at hd
  rw[h1] at hd;exact hd
 ·rw[←look_putO]
  exact h (by cases o.dst<;>exact⟨h1,h2,h3,h4,h5⟩)

theorem LexQ.split {S:Setup} {ops:Array Oper} {L0 L:LS} {K:LS→Prop} {l:List Oper} (t:Nat) {b:Bool} (ht:L.get t=some (.bool b)) (h1:b=true→LexQ S ops L0 K l (L.put t (.bool true))) (h0:b=false→LexQ S ops L0 K l (L.put t (.bool false))):LexQ S ops L0 K l L:=by
 intro hL
 have key:∀c,b=c→look (L.put t (.bool c)).env=look L.env:=fun c hc=>by
  funext t'
  simp only[LS.put,look_setA]
  by_cases e:t=t'
  ·subst e
   rw[if_pos rfl,←hc]
   exact ht.symm
  ·rw[if_neg e]
 cases hb:b with
 | true=>rw[←key true hb];exact h1 hb hL
 | false=>rw[←key false hb];exact h0 hb hL

theorem LexQ.call {S:Setup} {ops:Array Oper} {L0 L:LS} {K:LS→Prop} {l:List Oper} {dst:Option Nat} {f:Operand} {args:Array Operand} {tys:Array TypeId} {ty:TypeId} {pos:String} {aft:Array Edge} {g:Option (Nat×Bool)}
  (hg:guardY ops L g=some true) {fid:Nat} {cap ds:List D} {ro:List (Nat×List D)} {d:D} (hf:evalO L f=some (.fn fid cap)) (hds:mapO (evalO L) args.toList=some ds) (fc:FC S fid ro [] [] (ds++cap) d [] [])
  (hside:(∀p∈ro,L.getBox p.1=some p.2)∧d.ids=[]∧d.tks=[]∧dstOk dst L) (h:LexQ S ops L0 K l (L.putO dst d)):LexQ S ops L0 K (⟨dst,.call ⟨.value f,args,tys⟩,ty,pos,aft,g⟩::l) L:=by
 refine LexQ.step hg ?_
 show opY S (.call ⟨.value f,args,tys⟩) (evalO L) L.getBox _
 unfold opY
 simp only[hf,hds,someK]
 exact⟨ro,d,fc,hside.1,hside.2.1,hside.2.2.1,hside.2.2.2,h⟩

def runQ (S:Setup) (ops:Array Oper) (K:List Oper→LS→Prop):List Oper→LS→Prop
 | [],L=>K [] L
 | ⟨dst,op,ty,pos,aft,g⟩::l,L=>match op with
  | .call ⟨.value f,args,tys⟩=>K (⟨dst,.call ⟨.value f,args,tys⟩,ty,pos,aft,g⟩::l) L
  | .alloc T=>K (⟨dst,.alloc T,ty,pos,aft,g⟩::l) L
  | .store T x y=>K (⟨dst,.store T x y,ty,pos,aft,g⟩::l) L
  | op=>match guardY ops L g with
   | some true=>opY S op (evalO L) L.getBox fun d=>dstOk dst L∧runQ S ops K l (L.putO dst d)
   | some false=>dstOk dst L∧runQ S ops K l (L.putO dst (.raw undef))
   | none=>K (⟨dst,op,ty,pos,aft,g⟩::l) L

theorem opY_mono {S:Setup} {op:Op} {ρ:Operand→Option D} {bx:Nat→Option (List D)} {K K':D→Prop} (h:opY S op ρ bx K) (hK:∀d,K d→K' d):opY S op ρ bx K':=by
 obtain⟨d,h1,h2⟩:=pick_opY S op ρ bx K h
 exact h2 K' (hK d h1)

theorem runQ_sound {S:Setup} {ops:Array Oper} {L0:LS} {K:LS→Prop} {K':List Oper→LS→Prop} (hK:∀l L,K' l L→LexQ S ops L0 K l L):∀(l:List Oper) (L:LS),runQ S ops K' l L→LexQ S ops L0 K l L
 | [],L,h=>hK [] L h
 | ⟨dst,op,ty,pos,aft,g⟩::l,L,h=>by
  unfold runQ at h
  split at h
  ·exact hK _ L h
  ·exact hK _ L h
  ·exact hK _ L h
  ·split at h
   ·rename_i hg
    exact LexQ.step (o:=⟨dst,op,ty,pos,aft,g⟩) hg (opY_mono h fun d ⟨h1,h2⟩=>⟨h1,runQ_sound hK l _ h2⟩)
   ·rename_i hg
    exact LexQ.skip (o:=⟨dst,op,ty,pos,aft,g⟩) hg h.1 (runQ_sound hK l _ h.2)
   ·exact hK _ L h

theorem drew_sim {B:Base} {L:LS} {G:Ghost} {a:Act} {w:World} (h:Sim B L G a w):Sim B L G a {w with drawn:=w.drawn+1}:=by
 have hr:∀d v,Rel G w d v→Rel G {w with drawn:=w.drawn+1} d v:=fun d v hr =>
  hr.mono (show Mono G G w {w with drawn:=w.drawn+1} from⟨fun _ _ _ h1 h2=>⟨h1,h2⟩,fun _ _=>rfl,fun _ _ _ h=>h⟩) (fun _ _ _ h=>h) (fun _ _=>.inr ⟨rfl,fun _ _ _ _=>⟨rfl,rfl⟩⟩)
 have hb:∀ {g cs},BoxAt G w g cs→BoxAt G {w with drawn:=w.drawn+1} g cs:=fun⟨vs,e,e1,e2,e3⟩=>⟨vs,e,e1,e2,fun j d v hd hv=>hr d v (e3 j d v hd hv)⟩
 exact h.move {h.W with
  boxes:=fun id cs hl=>let ⟨g,h1,h2,h3⟩:=h.W.boxes id cs hl;⟨g,h1,hb h2,h3⟩
  robs:=fun id cs hl=>let ⟨g,h1,h2,h3⟩:=h.W.robs id cs hl;⟨g,h1,hb h2,h3⟩
  tau:=h.W.tau
  old:=h.W.old
  olda:=h.W.olda
  os:=h.W.os
  tape:=h.W.tape
  out:=h.W.out
  dr:=dr_t h.W.dr (Nat.le_succ _)} hr

theorem draw_sound {S:Setup} {B:Base} {id:Nat} {ops:Array Oper} {L:LS} {G:Ghost} {a:Act} {w:World} {K:LS→Prop} (hB:Region.lexB .any ops=true) (h:LexQ S ops L K ops.toList L) (hs:Sim B L G a w) {Q:Exit→Act→World→Prop}
  (hQ:∀L' G' a' w',K L'→Sim B L' G' a' w'→Q .normal a' w'):(Code.region id ops true).wp S.P Q a w:=by
 simp only[Region.lexB,Bool.and_eq_true] at hB
 refine wp_region_any S.mixed (wpAny_of_E (L0:=L) (Q:=fun E=>∃L',look L'.env=E∧(L'.n=L.n∧L'.boxes=L.boxes∧L'.ro=L.ro∧L'.toks=L.toks∧L'.fix=L.fix)∧K L') ?_ ops.size _ (look L.env) G a _ ⟨L,⟨rfl,rfl,rfl,rfl,rfl,rfl⟩,drew_sim hs⟩ ?_)
 ·rintro E G' a' w' ⟨L1,⟨e1,e2,e3,e4,e5,e6⟩,hs'⟩ ⟨L',f1,⟨f2,f3,f4,f5,f6⟩,hK⟩
  refine hQ L' G' a' w' hK ⟨hs'.defers,by rw[f2,←e2];exact hs'.size,fun t d hd=>?_,?_,by rw[f6,←e6];exact hs'.fixed⟩
  ·rw[f1,←e1] at hd
   exact hs'.env t d hd
  ·rw[f3,f4,f5,←e3,←e4,←e5];exact hs'.W
 ·have:=wpAnyE_lex (md:=.any) ops.toList 0 (Array.replicate ops.size false) (look L.env) (by simp) (by simpa using hB.2) (h ⟨rfl,rfl,rfl,rfl,rfl⟩)
  simpa using this

end Go.Lg
/-
  Lg, part 16b: a region that draws its order, whose last operations wait for all the others: these may be of any kind.
-/
namespace Go.Lg
open Go Go.RowKit

section
variable {md:Region.Mode} {ops:Array Oper}
def ons (md:Region.Mode) (ops:Array Oper) (j:Nat):List Nat:=match ops[j]? with
 | some o=>(o.after.toList.filter (Region.binds md)).map (·.on)
 | none=>[]
def clos (md:Region.Mode) (ops:Array Oper):Nat→List Nat→List Nat
 | 0,s=>s
 | j+1,s=>clos md ops j (if s.contains j then ons md ops j++s else s)
def tailB (md:Region.Mode) (ops:Array Oper) (m:Nat):Bool :=
 (List.range' m (ops.size-m)).all fun k=>(ons md ops k).all (· < k)&&(List.range k).all fun j=>(clos md ops k (ons md ops k)).contains j
def lexHead (md:Region.Mode) (ops:Array Oper):Nat→Nat→Array Bool→Bool
 | 0,_,_=>true
 | f+1,k,listed=>(Region.ready md ops listed).contains k&&Region.free md ops listed k&&lexHead md ops f (k+1) (listed.setIfInBounds k true)
def drawT (md:Region.Mode) (ops:Array Oper) (m:Nat):Bool:=lexHead md ops m 0 (Array.replicate ops.size false)&&tailB md ops m&&decide (m≤ops.size)

def Down (md:Region.Mode) (ops:Array Oper) (listed:Array Bool):Prop:=∀j,listed.getD j false=true→∀x∈ons md ops j,listed.getD x false=true
theorem clos_listed {listed:Array Bool} (h:Down md ops listed):∀(j:Nat) (s:List Nat),(∀x∈s,listed.getD x false=true)→∀x∈clos md ops j s,listed.getD x false=true
 | 0,s,hs,x,hx=>hs x hx
 | j+1,s,hs,x,hx=>by
  unfold clos at hx
  refine clos_listed h j _ (fun y hy=>?_) x hx
  split at hy
  ·rename_i hc
   rcases List.mem_append.1 hy with hy|hy
   ·exact h j (hs j (by simpa using hc)) y hy
   ·exact hs y hy
  ·exact hs y hy
theorem ready_ons {listed:Array Bool} {k:Nat} (h:k∈Region.ready md ops listed):∀x∈ons md ops k,listed.getD x false=true:=by
 obtain⟨_,o,ho,hall⟩:=mem_ready.1 h
 intro x hx
 simp only[ons,ho,List.mem_map,List.mem_filter] at hx
 obtain⟨e,⟨he,hb⟩,rfl⟩:=hx
 exact hall e (by simpa using he) hb
theorem ready_lt {listed:Array Bool} {k:Nat} (h:k∈Region.ready md ops listed):k<ops.size:=by
 obtain⟨_,o,ho,_⟩:=mem_ready.1 h
 exact(Array.getElem?_eq_some_iff.1 ho).1
theorem tail_spec {m k:Nat} (hB:tailB md ops m=true) (hm:m≤k) (hk:k<ops.size):(∀x∈ons md ops k,x<k)∧∀j<k,j∈clos md ops k (ons md ops k):=by
 have h1:=List.all_eq_true.1 hB k (List.mem_range'_1.2 ⟨hm,by omega⟩)
 simp only[Bool.and_eq_true,List.all_eq_true,decide_eq_true_eq,List.mem_range] at h1
 exact⟨h1.1,fun j hj=>by simpa using h1.2 j hj⟩
def TailP (md:Region.Mode) (ops:Array Oper) (m:Nat):Prop:=∀k,m≤k→k<ops.size→∀j<m,j∈clos md ops k (ons md ops k)
theorem tailB_P {m:Nat} (hB:tailB md ops m=true):TailP md ops m:=fun _ hm hk j hj=>(tail_spec hB hm hk).2 j (by omega)
theorem ready_tailP {listed:Array Bool} {m k:Nat} (hB:TailP md ops m) (hd:Down md ops listed) (hm:m≤k) (hk:k∈Region.ready md ops listed):∀j<m,listed.getD j false=true:=fun j hj =>
 clos_listed hd k _ (ready_ons hk) j (hB k hm (ready_lt hk) j hj)
theorem ready_tail {listed:Array Bool} {m k:Nat} (hB:tailB md ops m=true) (hd:Down md ops listed) (hm:m≤k) (hk:k∈Region.ready md ops listed):∀j<k,listed.getD j false=true:=fun j hj =>
 clos_listed hd k _ (ready_ons hk) j ((tail_spec hB hm (ready_lt hk)).2 j hj)
theorem getD_tf {listed:Array Bool} {i:Nat} (h:listed.getD i true=false):listed.getD i false=false∧i<listed.size:=by
 rcases Nat.lt_or_ge i listed.size with h'|h'
 ·simp[h'] at h ⊢;exact h
 ·simp[Array.getElem?_eq_none h'] at h
theorem down_set {listed:Array Bool} {i:Nat} (hd:Down md ops listed) (hi:i∈Region.ready md ops listed):Down md ops (listed.setIfInBounds i true):=fun j hj x hx=>by
 by_cases e:i=j
 ·subst e;exact getD_set_true (ready_ons hi x hx)
 ·rw[getD_set_ne false e] at hj
  exact getD_set_true (hd j hj x hx)

def cntU (m:Nat) (listed:Array Bool):Nat:=((List.range m).filter fun j=>!listed.getD j true).length
theorem cntU_set {listed:Array Bool} {i:Nat} (hi:listed.getD i true=false):∀m,i<m→cntU m (listed.setIfInBounds i true)+1=cntU m listed
 | 0,h=>absurd h (Nat.not_lt_zero _)
 | m+1,h=>by
  unfold cntU
  rw[List.range_succ,List.filter_append,List.filter_append,List.length_append,List.length_append]
  have hset:(listed.setIfInBounds i true).getD i true=true:=by
   obtain⟨_,hlt⟩:=getD_tf hi
   simp[hlt]
  by_cases e:i=m
  ·subst e
   have hsame:((List.range i).filter fun j=>!(listed.setIfInBounds i true).getD j true)=(List.range i).filter fun j=>!listed.getD j true :=
    List.filter_congr fun j hj=>by
     have:i≠j:=by have:=List.mem_range.1 hj;omega
     rw[getD_set_ne true this]
   rw[hsame]
   simp only[List.filter_cons,List.filter_nil,hi,hset]
   simp
  ·have ih:=cntU_set hi m (by omega)
   unfold cntU at ih
   have:(List.filter (fun j=>!(listed.setIfInBounds i true).getD j true) [m])=List.filter (fun j=>!listed.getD j true) [m] :=
    List.filter_congr fun j hj=>by
     have:i≠j:=by have:=List.mem_singleton.1 hj;omega
     rw[getD_set_ne true this]
   rw[this]
   omega
theorem cntU_one {listed:Array Bool} {m i j:Nat} (h:cntU m listed=1) (hi:listed.getD i true=false) (hj:listed.getD j true=false) (him:i<m) (hjm:j<m):i=j:=by
 obtain⟨x,hx⟩:=List.length_eq_one_iff.1 h
 have h1:i∈(List.range m).filter fun j=>!listed.getD j true:=List.mem_filter.2 ⟨List.mem_range.2 him,by simp[hi]⟩
 have h2:j∈(List.range m).filter fun j=>!listed.getD j true:=List.mem_filter.2 ⟨List.mem_range.2 hjm,by simp[hj]⟩
 rw[hx] at h1 h2
 rw[List.mem_singleton.1 h1,List.mem_singleton.1 h2]
theorem cntU_zero {listed:Array Bool} {m:Nat} (h:cntU m listed=0):∀i<m,listed.getD i true=true:=fun i hi=>by
 have h0:=List.length_eq_zero_iff.1 h
 cases hb:listed.getD i true with
 | true=>rfl
 | false =>
  have:i∈(List.range m).filter fun j=>!listed.getD j true:=List.mem_filter.2 ⟨List.mem_range.2 hi,by simp only[hb];rfl⟩
  rw[h0] at this
  cases this
structure InvT (md:Region.Mode) (ops:Array Oper) (m f:Nat) (listed:Array Bool):Prop where
 down:Down md ops listed
 size:listed.size=ops.size
 rest:∀j,m≤j→j<ops.size→listed.getD j true=false
 cnt:cntU m listed=f
theorem InvT.ltP {m f i:Nat} {listed:Array Bool} (hB:TailP md ops m) (h:InvT md ops m (f+1) listed) (hi:i∈Region.ready md ops listed):i<m:=by
 refine Nat.lt_of_not_le fun hm=>?_
 have hall:=ready_tailP hB h.down hm hi
 have:cntU m listed=0:=by
  unfold cntU
  rw[List.length_eq_zero_iff,List.filter_eq_nil_iff]
  intro j hj
  have hj:=List.mem_range.1 hj
  have h1:=hall j (by omega)
  have hlt:j<listed.size:=by
   rcases Nat.lt_or_ge j listed.size with h'|h'
   ·exact h'
   ·simp[Array.getElem?_eq_none h'] at h1
  simp[hlt] at h1 ⊢
  exact h1
 rw[h.cnt] at this
 omega
theorem InvT.lt {m f i:Nat} {listed:Array Bool} (hB:tailB md ops m=true) (h:InvT md ops m (f+1) listed) (hi:i∈Region.ready md ops listed):i<m:=h.ltP (tailB_P hB) hi
theorem InvT.set {m f i:Nat} {listed:Array Bool} (h:InvT md ops m (f+1) listed) (hi:i∈Region.ready md ops listed) (him:i<m):InvT md ops m f (listed.setIfInBounds i true):=by
 refine⟨down_set h.down hi,by simpa using h.size,fun j hj hlt=>?_,?_⟩
 ·rw[getD_set_ne true (by omega)];exact h.rest j hj hlt
 ·have:=cntU_set (mem_ready.1 hi).1 m him
  have:=h.cnt
  omega
end

section
variable {S:Setup} {ops:Array Oper} {bx:Nat→Option (List D)} {n m:Nat} {md:Region.Mode}
def wpAnyT (S:Setup) (md:Region.Mode) (ops:Array Oper) (bx:Nat→Option (List D)) (n:Nat) (Q:Env→Prop):Nat→Array Bool→Env→Prop
 | 0,_,E=>Q E
 | f+1,listed,E=>Region.ready md ops listed≠[]∧∀i∈Region.ready md ops listed,qE S ops bx n i (wpAnyT S md ops bx n Q f (listed.setIfInBounds i true)) E

theorem wpAnyT_first {Q:Env→Prop} {i:Nat} {oi:Oper} {d:D} (hi:ops[i]?=some oi) (hB:TailP md ops m) (him:i<m) :
  ∀(f:Nat) (listed:Array Bool) (E:Env),InvT md ops m (f+1) listed →
   (∀j oj,ops[j]?=some oj→j≠i→listed.getD j true=false→(∀e∈oj.after,Region.binds md e=true→e.on≠i)→oi.apart ops oj=true) →
   i∈Region.ready md ops listed→YieldsE S ops bx n oi d E →
   wpAnyT S md ops bx n Q f (listed.setIfInBounds i true) (putE E oi.dst d)→wpAnyT S md ops bx n Q (f+1) listed E:=by
 intro f
 induction f with
 | zero =>
  intro listed E hinv _ hr hy H
  refine⟨fun h=>(by rw[h] at hr;cases hr),fun j hj=>?_⟩
  have hjm:=hinv.ltP hB hj
  obtain rfl:=cntU_one hinv.cnt (mem_ready.1 hr).1 (mem_ready.1 hj).1 him hjm
  exact hy.qE hi H
 | succ f ih =>
  intro listed E hinv hfree hr hy H
  refine⟨fun h=>(by rw[h] at hr;cases hr),fun j hj=>?_⟩
  by_cases hji:j=i
  ·subst hji;exact hy.qE hi H
  ·have h1:=H.2 j (ready_mono hj hji)
   obtain⟨hjun,oj,hoj,hall⟩:=mem_ready.1 hj
   have hnot:∀e∈oj.after,Region.binds md e=true→e.on≠i:=fun e he hb heq=>by
    have h1:=hall e he hb
    have h0:=(getD_tf (mem_ready.1 hr).1).1
    rw[heq,h0] at h1
    cases h1
   have h2:=qE_put hoj (hfree j oj hoj hji hjun hnot) hy h1
   have hfree':∀k ok,ops[k]?=some ok→k≠i→(listed.setIfInBounds j true).getD k true=false →
     (∀e∈ok.after,Region.binds md e=true→e.on≠i)→oi.apart ops ok=true:=fun k ok hk hki hun hno=>by
    refine hfree k ok hk hki ?_ hno
    by_cases hjk:j=k
    ·subst hjk;exact hjun
    ·rw[getD_set_ne true hjk] at hun;exact hun
   refine qE_mono (fun E' h3=>ih (listed.setIfInBounds j true) E' (hinv.set hj (hinv.ltP hB hj)) hfree' (ready_mono hr (Ne.symm hji)) h3.1 ?_) h2
   rw[Array.setIfInBounds_comm _ _ hji]
   exact h3.2
theorem wpAnyT_lex {Q:Env→Prop} (hB:TailP md ops m):∀(l:List Oper) (k:Nat) (listed:Array Bool) (E:Env),(∀j,j<l.length→l[j]?=ops[k+j]?)→k+l.length=m→InvT md ops m l.length listed →
  lexHead md ops l.length k listed=true→lexE S ops bx n Q l E→wpAnyT S md ops bx n Q l.length listed E
 | [],_,_,_,_,_,_,_,h=>h
 | o::l,k,listed,E,hl,hk,hinv,hL,h=>by
  have h0:ops[k]?=some o:=by simpa using (hl 0 (by simp)).symm
  simp only[List.length_cons,lexHead,Bool.and_eq_true] at hL
  obtain⟨⟨hr,hf⟩,hL'⟩:=hL
  have hr':k∈Region.ready md ops listed:=by simpa using hr
  obtain⟨d,hy,hK⟩:=h
  simp only[List.length_cons] at hk
  exact wpAnyT_first h0 hB (by omega) l.length listed E hinv (Region.free_spec h0 hf) hr' hy
   (wpAnyT_lex hB l (k+1) _ _ (fun j hj=>by have:=hl (j+1) (by simpa using hj);simpa[Nat.add_assoc,Nat.add_comm 1 j] using this) (by omega) (hinv.set hr' (by omega)) hL' hK)

theorem wpAny_of_T {B:Base} {L0:LS} {r:Nat} {Q:Env→Prop} {Q':Exit→Act→World→Prop} (hB:TailP md ops m) (hQ:∀listed E G a w,InvT md ops m 0 listed→SimE B L0 E G a w→Q E→wpAny S.P md ops Q' r listed a w):∀(f:Nat) (listed:Array Bool) (E:Env) (G:Ghost) (a:Act) (w:World),InvT md ops m f listed→SimE B L0 E G a w →
  wpAnyT S md ops L0.getBox L0.n Q f listed E→wpAny S.P md ops Q' (f+r) listed a w
 | 0,listed,E,G,a,w,hinv,hs,h=>by rw[Nat.zero_add];exact hQ listed E G a w hinv hs h
 | f+1,listed,E,G,a,w,hinv,hs,h=>by
  rw[show f+1+r=(f+r)+1 by omega]
  exact⟨fun h0=>absurd h0 h.1,fun i hi=>wpOp_of_qE hs (fun E G a' w' hs' hK=>wpAny_of_T hB hQ f _ E G a' w' (hinv.set hi (hinv.ltP hB hi)) hs' hK) (h.2 i hi)⟩

theorem tail_run {P:Program} {Q:Exit→Act→World→Prop} (hB:tailB md ops m=true):∀(r k:Nat) (listed:Array Bool) (a:Act) (w:World),k+r=ops.size→m≤k→listed.size=ops.size→Down md ops listed→(∀j<k,listed.getD j true=true)→(∀j,k≤j→j<ops.size→listed.getD j true=false) →
  wpList P ops Q (ops.toList.drop k) a w→wpAny P md ops Q r listed a w
 | 0,k,listed,a,w,hk,hm,hsz,hd,h1,h2,h=>by
  rw[List.drop_of_length_le (by simp;omega)] at h
  refine⟨List.eq_nil_iff_forall_not_mem.2 fun j hj=>?_,h⟩
  have:=(mem_ready.1 hj).1
  rw[h1 j (by have:=ready_lt hj;omega)] at this
  cases this
 | r+1,k,listed,a,w,hk,hm,hsz,hd,h1,h2,h=>by
  have hlt:k<ops.size:=by omega
  have hlf:∀j<k,listed.getD j false=true:=fun j hj=>by
   have:=h1 j hj
   simp[show j<listed.size by omega] at this ⊢
   exact this
  have hready:k∈Region.ready md ops listed:=mem_ready.2 ⟨h2 k (Nat.le_refl _) hlt,ops[k],Array.getElem?_eq_getElem hlt,fun e he hb=>hlf _ ((tail_spec hB hm hlt).1 e.on (by
   simp only[ons,Array.getElem?_eq_getElem hlt,List.mem_map,List.mem_filter]
   exact⟨e,⟨by simpa using he,hb⟩,rfl⟩))⟩
  refine⟨fun h0=>(by rw[h0] at hready;cases hready),fun i hi=>?_⟩
  have hik:i=k:=by
   have hge:k≤i:=Nat.le_of_not_lt fun hl=>by
    have:=(mem_ready.1 hi).1
    rw[h1 i hl] at this;cases this
   refine Nat.le_antisymm (Nat.le_of_not_lt fun hl=>?_) hge
   have:=ready_tail hB hd (Nat.le_trans hm hge) hi k hl
   have h3:=(getD_tf (h2 k (Nat.le_refl _) hlt)).1
   rw[h3] at this;cases this
  subst hik
  have hdrop:ops.toList.drop i=ops[i]::ops.toList.drop (i+1):=by
   rw[List.drop_eq_getElem_cons (by simpa using hlt)]
   simp
  rw[hdrop] at h
  have ih:=fun a w=>tail_run (P:=P) (Q:=Q) hB r (i+1) (listed.setIfInBounds i true) a w (by omega) (by omega) (by simpa using hsz) (down_set hd hready) (fun j hj=>by
    by_cases e:i=j
    ·subst e;simp[show i<listed.size by omega]
    ·rw[getD_set_ne true e];exact h1 j (by omega)) (fun j hj hl=>by rw[getD_set_ne true (by omega)];exact h2 j (by omega) hl)
  unfold wpList at h
  unfold wpOp
  simp only[Array.getElem?_eq_getElem hlt]
  split at h
  ·rename_i hw
   rw[if_pos hw]
   rcases h with h|h
   ·exact .inl (Oper.wp_mono (fun a w hh=>ih a w hh) h)
   ·exact .inr h
  ·rename_i hw
   rw[if_neg hw]
   exact ih _ _ h
end

theorem drawT_soundM {S:Setup} {B:Base} {id m:Nat} {l:List Oper} {L:LS} {G:Ghost} {a:Act} {w:World} {M:LS→Prop} (hB:drawT .any l.toArray m=true) (h:LexQ S l.toArray L M (l.take m) L) (hs:Sim B L G a w) {Q:Exit→Act→World→Prop}
  (hM:∀L' G' a' w',M L'→Sim B L' G' a' w'→wpList S.P l.toArray Q (l.drop m) a' w'):(Code.region id l.toArray true).wp S.P Q a w:=by
 simp only[drawT,Bool.and_eq_true,decide_eq_true_eq] at hB
 obtain⟨⟨hL,hT⟩,hm⟩:=hB
 have hml:m≤l.length:=by simpa using hm
 have hlen:(l.take m).length=m:=by simp;omega
 have hinv:InvT .any l.toArray m m (Array.replicate l.toArray.size false):=by
  refine⟨fun j hj=>?_,by simp,fun j _ hj=>?_,?_⟩
  ·by_cases hlt:j<l.length<;>simp[hlt] at hj
  ·have hj':j<l.length:=by simpa using hj
   simp[hj']
  ·unfold cntU
   rw[List.filter_eq_self.2,List.length_range]
   intro j hj
   have hj:=List.mem_range.1 hj
   simp[show j<l.length by omega]
 refine wp_region_any S.mixed ?_
 have hsz:l.toArray.size=m+(l.toArray.size-m):=by simp;omega
 rw[hsz]
 rw[←hsz]
 have key:=wpAny_of_T (S:=S) (B:=B) (L0:=L) (r:=l.toArray.size-m) (Q':=Q) (Q:=fun E=>∃L',look L'.env=E∧(L'.n=L.n∧L'.boxes=L.boxes∧L'.ro=L.ro∧L'.toks=L.toks∧L'.fix=L.fix)∧M L') (tailB_P hT) ?_ m _ (look L.env) G a {w with drawn:=w.drawn+1} hinv ⟨L,⟨rfl,rfl,rfl,rfl,rfl,rfl⟩,drew_sim hs⟩ ?_
 ·rw[hsz];rw[←hsz]
  have e:m+(l.toArray.size-m)=l.toArray.size:=hsz.symm
  rw[e] at key
  exact key
 ·rintro listed E G' a' w' hi ⟨L1,⟨e1,e2,e3,e4,e5,e6⟩,hs'⟩ ⟨L',f1,⟨f2,f3,f4,f5,f6⟩,hK⟩
  have hs2:Sim B L' G' a' w':=⟨hs'.defers,by rw[f2,←e2];exact hs'.size,fun t d hd=>by
   rw[f1,←e1] at hd
   exact hs'.env t d hd,by rw[f3,f4,f5,←e3,←e4,←e5];exact hs'.W,by rw[f6,←e6];exact hs'.fixed⟩
  exact tail_run hT _ m listed a' w' (by simp;omega) (Nat.le_refl _) hi.size hi.down (cntU_zero hi.cnt) hi.rest (by simpa using hM L' G' a' w' hK hs2)
 ·have h2:=wpAnyT_lex (S:=S) (bx:=L.getBox) (n:=L.n) (Q:=fun E=>∃L',look L'.env=E∧(L'.n=L.n∧L'.boxes=L.boxes∧L'.ro=L.ro∧L'.toks=L.toks∧L'.fix=L.fix)∧M L') (tailB_P hT) (l.take m) 0 (Array.replicate l.toArray.size false) (look L.env) (fun j hj=>by
   rw[hlen] at hj
   rw[List.getElem?_take,if_pos hj,Nat.zero_add]
   simp) (by omega) (by rw[hlen];exact hinv) (by rw[hlen];exact hL) (h ⟨rfl,rfl,rfl,rfl,rfl⟩)
  rw[hlen] at h2
  exact h2
theorem drawT_sound {S:Setup} {B:Base} {id m:Nat} {l:List Oper} {L:LS} {G:Ghost} {a:Act} {w:World} {K:LS→Prop} (hB:drawT .any l.toArray m=true) (h:LexQ S l.toArray L (fun L'=>LopsW S B l.toArray (l.drop m) L' K) (l.take m) L) (hs:Sim B L G a w) {Q:Exit→Act→World→Prop}
  (hQ:∀L' G' a' w',K L'→Sim B L' G' a' w'→Q .normal a' w'):(Code.region id l.toArray true).wp S.P Q a w :=
 drawT_soundM hB h hs fun _ G' a' w' hK hs'=>hK G' a' w' hs' Q hQ
end Go.Lg
