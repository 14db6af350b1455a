/-
  Lg: LgThawO, one behind the other.
-/
import Derived.Test.YtmogobaaophknaaLgK7
/-
  Lg: an own list of numbers is taken for memory (a box): what stays of the state must be seen not to read its block.
-/
namespace Go.Lg
open Go Go.RowKit
def D.offI : D → Bool
 | .int k _ => k != .i64
 | .bool _ | .str _ | .sl .. | .fn .. => true
 | _ => false
def D.offIL : List D → Bool
 | [] => true
 | d :: ds => d.offI && D.offIL ds
mutual
def D.safeI (k : Nat) (tk : List Nat) : D → Bool
 | .int .. | .bool _ | .str _ | .box .. | .ms .. | .raw _ => true
 | .sl (.own k' _ _) xs => (k' != k) && tk.contains k' && D.safeIL k tk xs
 | .sl (.que _ _) _ => false
 | .sl (.lab _) xs => D.safeIL k tk xs
 | .sl _ xs => D.safeIL k tk xs && D.offIL xs
 | .agg cs | .tup cs | .fn _ cs => D.safeIL k tk cs
 | .imm cs => cs.isEmpty
 | .pred _ => false
def D.safeIL (k : Nat) (tk : List Nat) : List D → Bool
 | [] => true
 | d :: ds => d.safeI k tk && D.safeIL k tk ds
end
theorem safeIL_mem {k : Nat} {tk : List Nat} {ds : List D} (h : D.safeIL k tk ds = true) {d : D} (hd : d ∈ ds) : d.safeI k tk = true := by
 induction ds with
 | nil => cases hd
 | cons x r ih =>
  simp only [D.safeIL, Bool.and_eq_true] at h
  rcases List.mem_cons.1 hd with rfl | hd
  ·exact h.1
  ·exact ih h.2 hd
theorem safeIL_of {k : Nat} {tk : List Nat} {ds : List D} (h : ∀ d ∈ ds, d.safeI k tk = true) : D.safeIL k tk ds = true := by
 induction ds with
 | nil => rfl
 | cons x r ih => simp only [D.safeIL, Bool.and_eq_true]; exact ⟨h x List.mem_cons_self, ih fun d hd => h d (List.mem_cons_of_mem _ hd)⟩
theorem safeI_cells {k : Nat} {tk : List Nat} {x : D} (h : x.safeI k tk = true) : ∀ d ∈ x.cells, d.safeI k tk = true := by
 cases x with
 | agg cs => exact fun d hd => safeIL_mem (ds := cs) (by simpa [D.safeI] using h) hd
 | _ => intro d hd; rw [show d = _ from List.mem_singleton.1 hd]; exact h
theorem safeIL_flat {k : Nat} {tk : List Nat} {xs : List D} (h : D.safeIL k tk xs = true) : ∀ d ∈ flat xs, d.safeI k tk = true := fun d hd => by
 obtain ⟨x, hx, hd⟩ := List.mem_flatMap.1 hd
 exact safeI_cells (safeIL_mem h hx) d hd
theorem offI_map {α : Type} {g : α → D} (h : ∀ x, (g x).offI = true) : ∀ xs : List α, D.offIL (xs.map g) = true
 | [] => rfl
 | x :: r => by simp only [List.map_cons, D.offIL, h x, offI_map h r, Bool.and_self]
theorem safeI_hide {G : Ghost} {w : World} {k g : Nat} {tk : List Nat} (htk : ∀ k' ∈ tk, ∃ x, G.τ k' = some x) (hinj : ∀ k' e z, G.τ k' = some (some (g, e, z)) → k' = k) (hlab : G.lab g = [])
  (hsl : ∀ o v, o < G.lim g → w.cell? ⟨g, o, none⟩ = some v → ∃ n, v = .int .i64 n) {d : D} {v : Value} (h : Rel G w d v) : d.safeI k tk = true → Rel (G.hide g) w d v := by
 have hl : ∀ b, b ≠ g → (G.hide g).lim b = G.lim b := fun b hb => by simp [Ghost.hide, hb]
 induction h with
 | int => exact fun _ => .int
 | bool => exact fun _ => .bool
 | str => exact fun _ => .str
 | box hb => exact fun _ => .box hb
 | ms hb hc hn => exact fun _ => .ms hb hc hn
 | raw h => exact fun _ => .raw h
 | pred => intro h; simp [D.safeI] at h
 | agg hlen hr ih => exact fun h => .agg hlen fun j d v hj hv => ih j d v hj hv (safeIL_mem (by simpa [D.safeI] using h) (List.mem_of_getElem? hj))
 | tup hlen hr ih => exact fun h => .tup hlen fun j d v hj hv => ih j d v hj hv (safeIL_mem (by simpa [D.safeI] using h) (List.mem_of_getElem? hj))
 | fn hlen hr ih => exact fun h => .fn hlen fun j d v hj hv => ih j d v hj hv (safeIL_mem (by simpa [D.safeI] using h) (List.mem_of_getElem? hj))
 | @imm cs b o hk hst hr ih =>
  intro h
  obtain rfl : cs = [] := by simpa [D.safeI] using h
  exact .imm (b := b) (o := o) (fun d hd => by cases hd) (fun j d hj => by simp at hj) (fun j d v hj => by simp at hj)
 | @sl tk0 xs A n c b o s hn hc hm ht hA hu hk hst hr ih =>
  intro h
  have key : (∀ d ∈ flat xs, d.safeI k tk = true) → (flat xs = [] ∨ b ≠ g) → TkOk (G.hide g) w tk0 xs A n c → Rel (G.hide g) w (.sl tk0 xs) (.slice A n c) := fun hs hor ht' => by
   refine .sl (b := b) (o := o) hn hc hm ht' hA hu hk (fun j d hj => ?_) (fun j d v hj hv => ?_)
   ·obtain ⟨h1, h2⟩ := hst j d hj
    have hb : b ≠ g := hor.resolve_left (by rintro e; rw [e] at hj; simp at hj)
    exact ⟨by rw [hl b hb]; exact h1, h2⟩
   ·exact ih j d v hj hv (hs d (List.mem_of_getElem? hj))
  have plain : D.safeIL k tk xs = true → (∀ d, (flat xs)[0]? = some d → d.offI = true) → TkOk (G.hide g) w tk0 xs A n c → Rel (G.hide g) w (.sl tk0 xs) (.slice A n c) := fun hs ho ht' => by
   refine key (safeIL_flat hs) ?_ ht'
   cases hf : flat xs with
   | nil => exact .inl rfl
   | cons d0 r =>
    right
    rintro rfl
    have h0 : (flat xs)[0]? = some d0 := by rw [hf]; rfl
    obtain ⟨h1, v, h2⟩ := hst 0 d0 h0
    obtain ⟨n', rfl⟩ := hsl _ _ h1 h2
    have h3 := hr 0 d0 _ h0 h2
    have h4 := ho d0 h0
    cases h3 <;> simp [D.offI] at h4
  have hoff : D.offIL xs = true → ∀ d, (flat xs)[0]? = some d → d.offI = true := fun ho d hd => by
   cases xs with
   | nil => simp [flat] at hd
   | cons x r =>
    simp only [D.offIL, Bool.and_eq_true] at ho
    have hx : flat (x :: r) = x :: flat r := by
     have : x.cells = [x] := by
      have := ho.1
      cases x <;> first | rfl | (simp [D.offI] at this)
     simp [flat, this]
    rw [hx] at hd
    obtain rfl := Option.some.inj hd
    exact ho.1
  have h2 : ∀ {a b : Bool}, (a && b) = true → a = true ∧ b = true := fun {a b} h => by simpa using h
  cases tk0 with
  | que k2 e => simp [D.safeI] at h
  | any => have := h2 (by simpa only [D.safeI] using h); exact plain this.1 (hoff this.2) ht
  | nil => have := h2 (by simpa only [D.safeI] using h); exact plain this.1 (hoff this.2) ht
  | nl => have := h2 (by simpa only [D.safeI] using h); exact plain this.1 (hoff this.2) ht
  | nn => have := h2 (by simpa only [D.safeI] using h); exact plain this.1 (hoff this.2) ht
  | full => have := h2 (by simpa only [D.safeI] using h); exact plain this.1 (hoff this.2) ht
  | lab l =>
   refine key (safeIL_flat (by simpa [D.safeI] using h)) ?_ ht
   rcases ht with rfl | ⟨g', o', e1, e2, e3⟩
   ·exact .inl rfl
   ·rcases hA with rfl | hA
    ·exact .inl rfl
    ·right
     rintro rfl
     rw [e1] at hA
     simp only [Option.some.injEq, Addr.mk.injEq] at hA
     rw [hA.1] at e2
     exact e3 (by rw [← e2, hlab])
  | own k' e z =>
   simp only [D.safeI, Bool.and_eq_true, bne_iff_ne, ne_eq, List.contains_eq_mem, decide_eq_true_eq] at h
   obtain ⟨⟨h1, h2⟩, h3⟩ := h
   obtain ⟨x, hx⟩ := htk k' h2
   simp only [TkOk, hx] at ht
   match x, hx, ht with
   | none, hx, ht =>
    have : xs = [] := List.length_eq_zero_iff.1 (hn.symm.trans ht.1)
    subst this
    exact key (safeIL_flat h3) (.inl rfl) (by simp only [TkOk, show (G.hide g).τ k' = some none from hx]; exact ht)
   | some (g', e', z'), hx, ht =>
    have hg : g' ≠ g := by rintro rfl; exact h1 (hinj k' e' z' hx)
    refine key (safeIL_flat h3) ?_ ?_
    ·rcases hA with rfl | hA
     ·exact .inl rfl
     ·right
      rintro rfl
      rw [ht.2.1] at hA
      simp only [Option.some.injEq, Addr.mk.injEq] at hA
      exact hg hA.1
    ·simp only [TkOk, show (G.hide g).τ k' = some (some (g', e', z')) from hx]
     rw [hl g' hg]
     exact ht
mutual
theorem safeI_tks {k : Nat} {tk : List Nat} : ∀ (d : D), d.safeI k tk = true → ∀ k' ∈ d.tks, k' ≠ k
 | .int .., _, _, h => by simp [D.tks] at h
 | .bool _, _, _, h => by simp [D.tks] at h
 | .str _, _, _, h => by simp [D.tks] at h
 | .box .., _, _, h => by simp [D.tks] at h
 | .ms .., _, _, h => by simp [D.tks] at h
 | .raw _, _, _, h => by simp [D.tks] at h
 | .imm _, _, _, h => by simp [D.tks] at h
 | .pred _, _, _, h => by simp [D.tks] at h
 | .sl tk0 xs, hs, k', h => by
  cases tk0 with
  | own k2 e z =>
   simp only [D.tks, List.mem_singleton] at h
   subst h
   simp only [D.safeI, Bool.and_eq_true, bne_iff_ne] at hs
   exact hs.1.1
  | que k2 e => simp [D.safeI] at hs
  | _ => simp [D.tks] at h
 | .agg cs, hs, k', h => safeIL_tks cs (by simpa [D.safeI] using hs) k' (by simpa [D.tks] using h)
 | .tup cs, hs, k', h => safeIL_tks cs (by simpa [D.safeI] using hs) k' (by simpa [D.tks] using h)
 | .fn _ cs, hs, k', h => safeIL_tks cs (by simpa [D.safeI] using hs) k' (by simpa [D.tks] using h)
theorem safeIL_tks {k : Nat} {tk : List Nat} : ∀ (ds : List D), D.safeIL k tk ds = true → ∀ k' ∈ D.tksL ds, k' ≠ k
 | [], _, _, h => by simp [D.tksL] at h
 | d :: ds, hs, k', h => by
  simp only [D.safeIL, Bool.and_eq_true] at hs
  simp only [D.tksL, List.mem_append] at h
  rcases h with h | h
  ·exact safeI_tks d hs.1 k' h
  ·exact safeIL_tks ds hs.2 k' h
end
theorem mem_idsLO {ds : List D} {d : D} (hd : d ∈ ds) {i : Nat} (h : i ∈ d.ids) : i ∈ D.idsL ds := by
 induction ds with
 | nil => cases hd
 | cons x r ih =>
  simp only [D.idsL, List.mem_append]
  rcases List.mem_cons.1 hd with rfl | hd
  ·exact .inl h
  ·exact .inr (ih hd)
theorem sw_thawO {S : Setup} {B : Base} {R : LS → Prop} {kk : List VItem} {L : LS} (t id : Nat) {k : Nat} {e : TypeId} {ys : List Int} (ht : look L.env t = some (.sl (.own k e 1) (ys.map (.int .i64)))) (hk : k ∈ L.toks) (hne : ys ≠ []) (hid : id ∉ L.fix) (hP : ∀ b, B.ab b → ∃ p ∈ B.ids, p.2 = b)
  (env' : List (Nat × D)) (bx' : List (Nat × List D)) (henv : ∀ p ∈ env', look L.env p.1 = some p.2 ∧ p.2.safeI k L.toks = true ∧ id ∉ p.2.ids) (hbx : ∀ p ∈ bx', p.1 ≠ id ∧ look L.boxes p.1 = some p.2 ∧ D.safeIL k L.toks p.2 = true ∧ id ∉ D.idsL p.2)
  (h : SW S B R kk ⟨L.n, (t, .ms id ys.length) :: env', (id, ys.map (.int .i64)) :: bx', [], L.toks.filter (fun x => !(x == k)), L.fix⟩) : SW S B R kk L := fun G a w hs => by
 have hW := hs.W
 obtain ⟨v, hv, hrel⟩ := hs.env t _ ht
 obtain ⟨x, hx⟩ := hW.toks k hk
 have hne' : ys.map (D.int .i64) ≠ [] := by simpa using hne
 cases hrel with
 | @sl _ _ A n c b o s hn hc hm ht' hA hu hk' hst hrr =>
 have hA' := hA.resolve_left hne'
 subst hA'
 simp only [TkOk, hx] at ht'
 match x, hx, ht' with
 | none, _, ht' => exact absurd (List.length_eq_zero_iff.1 (hn.symm.trans ht'.1)) hne'
 | some (g, e2, z2), hx, ht' =>
 obtain ⟨⟨rfl, rfl⟩, h2, h3, h4, h5⟩ := ht'
 simp only [Option.some.injEq, Addr.mk.injEq, and_true] at h2
 obtain ⟨rfl, rfl⟩ := h2
 obtain ⟨t1, t2, ⟨cur, t3, t4⟩, t5⟩ := hW.tau k b e2 1 hx
 have hg : B.w.heap.size ≤ b := by
  rcases t1 with h1 | h1
  ·exact h1
  ·obtain ⟨p, hp, rfl⟩ := hP b h1
   exact absurd (hW.ids p hp) (t5 p.1)
 have hfl : flat (ys.map (D.int .i64)) = ys.map (.int .i64) := flat_ints ys
 have hlen : n = ys.length := by simpa using hn
 have hlimb : G.lim b = ys.length := by omega
 have hsl : ∀ o v, o < G.lim b → w.cell? ⟨b, o, none⟩ = some v → ∃ m, v = .int .i64 m := fun o v ho hv => by
  have ho' : o < ys.length := by omega
  have h0 : (flat (ys.map (D.int .i64)))[o]? = some (.int .i64 ys[o]) := by rw [hfl]; simp [ho']
  have hr := hrr o _ v h0 (by rw [Nat.zero_add]; exact hv)
  cases hr; exact ⟨_, rfl⟩
 have hide : ∀ {d v}, d.safeI k L.toks = true → Rel G w d v → Rel (G.hide b) w d v := fun {d v} hd hr => safeI_hide hW.toks (fun k' e z h => hW.tinj k' k b e z e2 1 h hx) (hW.tlab k b e2 1 hx) hsl hr hd
 let G2 : Ghost := { lim := fun q => if q = b then 0 else G.lim q, lab := G.lab, β := fun i => if i = id then some b else G.β i, τ := fun k' => if k' = k then none else G.τ k' }
 have conv : ∀ {d v}, d.safeI k L.toks = true → id ∉ d.ids → Rel G w d v → Rel G2 w d v := fun {d v} hd hi hr => by
  refine (hide hd hr).mono (show Mono (G.hide b) G2 w w from ⟨fun _ _ _ h1 h2 => ⟨h1, h2⟩, fun _ _ => rfl⟩) (fun i hii g hg => ?_) (fun k' hk2 => ?_)
  ·have : i ≠ id := fun e => hi (e ▸ hii)
   simp only [G2, if_neg this]; exact hg
  ·have : k' ≠ k := safeI_tks d hd k' hk2
   refine .inr ⟨by simp only [G2, if_neg this]; rfl, fun _ _ _ _ => ⟨rfl, rfl⟩⟩
 refine h G2 a w ⟨hs.defers, hs.size, fun t' d hd => ?_, ?_, hs.fixed⟩
 ·simp only [look] at hd
  split at hd
  ·rename_i e0
   subst e0
   obtain rfl := Option.some.inj hd
   refine ⟨_, hv, ?_⟩
   rw [hlen] at hc ⊢
   exact .ms (by simp [G2]) hc hm
  ·obtain ⟨h1, h2, h3⟩ := henv _ (mem_of_look hd)
   obtain ⟨v', hv', hr'⟩ := hs.env t' _ h1
   exact ⟨v', hv', conv h2 h3 hr'⟩
 ·exact {
   boxes := fun i cs' hl => by
    simp only [look] at hl
    split at hl
    ·rename_i e0
     subst e0
     obtain rfl := Option.some.inj hl
     refine ⟨b, by simp [G2], ⟨cur, e2, t3, by simp; omega, fun j d v hd hv => ?_⟩, by simp [G2], .inl hg⟩
     have hcell : w.cell? ⟨b, 0 + j, none⟩ = some v := by
      rw [Nat.zero_add]
      unfold World.cell?
      simp only [t3]
      exact hv
     have hr := hrr j d v (by rw [hfl]; exact hd) hcell
     have hsc : d.sca = true := by
      have := List.mem_of_getElem? hd
      obtain ⟨y, _, rfl⟩ := List.mem_map.1 this
      rfl
     exact sca_rel hsc hr
    ·obtain ⟨h1, h2, h3, h4⟩ := hbx _ (mem_of_look hl)
     obtain ⟨g, e1, ⟨vs, ee, f1, f2, f3⟩, e3, e4⟩ := hW.boxes i cs' h2
     refine ⟨g, by simp only [G2]; rw [if_neg h1]; exact e1, ⟨vs, ee, f1, f2, fun j d v hd hv => ?_⟩, ?_, e4⟩
     ·have hm := List.mem_of_getElem? hd
      exact conv (safeIL_mem h3 hm) (fun hi => h4 (mem_idsLO hm hi)) (f3 j d v hd hv)
     ·simp only [G2]; split
      ·rfl
      ·exact e3
   robs := fun i cs' hl => by cases hl
   toks := fun k' hk' => by
    simp only [List.mem_filter, Bool.not_eq_true', beq_eq_false_iff_ne] at hk'
    obtain ⟨y, hy⟩ := hW.toks k' hk'.1
    exact ⟨y, by simp only [G2]; rw [if_neg hk'.2]; exact hy⟩
   tau := fun k' g e' z hk' => by
    simp only [G2] at hk'
    split at hk'
    ·cases hk'
    ·rename_i hkk
     obtain ⟨q1, q2, ⟨cur', q3, q4⟩, q5⟩ := hW.tau k' g e' z hk'
     refine ⟨q1, q2, ⟨cur', q3, ?_⟩, fun i => ?_⟩
     ·simp only [G2]; split
      ·omega
      ·exact q4
     ·simp only [G2]; split
      ·intro e0
       obtain rfl := Option.some.inj e0
       exact hkk (hW.tinj k' k _ e' z e2 1 hk' hx)
      ·exact q5 i
   tinj := fun k1 k2 g e1 z1 e3 z3 h1 h2 => by
    simp only [G2] at h1 h2
    split at h1
    ·cases h1
    ·split at h2
     ·cases h2
     ·exact hW.tinj k1 k2 g e1 z1 e3 z3 h1 h2
   binj := fun i j g hi hj => by
    simp only [G2] at hi hj
    split at hi <;> split at hj
    ·omega
    ·obtain rfl := Option.some.inj hi; exact absurd hj (t5 j)
    ·obtain rfl := Option.some.inj hj; exact absurd hi (t5 i)
    ·exact hW.binj i j g hi hj
   blt := fun i g hi => by
    simp only [G2] at hi
    split at hi
    ·obtain rfl := Option.some.inj hi; exact heap_lt t3
    ·exact hW.blt i g hi
   lablt := hW.lablt
   old := fun q hlt hqa => by
    obtain ⟨k1, k2⟩ := hW.old q hlt hqa
    exact ⟨k1, by simp only [G2]; rw [if_neg (by omega)]; exact k2⟩
   olda := fun q hlt => by
    simp only [G2]
    rw [if_neg (by omega)]
    exact hW.olda q hlt
   oldl := hW.oldl
   tlab := fun k' g e' z hk' => by
    simp only [G2] at hk'
    split at hk'
    ·cases hk'
    ·exact hW.tlab k' g e' z hk'
   blab := fun i g hi => by
    simp only [G2] at hi
    split at hi
    ·obtain rfl := Option.some.inj hi; exact hW.tlab k _ e2 1 hx
    ·exact hW.blab i g hi
   oldu := hW.oldu
   labw := hW.labw
   ids := fun p hp => by
    have : p.1 ≠ id := fun e0 => hid (e0 ▸ hs.fixed p hp)
    simp only [G2]; rw [if_neg this]; exact hW.ids p hp
   sz := hW.sz
   os := hW.os
   tape := hW.tape
   out := hW.out
   dr := hW.dr }
theorem baseOf_P {G : Ghost} {w : World} {bx : List (Nat × List D)} (b : Nat) (h : (baseOf G w bx []).ab b) : ∃ p ∈ (baseOf G w bx []).ids, p.2 = b := by
 rcases h with ⟨p, hp, hb⟩ | ⟨k, hk, _⟩
 ·exact ⟨(p.1, b), List.mem_filterMap.2 ⟨p, hp, by rw [hb]; rfl⟩, rfl⟩
 ·cases hk
theorem fc_bodyP {S : Setup} {f : FuncId} {fn : Func} {c : Code} {ro bx : List (Nat × List D)} {args : List D} {d : D} {bx' : List (Nat × List D)}
  (hf : S.P.funcs[f]? = some fn) (hb : fn.body = some c) (hname : (fn.name == "runtime.NumGoroutine") = false) (hn : args.length ≤ fn.ntmps)
  (h : ∀ B : Base, (∀ b, B.ab b → ∃ p ∈ B.ids, p.2 = b) → SW S B (Ret S fn.results.toList d bx') [.code c] ⟨fn.ntmps, enumD 0 args, bx, ro, [], bx.map (·.1)⟩) : FC S f ro bx [] args d bx' [] := by
 refine ⟨⟨fn, hf, hname, by rw [hb]; rfl⟩, fun w G vals hs => calls_of_sw hf hb hn hs (h _ baseOf_P) fun G' L' a' w' hs' hr => ?_⟩
 obtain ⟨d0, v, ⟨h1, h2⟩, h3, h4⟩ := resY_sound hs' hr
 refine ⟨v, h3, v, { G' with τ := fun _ => none }, rfl, rfl, rfl, fun t d' hd => ?_, ?_, hs.fixed⟩
 ·simp only [look] at hd
  split at hd
  ·rename_i ht
   subst ht
   obtain rfl := Option.some.inj hd
   refine ⟨v, rfl, ?_⟩
   exact (h4.le h1).mono (show Mono G' { G' with τ := fun _ => none } w' w' from ⟨fun _ _ _ h1 h2 => ⟨h1, h2⟩, fun _ _ => rfl⟩) (fun _ _ _ h => h) (fun _ _ => .inl rfl)
  ·cases hd
 ·exact simW_noTok (hs'.W.less h2 (ro' := []) (by simp) (tk' := []) (by simp))
theorem sw_thawAt {S : Setup} {B : Base} {R : LS → Prop} {kk : List VItem} {L : LS} (rid t id : Nat) {ops : Array Oper} {dr : Bool} {k : Nat} {e : TypeId} {ys : List Int} (ht : look L.env t = some (.sl (.own k e 1) (ys.map (.int .i64)))) (hk : k ∈ L.toks) (hne : ys ≠ []) (hid : id ∉ L.fix) (hP : ∀ b, B.ab b → ∃ p ∈ B.ids, p.2 = b)
  (env' : List (Nat × D)) (bx' : List (Nat × List D)) (henv : ∀ p ∈ env', look L.env p.1 = some p.2 ∧ p.2.safeI k L.toks = true ∧ id ∉ p.2.ids) (hbx : ∀ p ∈ bx', p.1 ≠ id ∧ look L.boxes p.1 = some p.2 ∧ D.safeIL k L.toks p.2 = true ∧ id ∉ D.idsL p.2)
  (h : SW S B R (.code (.region rid ops dr) :: kk) ⟨L.n, (t, .ms id ys.length) :: env', (id, ys.map (.int .i64)) :: bx', [], L.toks.filter (fun x => !(x == k)), L.fix⟩) : SW S B R (.code (.region rid ops dr) :: kk) L :=
 sw_thawO t id ht hk hne hid hP env' bx' henv hbx h
end Go.Lg
