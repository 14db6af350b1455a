/-
  Lg, part 1: logical values ('D': lists in the place of memory), what it means that a value of the model reads as one ('Rel'), and that such a reading stands while memory grows.
-/
import Derived.WalkKit
import Derived.Below
import Derived.Still
import Derived.Laws.AppendOwn
namespace Go.Lg
open Go

/-- What is known of a slice's own memory. -/
inductive Tk where
  | any | nil | nl | nn | full
  | own (k : Nat) (e : TypeId) (z : Nat)
  | lab (l : List Nat)
  deriving DecidableEq, Repr

structure Ghost where
  lim : Nat → Nat
  lab : Nat → List Nat
  β : Nat → Option Nat
  τ : Nat → Option (Option (Nat × TypeId × Nat))

inductive D where
  | int (k : IntKind) (n : Int)
  | bool (b : Bool)
  | str (s : ByteArray)
  | sl (tk : Tk) (xs : List D)
  | agg (cs : List D)
  | fn (f : Nat) (cap : List D)
  | box (id off : Nat)
  | ms (id n : Nat)
  | imm (cs : List D)
  | tup (ds : List D)
  | raw (v : Value)
  | pred (I : Ghost → World → Value → Prop)

instance : Inhabited D := ⟨.raw undef⟩

def D.cells : D → List D
  | .agg cs => cs
  | d => [d]

/-- May lie in one cell of memory that never changes. -/
def D.memOk : D → Bool
  | .int .. | .bool _ | .str _ | .imm _ => true
  | .sl (.own _ _ _) _ => false
  | .sl _ _ => true
  | .fn _ cap => cap.isEmpty
  | _ => false

/-- Takes one cell. -/
def D.one : D → Bool
  | .agg _ | .tup _ | .pred _ => false
  | .raw v => v.oneCell'
  | _ => true

mutual
def D.ids : D → List Nat
  | .box id _ => [id]
  | .ms id _ => [id]
  | .agg cs => D.idsL cs
  | .fn _ cap => D.idsL cap
  | .tup ds => D.idsL ds
  | _ => []
def D.idsL : List D → List Nat
  | [] => []
  | d :: ds => d.ids ++ D.idsL ds
end
mutual
def D.tks : D → List Nat
  | .sl (.own k _ _) _ => [k]
  | .agg cs => D.tksL cs
  | .fn _ cap => D.tksL cap
  | .tup ds => D.tksL ds
  | _ => []
def D.tksL : List D → List Nat
  | [] => []
  | d :: ds => d.tks ++ D.tksL ds
end

def flat (xs : List D) : List D := xs.flatMap D.cells

def TkOk (G : Ghost) (w : World) : Tk → List D → Option Addr → Nat → Nat → Prop
  | .any, _, _, _, _ => True
  | .nil, _, A, n, c => A = none ∧ n = 0 ∧ c = 0
  | .nl, _, A, n, _ => A = none ∧ n = 0
  | .nn, _, A, _, _ => A ≠ none
  | .full, _, _, n, c => n = c
  | .own k e z, xs, A, n, c => match G.τ k with
    | none => True
    | some none => n = 0 ∧ c = 0
    | some (some (g, e', z')) => (e' = e ∧ z' = z) ∧ A = some ⟨g, 0, none⟩ ∧ n * z = G.lim g ∧ w.shape? g = some (e, c * z) ∧ ∀ x ∈ xs, x.cells.length = z
  | .lab l, xs, A, _, _ => xs = [] ∨ ∃ g o, A = some ⟨g, o, none⟩ ∧ G.lab g = l ∧ l ≠ []

/-- What stays readable. -/
structure Mono (G G' : Ghost) (w w' : World) : Prop where
  cell : ∀ b o v, o < G.lim b → w.cell? ⟨b, o, none⟩ = some v → o < G'.lim b ∧ w'.cell? ⟨b, o, none⟩ = some v
  lab : ∀ b, G.lab b ≠ [] → G'.lab b = G.lab b

theorem Mono.trans {G G' G'' : Ghost} {w w' w'' : World} (h : Mono G G' w w') (h' : Mono G' G'' w' w'') : Mono G G'' w w'' :=
  ⟨fun b o v h1 h2 => let ⟨q1, q2⟩ := h.cell b o v h1 h2; h'.cell b o v q1 q2, fun b hb => (h'.lab b (by rw [h.lab b hb]; exact hb)).trans (h.lab b hb)⟩
theorem Mono.refl (G : Ghost) (w : World) : Mono G G w w := ⟨fun _ _ _ h1 h2 => ⟨h1, h2⟩, fun _ _ => rfl⟩

inductive Rel (G : Ghost) (w : World) : D → Value → Prop
  | int {k n} : Rel G w (.int k n) (.int k n)
  | bool {b} : Rel G w (.bool b) (.bool b)
  | str {s} : Rel G w (.str s) (.string s)
  | sl {tk : Tk} {xs : List D} {A : Option Addr} {n c b o s : Nat} (hn : n = xs.length) (hc : n ≤ c) (hm : c ≤ maxLen) (ht : TkOk G w tk xs A n c)
      (hA : xs = [] ∨ A = some ⟨b, o, none⟩) (hu : ∀ x ∈ xs, x.cells.length = s) (hk : ∀ d ∈ flat xs, d.memOk = true)
      (hst : ∀ j d, (flat xs)[j]? = some d → o + j < G.lim b ∧ ∃ v, w.cell? ⟨b, o + j, none⟩ = some v)
      (hr : ∀ j d v, (flat xs)[j]? = some d → w.cell? ⟨b, o + j, none⟩ = some v → Rel G w d v) : Rel G w (.sl tk xs) (.slice A n c)
  | agg {cs : List D} {vl : List Value} (hl : vl.length = cs.length) (hr : ∀ (j : Nat) d v, cs[j]? = some d → vl[j]? = some v → Rel G w d v) : Rel G w (.agg cs) (.agg vl.toArray)
  | fn {f : Nat} {cap : List D} {vl : List Value} (hl : vl.length = cap.length) (hr : ∀ (j : Nat) d v, cap[j]? = some d → vl[j]? = some v → Rel G w d v) : Rel G w (.fn f cap) (.func (.func f) #[] vl.toArray)
  | box {id off g : Nat} (hb : G.β id = some g) : Rel G w (.box id off) (.pointer (some ⟨g, off, none⟩))
  | ms {id n c g : Nat} (hb : G.β id = some g) (hc : n ≤ c) (hn : c ≤ maxLen) : Rel G w (.ms id n) (.slice (some ⟨g, 0, none⟩) n c)
  | imm {cs : List D} {b o : Nat} (hk : ∀ d ∈ cs, d.memOk = true)
      (hst : ∀ (j : Nat) d, cs[j]? = some d → o + j < G.lim b ∧ ∃ v, w.cell? ⟨b, o + j, none⟩ = some v)
      (hr : ∀ (j : Nat) d v, cs[j]? = some d → w.cell? ⟨b, o + j, none⟩ = some v → Rel G w d v) : Rel G w (.imm cs) (.pointer (some ⟨b, o, none⟩))
  | tup {ds : List D} {vl : List Value} (hl : vl.length = ds.length) (hr : ∀ (j : Nat) d v, ds[j]? = some d → vl[j]? = some v → Rel G w d v) : Rel G w (.tup ds) (.tuple vl.toArray)
  | raw {v : Value} (h : ∀ cs, v ≠ .agg cs) : Rel G w (.raw v) v
  | pred {I : Ghost → World → Value → Prop} {v : Value} (hv : ∀ cs, v ≠ .agg cs) (h : ∀ G' w', Mono G G' w w' → I G' w' v) : Rel G w (.pred I) v

theorem memOk_ids : ∀ {d : D}, d.memOk = true → d.ids = []
  | .int .., _ => rfl
  | .bool _, _ => rfl
  | .str _, _ => rfl
  | .imm _, _ => rfl
  | .sl _ _, _ => rfl
  | .fn _ cap, h => by
    have : cap = [] := by simpa [D.memOk] using h
    subst this; rfl
theorem memOk_tks : ∀ {d : D}, d.memOk = true → d.tks = []
  | .int .., _ => rfl
  | .bool _, _ => rfl
  | .str _, _ => rfl
  | .imm _, _ => rfl
  | .sl tk _, h => by cases tk <;> first | rfl | (simp [D.memOk] at h)
  | .fn _ cap, h => by
    have : cap = [] := by simpa [D.memOk] using h
    subst this; rfl

theorem mem_idsL {ds : List D} {d : D} {i : Nat} (h : d ∈ ds) (hi : i ∈ d.ids) : i ∈ D.idsL ds := by
  induction ds with
  | nil => cases h
  | cons x r ih =>
    simp only [D.idsL, List.mem_append]
    rcases List.mem_cons.1 h with rfl | h
    · exact .inl hi
    · exact .inr (ih h)
theorem mem_tksL {ds : List D} {d : D} {i : Nat} (h : d ∈ ds) (hi : i ∈ d.tks) : i ∈ D.tksL ds := by
  induction ds with
  | nil => cases h
  | cons x r ih =>
    simp only [D.tksL, List.mem_append]
    rcases List.mem_cons.1 h with rfl | h
    · exact .inl hi
    · exact .inr (ih h)

theorem Rel.mono {G G' : Ghost} {w w' : World} (hm : Mono G G' w w') {d : D} {v : Value} (h : Rel G w d v) :
    (∀ i ∈ d.ids, ∀ g, G.β i = some g → G'.β i = some g) →
    (∀ k ∈ d.tks, G'.τ k = none ∨ (G'.τ k = G.τ k ∧ ∀ g e z, G.τ k = some (some (g, e, z)) → G'.lim g = G.lim g ∧ w'.shape? g = w.shape? g)) → Rel G' w' d v := by
  induction h with
  | int => exact fun _ _ => .int
  | bool => exact fun _ _ => .bool
  | str => exact fun _ _ => .str
  | @sl tk xs A n c b o s hn hc hmx ht hA hu hk hst hr ih =>
    intro hi hkk
    refine .sl (b := b) (o := o) hn hc hmx ?_ hA hu hk ?_ ?_
    · cases tk with
      | own k e z =>
        rcases hkk k (by simp [D.tks]) with h1 | ⟨h1, h2⟩
        · simp only [TkOk, h1]
        · simp only [TkOk] at ht ⊢
          rw [h1]
          generalize hg : G.τ k = x at *
          match x, hg with
          | none, _ => exact trivial
          | some none, _ => exact ht
          | some (some (g, e', z')), _ =>
            obtain ⟨e1, e2, e3, e4, e5⟩ := ht
            obtain ⟨k1, k2⟩ := h2 g e' z' rfl
            exact ⟨e1, e2, by rw [k1]; exact e3, by rw [k2]; exact e4, e5⟩
      | lab l =>
        rcases ht with ht | ⟨g, o', e1, e2, e3⟩
        · exact .inl ht
        · exact .inr ⟨g, o', e1, by rw [hm.lab g (by rw [e2]; exact e3)]; exact e2, e3⟩
      | _ => exact ht
    · intro j d hj
      obtain ⟨h1, v, h2⟩ := hst j d hj
      have := hm.cell b (o + j) v h1 h2
      exact ⟨this.1, v, this.2⟩
    · intro j d v hj hv
      obtain ⟨h1, v', h2⟩ := hst j d hj
      have := (hm.cell b (o + j) v' h1 h2).2
      rw [this] at hv
      obtain rfl : v' = v := by simpa using hv
      have hmem := hk d (List.mem_of_getElem? hj)
      exact ih j d v' hj h2 (by rw [memOk_ids hmem]; simp) (by rw [memOk_tks hmem]; simp)
  | @agg cs vl hl hr ih =>
    intro hi hk
    exact .agg hl fun j d v hj hv => ih j d v hj hv (fun i hi' => hi i (mem_idsL (List.mem_of_getElem? hj) hi')) (fun i hi' => hk i (mem_tksL (List.mem_of_getElem? hj) hi'))
  | @fn f cap vl hl hr ih =>
    intro hi hk
    exact .fn hl fun j d v hj hv => ih j d v hj hv (fun i hi' => hi i (mem_idsL (List.mem_of_getElem? hj) hi')) (fun i hi' => hk i (mem_tksL (List.mem_of_getElem? hj) hi'))
  | box hb => exact fun hi _ => .box (hi _ (by simp [D.ids]) _ hb)
  | ms hb hc hn => exact fun hi _ => .ms (hi _ (by simp [D.ids]) _ hb) hc hn
  | @imm cs b o hk hst hr ih =>
    intro _ _
    refine .imm hk ?_ ?_
    · intro j d hj
      obtain ⟨h1, v, h2⟩ := hst j d hj
      have := hm.cell b (o + j) v h1 h2
      exact ⟨this.1, v, this.2⟩
    · intro j d v hj hv
      obtain ⟨h1, v', h2⟩ := hst j d hj
      have := (hm.cell b (o + j) v' h1 h2).2
      rw [this] at hv
      obtain rfl : v' = v := by simpa using hv
      have hmem := hk d (List.mem_of_getElem? hj)
      exact ih j d v' hj h2 (by rw [memOk_ids hmem]; simp) (by rw [memOk_tks hmem]; simp)
  | @tup ds vl hl hr ih =>
    intro hi hk
    exact .tup hl fun j d v hj hv => ih j d v hj hv (fun i hi' => hi i (mem_idsL (List.mem_of_getElem? hj) hi')) (fun i hi' => hk i (mem_tksL (List.mem_of_getElem? hj) hi'))
  | raw h => exact fun _ _ => .raw h
  | pred hv h => exact fun _ _ => .pred hv fun G2 w2 hm2 => h G2 w2 (hm.trans hm2)

/-- A weaker reading of the same value. -/
inductive D.le : D → D → Prop
  | refl (d : D) : D.le d d
  | any {tk : Tk} {xs : List D} : D.le (.sl tk xs) (.sl .any xs)
  | emp {tk : Tk} {l : List Nat} : D.le (.sl tk []) (.sl (.lab l) [])
  | deep {tk : Tk} {xs ys : List D} (hl : xs.map (fun x => x.cells.length) = ys.map (fun x => x.cells.length)) (hf : (flat xs).length = (flat ys).length)
      (h : ∀ (j : Nat) c d, (flat xs)[j]? = some c → (flat ys)[j]? = some d → D.le c d) : D.le (.sl tk xs) (.sl .any ys)
  | agg {cs ds : List D} (hl : cs.length = ds.length) (h : ∀ (j : Nat) c d, cs[j]? = some c → ds[j]? = some d → D.le c d) : D.le (.agg cs) (.agg ds)
  | tup {cs ds : List D} (hl : cs.length = ds.length) (h : ∀ (j : Nat) c d, cs[j]? = some c → ds[j]? = some d → D.le c d) : D.le (.tup cs) (.tup ds)
  | kn {I : Ghost → World → Value → Prop} {d : D} (h : ∀ G w v, Rel G w (.pred I) v → Rel G w d v) : D.le (.pred I) d

theorem le_memOk {c d : D} (h : D.le c d) (hm : c.memOk = true) : d.memOk = true := by
  cases h with
  | refl => exact hm
  | any => rfl
  | emp => rfl
  | deep => rfl
  | agg => cases hm
  | tup => cases hm
  | kn => cases hm
theorem Rel.le {G : Ghost} {w : World} {d d' : D} (hle : D.le d d') : ∀ {v : Value}, Rel G w d v → Rel G w d' v := by
  induction hle with
  | refl => exact id
  | any =>
    intro v h
    cases h with
    | sl hn hc hm ht hA hu hk hst hr => exact .sl hn hc hm trivial hA hu hk hst hr
  | emp =>
    intro v h
    cases h with
    | sl hn hc hm ht hA hu hk hst hr => exact .sl hn hc hm (.inl rfl) hA hu hk hst hr
  | @deep tk xs ys hl hf h ih =>
    intro v hv
    cases hv with
    | @sl _ _ A n c b o s hn hc hm ht hA hu hk hst hr =>
      have hlen : xs.length = ys.length := by simpa using congrArg List.length hl
      refine .sl (b := b) (o := o) (s := s) (hn.trans hlen) hc hm trivial ?_ (fun y hy => ?_) (fun d hd => ?_) (fun j d hd => ?_) (fun j d v hd hv => ?_)
      · rcases hA with hA | hA
        · exact .inl (List.length_eq_zero_iff.1 (by rw [← hlen, hA]; rfl))
        · exact .inr hA
      · obtain ⟨j, hj, rfl⟩ := List.getElem_of_mem hy
        have h1 := congrArg (fun l => l[j]?) hl
        simp only [List.getElem?_map, List.getElem?_eq_getElem hj, List.getElem?_eq_getElem (show j < xs.length by omega), Option.map_some, Option.some.injEq] at h1
        rw [← h1]; exact hu _ (List.getElem_mem _)
      · obtain ⟨j, hj, rfl⟩ := List.getElem_of_mem hd
        have hj' : j < (flat xs).length := by omega
        exact le_memOk (h j _ _ (List.getElem?_eq_getElem hj') (List.getElem?_eq_getElem hj)) (hk _ (List.getElem_mem hj'))
      · have hj' : j < (flat xs).length := by have := (List.getElem?_eq_some_iff.1 hd).1; omega
        exact hst j _ (List.getElem?_eq_getElem hj')
      · have hj' : j < (flat xs).length := by have := (List.getElem?_eq_some_iff.1 hd).1; omega
        exact ih j _ _ (List.getElem?_eq_getElem hj') hd (hr j _ v (List.getElem?_eq_getElem hj') hv)
  | agg hl h ih =>
    intro v hv
    cases hv with
    | agg hl' hr =>
      refine .agg (hl'.trans hl) fun j d v hd hv => ?_
      have hlt := (List.getElem?_eq_some_iff.1 hd).1
      exact ih j _ _ (List.getElem?_eq_getElem (by omega)) hd (hr j _ _ (List.getElem?_eq_getElem (by omega)) hv)
  | kn h => exact fun hr => h _ _ _ hr
  | tup hl h ih =>
    intro v hv
    cases hv with
    | tup hl' hr =>
      refine .tup (hl'.trans hl) fun j d v hd hv => ?_
      have hlt := (List.getElem?_eq_some_iff.1 hd).1
      exact ih j _ _ (List.getElem?_eq_getElem (by omega)) hd (hr j _ _ (List.getElem?_eq_getElem (by omega)) hv)

theorem Rel.one {G : Ghost} {w : World} {d : D} {v : Value} (h : Rel G w d v) (h1 : d.one = true) : v.oneCell' = true := by
  cases h <;> first | rfl | exact h1 | (simp [D.one] at h1)

/-- The cells of a value read as the cells of its datum. -/
theorem Rel.cells {G : Ghost} {w : World} {d : D} {v : Value} (h : Rel G w d v) :
    v.cells.size = d.cells.length ∧ ∀ (j : Nat) c u, d.cells[j]? = some c → v.cells[j]? = some u → Rel G w c u := by
  have simple : d.cells = [d] → v.cells = #[v] → v.cells.size = d.cells.length ∧ ∀ (j : Nat) c u, d.cells[j]? = some c → v.cells[j]? = some u → Rel G w c u := by
    intro e1 e2
    rw [e1, e2]
    refine ⟨rfl, fun j c u hc hu => ?_⟩
    cases j with
    | zero => simp at hc hu; subst hc; subst hu; exact h
    | succ j => simp at hc
  cases h with
  | agg hl hr => exact ⟨by simpa [Value.cells, D.cells] using hl, fun j c u hc hu => hr j c u hc (by simpa [Value.cells] using hu)⟩
  | raw hv => refine simple rfl ?_; cases v <;> first | rfl | exact absurd rfl (hv _)
  | pred hv _ => refine simple rfl ?_; cases v <;> first | rfl | exact absurd rfl (hv _)
  | _ => exact simple rfl rfl

end Go.Lg
