/-
  Lg, part 2: the logical state of a running function ('LS'), how it stands to the model's frame and world ('Sim'), and the contract of a function ('FC').
-/
import Derived.Test.YtenjmepbaajkjaaLgRel
namespace Go.Lg
open Go Go.RowKit

def look {α : Type} : List (Nat × α) → Nat → Option α
  | [], _ => none
  | (k, d) :: r, t => if k = t then some d else look r t
def setA {α : Type} : List (Nat × α) → Nat → α → List (Nat × α)
  | [], t, d => [(t, d)]
  | (k, x) :: r, t, d => if k = t then (t, d) :: r else (k, x) :: setA r t d
theorem look_setA {α : Type} (l : List (Nat × α)) (t : Nat) (d : α) (t' : Nat) : look (setA l t d) t' = if t = t' then some d else look l t' := by
  induction l with
  | nil => simp [setA, look]
  | cons p r ih =>
    obtain ⟨k, x⟩ := p
    by_cases h : k = t
    · subst h
      by_cases h2 : k = t' <;> simp [setA, look, h2]
    · by_cases h2 : k = t'
      · subst h2
        have : t ≠ k := fun e => h e.symm
        simp [setA, look, h, this]
      · simp [setA, look, h, h2, ih]

structure LS where
  n : Nat
  env : List (Nat × D)
  boxes : List (Nat × List D)
  ro : List (Nat × List D)
  toks : List Nat
  fix : List Nat

def LS.get (L : LS) (t : Nat) : Option D := look L.env t
def LS.getBox (L : LS) (id : Nat) : Option (List D) := match look L.boxes id with | some c => some c | none => look L.ro id
def LS.put (L : LS) (t : Nat) (d : D) : LS := { L with env := setA L.env t d }
def LS.putO (L : LS) (t : Option Nat) (d : D) : LS := match t with | some t => L.put t d | none => L

structure Base where
  w : World
  lim : Nat → Nat
  lab : Nat → List Nat
  ab : Nat → Prop
  ids : List (Nat × Nat)

def BoxAt (G : Ghost) (w : World) (g : Nat) (cs : List D) : Prop :=
  ∃ vs e, w.heap[g]? = some (.cells vs e (0, 0)) ∧ cs.length ≤ vs.size ∧ ∀ (j : Nat) d v, cs[j]? = some d → vs[j]? = some v → Rel G w d v

/-- The part of 'Sim' that says nothing of the frame. -/
structure SimW (B : Base) (bx ro : List (Nat × List D)) (tk : List Nat) (G : Ghost) (w : World) : Prop where
  boxes : ∀ id cs, look bx id = some cs → ∃ g, G.β id = some g ∧ BoxAt G w g cs ∧ G.lim g = 0 ∧ (B.w.heap.size ≤ g ∨ B.ab g)
  robs : ∀ id cs, look ro id = some cs → ∃ g, G.β id = some g ∧ BoxAt G w g cs ∧ g < B.w.heap.size ∧ ¬ B.ab g
  toks : ∀ k ∈ tk, ∃ x, G.τ k = some x
  tau : ∀ k g e z, G.τ k = some (some (g, e, z)) → (B.w.heap.size ≤ g ∨ B.ab g) ∧ 0 < z ∧ (∃ cur, w.heap[g]? = some (.cells cur e (0, 0)) ∧ G.lim g ≤ cur.size) ∧ ∀ i, G.β i ≠ some g
  tinj : ∀ k k' g e z e' z', G.τ k = some (some (g, e, z)) → G.τ k' = some (some (g, e', z')) → k = k'
  binj : ∀ i j g, G.β i = some g → G.β j = some g → i = j
  blt : ∀ i g, G.β i = some g → g < w.heap.size
  lablt : ∀ b, G.lab b ≠ [] → b < w.heap.size
  old : ∀ b, b < B.w.heap.size → ¬ B.ab b → w.heap[b]? = B.w.heap[b]? ∧ G.lim b = B.lim b
  olda : ∀ b, b < B.w.heap.size → B.lim b ≤ G.lim b ∧ ∀ o v, o < B.lim b → B.w.cell? ⟨b, o, none⟩ = some v → w.cell? ⟨b, o, none⟩ = some v
  oldl : ∀ b, b < B.w.heap.size → B.lab b ≠ [] → G.lab b = B.lab b
  tlab : ∀ k g e z, G.τ k = some (some (g, e, z)) → G.lab g = []
  blab : ∀ i g, G.β i = some g → G.lab g = []
  oldu : ∀ b, b < B.w.heap.size → ¬ B.ab b → B.lab b = [] → G.lab b = []
  labw : ∀ b, G.lab b ≠ [] → (B.w.heap.size ≤ b ∨ B.ab b) → ∃ vs e, w.heap[b]? = some (.cells vs e (0, 0))
  ids : ∀ p ∈ B.ids, G.β p.1 = some p.2
  sz : B.w.heap.size ≤ w.heap.size
  os : w.os = B.w.os
  tape : w.tape = B.w.tape
  out : w.output = B.w.output

structure Sim (B : Base) (L : LS) (G : Ghost) (a : Act) (w : World) : Prop where
  defers : a.defers = []
  size : a.tmps.size = L.n
  env : ∀ t d, look L.env t = some d → ∃ v, a.tmps[t]? = some v ∧ Rel G w d v
  W : SimW B L.boxes L.ro L.toks G w
  fixed : ∀ p ∈ B.ids, p.1 ∈ L.fix

theorem Sim.put {B : Base} {L : LS} {G : Ghost} {a : Act} {w : World} (h : Sim B L G a w) {t : Nat} {d : D} {v : Value} (ht : t < L.n) (hr : Rel G w d v) : Sim B (L.put t d) G (a.put (some t) v) w := by
  refine ⟨h.defers, by simpa [Act.put, LS.put] using h.size, fun t' d' hd => ?_, h.W, h.fixed⟩
  simp only [LS.put, look_setA] at hd
  by_cases e : t = t'
  · subst e
    simp only [if_true, Option.some.injEq] at hd
    subst hd
    exact ⟨v, by simp [Act.put, h.size, ht], hr⟩
  · rw [if_neg e] at hd
    obtain ⟨v', hv, hr'⟩ := h.env t' d' hd
    exact ⟨v', by simp only [Act.put]; rw [Array.getElem?_setIfInBounds_ne e]; exact hv, hr'⟩

theorem Sim.putO {B : Base} {L : LS} {G : Ghost} {a : Act} {w : World} (h : Sim B L G a w) {t : Option Nat} {d : D} {v : Value} (ht : ∀ t', t = some t' → t' < L.n) (hr : Rel G w d v) : Sim B (L.putO t d) G (a.put t v) w := by
  cases t with
  | none => exact h
  | some t => exact h.put (ht t rfl) hr

/-- Same frame, a world that has moved on. -/
theorem Sim.move {B : Base} {L : LS} {G G' : Ghost} {a : Act} {w w' : World} (h : Sim B L G a w) (hW : SimW B L.boxes L.ro L.toks G' w') (hr : ∀ d v, Rel G w d v → Rel G' w' d v) : Sim B L G' a w' :=
  ⟨h.defers, h.size, fun t d hd => let ⟨v, h1, h2⟩ := h.env t d hd; ⟨v, h1, hr d v h2⟩, hW, h.fixed⟩

/-- Knowing less. -/
def LS.covers (L L' : LS) : Prop :=
  L'.n = L.n ∧ L'.fix = L.fix ∧ (∀ p ∈ L'.env, ∃ d, look L.env p.1 = some d ∧ D.le d p.2) ∧ (∀ p ∈ L'.boxes, look L.boxes p.1 = some p.2) ∧ (∀ p ∈ L'.ro, look L.ro p.1 = some p.2) ∧ ∀ k ∈ L'.toks, k ∈ L.toks

theorem mem_of_look {α : Type} {l : List (Nat × α)} {t : Nat} {d : α} (h : look l t = some d) : (t, d) ∈ l := by
  induction l with
  | nil => cases h
  | cons p r ih =>
    obtain ⟨k, x⟩ := p
    simp only [look] at h
    by_cases e : k = t
    · simp only [e, if_true, Option.some.injEq] at h
      subst h; subst e; exact List.mem_cons_self
    · rw [if_neg e] at h
      exact List.mem_cons_of_mem _ (ih h)

theorem SimW.less {B : Base} {bx bx' ro ro' : List (Nat × List D)} {tk tk' : List Nat} {G : Ghost} {w : World} (h : SimW B bx ro tk G w) (hb : ∀ p ∈ bx', look bx p.1 = some p.2)
    (hro : ∀ p ∈ ro', look ro p.1 = some p.2) (ht : ∀ k ∈ tk', k ∈ tk) : SimW B bx' ro' tk' G w :=
  { h with boxes := fun id cs hl => h.boxes id cs (hb (id, cs) (mem_of_look hl)), robs := fun id cs hl => h.robs id cs (hro (id, cs) (mem_of_look hl)), toks := fun k hk => h.toks k (ht k hk) }

theorem Sim.less {B : Base} {L L' : LS} {G : Ghost} {a : Act} {w : World} (h : Sim B L G a w) (hc : L.covers L') : Sim B L' G a w := by
  obtain ⟨hn, hf, he, hb, hro, ht⟩ := hc
  refine ⟨h.defers, by rw [hn]; exact h.size, fun t d hd => ?_, h.W.less hb hro ht, by rw [hf]; exact h.fixed⟩
  obtain ⟨d', h1, h2⟩ := he (t, d) (mem_of_look hd)
  obtain ⟨v, h3, h4⟩ := h.env t d' h1
  exact ⟨v, h3, h4.le h2⟩

def enumD : Nat → List D → List (Nat × D)
  | _, [] => []
  | k, d :: ds => (k, d) :: enumD (k + 1) ds
theorem look_enumD (ds : List D) : ∀ (k t : Nat), look (enumD k ds) t = if k ≤ t then ds[t - k]? else none := by
  induction ds with
  | nil => intro k t; simp [enumD, look]
  | cons d ds ih =>
    intro k t
    simp only [enumD, look, ih]
    by_cases h : k = t
    · subst h; simp
    · by_cases h2 : k ≤ t
      · rw [if_neg h, if_pos h2, if_pos (by omega), show t - k = (t - (k + 1)) + 1 by omega]
        simp
      · rw [if_neg h, if_neg h2, if_neg (by omega)]

/-- Where a call begins. -/
def baseOf (G : Ghost) (w : World) (bx : List (Nat × List D)) (tk : List Nat) : Base where
  w := w
  lim := G.lim
  lab := G.lab
  ab := fun b => (∃ p ∈ bx, G.β p.1 = some b) ∨ ∃ k ∈ tk, ∃ e z, G.τ k = some (some (b, e, z))
  ids := bx.filterMap fun p => (G.β p.1).map fun g => (p.1, g)

/-- A type, as far as the rules ask. -/
inductive ZK where
  | int (k : IntKind) | bool | str | slice | ptr | fn | map | iface
  deriving DecidableEq, Repr
def ZK.val : ZK → Value
  | .int k => .int k 0 | .bool => .bool false | .str => .string .empty | .slice => .slice none 0 0 | .ptr => .pointer none | .fn => .nilFunc | .map => .map none | .iface => .nilIface
def ZK.d : ZK → D
  | .int k => .int k 0 | .bool => .bool false | .str => .str .empty | .slice => .sl .nil [] | .ptr => .raw (.pointer none) | .fn => .raw .nilFunc | .map => .raw (.map none) | .iface => .raw .nilIface
def ZK.is : ZK → Value → Bool
  | .int k, .int k' n => k == k' && n == 0
  | .bool, .bool b => !b
  | .str, .string s => s.size == 0
  | .slice, .slice none 0 0 => true
  | .ptr, .pointer none => true
  | .fn, .nilFunc => true
  | .map, .map none => true
  | .iface, .nilIface => true
  | _, _ => false
inductive TK where
  | slice (e : TypeId)
  | struct (fs : List (Nat × TypeId))
  | array (n : Nat) (e : TypeId)
  | string | bool
  | int (k : IntKind)
  | other
  deriving DecidableEq, Repr
structure TyI where
  kind : TK
  bytes : Nat
  zero : List ZK
  deriving DecidableEq, Repr
def TyI.size (i : TyI) : Nat := i.zero.length
def TyI.agg (i : TyI) : Bool := match i.kind with | .struct _ | .array _ _ => true | _ => false

structure TyOk (P : Program) (t : TypeId) (i : TyI) : Prop where
  info : ∃ inf, P.info? t = some inf ∧ inf.size = i.size ∧ inf.bytes = i.bytes ∧ ∃ z, inf.zero = some z ∧ z.cells = (i.zero.map ZK.val).toArray ∧ (i.agg = false → i.size = 1)
  desc : match i.kind with
    | .slice e => P.underlying t = some (.slice e)
    | .struct fs => ∃ fields, P.underlying t = some (.struct fields) ∧ fields.toList.map (fun f => (f.offset, f.type)) = fs ∧ ∃ places, fields.toList.mapM (fun f => (P.info? f.type).map fun i => (f.offset, i.size)) = some places
    | .array n e => P.underlying t = some (.array n e)
    | .string => P.underlying t = some .string
    | .bool => P.underlying t = some .bool
    | .int k => P.underlying t = some (.int k)
    | .other => ∃ d, P.underlying t = some d ∧ (match d with | .struct _ | .array _ _ => true | _ => false) = false

structure Setup where
  P : Program
  tab : Nat → Option TyI
  ok : ∀ t i, tab t = some i → TyOk P t i
  mixed : P.follows .mixedOrders = true

/-- A function with a body of its own. -/
def Enters (P : Program) (f : FuncId) : Prop := ∃ fn, P.funcs[f]? = some fn ∧ (fn.name == "runtime.NumGoroutine") = false ∧ fn.body.isNone = false

/-- 'f', called with these arguments while the boxes 'ro' may be read, and 'bx' and the tokens 'tk' are handed over, returns 'd' and leaves these boxes and tokens. -/
def FC (S : Setup) (f : FuncId) (ro bx : List (Nat × List D)) (tk : List Nat) (args : List D) (d : D) (bx' : List (Nat × List D)) (tk' : List Nat) : Prop :=
  Enters S.P f ∧ ∀ (w : World) (G : Ghost) (vals : Array Value), Sim (baseOf G w bx tk) ⟨args.length, enumD 0 args, bx, ro, tk, bx.map (·.1)⟩ G ⟨vals, []⟩ w →
    Calls S.P f vals w fun e w' => ∃ v G', e = .returned v ∧ Sim (baseOf G w bx tk) ⟨1, [(0, d)], bx', [], tk', bx.map (·.1)⟩ G' ⟨#[v], []⟩ w'

theorem FC.weak {S : Setup} {f : FuncId} {ro bx : List (Nat × List D)} {tk : List Nat} {args : List D} {d d' : D} {bx' bx'' : List (Nat × List D)} {tk' tk'' : List Nat}
    (h : FC S f ro bx tk args d bx' tk') (hd : D.le d d') (hb : ∀ p ∈ bx'', look bx' p.1 = some p.2) (ht : ∀ k ∈ tk'', k ∈ tk') : FC S f ro bx tk args d' bx'' tk'' := ⟨h.1, fun w G vals hs =>
  (h.2 w G vals hs).mono fun _ _ ⟨v, G', he, hsim⟩ => ⟨v, G', he, hsim.less ⟨rfl, rfl, fun p hp => by
    simp only [List.mem_singleton] at hp
    subst hp
    exact ⟨d, rfl, hd⟩, hb, by simp, ht⟩⟩⟩

end Go.Lg
