/-
  Lg, part 4: operations that leave boxes and tokens alone ('quiet'), as functions of logical values, and why that is what the model does.
-/
import Derived.Test.YtenjmepbaajkjaaLgCall
import Derived.Laws.Tables
import Derived.Laws.Cells
import Derived.Laws.Small
import Derived.Laws.Slices
import Derived.Laws.Strings
import Derived.Laws.Strings2
import Derived.Laws.Cover1
import Derived.Laws.Unary
import Derived.WalkSpells
namespace Go.Lg
open Go Go.RowKit

def someK {α : Type} (o : Option α) (K : α → Prop) : Prop := match o with | some d => K d | none => False
theorem someK_some {α : Type} (d : α) (K : α → Prop) : someK (some d) K = K d := rfl
theorem someK_none {α : Type} (K : α → Prop) : someK none K = False := rfl
theorem someK_get {α : Type} {o : Option α} {K : α → Prop} (h : someK o K) : ∃ d, o = some d ∧ K d := by
  cases o with
  | none => exact h.elim
  | some d => exact ⟨d, rfl, h⟩

def constD1 : Value → D
  | .int k n => .int k n
  | .bool b => .bool b
  | .string s => .str s
  | .slice none 0 0 => .sl .nil []
  | v => .raw v
def constD : Value → Option D
  | .agg cs => if cs.toList.all (fun v => match v with | .agg _ => false | _ => true) then some (.agg (cs.toList.map constD1)) else none
  | .int k n => some (.int k n)
  | .bool b => some (.bool b)
  | .string s => some (.str s)
  | .slice none 0 0 => some (.sl .nil [])
  | v => some (.raw v)

def evalO (L : LS) : Operand → Option D
  | .tmp t => L.get t
  | .const v => constD v
  | .func f => some (.fn f [])
  | .global _ => none

def mapO (ρ : Operand → Option D) : List Operand → Option (List D)
  | [] => some []
  | x :: xs => match ρ x, mapO ρ xs with
    | some d, some ds => some (d :: ds)
    | _, _ => none

theorem rel_nilslice {G : Ghost} {w : World} : Rel G w (.sl .nil []) (.slice none 0 0) :=
  .sl (b := 0) (o := 0) (s := 0) rfl (Nat.le_refl _) (by simp [maxLen]) ⟨rfl, rfl, rfl⟩ (.inl rfl) (by simp) (by simp [flat]) (by simp [flat]) (by simp [flat])

theorem rel_constD1 {G : Ghost} {w : World} (v : Value) (h : ∀ cs, v ≠ .agg cs) : Rel G w (constD1 v) v := by
  unfold constD1
  split
  · exact .int
  · exact .bool
  · exact .str
  · exact rel_nilslice
  · exact .raw h

theorem rel_constD {G : Ghost} {w : World} {v : Value} {d : D} (h : constD v = some d) : Rel G w d v := by
  unfold constD at h
  split at h
  · rename_i cs
    split at h
    · rename_i hall
      obtain rfl := (Option.some.inj h).symm
      have : (Value.agg cs) = .agg (cs.toList).toArray := by simp
      rw [this]
      refine .agg (by simp) fun j d v hd hv => ?_
      simp only [List.getElem?_map, hv, Option.map_some, Option.some.injEq] at hd
      subst hd
      refine rel_constD1 v fun cs' e => ?_
      subst e
      have := List.all_eq_true.1 hall _ (List.mem_of_getElem? hv)
      simp at this
    · cases h
  · obtain rfl := (Option.some.inj h).symm; exact .int
  · obtain rfl := (Option.some.inj h).symm; exact .bool
  · obtain rfl := (Option.some.inj h).symm; exact .str
  · obtain rfl := (Option.some.inj h).symm; exact rel_nilslice
  · rename_i hne _ _ _ _
    obtain rfl := (Option.some.inj h).symm
    exact .raw hne

theorem eval_sound {B : Base} {L : LS} {G : Ghost} {a : Act} {w : World} (h : Sim B L G a w) {x : Operand} {d : D} (he : evalO L x = some d) : Rel G w d (a.eval x) := by
  cases x with
  | tmp t =>
    obtain ⟨v, h1, h2⟩ := h.env t d he
    have : a.eval (.tmp t) = v := by simp [Act.eval, h1]
    rw [this]; exact h2
  | const v => exact rel_constD he
  | func f =>
    obtain rfl := (Option.some.inj he).symm
    exact .fn (vl := []) rfl (by simp)
  | global g => cases he

theorem mapO_sound {B : Base} {L : LS} {G : Ghost} {a : Act} {w : World} (h : Sim B L G a w) : ∀ {xs : List Operand} {ds : List D}, mapO (evalO L) xs = some ds →
    ds.length = xs.length ∧ ∀ (j : Nat) d v, ds[j]? = some d → (xs.map a.eval)[j]? = some v → Rel G w d v
  | [], ds, he => by
    obtain rfl := (Option.some.inj he).symm
    exact ⟨rfl, by simp⟩
  | x :: xs, ds, he => by
    unfold mapO at he
    split at he
    · rename_i d ds' h1 h2
      obtain rfl := (Option.some.inj he).symm
      obtain ⟨e1, e2⟩ := mapO_sound h h2
      refine ⟨by simp [e1], fun j d0 v hd hv => ?_⟩
      cases j with
      | zero =>
        simp only [List.getElem?_cons_zero, Option.some.injEq, List.map_cons] at hd hv
        subst hd; subst hv
        exact eval_sound h h1
      | succ j => exact e2 j d0 v (by simpa using hd) (by simpa using hv)
    · cases he

/-! ### The functions -/

def Setup.kd (S : Setup) (t : TypeId) : Option TK := match S.tab t with | some i => some i.kind | none => none

def cellsY (S : Setup) (t : TypeId) (cs : List D) (K : D → Prop) : Prop :=
  someK (S.tab t) fun i => if i.agg = true then i.size ≤ cs.length ∧ K (.agg (cs.take i.size)) else someK cs.head? K

def loadY (S : Setup) (t : TypeId) (bx : Nat → Option (List D)) (d : D) (K : D → Prop) : Prop :=
  match d with
  | .imm cs => cellsY S t cs K
  | .box id off => someK (bx id) fun cs => cellsY S t (cs.drop off) K
  | _ => False

def intY (op : BinOp) (k : IntKind) (a b : Int) (K : D → Prop) : Prop :=
  match op with
  | .add => K (.int k (k.wrap (a + b)))
  | .sub => K (.int k (k.wrap (a - b)))
  | .mul => K (.int k (k.wrap (a * b)))
  | .quo => b ≠ 0 ∧ K (.int k (k.wrap (a.tdiv b)))
  | .rem => b ≠ 0 ∧ K (.int k (a.tmod b))
  | .eql => K (.bool (a == b))
  | .neq => K (.bool (a != b))
  | .lss => K (.bool (decide (a < b)))
  | .leq => K (.bool (decide (a ≤ b)))
  | .gtr => K (.bool (decide (b < a)))
  | .geq => K (.bool (decide (b ≤ a)))
  | .and => K (.int k (bits .and k a b))
  | .or => K (.int k (bits .or k a b))
  | _ => False

/-- .. and shifts -/
def intYY (op : BinOp) (k k' : IntKind) (a b : Int) (K : D → Prop) : Prop :=
  match op with
  | .shl => (0 ≤ b ∧ b ≤ k.bits) ∧ K (.int k (k.wrap (a * 2 ^ b.toNat)))
  | .shr => (0 ≤ b ∧ b ≤ k.bits) ∧ K (.int k (a / 2 ^ b.toNat))
  | op => k = k' ∧ intY op k a b K

def strY (op : BinOp) (a b : ByteArray) (K : D → Prop) : Prop :=
  match op with
  | .eql => K (.bool (a.toList == b.toList))
  | .neq => K (.bool (!(a.toList == b.toList)))
  | .lss => K (.bool (Op.bytesLess a.toList b.toList))
  | .add => a.size + b.size ≤ 9223372036854775807 ∧ K (.str (a ++ b))
  | _ => False

def boolY (op : BinOp) (a b : Bool) (K : D → Prop) : Prop :=
  match op with
  | .eql => K (.bool (a == b))
  | .neq => K (.bool (!(a == b)))
  | _ => False

def nilY (op : BinOp) (tk : Tk) (xs : List D) (K : D → Prop) : Prop :=
  match op, tk with
  | .eql, .nil => K (.bool true)
  | .neq, .nil => K (.bool false)
  | .eql, .nl => K (.bool true)
  | .neq, .nl => K (.bool false)
  | .eql, .nn => K (.bool false)
  | .neq, .nn => K (.bool true)
  | .eql, _ => xs ≠ [] ∧ K (.bool false)
  | .neq, _ => xs ≠ [] ∧ K (.bool true)
  | _, _ => False

def binY (S : Setup) (op : BinOp) (t : TypeId) (x y : D) (K : D → Prop) : Prop :=
  match x, y with
  | .int k a, .int k' b => intYY op k k' a b K
  | .bool a, .bool b => S.kd t = some .bool ∧ boolY op a b K
  | .str a, .str b => strY op a b K
  | .sl tk xs, .sl .nil [] => (∃ e, S.kd t = some (.slice e)) ∧ nilY op tk xs K
  | _, _ => False

def unY (op : UnOp) (x : D) (K : D → Prop) : Prop :=
  match op, x with
  | .not, .bool b => K (.bool (!b))
  | .neg, .int k n => K (.int k (k.wrap (0 - n)))
  | _, _ => False

def convY (S : Setup) (dst : TypeId) (x : D) (K : D → Prop) : Prop :=
  match x with
  | .int _ n => match S.kd dst with
    | some (.int k) => K (.int k (k.wrap n))
    | _ => False
  | _ => False

def fieldAddrY (S : Setup) (t : TypeId) (f : Nat) (x : D) (K : D → Prop) : Prop :=
  match S.kd t with
  | some (.struct fs) => someK fs[f]? fun p => someK (S.tab p.2) fun j => j.size ≠ 0 ∧ (match x with
    | .imm cs => K (.imm (cs.drop p.1))
    | .box id o => K (.box id (o + p.1))
    | _ => False)
  | _ => False

def fieldY (S : Setup) (t : TypeId) (f : Nat) (x : D) (K : D → Prop) : Prop :=
  match S.kd t, x with
  | some (.struct fs), .agg cs => someK fs[f]? fun p => cellsY S p.2 (cs.drop p.1) K
  | _, _ => False

def indexAddrY (S : Setup) (t : TypeId) (x ix : D) (K : D → Prop) : Prop :=
  match S.kd t, ix with
  | some (.slice e), .int _ i => someK (S.tab e) fun j => (match x with
    | .sl _ xs => (0 ≤ i ∧ i < xs.length) ∧ (xs.getD i.toNat default).cells.length = j.size ∧ K (.imm (xs.getD i.toNat default).cells)
    | .ms id n => (0 ≤ i ∧ i < n) ∧ K (.box id (i.toNat * j.size))
    | _ => False)
  | some (.array n e), .int _ i => someK (S.tab e) fun j => (match x with
    | .box id o => (0 ≤ i ∧ i < n) ∧ K (.box id (o + i.toNat * j.size))
    | .imm cs => (0 ≤ i ∧ i < n) ∧ K (.imm (cs.drop (i.toNat * j.size)))
    | _ => False)
  | _, _ => False

def indexY (S : Setup) (t : TypeId) (x ix : D) (K : D → Prop) : Prop :=
  match S.kd t, ix, x with
  | some .string, .int _ i, .str s => (0 ≤ i ∧ i < s.size) ∧ K (.int .u8 (s.data.getD i.toNat 0).toNat)
  | _, _, _ => False

def lenY (S : Setup) (t : TypeId) (x : D) (K : D → Prop) : Prop :=
  match S.kd t, x with
  | some (.slice _), .sl _ xs => K (.int .i64 xs.length)
  | some (.slice _), .ms _ n => K (.int .i64 n)
  | some .string, .str s => K (.int .i64 s.size)
  | _, _ => False

def intOfD : Option D → Option (Option Int)
  | none => some none
  | some (.int _ n) => some (some n)
  | _ => none

/-- 'x[lo:hi]', 'x[lo:hi:hi]' of slices of which no more than the length is taken; of strings. -/
def sliceY (S : Setup) (t : TypeId) (x : D) (lo hi mx : Option Int) (K : D → Prop) : Prop :=
  match S.kd t, x with
  | some (.slice e), .sl _ xs => someK (S.tab e) fun j =>
    (match mx with | none => True | some m => m = hi.getD xs.length) ∧
    (0 ≤ lo.getD 0 ∧ lo.getD 0 ≤ hi.getD xs.length ∧ hi.getD xs.length ≤ xs.length) ∧ (∀ d ∈ xs, d.cells.length = j.size) ∧
    K (.sl (match mx with | none => .any | some _ => .full) ((xs.take (hi.getD xs.length).toNat).drop (lo.getD 0).toNat))
  | some (.slice e), .ms id n => (S.tab e).isSome = true ∧ (mx = none ∧ lo = none) ∧ (0 ≤ hi.getD n ∧ hi.getD n ≤ n) ∧ K (.ms id (hi.getD n).toNat)
  | some .string, .str s => mx = none ∧ (0 ≤ lo.getD 0 ∧ lo.getD 0 ≤ hi.getD s.size ∧ hi.getD s.size ≤ s.size) ∧
    K (.str (s.extract (lo.getD 0).toNat (hi.getD s.size).toNat))
  | _, _ => False

def putCells (cs : List D) (off : Nat) (new : List D) : List D := cs.take off ++ new ++ cs.drop (off + new.length)

/-- A struct literal: the zero value, the parts laid over it. -/
def buildP (S : Setup) (fs : List (Nat × TypeId)) : List D → List (Nat × D) → Option (List D)
  | cs, [] => some cs
  | cs, (i, d) :: rest => match fs[i]? with
    | some p => match S.tab p.2 with
      | some j => if d.cells.length = j.size ∧ p.1 + j.size ≤ cs.length then buildP S fs (putCells cs p.1 d.cells) rest else none
      | none => none
    | none => none

def zipO (ρ : Operand → Option D) : List (Nat × Operand) → Option (List (Nat × D))
  | [] => some []
  | (i, x) :: xs => match ρ x, zipO ρ xs with
    | some d, some ds => some ((i, d) :: ds)
    | _, _ => none

def buildY (S : Setup) (t : TypeId) (ps : List (Nat × D)) (K : D → Prop) : Prop :=
  someK (S.tab t) fun i => match i.kind with
  | .struct fs => someK (buildP S fs (i.zero.map ZK.d) ps) fun cs => K (.agg cs)
  | .array _ e => someK (S.tab e) fun _ => ps = [] ∧ K (.agg (i.zero.map ZK.d))
  | _ => False

def minD (x y : D) : Option D := match x, y with
  | .int k a, .int k' b => if k = k' then some (.int k (if b < a then b else a)) else none
  | _, _ => none
def maxD (x y : D) : Option D := match x, y with
  | .int k a, .int k' b => if k = k' then some (.int k (if b > a then b else a)) else none
  | _, _ => none

def callY (S : Setup) (bx : Nat → Option (List D)) (f : D) (ds : List D) (K : D → Prop) : Prop :=
  match f with
  | .fn fid cap => ∃ cx d, FC S fid cx [] [] (ds ++ cap) d [] [] ∧ (∀ p ∈ cx, bx p.1 = some p.2) ∧ d.ids = [] ∧ d.tks = [] ∧ K d
  | _ => False

def strip1 : D → D
  | .sl (.lab l) xs => .sl (.lab l) xs
  | .sl _ xs => .sl .any xs
  | d => d
def D.strip : D → D
  | .agg cs => .agg (cs.map strip1)
  | d => strip1 d

def buildSliceY (S : Setup) (t : TypeId) (n : Nat) (ps : List (Nat × D)) (K : D → Prop) : Prop :=
  match S.kd t with
  | some (.slice e) => someK (S.tab e) fun j => ps.map (·.1) = List.range n ∧ n * j.size ≤ 16777216 ∧ (n = 0 ∨ 0 < j.size) ∧
    (∀ p ∈ ps, p.2.cells.length = j.size ∧ ∀ c ∈ p.2.strip.cells, c.memOk = true) ∧ K (.sl .full (ps.map (·.2.strip)))
  | _ => False

/-- A list made in a region that draws its order: it is only read. -/
def makeQ (S : Setup) (t : TypeId) (l c : D) (K : D → Prop) : Prop :=
  match S.kd t, l, c with
  | some (.slice e), .int _ n, .int _ m => someK (S.tab e) fun i => someK i.zero.head? fun z => (i.zero.length = 1 ∧ 0 ≤ n ∧ n = m) ∧ ((i.bytes : Int) * n ≤ 281474976710656 ∧ n ≤ 9223372036854775807) ∧ (strip1 z.d).memOk = true ∧
      K (.sl .any (List.replicate n.toNat (strip1 z.d)))
  | _, _, _ => False

def opY (S : Setup) (op : Op) (ρ : Operand → Option D) (bx : Nat → Option (List D)) (K : D → Prop) : Prop :=
  match op with
  | .move x | .assign x => someK (ρ x) K
  | .pick c a b => someK (ρ c) fun d => (match d with
    | .bool t => if t = true then someK (ρ a) K else someK (ρ b) K
    | _ => False)
  | .load t x => someK (ρ x) fun d => loadY S t bx d K
  | .nilCheck x => someK (ρ x) fun d => (match d with
    | .box .. | .imm _ | .fn .. => K d
    | _ => False)
  | .binOp o t x y _ => someK (ρ x) fun dx => someK (ρ y) fun dy => binY S o t dx dy K
  | .unOp o _ x => someK (ρ x) fun d => unY o d K
  | .convert src dst x => (S.tab src).isSome = true ∧ someK (ρ x) fun d => convY S dst d K
  | .makeFunc (.func f) first captured => first.toList = [] ∧ someK (mapO ρ captured.toList) fun ds => K (.fn f ds)
  | .fieldAddr t x f => someK (ρ x) fun d => fieldAddrY S t f d K
  | .field t x f => someK (ρ x) fun d => fieldY S t f d K
  | .indexAddr t x ix => someK (ρ x) fun d => someK (ρ ix) fun i => indexAddrY S t d i K
  | .index t x ix => someK (ρ x) fun d => someK (ρ ix) fun i => indexY S t d i K
  | .slice t x lo hi mx => someK (ρ x) fun d => someK (intOfD (lo.bind ρ)) fun l => someK (intOfD (hi.bind ρ)) fun h => someK (intOfD (mx.bind ρ)) fun m =>
      ((lo.isSome = l.isSome ∧ hi.isSome = h.isSome ∧ mx.isSome = m.isSome) ∧ (mx.isSome = true → hi.isSome = true)) ∧ sliceY S t d l h m K
  | .build t ps => someK (zipO ρ ps.toList) fun l => buildY S t l K
  | .buildSlice t n ps => someK (zipO ρ ps.toList) fun l => buildSliceY S t n l K
  | .extract x i => someK (ρ x) fun d => (match d with
    | .tup ds => someK ds[i]? K
    | _ => False)
  | .call ⟨.builtin .len, args, tys⟩ => someK (mapO ρ args.toList) fun ds => (match ds, tys.toList with
    | [d], [t] => lenY S t d K
    | _, _ => False)
  | .call ⟨.builtin .min, args, _⟩ => someK (mapO ρ args.toList) fun ds => (match ds with
    | [x, y] => someK (minD x y) K
    | _ => False)
  | .call ⟨.builtin .max, args, _⟩ => someK (mapO ρ args.toList) fun ds => (match ds with
    | [x, y] => someK (maxD x y) K
    | _ => False)
  | .call ⟨.value f, args, _⟩ => someK (ρ f) fun df => someK (mapO ρ args.toList) fun ds => callY S bx df ds K
  | .makeSlice t l c => someK (ρ l) fun dl => someK (ρ c) fun dc => makeQ S t dl dc K
  | _ => False
end Go.Lg
