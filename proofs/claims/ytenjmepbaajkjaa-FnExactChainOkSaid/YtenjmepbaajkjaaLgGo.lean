/-
  Lg, part 21: the equations of a region that draws its order.
-/
import Derived.Test.YtenjmepbaajkjaaLgSimp
import Derived.Test.YtenjmepbaajkjaaLgThaw
namespace Go.Lg
open Go Go.RowKit
def isQCall : Op → Bool
  | .alloc _ => true
  | .store _ _ _ => true
  | op => isVCall op
section eqsQ
variable (S : Setup) (ops : Array Oper) (K : List Oper → LS → Prop) (l : List Oper) (L : LS) (dst : Option Nat) (ty : TypeId) (pos : String) (aft : Array Edge)
def nextQ (d : D) : Prop := dstOk dst L ∧ runQ S ops K l (L.putO dst d)
theorem nextQ_some (t : Nat) (d : D) : nextQ S ops K l L (some t) d = (t < L.n ∧ runQ S ops K l (L.put t d)) := rfl
theorem nextQ_none (d : D) : nextQ S ops K l L none d = (True ∧ runQ S ops K l L) := rfl
theorem runQ_of (op : Op) (h : ∀ f args tys, op ≠ .call ⟨.value f, args, tys⟩) (h2 : ∀ T, op ≠ .alloc T) (h3 : ∀ T x y, op ≠ .store T x y) : runQ S ops K (⟨dst, op, ty, pos, aft, none⟩ :: l) L = opY S op (evalO L) L.getBox (nextQ S ops K l L dst) := by
  conv => lhs; unfold runQ
  split
  · exact absurd rfl (h _ _ _)
  · exact absurd rfl (h2 _)
  · exact absurd rfl (h3 _ _ _)
  · rfl
theorem runQ_want (op : Op) (p : Nat × Bool) (hc : isQCall op = false) (h : guardY ops L (some p) = some true) : runQ S ops K (⟨dst, op, ty, pos, aft, some p⟩ :: l) L = runQ S ops K (⟨dst, op, ty, pos, aft, none⟩ :: l) L := by
  rw [runQ_of]
  · conv => lhs; unfold runQ
    split
    · cases hc
    · cases hc
    · cases hc
    · rw [h]; rfl
  · intro f args tys e; subst e; cases hc
  · intro T e; subst e; cases hc
  · intro T x y e; subst e; cases hc
theorem runQ_skip (op : Op) (p : Nat × Bool) (hc : isQCall op = false) (h : guardY ops L (some p) = some false) : runQ S ops K (⟨dst, op, ty, pos, aft, some p⟩ :: l) L = nextQ S ops K l L dst (.raw undef) := by
  conv => lhs; unfold runQ
  split
  · cases hc
  · cases hc
  · cases hc
  · rw [h]; rfl
/-- a guarded operation, by its test -/
def runQG (o : Oper) : Option Bool → Prop
  | some true => runQ S ops K (⟨o.dst, o.op, o.type, o.pos, o.after, none⟩ :: l) L
  | some false => nextQ S ops K l L o.dst (.raw undef)
  | none => runQ S ops K (o :: l) L
theorem runQG_t (o : Oper) : runQG S ops K l L o (some true) = runQ S ops K (⟨o.dst, o.op, o.type, o.pos, o.after, none⟩ :: l) L := rfl
theorem runQG_f (o : Oper) : runQG S ops K l L o (some false) = nextQ S ops K l L o.dst (.raw undef) := rfl
theorem runQ_grd (op : Op) (p : Nat × Bool) (hc : isQCall op = false) : runQ S ops K (⟨dst, op, ty, pos, aft, some p⟩ :: l) L = runQG S ops K l L ⟨dst, op, ty, pos, aft, some p⟩ (guardY ops L (some p)) := by
  cases h : guardY ops L (some p) with
  | none => rfl
  | some b => cases b with
    | true => exact runQ_want S ops K l L dst ty pos aft op p hc h
    | false => exact runQ_skip S ops K l L dst ty pos aft op p hc h
theorem runQ_g_move (p : Nat × Bool) (x : Operand) : runQ S ops K (⟨dst, .move x, ty, pos, aft, some p⟩ :: l) L = runQG S ops K l L ⟨dst, .move x, ty, pos, aft, some p⟩ (guardY ops L (some p)) := runQ_grd S ops K l L dst ty pos aft _ p rfl
theorem runQ_g_assign (p : Nat × Bool) (x : Operand) : runQ S ops K (⟨dst, .assign x, ty, pos, aft, some p⟩ :: l) L = runQG S ops K l L ⟨dst, .assign x, ty, pos, aft, some p⟩ (guardY ops L (some p)) := runQ_grd S ops K l L dst ty pos aft _ p rfl
theorem runQ_g_pick (p : Nat × Bool) (a b c : Operand) : runQ S ops K (⟨dst, .pick a b c, ty, pos, aft, some p⟩ :: l) L = runQG S ops K l L ⟨dst, .pick a b c, ty, pos, aft, some p⟩ (guardY ops L (some p)) := runQ_grd S ops K l L dst ty pos aft _ p rfl
theorem runQ_g_box (p : Nat × Bool) (t : TypeId) (x : Operand) : runQ S ops K (⟨dst, .box t x, ty, pos, aft, some p⟩ :: l) L = runQG S ops K l L ⟨dst, .box t x, ty, pos, aft, some p⟩ (guardY ops L (some p)) := runQ_grd S ops K l L dst ty pos aft _ p rfl
theorem runQ_g_build (gd : Nat × Bool) (t : TypeId) (p : Array (Nat × Operand)) : runQ S ops K (⟨dst, .build t p, ty, pos, aft, some gd⟩ :: l) L = runQG S ops K l L ⟨dst, .build t p, ty, pos, aft, some gd⟩ (guardY ops L (some gd)) := runQ_grd S ops K l L dst ty pos aft _ gd rfl
theorem runQ_g_buildSlice (gd : Nat × Bool) (t : TypeId) (n : Nat) (p : Array (Nat × Operand)) : runQ S ops K (⟨dst, .buildSlice t n p, ty, pos, aft, some gd⟩ :: l) L = runQG S ops K l L ⟨dst, .buildSlice t n p, ty, pos, aft, some gd⟩ (guardY ops L (some gd)) := runQ_grd S ops K l L dst ty pos aft _ gd rfl
theorem runQ_g_load (p : Nat × Bool) (t : TypeId) (x : Operand) : runQ S ops K (⟨dst, .load t x, ty, pos, aft, some p⟩ :: l) L = runQG S ops K l L ⟨dst, .load t x, ty, pos, aft, some p⟩ (guardY ops L (some p)) := runQ_grd S ops K l L dst ty pos aft _ p rfl
theorem runQ_g_nilCheck (p : Nat × Bool) (x : Operand) : runQ S ops K (⟨dst, .nilCheck x, ty, pos, aft, some p⟩ :: l) L = runQG S ops K l L ⟨dst, .nilCheck x, ty, pos, aft, some p⟩ (guardY ops L (some p)) := runQ_grd S ops K l L dst ty pos aft _ p rfl
theorem runQ_g_binOp (p : Nat × Bool) (o : BinOp) (t u : TypeId) (x y : Operand) : runQ S ops K (⟨dst, .binOp o t x y u, ty, pos, aft, some p⟩ :: l) L = runQG S ops K l L ⟨dst, .binOp o t x y u, ty, pos, aft, some p⟩ (guardY ops L (some p)) := runQ_grd S ops K l L dst ty pos aft _ p rfl
theorem runQ_g_unOp (p : Nat × Bool) (o : UnOp) (t : TypeId) (x : Operand) : runQ S ops K (⟨dst, .unOp o t x, ty, pos, aft, some p⟩ :: l) L = runQG S ops K l L ⟨dst, .unOp o t x, ty, pos, aft, some p⟩ (guardY ops L (some p)) := runQ_grd S ops K l L dst ty pos aft _ p rfl
theorem runQ_g_convert (p : Nat × Bool) (s t : TypeId) (x : Operand) : runQ S ops K (⟨dst, .convert s t x, ty, pos, aft, some p⟩ :: l) L = runQG S ops K l L ⟨dst, .convert s t x, ty, pos, aft, some p⟩ (guardY ops L (some p)) := runQ_grd S ops K l L dst ty pos aft _ p rfl
theorem runQ_g_makeFunc (p : Nat × Bool) (f : Fn) (a b : Array Operand) : runQ S ops K (⟨dst, .makeFunc f a b, ty, pos, aft, some p⟩ :: l) L = runQG S ops K l L ⟨dst, .makeFunc f a b, ty, pos, aft, some p⟩ (guardY ops L (some p)) := runQ_grd S ops K l L dst ty pos aft _ p rfl
theorem runQ_g_makeSlice (p : Nat × Bool) (t : TypeId) (x y : Operand) : runQ S ops K (⟨dst, .makeSlice t x y, ty, pos, aft, some p⟩ :: l) L = runQG S ops K l L ⟨dst, .makeSlice t x y, ty, pos, aft, some p⟩ (guardY ops L (some p)) := runQ_grd S ops K l L dst ty pos aft _ p rfl
theorem runQ_g_slice (p : Nat × Bool) (t : TypeId) (x : Operand) (a b c : Option Operand) : runQ S ops K (⟨dst, .slice t x a b c, ty, pos, aft, some p⟩ :: l) L = runQG S ops K l L ⟨dst, .slice t x a b c, ty, pos, aft, some p⟩ (guardY ops L (some p)) := runQ_grd S ops K l L dst ty pos aft _ p rfl
theorem runQ_g_fieldAddr (p : Nat × Bool) (t : TypeId) (x : Operand) (n : Nat) : runQ S ops K (⟨dst, .fieldAddr t x n, ty, pos, aft, some p⟩ :: l) L = runQG S ops K l L ⟨dst, .fieldAddr t x n, ty, pos, aft, some p⟩ (guardY ops L (some p)) := runQ_grd S ops K l L dst ty pos aft _ p rfl
theorem runQ_g_field (p : Nat × Bool) (t : TypeId) (x : Operand) (n : Nat) : runQ S ops K (⟨dst, .field t x n, ty, pos, aft, some p⟩ :: l) L = runQG S ops K l L ⟨dst, .field t x n, ty, pos, aft, some p⟩ (guardY ops L (some p)) := runQ_grd S ops K l L dst ty pos aft _ p rfl
theorem runQ_g_indexAddr (p : Nat × Bool) (t : TypeId) (x y : Operand) : runQ S ops K (⟨dst, .indexAddr t x y, ty, pos, aft, some p⟩ :: l) L = runQG S ops K l L ⟨dst, .indexAddr t x y, ty, pos, aft, some p⟩ (guardY ops L (some p)) := runQ_grd S ops K l L dst ty pos aft _ p rfl
theorem runQ_g_index (p : Nat × Bool) (t : TypeId) (x y : Operand) : runQ S ops K (⟨dst, .index t x y, ty, pos, aft, some p⟩ :: l) L = runQG S ops K l L ⟨dst, .index t x y, ty, pos, aft, some p⟩ (guardY ops L (some p)) := runQ_grd S ops K l L dst ty pos aft _ p rfl
theorem runQ_g_extract (p : Nat × Bool) (x : Operand) (n : Nat) : runQ S ops K (⟨dst, .extract x n, ty, pos, aft, some p⟩ :: l) L = runQG S ops K l L ⟨dst, .extract x n, ty, pos, aft, some p⟩ (guardY ops L (some p)) := runQ_grd S ops K l L dst ty pos aft _ p rfl
theorem runQ_g_call (p : Nat × Bool) (b : Builtin) (a : Array Operand) (tys : Array TypeId) : runQ S ops K (⟨dst, .call ⟨.builtin b, a, tys⟩, ty, pos, aft, some p⟩ :: l) L = runQG S ops K l L ⟨dst, .call ⟨.builtin b, a, tys⟩, ty, pos, aft, some p⟩ (guardY ops L (some p)) := runQ_grd S ops K l L dst ty pos aft _ p rfl
theorem runQ_alloc (T : TypeId) (g : Option (Nat × Bool)) : runQ S ops K (⟨dst, .alloc T, ty, pos, aft, g⟩ :: l) L = K (⟨dst, .alloc T, ty, pos, aft, g⟩ :: l) L := rfl
theorem runQ_store (T : TypeId) (x y : Operand) (g : Option (Nat × Bool)) : runQ S ops K (⟨dst, .store T x y, ty, pos, aft, g⟩ :: l) L = K (⟨dst, .store T x y, ty, pos, aft, g⟩ :: l) L := rfl
theorem runQ_nil : runQ S ops K [] L = K [] L := rfl
theorem runQ_call (f : Operand) (args : Array Operand) (tys : Array TypeId) (g : Option (Nat × Bool)) : runQ S ops K (⟨dst, .call ⟨.value f, args, tys⟩, ty, pos, aft, g⟩ :: l) L = K (⟨dst, .call ⟨.value f, args, tys⟩, ty, pos, aft, g⟩ :: l) L := rfl

theorem runQ_move (x : Operand) : runQ S ops K (⟨dst, .move x, ty, pos, aft, none⟩ :: l) L = someK (evalO L x) (nextQ S ops K l L dst) :=
  runQ_of S ops K l L dst ty pos aft _ (by intro _ _ _ h; cases h) (by intro _ h; cases h) (by intro _ _ _ h; cases h)
theorem runQ_assign (x : Operand) : runQ S ops K (⟨dst, .assign x, ty, pos, aft, none⟩ :: l) L = someK (evalO L x) (nextQ S ops K l L dst) :=
  runQ_of S ops K l L dst ty pos aft _ (by intro _ _ _ h; cases h) (by intro _ h; cases h) (by intro _ _ _ h; cases h)
theorem runQ_pick (c x y : Operand) : runQ S ops K (⟨dst, .pick c x y, ty, pos, aft, none⟩ :: l) L = someK (evalO L c) fun d => pickY (evalO L) x y d (nextQ S ops K l L dst) := by
  rw [runQ_of S ops K l L dst ty pos aft _ (by intro _ _ _ h; cases h) (by intro _ h; cases h) (by intro _ _ _ h; cases h)]
  congr 1
  show opY S (.pick c x y) (evalO L) L.getBox _ = _
  unfold opY
  simp only
  congr 1
  funext d
  cases d <;> first | rfl | (rename_i b; cases b <;> rfl)
theorem runQ_load (t : TypeId) (x : Operand) : runQ S ops K (⟨dst, .load t x, ty, pos, aft, none⟩ :: l) L = someK (evalO L x) fun d => loadY S t L.getBox d (nextQ S ops K l L dst) :=
  runQ_of S ops K l L dst ty pos aft _ (by intro _ _ _ h; cases h) (by intro _ h; cases h) (by intro _ _ _ h; cases h)
theorem runQ_nilCheck (x : Operand) : runQ S ops K (⟨dst, .nilCheck x, ty, pos, aft, none⟩ :: l) L = someK (evalO L x) fun d => nilcY d (nextQ S ops K l L dst) := by
  rw [runQ_of S ops K l L dst ty pos aft _ (by intro _ _ _ h; cases h) (by intro _ h; cases h) (by intro _ _ _ h; cases h)]
  congr 1
theorem runQ_binOp (o : BinOp) (t u : TypeId) (x y : Operand) : runQ S ops K (⟨dst, .binOp o t x y u, ty, pos, aft, none⟩ :: l) L = someK (evalO L x) fun dx => someK (evalO L y) fun dy => binY S o t dx dy (nextQ S ops K l L dst) :=
  runQ_of S ops K l L dst ty pos aft _ (by intro _ _ _ h; cases h) (by intro _ h; cases h) (by intro _ _ _ h; cases h)
theorem runQ_unOp (o : UnOp) (t : TypeId) (x : Operand) : runQ S ops K (⟨dst, .unOp o t x, ty, pos, aft, none⟩ :: l) L = someK (evalO L x) fun d => unY o d (nextQ S ops K l L dst) :=
  runQ_of S ops K l L dst ty pos aft _ (by intro _ _ _ h; cases h) (by intro _ h; cases h) (by intro _ _ _ h; cases h)
theorem runQ_convert (s t : TypeId) (x : Operand) : runQ S ops K (⟨dst, .convert s t x, ty, pos, aft, none⟩ :: l) L = ((S.tab s).isSome = true ∧ someK (evalO L x) fun d => convY S t d (nextQ S ops K l L dst)) :=
  runQ_of S ops K l L dst ty pos aft _ (by intro _ _ _ h; cases h) (by intro _ h; cases h) (by intro _ _ _ h; cases h)
theorem runQ_makeFunc (f : FuncId) (first cap : Array Operand) : runQ S ops K (⟨dst, .makeFunc (.func f) first cap, ty, pos, aft, none⟩ :: l) L = (first.toList = [] ∧ someK (mapO (evalO L) cap.toList) fun ds => nextQ S ops K l L dst (.fn f ds)) :=
  runQ_of S ops K l L dst ty pos aft _ (by intro _ _ _ h; cases h) (by intro _ h; cases h) (by intro _ _ _ h; cases h)
theorem runQ_fieldAddr (t : TypeId) (x : Operand) (f : Nat) : runQ S ops K (⟨dst, .fieldAddr t x f, ty, pos, aft, none⟩ :: l) L = someK (evalO L x) fun d => fieldAddrY S t f d (nextQ S ops K l L dst) :=
  runQ_of S ops K l L dst ty pos aft _ (by intro _ _ _ h; cases h) (by intro _ h; cases h) (by intro _ _ _ h; cases h)
theorem runQ_field (t : TypeId) (x : Operand) (f : Nat) : runQ S ops K (⟨dst, .field t x f, ty, pos, aft, none⟩ :: l) L = someK (evalO L x) fun d => fieldY S t f d (nextQ S ops K l L dst) :=
  runQ_of S ops K l L dst ty pos aft _ (by intro _ _ _ h; cases h) (by intro _ h; cases h) (by intro _ _ _ h; cases h)
theorem runQ_indexAddr (t : TypeId) (x i : Operand) : runQ S ops K (⟨dst, .indexAddr t x i, ty, pos, aft, none⟩ :: l) L = someK (evalO L x) fun dx => someK (evalO L i) fun di => indexAddrY S t dx di (nextQ S ops K l L dst) :=
  runQ_of S ops K l L dst ty pos aft _ (by intro _ _ _ h; cases h) (by intro _ h; cases h) (by intro _ _ _ h; cases h)
theorem runQ_index (t : TypeId) (x i : Operand) : runQ S ops K (⟨dst, .index t x i, ty, pos, aft, none⟩ :: l) L = someK (evalO L x) fun dx => someK (evalO L i) fun di => indexY S t dx di (nextQ S ops K l L dst) :=
  runQ_of S ops K l L dst ty pos aft _ (by intro _ _ _ h; cases h) (by intro _ h; cases h) (by intro _ _ _ h; cases h)
theorem runQ_slice (t : TypeId) (x : Operand) (lo hi mx : Option Operand) : runQ S ops K (⟨dst, .slice t x lo hi mx, ty, pos, aft, none⟩ :: l) L = someK (evalO L x) fun d => someK (intOfD (lo.bind (evalO L))) fun l' => someK (intOfD (hi.bind (evalO L))) fun h => someK (intOfD (mx.bind (evalO L))) fun m =>
      ((lo.isSome = l'.isSome ∧ hi.isSome = h.isSome ∧ mx.isSome = m.isSome) ∧ (mx.isSome = true → hi.isSome = true)) ∧ sliceY S t d l' h m (nextQ S ops K l L dst) :=
  runQ_of S ops K l L dst ty pos aft _ (by intro _ _ _ h; cases h) (by intro _ h; cases h) (by intro _ _ _ h; cases h)
theorem runQ_build (t : TypeId) (ps : Array (Nat × Operand)) : runQ S ops K (⟨dst, .build t ps, ty, pos, aft, none⟩ :: l) L = someK (zipO (evalO L) ps.toList) fun q => buildY S t q (nextQ S ops K l L dst) :=
  runQ_of S ops K l L dst ty pos aft _ (by intro _ _ _ h; cases h) (by intro _ h; cases h) (by intro _ _ _ h; cases h)
theorem runQ_buildSlice (t : TypeId) (n : Nat) (ps : Array (Nat × Operand)) : runQ S ops K (⟨dst, .buildSlice t n ps, ty, pos, aft, none⟩ :: l) L = someK (zipO (evalO L) ps.toList) fun q => buildSliceY S t n q (nextQ S ops K l L dst) :=
  runQ_of S ops K l L dst ty pos aft _ (by intro _ _ _ h; cases h) (by intro _ h; cases h) (by intro _ _ _ h; cases h)
theorem runQ_extract (x : Operand) (i : Nat) : runQ S ops K (⟨dst, .extract x i, ty, pos, aft, none⟩ :: l) L = someK (evalO L x) fun d => extrY i d (nextQ S ops K l L dst) := by
  rw [runQ_of S ops K l L dst ty pos aft _ (by intro _ _ _ h; cases h) (by intro _ h; cases h) (by intro _ _ _ h; cases h)]
  congr 1
theorem runQ_makeSlice (t : TypeId) (x y : Operand) : runQ S ops K (⟨dst, .makeSlice t x y, ty, pos, aft, none⟩ :: l) L = someK (evalO L x) fun dl => someK (evalO L y) fun dc => makeQ S t dl dc (nextQ S ops K l L dst) :=
  runQ_of S ops K l L dst ty pos aft _ (by intro _ _ _ h; cases h) (by intro _ h; cases h) (by intro _ _ _ h; cases h)
theorem runQ_len (x : Operand) (t : TypeId) : runQ S ops K (⟨dst, .call ⟨.builtin .len, #[x], #[t]⟩, ty, pos, aft, none⟩ :: l) L = someK (evalO L x) fun d => lenY S t d (nextQ S ops K l L dst) := by
  rw [runQ_of S ops K l L dst ty pos aft _ (by intro _ _ _ h; cases h) (by intro _ h; cases h) (by intro _ _ _ h; cases h)]
  congr 1
  show opY S (.call ⟨.builtin .len, #[x], #[t]⟩) (evalO L) L.getBox _ = _
  unfold opY
  simp only [mapO]
  cases evalO L x <;> rfl
theorem runQ_min (x y : Operand) (tys : Array TypeId) : runQ S ops K (⟨dst, .call ⟨.builtin .min, #[x, y], tys⟩, ty, pos, aft, none⟩ :: l) L = someK (evalO L x) fun dx => someK (evalO L y) fun dy => someK (minD dx dy) (nextQ S ops K l L dst) := by
  rw [runQ_of S ops K l L dst ty pos aft _ (by intro _ _ _ h; cases h) (by intro _ h; cases h) (by intro _ _ _ h; cases h)]
  congr 1
  show opY S (.call ⟨.builtin .min, #[x, y], tys⟩) (evalO L) L.getBox _ = _
  unfold opY
  simp only [mapO]
  cases evalO L x <;> cases evalO L y <;> rfl
theorem runQ_max (x y : Operand) (tys : Array TypeId) : runQ S ops K (⟨dst, .call ⟨.builtin .max, #[x, y], tys⟩, ty, pos, aft, none⟩ :: l) L = someK (evalO L x) fun dx => someK (evalO L y) fun dy => someK (maxD dx dy) (nextQ S ops K l L dst) := by
  rw [runQ_of S ops K l L dst ty pos aft _ (by intro _ _ _ h; cases h) (by intro _ h; cases h) (by intro _ _ _ h; cases h)]
  congr 1
  show opY S (.call ⟨.builtin .max, #[x, y], tys⟩) (evalO L) L.getBox _ = _
  unfold opY
  simp only [mapO]
  cases evalO L x <;> cases evalO L y <;> rfl
end eqsQ
theorem runQ_split {S : Setup} {ops : Array Oper} {K : List Oper → LS → Prop} {l : List Oper} {L : LS} (t : Nat) {b : Bool} (ht : L.get t = some (.bool b)) (h1 : b = true → runQ S ops K l (L.put t (.bool true))) (h0 : b = false → runQ S ops K l (L.put t (.bool false))) : runQ S ops K l L := by
  have e : L.put t (.bool b) = L := by
    show { L with env := setA L.env t (.bool b) } = L
    rw [setA_same ht]
  rw [← e]
  cases b with
  | true => exact h1 rfl
  | false => exact h0 rfl

theorem runQG_fork {S : Setup} {ops : Array Oper} {K : List Oper → LS → Prop} {l : List Oper} {L : LS} {o : Oper} {g : Option Bool} {p : Nat × Bool} (hp : o.guard = some p) {t : Nat} (hj : (ops[p.1]?).bind (·.dst) = some t) {b : Bool} (ht : L.get t = some (.bool b)) (hc : isQCall o.op = false) (hg : g = guardT p.2 (L.get t)) (h1 : b = true → runQ S ops K (o :: l) (L.put t (.bool true))) (h0 : b = false → runQ S ops K (o :: l) (L.put t (.bool false))) : runQG S ops K l L o g := by
  have h := runQ_split t ht h1 h0
  obtain ⟨dst, op, ty, pos, aft, g'⟩ := o
  simp only at hp
  subst hp
  rw [runQ_grd S ops K l L dst ty pos aft op p hc] at h
  obtain ⟨j, want⟩ := p
  simp only [guardY_some] at h
  simp only at hj
  rw [hj] at h
  rw [hg]; exact h
theorem runG_fork {S : Setup} {base : Nat} {ops : Array Oper} {K : List Oper → LS → Prop} {l : List Oper} {L : LS} {o : Oper} {g : Option Bool} {p : Nat × Bool} (hp : o.guard = some p) {t : Nat} (hj : (ops[p.1]?).bind (·.dst) = some t) {b : Bool} (ht : L.get t = some (.bool b)) (hc : isVCall o.op = false) (hg : g = guardT p.2 (L.get t)) (h1 : b = true → runL S base ops K (o :: l) (L.put t (.bool true))) (h0 : b = false → runL S base ops K (o :: l) (L.put t (.bool false))) : runG S base ops K l L o g := by
  have h := runL_split t ht h1 h0
  obtain ⟨dst, op, ty, pos, aft, g'⟩ := o
  simp only at hp
  subst hp
  rw [runL_grd S base ops K l L dst ty pos aft op p hc] at h
  obtain ⟨j, want⟩ := p
  simp only [guardY_some] at h
  simp only at hj
  rw [hj] at h
  rw [hg]; exact h
/-- What is remembered behind each region. -/
def LS.keepAt (L : LS) (kp : List (Nat × List Nat)) (id : Nat) : LS := match look kp id with
  | some ks => L.keep ks
  | none => L
theorem sw_keepAt {S : Setup} {B : Base} {R : LS → Prop} {k : List VItem} {L : LS} (kp : List (Nat × List Nat)) (id : Nat) (h : SW S B R k (L.keepAt kp id)) : SW S B R k L := by
  unfold LS.keepAt at h
  split at h
  · exact sw_keep _ h
  · exact h

/-! Marks for the driver: is the goal of this shape? -/
theorem runL_go {S : Setup} {base : Nat} {ops : Array Oper} {K : List Oper → LS → Prop} {l : List Oper} {L : LS} (h : runL S base ops K l L) : runL S base ops K l L := h
theorem runQ_go {S : Setup} {ops : Array Oper} {K : List Oper → LS → Prop} {l : List Oper} {L : LS} (h : runQ S ops K l L) : runQ S ops K l L := h
/-- What may be done with what stands behind a call. -/
structure KOk (S : Setup) (base : Nat) (B : Base) (ops : Array Oper) (N : LS → Prop) (K : List Oper → LS → Prop) : Prop where
  nil : ∀ {L}, N L → K [] L
  weak : ∀ {l L L'}, L.covers L' → runL S base ops K l L' → K l L
  split : ∀ {l L} (t : Nat) {b : Bool}, L.get t = some (.bool b) → (b = true → runL S base ops K l (L.put t (.bool true))) → (b = false → runL S base ops K l (L.put t (.bool false))) → K l L
  skip : ∀ {o l L}, guardY ops L o.guard = some false → dstOk o.dst L → runL S base ops K l (L.putO o.dst (.raw undef)) → K (o :: l) L
  call : ∀ {l : List Oper} {L : LS} {dst : Option Nat} {f : Operand} {args : Array Operand} {tys : Array TypeId} {ty : TypeId} {pos : String} {aft : Array Edge} {g : Option (Nat × Bool)}
    (_ : guardY ops L g = some true) {fid : Nat} {cap ds : List D} {ro : List (Nat × List D)} {d : D} (_ : evalO L f = some (.fn fid cap)) (_ : mapO (evalO L) args.toList = some ds) (_ : FC S fid ro [] [] (ds ++ cap) d [] [])
    (_ : (∀ p ∈ ro, L.getBox p.1 = some p.2) ∧ d.ids = [] ∧ d.tks = [] ∧ dstOk dst L) (_ : runL S base ops K l (L.putO dst d)), K (⟨dst, .call ⟨.value f, args, tys⟩, ty, pos, aft, g⟩ :: l) L
  callB : ∀ {l : List Oper} {L : LS} {t : Nat} {f : Operand} {args : Array Operand} {tys : Array TypeId} {ty : TypeId} {pos : String} {aft : Array Edge} {g : Option (Nat × Bool)}
    (_ : guardY ops L g = some true) {fid : Nat} {cap ds : List D} {ro cx cx' : List (Nat × List D)} {tk0 tk' : List Nat} {d : D} (_ : evalO L f = some (.fn fid cap)) (_ : mapO (evalO L) args.toList = some ds) (_ : FC S fid ro cx tk0 (ds ++ cap) d cx' tk')
    (_ : (t < L.n ∧ (∀ p ∈ ro, L.getBox p.1 = some p.2 ∧ p.1 ∉ cx.map (·.1)) ∧ (∀ p ∈ cx, look L.boxes p.1 = some p.2) ∧ (∀ k ∈ tk0, k ∈ L.toks) ∧ (∀ p ∈ cx', p.1 ∈ cx.map (·.1))) ∧ ((∀ i ∈ d.ids, i ∈ cx.map (·.1)) ∧ (∀ p ∈ cx', ∀ i ∈ D.idsL p.2, i ∈ cx.map (·.1)) ∧
      (∀ k ∈ d.tks, k ∈ tk') ∧ (∀ p ∈ cx', ∀ k ∈ D.tksL p.2, k ∈ tk') ∧ (∀ k ∈ tk', k < 1000)) ∧ L.clean (inTok (1000 * (t + 1))) = true)
    (_ : runL S base ops K l ((L.after (1000 * (t + 1)) cx tk0 cx' tk').put t (d.shT (1000 * (t + 1))))), K (⟨some t, .call ⟨.value f, args, tys⟩, ty, pos, aft, g⟩ :: l) L
  callT : ∀ {l : List Oper} {L : LS} {t : Nat} {f : Operand} {args : Array Operand} {tys : Array TypeId} {ty : TypeId} {pos : String} {aft : Array Edge} {g : Option (Nat × Bool)}
    (_ : guardY ops L g = some true) {fid : Nat} {cap ds : List D} {ro : List (Nat × List D)} {ys : List Int} {e0 : TypeId} {z0 : Nat} (_ : evalO L f = some (.fn fid cap)) (_ : mapO (evalO L) args.toList = some ds) (_ : FC S fid ro [] [] (ds ++ cap) (.sl (.own 0 e0 z0) (ys.map (.int .i64))) [] [0])
    (_ : (t < L.n ∧ base + t ∉ L.fix ∧ (∀ p ∈ ro, L.getBox p.1 = some p.2)) ∧ ys ≠ [])
    (_ : runL S base ops K l ((L.thawed (base + t) (ys.map (.int .i64))).put t (.ms (base + t) ys.length))), K (⟨some t, .call ⟨.value f, args, tys⟩, ty, pos, aft, g⟩ :: l) L
  callM : ∀ {l : List Oper} {L : LS} {t : Nat} {f : Operand} {args : Array Operand} {tys : Array TypeId} {ty : TypeId} {pos : String} {aft : Array Edge} {g : Option (Nat × Bool)}
    (_ : guardY ops L g = some true) {fid : Nat} {cap ds : List D} {ro : List (Nat × List D)} {cs0 : List D} {j0 n0 : Nat} (_ : evalO L f = some (.fn fid cap)) (_ : mapO (evalO L) args.toList = some ds) (_ : FC S fid ro [] [] (ds ++ cap) (.ms j0 n0) [(j0, cs0)] [])
    (_ : (t < L.n ∧ base + t ∉ L.fix ∧ (∀ p ∈ ro, L.getBox p.1 = some p.2)) ∧ ∀ d ∈ cs0, d.memOk = true)
    (_ : runL S base ops K l ((L.thawed (base + t) cs0).put t (.ms (base + t) n0))), K (⟨some t, .call ⟨.value f, args, tys⟩, ty, pos, aft, g⟩ :: l) L

theorem KOk.fork {S : Setup} {base : Nat} {B : Base} {ops : Array Oper} {N : LS → Prop} {K : List Oper → LS → Prop} (hK : KOk S base B ops N K) {l : List Oper} {L : LS} {o : Oper} {p : Nat × Bool} (_ : o.guard = some p) {t : Nat} (_ : (ops[p.1]?).bind (·.dst) = some t) {b : Bool} (ht : L.get t = some (.bool b)) (h1 : b = true → runL S base ops K (o :: l) (L.put t (.bool true))) (h0 : b = false → runL S base ops K (o :: l) (L.put t (.bool false))) : K (o :: l) L :=
  hK.split t ht h1 h0
section
variable {S : Setup} {B : Base} {R : LS → Prop} {k : List VItem} {L : LS}
/-- A region in the text's order. -/
theorem sw_go (base : Nat) (kp : List (Nat × List Nat)) {id : Nat} {l : List Oper} (h : ∀ K : List Oper → LS → Prop, KOk S base B l.toArray (fun L' => SW S B R k (L'.keepAt kp id)) K → runL S base l.toArray K l L) : SW S B R (.code (.region id l.toArray false) :: k) L := by
  have hs : ∀ l' L', runL S base l.toArray (fun l' L' => LopsW S B l.toArray l' L' (fun L2 => SW S B R k L2)) l' L' → LopsW S B l.toArray l' L' (fun L2 => SW S B R k L2) :=
    runL_sound (base := base) (K' := fun l' L' => LopsW S B l.toArray l' L' (fun L2 => SW S B R k L2)) (fun _ _ h => h)
  refine sw_region (hs _ _ (h _ ?_))
  exact {
    nil := fun h => LopsW.nil (sw_keepAt kp id h)
    weak := fun hc h => LopsW.weak hc (hs _ _ h)
    split := fun t _ ht h1 h0 => LopsW.split t ht (fun e => hs _ _ (h1 e)) (fun e => hs _ _ (h0 e))
    skip := fun hg hd h => LopsW.skip hg hd (hs _ _ h)
    call := fun hg _ _ _ _ _ hf hds fc hside h => LopsW.call hg hf hds fc hside (hs _ _ h)
    callB := fun hg _ _ _ _ _ _ _ _ _ hf hds fc hside h => LopsW.callB hg hf hds fc hside (hs _ _ h)
    callT := fun hg _ _ _ _ _ _ _ hf hds fc hside h => LopsW.callTi hg (base + _) hf hds fc hside (hs _ _ h)
    callM := fun hg _ _ _ _ _ _ _ hf hds fc hside h => LopsW.callM hg (base + _) hf hds fc hside (hs _ _ h) }

structure QOk (S : Setup) (ops : Array Oper) (N : LS → Prop) (K : List Oper → LS → Prop) : Prop where
  nil : ∀ {L}, N L → K [] L
  split : ∀ {l L} (t : Nat) {b : Bool}, L.get t = some (.bool b) → (b = true → runQ S ops K l (L.put t (.bool true))) → (b = false → runQ S ops K l (L.put t (.bool false))) → K l L
  skip : ∀ {o l L}, guardY ops L o.guard = some false → dstOk o.dst L → runQ S ops K l (L.putO o.dst (.raw undef)) → K (o :: l) L
  call : ∀ {l : List Oper} {L : LS} {dst : Option Nat} {f : Operand} {args : Array Operand} {tys : Array TypeId} {ty : TypeId} {pos : String} {aft : Array Edge} {g : Option (Nat × Bool)}
    (_ : guardY ops L g = some true) {fid : Nat} {cap ds : List D} {ro : List (Nat × List D)} {d : D} (_ : evalO L f = some (.fn fid cap)) (_ : mapO (evalO L) args.toList = some ds) (_ : FC S fid ro [] [] (ds ++ cap) d [] [])
    (_ : (∀ p ∈ ro, L.getBox p.1 = some p.2) ∧ d.ids = [] ∧ d.tks = [] ∧ dstOk dst L) (_ : runQ S ops K l (L.putO dst d)), K (⟨dst, .call ⟨.value f, args, tys⟩, ty, pos, aft, g⟩ :: l) L

theorem QOk.fork {S : Setup} {ops : Array Oper} {N : LS → Prop} {K : List Oper → LS → Prop} (hK : QOk S ops N K) {l : List Oper} {L : LS} {o : Oper} {p : Nat × Bool} (_ : o.guard = some p) {t : Nat} (_ : (ops[p.1]?).bind (·.dst) = some t) {b : Bool} (ht : L.get t = some (.bool b)) (h1 : b = true → runQ S ops K (o :: l) (L.put t (.bool true))) (h0 : b = false → runQ S ops K (o :: l) (L.put t (.bool false))) : K (o :: l) L :=
  hK.split t ht h1 h0
/-- A region that draws its order. -/
theorem sw_goD (kp : List (Nat × List Nat)) {id : Nat} {l : List Oper} (hB : Region.lexB .any l.toArray = true) (h : ∀ K : List Oper → LS → Prop, QOk S l.toArray (fun L' => SW S B R k (L'.keepAt kp id)) K → runQ S l.toArray K l L) : SW S B R (.code (.region id l.toArray true) :: k) L := by
  have hs : ∀ l' L', runQ S l.toArray (fun l' L' => LexQ S l.toArray L (fun L2 => SW S B R k L2) l' L') l' L' → LexQ S l.toArray L (fun L2 => SW S B R k L2) l' L' :=
    runQ_sound (K' := fun l' L' => LexQ S l.toArray L (fun L2 => SW S B R k L2) l' L') (fun _ _ h => h)
  refine sw_draw hB (hs _ _ (h _ ?_))
  exact {
    nil := fun h => LexQ.nil (sw_keepAt kp id h)
    split := fun t _ ht h1 h0 => LexQ.split t ht (fun e => hs _ _ (h1 e)) (fun e => hs _ _ (h0 e))
    skip := fun hg hd h => LexQ.skip hg hd (hs _ _ h)
    call := fun hg _ _ _ _ _ hf hds fc hside h => LexQ.call hg hf hds fc hside (hs _ _ h) }
/-- A region that draws its order, but for its end (from the m-th operation on). -/
theorem sw_goT (base : Nat) (kp : List (Nat × List Nat)) (m : Nat) {id : Nat} {l : List Oper} (hB : drawT .any l.toArray m = true) (h : ∀ Kq : List Oper → LS → Prop, QOk S l.toArray (fun L' => ∀ K : List Oper → LS → Prop, KOk S base B l.toArray (fun L' => SW S B R k (L'.keepAt kp id)) K → runL S base l.toArray K (l.drop m) L') Kq → runQ S l.toArray Kq (l.take m) L) : SW S B R (.code (.region id l.toArray true) :: k) L := by
  have hs : ∀ l' L', runL S base l.toArray (fun l' L' => LopsW S B l.toArray l' L' (fun L2 => SW S B R k L2)) l' L' → LopsW S B l.toArray l' L' (fun L2 => SW S B R k L2) :=
    runL_sound (base := base) (K' := fun l' L' => LopsW S B l.toArray l' L' (fun L2 => SW S B R k L2)) (fun _ _ h => h)
  have hq : ∀ l' L', runQ S l.toArray (fun l' L' => LexQ S l.toArray L (fun L2 => LopsW S B l.toArray (l.drop m) L2 fun L3 => SW S B R k L3) l' L') l' L' → LexQ S l.toArray L (fun L2 => LopsW S B l.toArray (l.drop m) L2 fun L3 => SW S B R k L3) l' L' :=
    runQ_sound (K' := fun l' L' => LexQ S l.toArray L (fun L2 => LopsW S B l.toArray (l.drop m) L2 fun L3 => SW S B R k L3) l' L') (fun _ _ h => h)
  intro G a w hsim
  refine drawT_sound hB (hq _ _ (h _ ?_)) hsim (fun L' G' a' w' hK hs' => hK G' a' w' hs')
  exact {
    nil := fun h => LexQ.nil (hs _ _ (h _ {
      nil := fun h => LopsW.nil (sw_keepAt kp id h)
      weak := fun hc h => LopsW.weak hc (hs _ _ h)
      split := fun t _ ht h1 h0 => LopsW.split t ht (fun e => hs _ _ (h1 e)) (fun e => hs _ _ (h0 e))
      skip := fun hg hd h => LopsW.skip hg hd (hs _ _ h)
      call := fun hg _ _ _ _ _ hf hds fc hside h => LopsW.call hg hf hds fc hside (hs _ _ h)
      callB := fun hg _ _ _ _ _ _ _ _ _ hf hds fc hside h => LopsW.callB hg hf hds fc hside (hs _ _ h)
      callT := fun hg _ _ _ _ _ _ _ hf hds fc hside h => LopsW.callTi hg (base + _) hf hds fc hside (hs _ _ h)
      callM := fun hg _ _ _ _ _ _ _ hf hds fc hside h => LopsW.callM hg (base + _) hf hds fc hside (hs _ _ h) }))
    split := fun t _ ht h1 h0 => LexQ.split t ht (fun e => hq _ _ (h1 e)) (fun e => hq _ _ (h0 e))
    skip := fun hg hd h => LexQ.skip hg hd (hq _ _ h)
    call := fun hg _ _ _ _ _ hf hds fc hside h => LexQ.call hg hf hds fc hside (hq _ _ h) }
end
end Go.Lg
