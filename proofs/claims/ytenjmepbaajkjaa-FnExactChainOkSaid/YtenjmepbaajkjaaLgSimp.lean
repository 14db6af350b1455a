/-
  Lg, part 20: the equations by which a region is reckoned.
-/
import Derived.Test.YtenjmepbaajkjaaLgTab
namespace Go.Lg
open Go Go.RowKit

section congrs
variable {S : Setup} {K : D → Prop}
@[congr] theorem someK_congr {α : Type} {o o' : Option α} {K : α → Prop} (h : o = o') : someK o K = someK o' K := by rw [h]
@[congr] theorem cellsY_congr {t : TypeId} {cs cs' : List D} (h : cs = cs') : cellsY S t cs K = cellsY S t cs' K := by rw [h]
@[congr] theorem loadY_congr {t : TypeId} {bx bx' : Nat → Option (List D)} {d d' : D} (hb : bx = bx') (h : d = d') : loadY S t bx d K = loadY S t bx' d' K := by rw [hb, h]
@[congr] theorem intYY_congr {op : BinOp} {k k' : IntKind} {a a' b b' : Int} (ha : a = a') (hb : b = b') : intYY op k k' a b K = intYY op k k' a' b' K := by rw [ha, hb]
@[congr] theorem intY_congr {op : BinOp} {k : IntKind} {a a' b b' : Int} (ha : a = a') (hb : b = b') : intY op k a b K = intY op k a' b' K := by rw [ha, hb]
@[congr] theorem strY_congr {op : BinOp} {a a' b b' : ByteArray} (ha : a = a') (hb : b = b') : strY op a b K = strY op a' b' K := by rw [ha, hb]
@[congr] theorem boolY_congr {op : BinOp} {a a' b b' : Bool} (ha : a = a') (hb : b = b') : boolY op a b K = boolY op a' b' K := by rw [ha, hb]
@[congr] theorem nilY_congr {op : BinOp} {tk tk' : Tk} {xs xs' : List D} (ha : tk = tk') (hb : xs = xs') : nilY op tk xs K = nilY op tk' xs' K := by rw [ha, hb]
@[congr] theorem binY_congr {op : BinOp} {t : TypeId} {x x' y y' : D} (ha : x = x') (hb : y = y') : binY S op t x y K = binY S op t x' y' K := by rw [ha, hb]
@[congr] theorem unY_congr {op : UnOp} {x x' : D} (h : x = x') : unY op x K = unY op x' K := by rw [h]
@[congr] theorem convY_congr {t : TypeId} {x x' : D} (h : x = x') : convY S t x K = convY S t x' K := by rw [h]
@[congr] theorem fieldAddrY_congr {t : TypeId} {f : Nat} {x x' : D} (h : x = x') : fieldAddrY S t f x K = fieldAddrY S t f x' K := by rw [h]
@[congr] theorem fieldY_congr {t : TypeId} {f : Nat} {x x' : D} (h : x = x') : fieldY S t f x K = fieldY S t f x' K := by rw [h]
@[congr] theorem indexAddrY_congr {t : TypeId} {x x' i i' : D} (h : x = x') (hi : i = i') : indexAddrY S t x i K = indexAddrY S t x' i' K := by rw [h, hi]
@[congr] theorem indexY_congr {t : TypeId} {x x' i i' : D} (h : x = x') (hi : i = i') : indexY S t x i K = indexY S t x' i' K := by rw [h, hi]
@[congr] theorem lenY_congr {t : TypeId} {x x' : D} (h : x = x') : lenY S t x K = lenY S t x' K := by rw [h]
@[congr] theorem sliceY_congr {t : TypeId} {x x' : D} {l l' m m' n n' : Option Int} (h : x = x') (hl : l = l') (hm : m = m') (hn : n = n') : sliceY S t x l m n K = sliceY S t x' l' m' n' K := by rw [h, hl, hm, hn]
@[congr] theorem buildY_congr {t : TypeId} {ps ps' : List (Nat × D)} (h : ps = ps') : buildY S t ps K = buildY S t ps' K := by rw [h]
@[congr] theorem buildSliceY_congr {t : TypeId} {n : Nat} {ps ps' : List (Nat × D)} (h : ps = ps') : buildSliceY S t n ps K = buildSliceY S t n ps' K := by rw [h]
@[congr] theorem appendY_congr {L L' : LS} {t : Nat} {ty : TypeId} {ds ds' : List D} {N : LS → Prop} (hL : L = L') (h : ds = ds') : appendY S L t ty ds N = appendY S L' t ty ds' N := by rw [hL, h]
@[congr] theorem makeY_congr {base : Nat} {L L' : LS} {t : Nat} {ty : TypeId} {b b' : Bool} {l l' c c' : D} {N : LS → Prop} (hL : L = L') (hb : b = b') (h : l = l') (hc : c = c') : makeY S base L t ty b l c N = makeY S base L' t ty b' l' c' N := by rw [hL, hb, h, hc]
@[congr] theorem storeY_congr {L L' : LS} {t : Option Nat} {ty : TypeId} {x x' d d' : D} {N : LS → Prop} (hL : L = L') (hx : x = x') (h : d = d') : storeY S L t ty x d N = storeY S L' t ty x' d' N := by rw [hL, hx, h]
end congrs

/-- A choice of values; 'ifK' keeps its arms shut. -/
def pickY (ρ : Operand → Option D) (a b : Operand) (d : D) (K : D → Prop) : Prop := match d with
  | .bool t => (match t with
    | true => someK (ρ a) K
    | false => someK (ρ b) K)
  | _ => False
@[congr] theorem pickY_congr {ρ : Operand → Option D} {a b : Operand} {d d' : D} {K : D → Prop} (h : d = d') : pickY ρ a b d K = pickY ρ a b d' K := by rw [h]
theorem pickY_t (ρ : Operand → Option D) (a b : Operand) (K : D → Prop) : pickY ρ a b (.bool true) K = someK (ρ a) K := rfl
theorem pickY_f (ρ : Operand → Option D) (a b : Operand) (K : D → Prop) : pickY ρ a b (.bool false) K = someK (ρ b) K := rfl

def nilcY (d : D) (K : D → Prop) : Prop := match d with
  | .box .. | .imm _ | .fn .. => K d
  | _ => False
@[congr] theorem nilcY_congr {d d' : D} {K : D → Prop} (h : d = d') : nilcY d K = nilcY d' K := by rw [h]
def extrY (i : Nat) (d : D) (K : D → Prop) : Prop := match d with
  | .tup ds => someK ds[i]? K
  | _ => False
@[congr] theorem extrY_congr {i : Nat} {d d' : D} {K : D → Prop} (h : d = d') : extrY i d K = extrY i d' K := by rw [h]

section eqs
variable (S : Setup) (base : Nat) (ops : Array Oper) (K : List Oper → LS → Prop) (l : List Oper) (L : LS) (dst : Option Nat) (ty : TypeId) (pos : String) (aft : Array Edge)

/-- what stands behind an operation that yields d -/
def nextL (d : D) : Prop := dstOk dst L ∧ runL S base ops K l (L.putO dst d)
theorem nextL_some (t : Nat) (d : D) : nextL S base ops K l L (some t) d = (t < L.n ∧ runL S base ops K l (L.put t d)) := rfl
theorem nextL_none (d : D) : nextL S base ops K l L none d = (True ∧ runL S base ops K l L) := rfl

theorem runL_nil : runL S base ops K [] L = K [] L := rfl
theorem runL_call (f : Operand) (args : Array Operand) (tys : Array TypeId) (g : Option (Nat × Bool)) : runL S base ops K (⟨dst, .call ⟨.value f, args, tys⟩, ty, pos, aft, g⟩ :: l) L = K (⟨dst, .call ⟨.value f, args, tys⟩, ty, pos, aft, g⟩ :: l) L := rfl

theorem runL_of (op : Op) (h : ∀ f args tys, op ≠ .call ⟨.value f, args, tys⟩) : runL S base ops K (⟨dst, op, ty, pos, aft, none⟩ :: l) L = stepY S base ⟨dst, op, ty, pos, aft, none⟩ L (runL S base ops K l) := by
  conv => lhs; unfold runL
  split
  · exact absurd rfl (h _ _ _)
  · rfl
def isVCall : Op → Bool
  | .call ⟨.value _, _, _⟩ => true
  | _ => false
/-- a guarded operation that is wanted, or not -/
theorem runL_want (op : Op) (p : Nat × Bool) (hc : isVCall op = false) (h : guardY ops L (some p) = some true) : runL S base ops K (⟨dst, op, ty, pos, aft, some p⟩ :: l) L = runL S base ops K (⟨dst, op, ty, pos, aft, none⟩ :: l) L := by
  rw [runL_of]
  · conv => lhs; unfold runL
    split
    · cases hc
    · rw [h]; rfl
  · intro f args tys e; subst e; cases hc
theorem runL_skip (op : Op) (p : Nat × Bool) (hc : isVCall op = false) (h : guardY ops L (some p) = some false) : runL S base ops K (⟨dst, op, ty, pos, aft, some p⟩ :: l) L = nextL S base ops K l L dst (.raw undef) := by
  conv => lhs; unfold runL
  split
  · cases hc
  · rw [h]; rfl
/-- a guarded operation, by its test -/
def runG (o : Oper) : Option Bool → Prop
  | some true => runL S base ops K (⟨o.dst, o.op, o.type, o.pos, o.after, none⟩ :: l) L
  | some false => nextL S base ops K l L o.dst (.raw undef)
  | none => runL S base ops K (o :: l) L
theorem runG_t (o : Oper) : runG S base ops K l L o (some true) = runL S base ops K (⟨o.dst, o.op, o.type, o.pos, o.after, none⟩ :: l) L := rfl
theorem runG_f (o : Oper) : runG S base ops K l L o (some false) = nextL S base ops K l L o.dst (.raw undef) := rfl
theorem runL_grd (op : Op) (p : Nat × Bool) (hc : isVCall op = false) : runL S base ops K (⟨dst, op, ty, pos, aft, some p⟩ :: l) L = runG S base ops K l L ⟨dst, op, ty, pos, aft, some p⟩ (guardY ops L (some p)) := by
  cases h : guardY ops L (some p) with
  | none => rfl
  | some b => cases b with
    | true => exact runL_want S base ops K l L dst ty pos aft op p hc h
    | false => exact runL_skip S base ops K l L dst ty pos aft op p hc h
theorem runL_g_move (p : Nat × Bool) (x : Operand) : runL S base ops K (⟨dst, .move x, ty, pos, aft, some p⟩ :: l) L = runG S base ops K l L ⟨dst, .move x, ty, pos, aft, some p⟩ (guardY ops L (some p)) := runL_grd S base ops K l L dst ty pos aft _ p rfl
theorem runL_g_assign (p : Nat × Bool) (x : Operand) : runL S base ops K (⟨dst, .assign x, ty, pos, aft, some p⟩ :: l) L = runG S base ops K l L ⟨dst, .assign x, ty, pos, aft, some p⟩ (guardY ops L (some p)) := runL_grd S base ops K l L dst ty pos aft _ p rfl
theorem runL_g_pick (p : Nat × Bool) (a b c : Operand) : runL S base ops K (⟨dst, .pick a b c, ty, pos, aft, some p⟩ :: l) L = runG S base ops K l L ⟨dst, .pick a b c, ty, pos, aft, some p⟩ (guardY ops L (some p)) := runL_grd S base ops K l L dst ty pos aft _ p rfl
theorem runL_g_alloc (p : Nat × Bool) (t : TypeId) : runL S base ops K (⟨dst, .alloc t, ty, pos, aft, some p⟩ :: l) L = runG S base ops K l L ⟨dst, .alloc t, ty, pos, aft, some p⟩ (guardY ops L (some p)) := runL_grd S base ops K l L dst ty pos aft _ p rfl
theorem runL_g_box (p : Nat × Bool) (t : TypeId) (x : Operand) : runL S base ops K (⟨dst, .box t x, ty, pos, aft, some p⟩ :: l) L = runG S base ops K l L ⟨dst, .box t x, ty, pos, aft, some p⟩ (guardY ops L (some p)) := runL_grd S base ops K l L dst ty pos aft _ p rfl
theorem runL_g_build (gd : Nat × Bool) (t : TypeId) (p : Array (Nat × Operand)) : runL S base ops K (⟨dst, .build t p, ty, pos, aft, some gd⟩ :: l) L = runG S base ops K l L ⟨dst, .build t p, ty, pos, aft, some gd⟩ (guardY ops L (some gd)) := runL_grd S base ops K l L dst ty pos aft _ gd rfl
theorem runL_g_buildSlice (gd : Nat × Bool) (t : TypeId) (n : Nat) (p : Array (Nat × Operand)) : runL S base ops K (⟨dst, .buildSlice t n p, ty, pos, aft, some gd⟩ :: l) L = runG S base ops K l L ⟨dst, .buildSlice t n p, ty, pos, aft, some gd⟩ (guardY ops L (some gd)) := runL_grd S base ops K l L dst ty pos aft _ gd rfl
theorem runL_g_load (p : Nat × Bool) (t : TypeId) (x : Operand) : runL S base ops K (⟨dst, .load t x, ty, pos, aft, some p⟩ :: l) L = runG S base ops K l L ⟨dst, .load t x, ty, pos, aft, some p⟩ (guardY ops L (some p)) := runL_grd S base ops K l L dst ty pos aft _ p rfl
theorem runL_g_store (p : Nat × Bool) (t : TypeId) (x y : Operand) : runL S base ops K (⟨dst, .store t x y, ty, pos, aft, some p⟩ :: l) L = runG S base ops K l L ⟨dst, .store t x y, ty, pos, aft, some p⟩ (guardY ops L (some p)) := runL_grd S base ops K l L dst ty pos aft _ p rfl
theorem runL_g_nilCheck (p : Nat × Bool) (x : Operand) : runL S base ops K (⟨dst, .nilCheck x, ty, pos, aft, some p⟩ :: l) L = runG S base ops K l L ⟨dst, .nilCheck x, ty, pos, aft, some p⟩ (guardY ops L (some p)) := runL_grd S base ops K l L dst ty pos aft _ p rfl
theorem runL_g_binOp (p : Nat × Bool) (o : BinOp) (t u : TypeId) (x y : Operand) : runL S base ops K (⟨dst, .binOp o t x y u, ty, pos, aft, some p⟩ :: l) L = runG S base ops K l L ⟨dst, .binOp o t x y u, ty, pos, aft, some p⟩ (guardY ops L (some p)) := runL_grd S base ops K l L dst ty pos aft _ p rfl
theorem runL_g_unOp (p : Nat × Bool) (o : UnOp) (t : TypeId) (x : Operand) : runL S base ops K (⟨dst, .unOp o t x, ty, pos, aft, some p⟩ :: l) L = runG S base ops K l L ⟨dst, .unOp o t x, ty, pos, aft, some p⟩ (guardY ops L (some p)) := runL_grd S base ops K l L dst ty pos aft _ p rfl
theorem runL_g_convert (p : Nat × Bool) (s t : TypeId) (x : Operand) : runL S base ops K (⟨dst, .convert s t x, ty, pos, aft, some p⟩ :: l) L = runG S base ops K l L ⟨dst, .convert s t x, ty, pos, aft, some p⟩ (guardY ops L (some p)) := runL_grd S base ops K l L dst ty pos aft _ p rfl
theorem runL_g_makeFunc (p : Nat × Bool) (f : Fn) (a b : Array Operand) : runL S base ops K (⟨dst, .makeFunc f a b, ty, pos, aft, some p⟩ :: l) L = runG S base ops K l L ⟨dst, .makeFunc f a b, ty, pos, aft, some p⟩ (guardY ops L (some p)) := runL_grd S base ops K l L dst ty pos aft _ p rfl
theorem runL_g_makeSlice (p : Nat × Bool) (t : TypeId) (x y : Operand) : runL S base ops K (⟨dst, .makeSlice t x y, ty, pos, aft, some p⟩ :: l) L = runG S base ops K l L ⟨dst, .makeSlice t x y, ty, pos, aft, some p⟩ (guardY ops L (some p)) := runL_grd S base ops K l L dst ty pos aft _ p rfl
theorem runL_g_slice (p : Nat × Bool) (t : TypeId) (x : Operand) (a b c : Option Operand) : runL S base ops K (⟨dst, .slice t x a b c, ty, pos, aft, some p⟩ :: l) L = runG S base ops K l L ⟨dst, .slice t x a b c, ty, pos, aft, some p⟩ (guardY ops L (some p)) := runL_grd S base ops K l L dst ty pos aft _ p rfl
theorem runL_g_fieldAddr (p : Nat × Bool) (t : TypeId) (x : Operand) (n : Nat) : runL S base ops K (⟨dst, .fieldAddr t x n, ty, pos, aft, some p⟩ :: l) L = runG S base ops K l L ⟨dst, .fieldAddr t x n, ty, pos, aft, some p⟩ (guardY ops L (some p)) := runL_grd S base ops K l L dst ty pos aft _ p rfl
theorem runL_g_field (p : Nat × Bool) (t : TypeId) (x : Operand) (n : Nat) : runL S base ops K (⟨dst, .field t x n, ty, pos, aft, some p⟩ :: l) L = runG S base ops K l L ⟨dst, .field t x n, ty, pos, aft, some p⟩ (guardY ops L (some p)) := runL_grd S base ops K l L dst ty pos aft _ p rfl
theorem runL_g_indexAddr (p : Nat × Bool) (t : TypeId) (x y : Operand) : runL S base ops K (⟨dst, .indexAddr t x y, ty, pos, aft, some p⟩ :: l) L = runG S base ops K l L ⟨dst, .indexAddr t x y, ty, pos, aft, some p⟩ (guardY ops L (some p)) := runL_grd S base ops K l L dst ty pos aft _ p rfl
theorem runL_g_index (p : Nat × Bool) (t : TypeId) (x y : Operand) : runL S base ops K (⟨dst, .index t x y, ty, pos, aft, some p⟩ :: l) L = runG S base ops K l L ⟨dst, .index t x y, ty, pos, aft, some p⟩ (guardY ops L (some p)) := runL_grd S base ops K l L dst ty pos aft _ p rfl
theorem runL_g_extract (p : Nat × Bool) (x : Operand) (n : Nat) : runL S base ops K (⟨dst, .extract x n, ty, pos, aft, some p⟩ :: l) L = runG S base ops K l L ⟨dst, .extract x n, ty, pos, aft, some p⟩ (guardY ops L (some p)) := runL_grd S base ops K l L dst ty pos aft _ p rfl
theorem runL_g_call (p : Nat × Bool) (b : Builtin) (a : Array Operand) (tys : Array TypeId) : runL S base ops K (⟨dst, .call ⟨.builtin b, a, tys⟩, ty, pos, aft, some p⟩ :: l) L = runG S base ops K l L ⟨dst, .call ⟨.builtin b, a, tys⟩, ty, pos, aft, some p⟩ (guardY ops L (some p)) := runL_grd S base ops K l L dst ty pos aft _ p rfl
theorem runL_move (x : Operand) : runL S base ops K (⟨dst, .move x, ty, pos, aft, none⟩ :: l) L = someK (evalO L x) (nextL S base ops K l L dst) :=
  runL_of S base ops K l L dst ty pos aft _ (by intro _ _ _ h; cases h)
theorem runL_assign (x : Operand) : runL S base ops K (⟨dst, .assign x, ty, pos, aft, none⟩ :: l) L = someK (evalO L x) (nextL S base ops K l L dst) :=
  runL_of S base ops K l L dst ty pos aft _ (by intro _ _ _ h; cases h)
theorem runL_pick (c x y : Operand) : runL S base ops K (⟨dst, .pick c x y, ty, pos, aft, none⟩ :: l) L = someK (evalO L c) fun d => pickY (evalO L) x y d (nextL S base ops K l L dst) := by
  rw [runL_of S base ops K l L dst ty pos aft _ (by intro _ _ _ h; cases h)]
  congr 1
  show opY S (.pick c x y) (evalO L) L.getBox _ = _
  unfold opY
  simp only
  congr 1
  funext d
  cases d <;> first | rfl | (rename_i b; cases b <;> rfl)
theorem runL_load (t : TypeId) (x : Operand) : runL S base ops K (⟨dst, .load t x, ty, pos, aft, none⟩ :: l) L = someK (evalO L x) fun d => loadY S t L.getBox d (nextL S base ops K l L dst) :=
  runL_of S base ops K l L dst ty pos aft _ (by intro _ _ _ h; cases h)
theorem runL_nilCheck (x : Operand) : runL S base ops K (⟨dst, .nilCheck x, ty, pos, aft, none⟩ :: l) L = someK (evalO L x) fun d => nilcY d (nextL S base ops K l L dst) := by
  rw [runL_of S base ops K l L dst ty pos aft _ (by intro _ _ _ h; cases h)]
  congr 1
theorem runL_binOp (o : BinOp) (t u : TypeId) (x y : Operand) : runL S base ops K (⟨dst, .binOp o t x y u, ty, pos, aft, none⟩ :: l) L = someK (evalO L x) fun dx => someK (evalO L y) fun dy => binY S o t dx dy (nextL S base ops K l L dst) :=
  runL_of S base ops K l L dst ty pos aft _ (by intro _ _ _ h; cases h)
theorem runL_unOp (o : UnOp) (t : TypeId) (x : Operand) : runL S base ops K (⟨dst, .unOp o t x, ty, pos, aft, none⟩ :: l) L = someK (evalO L x) fun d => unY o d (nextL S base ops K l L dst) :=
  runL_of S base ops K l L dst ty pos aft _ (by intro _ _ _ h; cases h)
theorem runL_convert (s t : TypeId) (x : Operand) : runL S base ops K (⟨dst, .convert s t x, ty, pos, aft, none⟩ :: l) L = ((S.tab s).isSome = true ∧ someK (evalO L x) fun d => convY S t d (nextL S base ops K l L dst)) :=
  runL_of S base ops K l L dst ty pos aft _ (by intro _ _ _ h; cases h)
theorem runL_makeFunc (f : FuncId) (first cap : Array Operand) : runL S base ops K (⟨dst, .makeFunc (.func f) first cap, ty, pos, aft, none⟩ :: l) L = (first.toList = [] ∧ someK (mapO (evalO L) cap.toList) fun ds => nextL S base ops K l L dst (.fn f ds)) :=
  runL_of S base ops K l L dst ty pos aft _ (by intro _ _ _ h; cases h)
theorem runL_fieldAddr (t : TypeId) (x : Operand) (f : Nat) : runL S base ops K (⟨dst, .fieldAddr t x f, ty, pos, aft, none⟩ :: l) L = someK (evalO L x) fun d => fieldAddrY S t f d (nextL S base ops K l L dst) :=
  runL_of S base ops K l L dst ty pos aft _ (by intro _ _ _ h; cases h)
theorem runL_field (t : TypeId) (x : Operand) (f : Nat) : runL S base ops K (⟨dst, .field t x f, ty, pos, aft, none⟩ :: l) L = someK (evalO L x) fun d => fieldY S t f d (nextL S base ops K l L dst) :=
  runL_of S base ops K l L dst ty pos aft _ (by intro _ _ _ h; cases h)
theorem runL_indexAddr (t : TypeId) (x i : Operand) : runL S base ops K (⟨dst, .indexAddr t x i, ty, pos, aft, none⟩ :: l) L = someK (evalO L x) fun dx => someK (evalO L i) fun di => indexAddrY S t dx di (nextL S base ops K l L dst) :=
  runL_of S base ops K l L dst ty pos aft _ (by intro _ _ _ h; cases h)
theorem runL_index (t : TypeId) (x i : Operand) : runL S base ops K (⟨dst, .index t x i, ty, pos, aft, none⟩ :: l) L = someK (evalO L x) fun dx => someK (evalO L i) fun di => indexY S t dx di (nextL S base ops K l L dst) :=
  runL_of S base ops K l L dst ty pos aft _ (by intro _ _ _ h; cases h)
theorem runL_slice (t : TypeId) (x : Operand) (lo hi mx : Option Operand) : runL S base ops K (⟨dst, .slice t x lo hi mx, ty, pos, aft, none⟩ :: l) L = someK (evalO L x) fun d => someK (intOfD (lo.bind (evalO L))) fun l' => someK (intOfD (hi.bind (evalO L))) fun h => someK (intOfD (mx.bind (evalO L))) fun m =>
      ((lo.isSome = l'.isSome ∧ hi.isSome = h.isSome ∧ mx.isSome = m.isSome) ∧ (mx.isSome = true → hi.isSome = true)) ∧ sliceY S t d l' h m (nextL S base ops K l L dst) :=
  runL_of S base ops K l L dst ty pos aft _ (by intro _ _ _ h; cases h)
theorem runL_build (t : TypeId) (ps : Array (Nat × Operand)) : runL S base ops K (⟨dst, .build t ps, ty, pos, aft, none⟩ :: l) L = someK (zipO (evalO L) ps.toList) fun q => buildY S t q (nextL S base ops K l L dst) :=
  runL_of S base ops K l L dst ty pos aft _ (by intro _ _ _ h; cases h)
theorem runL_buildSlice (t : TypeId) (n : Nat) (ps : Array (Nat × Operand)) : runL S base ops K (⟨dst, .buildSlice t n ps, ty, pos, aft, none⟩ :: l) L = someK (zipO (evalO L) ps.toList) fun q => buildSliceY S t n q (nextL S base ops K l L dst) :=
  runL_of S base ops K l L dst ty pos aft _ (by intro _ _ _ h; cases h)
theorem runL_extract (x : Operand) (i : Nat) : runL S base ops K (⟨dst, .extract x i, ty, pos, aft, none⟩ :: l) L = someK (evalO L x) fun d => extrY i d (nextL S base ops K l L dst) := by
  rw [runL_of S base ops K l L dst ty pos aft _ (by intro _ _ _ h; cases h)]
  congr 1
theorem runL_len (x : Operand) (t : TypeId) : runL S base ops K (⟨dst, .call ⟨.builtin .len, #[x], #[t]⟩, ty, pos, aft, none⟩ :: l) L = someK (evalO L x) fun d => lenY S t d (nextL S base ops K l L dst) := by
  rw [runL_of S base ops K l L dst ty pos aft _ (by intro _ _ _ h; cases h)]
  congr 1
  show opY S (.call ⟨.builtin .len, #[x], #[t]⟩) (evalO L) L.getBox _ = _
  unfold opY
  simp only [mapO]
  cases evalO L x <;> rfl
theorem runL_min (x y : Operand) (tys : Array TypeId) : runL S base ops K (⟨dst, .call ⟨.builtin .min, #[x, y], tys⟩, ty, pos, aft, none⟩ :: l) L = someK (evalO L x) fun dx => someK (evalO L y) fun dy => someK (minD dx dy) (nextL S base ops K l L dst) := by
  rw [runL_of S base ops K l L dst ty pos aft _ (by intro _ _ _ h; cases h)]
  congr 1
  show opY S (.call ⟨.builtin .min, #[x, y], tys⟩) (evalO L) L.getBox _ = _
  unfold opY
  simp only [mapO]
  cases evalO L x <;> cases evalO L y <;> rfl
theorem runL_max (x y : Operand) (tys : Array TypeId) : runL S base ops K (⟨dst, .call ⟨.builtin .max, #[x, y], tys⟩, ty, pos, aft, none⟩ :: l) L = someK (evalO L x) fun dx => someK (evalO L y) fun dy => someK (maxD dx dy) (nextL S base ops K l L dst) := by
  rw [runL_of S base ops K l L dst ty pos aft _ (by intro _ _ _ h; cases h)]
  congr 1
  show opY S (.call ⟨.builtin .max, #[x, y], tys⟩) (evalO L) L.getBox _ = _
  unfold opY
  simp only [mapO]
  cases evalO L x <;> cases evalO L y <;> rfl
theorem runL_box (t : Nat) (T : TypeId) (x : Operand) : runL S base ops K (⟨some t, .box T x, ty, pos, aft, none⟩ :: l) L = someK (evalO L x) fun d => (t < L.n ∧ base + t ∉ L.fix ∧ base + t ∉ D.idsL d.cells) ∧ runL S base ops K l (L.newBox t (base + t) d.cells (.box (base + t) 0)) :=
  runL_of S base ops K l L (some t) ty pos aft _ (by intro _ _ _ h; cases h)
theorem runL_alloc (t : Nat) (T : TypeId) : runL S base ops K (⟨some t, .alloc T, ty, pos, aft, none⟩ :: l) L = someK (S.tab T) fun i => (t < L.n ∧ base + t ∉ L.fix) ∧ runL S base ops K l (L.newBox t (base + t) (i.zero.map ZK.d) (.box (base + t) 0)) :=
  runL_of S base ops K l L (some t) ty pos aft _ (by intro _ _ _ h; cases h)
theorem runL_store (T : TypeId) (x v : Operand) : runL S base ops K (⟨dst, .store T x v, ty, pos, aft, none⟩ :: l) L = someK (evalO L x) fun da => someK (evalO L v) fun d => storeY S L dst T da d (runL S base ops K l) :=
  runL_of S base ops K l L dst ty pos aft _ (by intro _ _ _ h; cases h)
theorem runL_makeSlice (t : Nat) (T : TypeId) (x c : Operand) : runL S base ops K (⟨some t, .makeSlice T x c, ty, pos, aft, none⟩ :: l) L = someK (evalO L x) fun dl => someK (evalO L c) fun dc => makeY S base L t T (sameOp x c) dl dc (runL S base ops K l) :=
  runL_of S base ops K l L (some t) ty pos aft _ (by intro _ _ _ h; cases h)
theorem runL_append (t : Nat) (T T' : TypeId) (args : Array Operand) : runL S base ops K (⟨some t, .call ⟨.builtin .append, args, #[T, T']⟩, ty, pos, aft, none⟩ :: l) L = (T = T' ∧ someK (mapO (evalO L) args.toList) fun ds => appendY S L t T ds (runL S base ops K l)) :=
  runL_of S base ops K l L (some t) ty pos aft _ (by intro _ _ _ h; cases h)
end eqs

section yeqs
variable (S : Setup) (K : D → Prop)
theorem binY_int (op : BinOp) (t : TypeId) (k k' : IntKind) (a b : Int) : binY S op t (.int k a) (.int k' b) K = intYY op k k' a b K := rfl
theorem intYY_add (k k' : IntKind) (a b : Int) : intYY .add k k' a b K = (k = k' ∧ intY .add k a b K) := rfl
theorem intYY_sub (k k' : IntKind) (a b : Int) : intYY .sub k k' a b K = (k = k' ∧ intY .sub k a b K) := rfl
theorem intYY_mul (k k' : IntKind) (a b : Int) : intYY .mul k k' a b K = (k = k' ∧ intY .mul k a b K) := rfl
theorem intYY_quo (k k' : IntKind) (a b : Int) : intYY .quo k k' a b K = (k = k' ∧ intY .quo k a b K) := rfl
theorem intYY_rem (k k' : IntKind) (a b : Int) : intYY .rem k k' a b K = (k = k' ∧ intY .rem k a b K) := rfl
theorem intYY_eql (k k' : IntKind) (a b : Int) : intYY .eql k k' a b K = (k = k' ∧ intY .eql k a b K) := rfl
theorem intYY_neq (k k' : IntKind) (a b : Int) : intYY .neq k k' a b K = (k = k' ∧ intY .neq k a b K) := rfl
theorem intYY_lss (k k' : IntKind) (a b : Int) : intYY .lss k k' a b K = (k = k' ∧ intY .lss k a b K) := rfl
theorem intYY_leq (k k' : IntKind) (a b : Int) : intYY .leq k k' a b K = (k = k' ∧ intY .leq k a b K) := rfl
theorem intYY_gtr (k k' : IntKind) (a b : Int) : intYY .gtr k k' a b K = (k = k' ∧ intY .gtr k a b K) := rfl
theorem intYY_geq (k k' : IntKind) (a b : Int) : intYY .geq k k' a b K = (k = k' ∧ intY .geq k a b K) := rfl
theorem intYY_and (k k' : IntKind) (a b : Int) : intYY .and k k' a b K = (k = k' ∧ intY .and k a b K) := rfl
theorem intYY_or (k k' : IntKind) (a b : Int) : intYY .or k k' a b K = (k = k' ∧ intY .or k a b K) := rfl
theorem intYY_shl (k k' : IntKind) (a b : Int) : intYY .shl k k' a b K = ((0 ≤ b ∧ b ≤ k.bits) ∧ K (.int k (k.wrap (a * 2 ^ b.toNat)))) := rfl
theorem intYY_shr (k k' : IntKind) (a b : Int) : intYY .shr k k' a b K = ((0 ≤ b ∧ b ≤ k.bits) ∧ K (.int k (a / 2 ^ b.toNat))) := rfl
theorem intY_and (k : IntKind) (a b : Int) : intY .and k a b K = K (.int k (bits .and k a b)) := rfl
theorem intY_or (k : IntKind) (a b : Int) : intY .or k a b K = K (.int k (bits .or k a b)) := rfl
theorem binY_bool (op : BinOp) (t : TypeId) (a b : Bool) : binY S op t (.bool a) (.bool b) K = (S.kd t = some .bool ∧ boolY op a b K) := rfl
theorem binY_str (op : BinOp) (t : TypeId) (a b : ByteArray) : binY S op t (.str a) (.str b) K = strY op a b K := rfl
theorem binY_nil (op : BinOp) (t : TypeId) (tk : Tk) (xs : List D) : binY S op t (.sl tk xs) (.sl .nil []) K = ((∃ e, S.kd t = some (.slice e)) ∧ nilY op tk xs K) := rfl
theorem intY_add (k : IntKind) (a b : Int) : intY .add k a b K = K (.int k (k.wrap (a + b))) := rfl
theorem intY_sub (k : IntKind) (a b : Int) : intY .sub k a b K = K (.int k (k.wrap (a - b))) := rfl
theorem intY_mul (k : IntKind) (a b : Int) : intY .mul k a b K = K (.int k (k.wrap (a * b))) := rfl
theorem intY_quo (k : IntKind) (a b : Int) : intY .quo k a b K = (b ≠ 0 ∧ K (.int k (k.wrap (a.tdiv b)))) := rfl
theorem intY_rem (k : IntKind) (a b : Int) : intY .rem k a b K = (b ≠ 0 ∧ K (.int k (a.tmod b))) := rfl
theorem intY_eql (k : IntKind) (a b : Int) : intY .eql k a b K = K (.bool (a == b)) := rfl
theorem intY_neq (k : IntKind) (a b : Int) : intY .neq k a b K = K (.bool (a != b)) := rfl
theorem intY_lss (k : IntKind) (a b : Int) : intY .lss k a b K = K (.bool (decide (a < b))) := rfl
theorem intY_leq (k : IntKind) (a b : Int) : intY .leq k a b K = K (.bool (decide (a ≤ b))) := rfl
theorem intY_gtr (k : IntKind) (a b : Int) : intY .gtr k a b K = K (.bool (decide (b < a))) := rfl
theorem intY_geq (k : IntKind) (a b : Int) : intY .geq k a b K = K (.bool (decide (b ≤ a))) := rfl
theorem strY_eql (a b : ByteArray) : strY .eql a b K = K (.bool (a.toList == b.toList)) := rfl
theorem strY_neq (a b : ByteArray) : strY .neq a b K = K (.bool (!(a.toList == b.toList))) := rfl
theorem strY_lss (a b : ByteArray) : strY .lss a b K = K (.bool (Op.bytesLess a.toList b.toList)) := rfl
theorem strY_add (a b : ByteArray) : strY .add a b K = (a.size + b.size ≤ 9223372036854775807 ∧ K (.str (a ++ b))) := rfl
theorem boolY_eql (a b : Bool) : boolY .eql a b K = K (.bool (a == b)) := rfl
theorem boolY_neq (a b : Bool) : boolY .neq a b K = K (.bool (!(a == b))) := rfl
theorem nilY_eql_nil (xs : List D) : nilY .eql .nil xs K = K (.bool true) := rfl
theorem nilY_neq_nil (xs : List D) : nilY .neq .nil xs K = K (.bool false) := rfl
theorem nilY_eql_nl (xs : List D) : nilY .eql .nl xs K = K (.bool true) := rfl
theorem nilY_neq_nl (xs : List D) : nilY .neq .nl xs K = K (.bool false) := rfl
theorem nilY_eql_nn (xs : List D) : nilY .eql .nn xs K = K (.bool false) := rfl
theorem nilY_neq_nn (xs : List D) : nilY .neq .nn xs K = K (.bool true) := rfl
theorem nilY_eql_any (xs : List D) : nilY .eql .any xs K = (xs ≠ [] ∧ K (.bool false)) := rfl
theorem nilY_neq_any (xs : List D) : nilY .neq .any xs K = (xs ≠ [] ∧ K (.bool true)) := rfl
theorem unY_not (b : Bool) : unY .not (.bool b) K = K (.bool (!b)) := rfl
theorem unY_neg (k : IntKind) (n : Int) : unY .neg (.int k n) K = K (.int k (k.wrap (0 - n))) := rfl
def convK (k : Option TK) (n : Int) : Prop := match k with
  | some (.int k) => K (.int k (k.wrap n))
  | _ => False
theorem convK_int (k : IntKind) (n : Int) : convK K (some (.int k)) n = K (.int k (k.wrap n)) := rfl
theorem convY_int (dst : TypeId) (k : IntKind) (n : Int) : convY S dst (.int k n) K = convK K (S.kd dst) n := rfl
theorem loadY_imm (t : TypeId) (bx : Nat → Option (List D)) (cs : List D) : loadY S t bx (.imm cs) K = cellsY S t cs K := rfl
theorem loadY_box (t : TypeId) (bx : Nat → Option (List D)) (id off : Nat) : loadY S t bx (.box id off) K = someK (bx id) fun cs => cellsY S t (cs.drop off) K := rfl
def cellsK (i : TyI) (cs : List D) : Prop := if i.agg = true then i.size ≤ cs.length ∧ K (.agg (cs.take i.size)) else someK cs.head? K
theorem cellsY_eq (t : TypeId) (cs : List D) : cellsY S t cs K = someK (S.tab t) fun i => cellsK K i cs := rfl
theorem cellsK_one (k : TK) (b : Nat) (z : List ZK) (cs : List D) (h : TyI.agg ⟨k, b, z⟩ = false) : cellsK K ⟨k, b, z⟩ cs = someK cs.head? K := by simp [cellsK, h]
theorem cellsK_int (k : IntKind) (b : Nat) (z : List ZK) (cs : List D) : cellsK K ⟨.int k, b, z⟩ cs = someK cs.head? K := cellsK_one K _ b z cs rfl
theorem cellsK_bool (b : Nat) (z : List ZK) (cs : List D) : cellsK K ⟨.bool, b, z⟩ cs = someK cs.head? K := cellsK_one K _ b z cs rfl
theorem cellsK_string (b : Nat) (z : List ZK) (cs : List D) : cellsK K ⟨.string, b, z⟩ cs = someK cs.head? K := cellsK_one K _ b z cs rfl
theorem cellsK_slice (e : TypeId) (b : Nat) (z : List ZK) (cs : List D) : cellsK K ⟨.slice e, b, z⟩ cs = someK cs.head? K := cellsK_one K _ b z cs rfl
theorem cellsK_array (n : Nat) (e : TypeId) (b : Nat) (z : List ZK) (cs : List D) : cellsK K ⟨.array n e, b, z⟩ cs = (z.length ≤ cs.length ∧ K (.agg (cs.take z.length))) := by simp [cellsK, TyI.agg, TyI.size]
theorem exists_tkslice (a : TypeId) : (∃ e, TK.slice a = TK.slice e) = True := eq_true ⟨a, rfl⟩
theorem cellsK_other (b : Nat) (z : List ZK) (cs : List D) : cellsK K ⟨.other, b, z⟩ cs = someK cs.head? K := cellsK_one K _ b z cs rfl
theorem cellsK_struct (fs : List (Nat × TypeId)) (b : Nat) (z : List ZK) (cs : List D) : cellsK K ⟨.struct fs, b, z⟩ cs = (z.length ≤ cs.length ∧ K (.agg (cs.take z.length))) := rfl
def faK (n : Nat) (x : D) : Prop := match x with
  | .imm cs => K (.imm (cs.drop n))
  | .box id o => K (.box id (o + n))
  | _ => False
theorem faK_imm (n : Nat) (cs : List D) : faK K n (.imm cs) = K (.imm (cs.drop n)) := rfl
theorem faK_box (n id o : Nat) : faK K n (.box id o) = K (.box id (o + n)) := rfl
def faKK (k : Option TK) (f : Nat) (x : D) : Prop := match k with
  | some (.struct fs) => someK fs[f]? fun p => someK (S.tab p.2) fun j => j.size ≠ 0 ∧ faK K p.1 x
  | _ => False
theorem faKK_struct (fs : List (Nat × TypeId)) (f : Nat) (x : D) : faKK S K (some (.struct fs)) f x = someK fs[f]? fun p => someK (S.tab p.2) fun j => j.size ≠ 0 ∧ faK K p.1 x := rfl
theorem fieldAddrY_eq (t : TypeId) (f : Nat) (x : D) : fieldAddrY S t f x K = faKK S K (S.kd t) f x := rfl
def fdKK (k : Option TK) (f : Nat) (x : D) : Prop := match k, x with
  | some (.struct fs), .agg cs => someK fs[f]? fun p => cellsY S p.2 (cs.drop p.1) K
  | _, _ => False
theorem fdKK_struct (fs : List (Nat × TypeId)) (f : Nat) (cs : List D) : fdKK S K (some (.struct fs)) f (.agg cs) = someK fs[f]? fun p => cellsY S p.2 (cs.drop p.1) K := rfl
theorem fieldY_eq (t : TypeId) (f : Nat) (x : D) : fieldY S t f x K = fdKK S K (S.kd t) f x := rfl
def iaKK (k : Option TK) (x ix : D) : Prop := match k, ix with
  | some (.slice e), .int _ i => someK (S.tab e) fun j => (match x with
    | .sl _ xs => (0 ≤ i ∧ i < xs.length) ∧ (xs.getD i.toNat default).cells.length = j.size ∧ K (.imm (xs.getD i.toNat default).cells)
    | .ms id n => (0 ≤ i ∧ i < n) ∧ K (.box id (i.toNat * j.size))
    | _ => False)
  | some (.array n e), .int _ i => someK (S.tab e) fun j => (match x with
    | .box id o => (0 ≤ i ∧ i < n) ∧ K (.box id (o + i.toNat * j.size))
    | .imm cs => (0 ≤ i ∧ i < n) ∧ K (.imm (cs.drop (i.toNat * j.size)))
    | _ => False)
  | _, _ => False
theorem iaKK_sl (e : TypeId) (k : IntKind) (i : Int) (tk : Tk) (xs : List D) : iaKK S K (some (.slice e)) (.sl tk xs) (.int k i) = someK (S.tab e) fun j => (0 ≤ i ∧ i < xs.length) ∧ (xs.getD i.toNat default).cells.length = j.size ∧ K (.imm (xs.getD i.toNat default).cells) := rfl
theorem iaKK_abox (n : Nat) (e : TypeId) (k : IntKind) (i : Int) (id o : Nat) : iaKK S K (some (.array n e)) (.box id o) (.int k i) = someK (S.tab e) fun j => (0 ≤ i ∧ i < n) ∧ K (.box id (o + i.toNat * j.size)) := rfl
theorem iaKK_aimm (n : Nat) (e : TypeId) (k : IntKind) (i : Int) (cs : List D) : iaKK S K (some (.array n e)) (.imm cs) (.int k i) = someK (S.tab e) fun j => (0 ≤ i ∧ i < n) ∧ K (.imm (cs.drop (i.toNat * j.size))) := rfl
theorem iaKK_ms (e : TypeId) (k : IntKind) (i : Int) (id n : Nat) : iaKK S K (some (.slice e)) (.ms id n) (.int k i) = someK (S.tab e) fun j => (0 ≤ i ∧ i < n) ∧ K (.box id (i.toNat * j.size)) := rfl
theorem indexAddrY_eq (t : TypeId) (x ix : D) : indexAddrY S t x ix K = iaKK S K (S.kd t) x ix := rfl
def ixKK (k : Option TK) (x ix : D) : Prop := match k, ix, x with
  | some .string, .int _ i, .str s => (0 ≤ i ∧ i < s.size) ∧ K (.int .u8 (s.data.getD i.toNat 0).toNat)
  | _, _, _ => False
theorem ixKK_str (k : IntKind) (i : Int) (s : ByteArray) : ixKK K (some .string) (.str s) (.int k i) = ((0 ≤ i ∧ i < s.size) ∧ K (.int .u8 (s.data.getD i.toNat 0).toNat)) := rfl
theorem indexY_eq (t : TypeId) (x ix : D) : indexY S t x ix K = ixKK K (S.kd t) x ix := rfl
def lenKK (k : Option TK) (x : D) : Prop := match k, x with
  | some (.slice _), .sl _ xs => K (.int .i64 xs.length)
  | some (.slice _), .ms _ n => K (.int .i64 n)
  | some .string, .str s => K (.int .i64 s.size)
  | _, _ => False
theorem lenKK_sl (e : TypeId) (tk : Tk) (xs : List D) : lenKK K (some (.slice e)) (.sl tk xs) = K (.int .i64 xs.length) := rfl
theorem lenKK_ms (e : TypeId) (id n : Nat) : lenKK K (some (.slice e)) (.ms id n) = K (.int .i64 n) := rfl
theorem lenKK_str (s : ByteArray) : lenKK K (some .string) (.str s) = K (.int .i64 s.size) := rfl
theorem lenY_eq (t : TypeId) (x : D) : lenY S t x K = lenKK K (S.kd t) x := rfl
def slK (k : Option TK) (x : D) (lo hi mx : Option Int) : Prop := match k, x with
  | some (.slice e), .sl _ xs => someK (S.tab e) fun j =>
    (match mx with | none => True | some m => m = hi.getD xs.length) ∧
    (0 ≤ lo.getD 0 ∧ lo.getD 0 ≤ hi.getD xs.length ∧ hi.getD xs.length ≤ xs.length) ∧ (∀ d ∈ xs, d.cells.length = j.size) ∧
    K (.sl (match mx with | none => .any | some _ => .full) ((xs.take (hi.getD xs.length).toNat).drop (lo.getD 0).toNat))
  | some (.slice e), .ms id n => (S.tab e).isSome = true ∧ (mx = none ∧ lo = none) ∧ (0 ≤ hi.getD n ∧ hi.getD n ≤ n) ∧ K (.ms id (hi.getD n).toNat)
  | some .string, .str s => mx = none ∧ (0 ≤ lo.getD 0 ∧ lo.getD 0 ≤ hi.getD s.size ∧ hi.getD s.size ≤ s.size) ∧
    K (.str (s.extract (lo.getD 0).toNat (hi.getD s.size).toNat))
  | _, _ => False
theorem slK_sl (e : TypeId) (tk : Tk) (xs : List D) (lo hi : Option Int) : slK S K (some (.slice e)) (.sl tk xs) lo hi none = someK (S.tab e) fun j => True ∧
    (0 ≤ lo.getD 0 ∧ lo.getD 0 ≤ hi.getD xs.length ∧ hi.getD xs.length ≤ xs.length) ∧ (∀ d ∈ xs, d.cells.length = j.size) ∧
    K (.sl .any ((xs.take (hi.getD xs.length).toNat).drop (lo.getD 0).toNat)) := rfl
theorem slK_sl3 (e : TypeId) (tk : Tk) (xs : List D) (lo hi : Option Int) (m : Int) : slK S K (some (.slice e)) (.sl tk xs) lo hi (some m) = someK (S.tab e) fun j => m = hi.getD xs.length ∧
    (0 ≤ lo.getD 0 ∧ lo.getD 0 ≤ hi.getD xs.length ∧ hi.getD xs.length ≤ xs.length) ∧ (∀ d ∈ xs, d.cells.length = j.size) ∧
    K (.sl .full ((xs.take (hi.getD xs.length).toNat).drop (lo.getD 0).toNat)) := rfl
theorem slK_ms (e : TypeId) (id n : Nat) (hi : Option Int) : slK S K (some (.slice e)) (.ms id n) none hi none = ((S.tab e).isSome = true ∧ (True ∧ True) ∧ (0 ≤ hi.getD n ∧ hi.getD n ≤ n) ∧ K (.ms id (hi.getD n).toNat)) := by simp [slK]
theorem slK_str (s : ByteArray) (lo hi : Option Int) : slK S K (some .string) (.str s) lo hi none = (True ∧ (0 ≤ lo.getD 0 ∧ lo.getD 0 ≤ hi.getD s.size ∧ hi.getD s.size ≤ s.size) ∧
    K (.str (s.extract (lo.getD 0).toNat (hi.getD s.size).toNat))) := by simp [slK]
theorem sliceY_eq (t : TypeId) (x : D) (lo hi mx : Option Int) : sliceY S t x lo hi mx K = slK S K (S.kd t) x lo hi mx := rfl
def mqKK (k : Option TK) (l c : D) : Prop := match k, l, c with
  | some (.slice e), .int _ n, .int _ m => someK (S.tab e) fun i => someK i.zero.head? fun z => (i.zero.length = 1 ∧ 0 ≤ n ∧ n = m) ∧ ((i.bytes : Int) * n ≤ 281474976710656 ∧ n ≤ 9223372036854775807) ∧ (strip1 z.d).memOk = true ∧
      K (.sl .any (List.replicate n.toNat (strip1 z.d)))
  | _, _, _ => False
theorem mqKK_int (e : TypeId) (k k' : IntKind) (n m : Int) : mqKK S K (some (.slice e)) (.int k n) (.int k' m) = someK (S.tab e) fun i => someK i.zero.head? fun z => (i.zero.length = 1 ∧ 0 ≤ n ∧ n = m) ∧ ((i.bytes : Int) * n ≤ 281474976710656 ∧ n ≤ 9223372036854775807) ∧ (strip1 z.d).memOk = true ∧
      K (.sl .any (List.replicate n.toNat (strip1 z.d))) := rfl
theorem makeQ_eq (t : TypeId) (l c : D) : makeQ S t l c K = mqKK S K (S.kd t) l c := rfl
def buildKK (i : TyI) (ps : List (Nat × D)) : Prop := match i.kind with
  | .struct fs => someK (buildP S fs (i.zero.map ZK.d) ps) fun cs => K (.agg cs)
  | .array _ e => someK (S.tab e) fun _ => ps = [] ∧ K (.agg (i.zero.map ZK.d))
  | _ => False
theorem buildKK_array (n : Nat) (e : TypeId) (b : Nat) (z : List ZK) (ps : List (Nat × D)) : buildKK S K ⟨.array n e, b, z⟩ ps = someK (S.tab e) fun _ => ps = [] ∧ K (.agg (z.map ZK.d)) := rfl
theorem buildKK_struct (fs : List (Nat × TypeId)) (b : Nat) (z : List ZK) (ps : List (Nat × D)) : buildKK S K ⟨.struct fs, b, z⟩ ps = someK (buildP S fs (z.map ZK.d) ps) fun cs => K (.agg cs) := rfl
theorem buildY_eq (t : TypeId) (ps : List (Nat × D)) : buildY S t ps K = someK (S.tab t) fun i => buildKK S K i ps := rfl
def bsKK (k : Option TK) (n : Nat) (ps : List (Nat × D)) : Prop := match k with
  | some (.slice e) => someK (S.tab e) fun j => ps.map (·.1) = List.range n ∧ n * j.size ≤ 16777216 ∧ (n = 0 ∨ 0 < j.size) ∧
    (∀ p ∈ ps, p.2.cells.length = j.size ∧ ∀ c ∈ p.2.strip.cells, c.memOk = true) ∧ K (.sl .full (ps.map (·.2.strip)))
  | _ => False
theorem bsKK_slice (e : TypeId) (n : Nat) (ps : List (Nat × D)) : bsKK S K (some (.slice e)) n ps = someK (S.tab e) fun j => ps.map (·.1) = List.range n ∧ n * j.size ≤ 16777216 ∧ (n = 0 ∨ 0 < j.size) ∧
    (∀ p ∈ ps, p.2.cells.length = j.size ∧ ∀ c ∈ p.2.strip.cells, c.memOk = true) ∧ K (.sl .full (ps.map (·.2.strip))) := rfl
theorem buildSliceY_eq (t : TypeId) (n : Nat) (ps : List (Nat × D)) : buildSliceY S t n ps K = bsKK S K (S.kd t) n ps := rfl
theorem nilcY_box (id o : Nat) : nilcY (.box id o) K = K (.box id o) := rfl
theorem nilcY_imm (cs : List D) : nilcY (.imm cs) K = K (.imm cs) := rfl
theorem nilcY_fn (f : Nat) (cs : List D) : nilcY (.fn f cs) K = K (.fn f cs) := rfl
theorem extrY_tup (i : Nat) (ds : List D) : extrY i (.tup ds) K = someK ds[i]? K := rfl
end yeqs
section yeqsL
variable (S : Setup) (N : LS → Prop)
def storeK (L : LS) (t : Option Nat) (_ : TypeId) (id off : Nat) (d : D) (cs : List D) (i : TyI) : Prop :=
  (d.cells.length = i.size ∧ off + d.cells.length ≤ cs.length ∧ d.cells.all D.one = true ∧ dstOk t L) ∧ N ({ L with boxes := setA L.boxes id (putC cs off d.cells) }.putO t (.raw undef))
theorem storeY_box (L : LS) (t : Option Nat) (ty : TypeId) (id off : Nat) (d : D) : storeY S L t ty (.box id off) d N = someK (look L.boxes id) fun cs => someK (S.tab ty) fun i => (d.cells.length = i.size ∧ off + d.cells.length ≤ cs.length ∧ d.cells.all D.one = true ∧ dstOk t L) ∧
      N ({ L with boxes := setA L.boxes id (putC cs off d.cells) }.putO t (.raw undef)) := rfl
def mkK (base : Nat) (L : LS) (t : Nat) (k : Option TK) (n m : Int) (same : Bool) : Prop := match k, same with
  | some (.slice e), true => someK (S.tab e) fun i => (t < L.n ∧ base + t ∉ L.fix ∧ 0 ≤ n ∧ n = m) ∧ (i.bytes : Int) * n ≤ 281474976710656 ∧ n ≤ 9223372036854775807 ∧ 0 < i.size ∧
      N (L.newBox t (base + t) (List.replicate n.toNat (i.zero.map ZK.d)).flatten (.ms (base + t) n.toNat))
  | some (.slice e), false => someK (S.tab e) fun i => (t < L.n ∧ 0 < i.size ∧ n = 0 ∧ 0 ≤ m ∧ (L.purge (fun k => k == 1000 * (t + 1))).clean (fun k => k == 1000 * (t + 1)) = true) ∧ (i.bytes : Int) * m ≤ 281474976710656 ∧ m ≤ 9223372036854775807 ∧
      N ({ L.purge (fun k => k == 1000 * (t + 1)) with toks := 1000 * (t + 1) :: L.toks }.put t (.sl (.own (1000 * (t + 1)) e i.size) []))
  | _, _ => False
theorem mkK_same (base : Nat) (L : LS) (t : Nat) (e : TypeId) (n m : Int) : mkK S N base L t (some (.slice e)) n m true = someK (S.tab e) fun i => (t < L.n ∧ base + t ∉ L.fix ∧ 0 ≤ n ∧ n = m) ∧ (i.bytes : Int) * n ≤ 281474976710656 ∧ n ≤ 9223372036854775807 ∧ 0 < i.size ∧
      N (L.newBox t (base + t) (List.replicate n.toNat (i.zero.map ZK.d)).flatten (.ms (base + t) n.toNat)) := rfl
theorem mkK_diff (base : Nat) (L : LS) (t : Nat) (e : TypeId) (n m : Int) : mkK S N base L t (some (.slice e)) n m false = someK (S.tab e) fun i => (t < L.n ∧ 0 < i.size ∧ n = 0 ∧ 0 ≤ m ∧ (L.purge (fun k => k == 1000 * (t + 1))).clean (fun k => k == 1000 * (t + 1)) = true) ∧ (i.bytes : Int) * m ≤ 281474976710656 ∧ m ≤ 9223372036854775807 ∧
      N ({ L.purge (fun k => k == 1000 * (t + 1)) with toks := 1000 * (t + 1) :: L.toks }.put t (.sl (.own (1000 * (t + 1)) e i.size) [])) := rfl
theorem makeY_int (base : Nat) (L : LS) (t : Nat) (ty : TypeId) (same : Bool) (k k' : IntKind) (n m : Int) : makeY S base L t ty same (.int k n) (.int k' m) N = mkK S N base L t (S.kd ty) n m same := by
  cases h : S.kd ty with
  | none => simp [makeY, mkK, h]
  | some q => cases q <;> cases same <;> simp [makeY, mkK, h]
def apK (L : LS) (t : Nat) (k : Option TK) (tk : Tk) (xs ys : List D) : Prop := match k with
  | some (.slice e) => someK (S.tab e) fun i => (t < L.n ∧ 0 < i.size ∧ (L.purge (fun k => k == 1000 * (t + 1))).clean (fun k => k == 1000 * (t + 1)) = true) ∧ appendable xs ys L.toks e i.size tk ∧
      (∀ x ∈ xs, x.cells.length = i.size) ∧ (∀ x ∈ ys, x.cells.length = i.size) ∧ (xs.length + ys.length) * i.bytes ≤ 140737488355328 ∧ xs.length + ys.length ≤ 140737488355328 ∧
      N ({ L.purge (fun k => k == 1000 * (t + 1)) with toks := 1000 * (t + 1) :: killed tk L.toks }.put t (.sl (.own (1000 * (t + 1)) e i.size) (xs ++ ys)))
  | _ => False
theorem apK_slice (L : LS) (t : Nat) (e : TypeId) (tk : Tk) (xs ys : List D) : apK S N L t (some (.slice e)) tk xs ys = someK (S.tab e) fun i => (t < L.n ∧ 0 < i.size ∧ (L.purge (fun k => k == 1000 * (t + 1))).clean (fun k => k == 1000 * (t + 1)) = true) ∧ appendable xs ys L.toks e i.size tk ∧
      (∀ x ∈ xs, x.cells.length = i.size) ∧ (∀ x ∈ ys, x.cells.length = i.size) ∧ (xs.length + ys.length) * i.bytes ≤ 140737488355328 ∧ xs.length + ys.length ≤ 140737488355328 ∧
      N ({ L.purge (fun k => k == 1000 * (t + 1)) with toks := 1000 * (t + 1) :: killed tk L.toks }.put t (.sl (.own (1000 * (t + 1)) e i.size) (xs ++ ys))) := rfl
theorem appendY_sl (L : LS) (t : Nat) (ty : TypeId) (tk tk' : Tk) (xs ys : List D) : appendY S L t ty [.sl tk xs, .sl tk' ys] N = apK S N L t (S.kd ty) tk xs ys := by
  cases h : S.kd ty with
  | none => simp [appendY, apK, h]
  | some q => cases q <;> simp [appendY, apK, h]
end yeqsL
theorem evalO_tmp (L : LS) (t : Nat) : evalO L (.tmp t) = look L.env t := rfl
theorem evalO_const (L : LS) (v : Value) : evalO L (.const v) = constD v := rfl
theorem evalO_func (L : LS) (f : FuncId) : evalO L (.func f) = some (.fn f []) := rfl
theorem constD_int (k : IntKind) (n : Int) : constD (.int k n) = some (.int k n) := rfl
theorem constD_bool (b : Bool) : constD (.bool b) = some (.bool b) := rfl
theorem constD_str (s : ByteArray) : constD (.string s) = some (.str s) := rfl
theorem constD_nil : constD (.slice none 0 0) = some (.sl .nil []) := rfl
theorem constD_ptr : constD (.pointer none) = some (.raw (.pointer none)) := rfl
theorem guardY_none (ops : Array Oper) (L : LS) : guardY ops L none = some true := rfl

/-- the guard's slot, then its test -/
def guardT (want : Bool) : Option D → Option Bool
  | some (.bool b) => (match b, want with
    | true, true => some true
    | false, false => some true
    | true, false => some false
    | false, true => some false)
  | some (.raw (.tuple _)) => some false
  | _ => none
theorem guardT_tt : guardT true (some (.bool true)) = some true := rfl
theorem guardT_tf : guardT true (some (.bool false)) = some false := rfl
theorem guardT_ft : guardT false (some (.bool true)) = some false := rfl
theorem guardT_ff : guardT false (some (.bool false)) = some true := rfl
theorem guardT_undef (b : Bool) (vs : Array Value) : guardT b (some (.raw (.tuple vs))) = some false := rfl
theorem guardT_undef' (b : Bool) : guardT b (some (.raw undef)) = some false := rfl
theorem guardY_some (ops : Array Oper) (L : LS) (j : Nat) (want : Bool) : guardY ops L (some (j, want)) = match (ops[j]?).bind (·.dst) with | none => none | some t => guardT want (L.get t) := by
  unfold guardY
  simp only
  cases (ops[j]?).bind (·.dst) with
  | none => rfl
  | some t =>
    simp only
    cases hx : L.get t with
    | none => rfl
    | some d =>
      cases d <;> first | rfl | (rename_i b; cases b <;> cases want <;> rfl) | (rename_i v; cases v <;> rfl)

theorem setA_same {α : Type} {l : List (Nat × α)} {t : Nat} {d : α} (h : look l t = some d) : setA l t d = l := by
  induction l with
  | nil => cases h
  | cons p r ih =>
    obtain ⟨k, x⟩ := p
    simp only [look] at h
    by_cases e : k = t
    · simp only [e, if_true, Option.some.injEq] at h; subst h; subst e; simp [setA]
    · rw [if_neg e] at h; simp [setA, e, ih h]
/-- A test that is not known: two ways. -/
theorem runL_split {S : Setup} {base : Nat} {ops : Array Oper} {K : List Oper → LS → Prop} {l : List Oper} {L : LS} (t : Nat) {b : Bool} (ht : L.get t = some (.bool b)) (h1 : b = true → runL S base ops K l (L.put t (.bool true))) (h0 : b = false → runL S base ops K l (L.put t (.bool false))) : runL S base ops K l L := by
  have e : L.put t (.bool b) = L := by
    show { L with env := setA L.env t (.bool b) } = L
    rw [setA_same ht]
  rw [← e]
  cases b with
  | true => exact h1 rfl
  | false => exact h0 rfl

variable {S : Setup} {B : Base} {R : LS → Prop} {k : List VItem} {L : LS}
/-- A region in the text's order; what stands behind it lies behind a letter. -/
theorem sw_reg (base : Nat) {id : Nat} {l : List Oper} (h : ∀ K : List Oper → LS → Prop, (∀ l' L', LopsW S B l.toArray l' L' (fun L2 => SW S B R k L2) → K l' L') → runL S base l.toArray K l L) : SW S B R (.code (.region id l.toArray false) :: k) L :=
  sw_region (runL_sound (base := base) (K' := fun l' L' => LopsW S B l.toArray l' L' (fun L2 => SW S B R k L2)) (fun _ _ h => h) _ _ (h _ fun _ _ h => h))
theorem LopsW.run (base : Nat) {ops : Array Oper} {l : List Oper} {Kf : LS → Prop} (h : ∀ K : List Oper → LS → Prop, (∀ l' L', LopsW S B ops l' L' Kf → K l' L') → runL S base ops K l L) : LopsW S B ops l L Kf :=
  runL_sound (base := base) (K' := fun l' L' => LopsW S B ops l' L' Kf) (fun _ _ h => h) _ _ (h _ fun _ _ h => h)

/-- Only these slots are remembered. -/
def keepK (ks : List Nat) : List (Nat × D) → List (Nat × D)
  | [] => []
  | (k, d) :: r => if ks.contains k = true then (k, d) :: keepK ks r else keepK ks r
def LS.keep (L : LS) (ks : List Nat) : LS := { L with env := keepK ks L.env }
theorem look_keepK (ks : List Nat) (l : List (Nat × D)) (t : Nat) : look (keepK ks l) t = if ks.contains t = true then look l t else none := by
  induction l with
  | nil => simp [keepK, look]
  | cons p r ih =>
    obtain ⟨k, d⟩ := p
    by_cases h : ks.contains k = true
    · simp only [keepK, h, if_true, look, ih]
      by_cases h2 : k = t
      · subst h2; simp only [h, if_true]
      · simp [h2]
    · simp only [keepK]
      rw [if_neg h, ih]
      simp only [look]
      by_cases h2 : k = t
      · subst h2; simp only [if_neg h]
      · simp [h2]
theorem keep_sim {B : Base} {L : LS} {G : Ghost} {a : Act} {w : World} (h : Sim B L G a w) (ks : List Nat) : Sim B (L.keep ks) G a w := by
  refine ⟨h.defers, h.size, fun t d hd => ?_, h.W, h.fixed⟩
  simp only [LS.keep, look_keepK] at hd
  split at hd
  · exact h.env t d hd
  · cases hd
theorem sw_keep (ks : List Nat) (h : SW S B R k (L.keep ks)) : SW S B R k L := fun G a w hs => h G a w (keep_sim hs ks)

/-- The end of a region: only some slots go on. -/
theorem lops_end {ops : Array Oper} (ks : List Nat) (h : SW S B R k (L.keep ks)) : LopsW S B ops [] L (fun L2 => SW S B R k L2) := LopsW.nil (sw_keep ks h)
theorem lexq_end {ops : Array Oper} {L0 : LS} (ks : List Nat) (h : SW S B R k (L.keep ks)) : LexQ S ops L0 (fun L2 => SW S B R k L2) [] L := LexQ.nil (sw_keep ks h)

end Go.Lg
