/-
  Lg: LgDraw4, LgRedo, LgDraw5, one behind the other.
-/
import Derived.Test.YtmogobaaophknaaLgK4
/-
  Lg, part 41: a region that draws its order, in which new memory is made: variables, and lists that calls return as their own.
-/
namespace Go.Lg
open Go Go.RowKit

inductive Fact
 | box (cs : List D)
 | own (k : Nat) (e : TypeId) (z : Nat) (xs : List D)

section
variable {B : Base} {bx ro : List (Nat × List D)} {tk : List Nat} {G G' : Ghost} {w w' : World}
theorem Quiet.mono (hW : SimW B bx ro tk G w) (hq : Quiet G G' w w') : Mono G G' w w' :=
 ⟨fun b o v h1 h2 => by
  obtain ⟨e1, e2, _⟩ := hq.heap b (cell_lt h2)
  exact ⟨by rw [e2]; exact h1, by rw [cell_of_heap e1]; exact h2⟩, fun b hb => (hq.heap b (hW.lablt b hb)).2.2⟩
theorem Quiet.rel (hW : SimW B bx ro tk G w) (hq : Quiet G G' w w') {d : D} {v : Value} (hr : Rel G w d v) : Rel G' w' d v :=
 hr.mono (hq.mono hW) (fun i _ g hg => by rw [hq.beta]; exact hg) (fun k _ => .inr ⟨by rw [hq.tau], fun g e z hk => by
  obtain ⟨_, _, ⟨cur, hc, _⟩, _⟩ := hW.tau k g e z hk
  obtain ⟨e1, e2, _⟩ := hq.heap g (heap_lt hc)
  exact ⟨e2, shape_of_heap e1⟩⟩)
end

section
variable {S : Setup} {ops : Array Oper} {bx : Nat → Option (List D)} {n m : Nat} {md : Region.Mode}
end

section
variable {S : Setup} {ops : Array Oper} {L0 L : LS} {K : List (Nat × Fact) → LS → Prop} {F : List (Nat × Fact)} {o : Oper} {l : List Oper}
end

def toF (base : Nat) : List (Nat × Fact) → LS → (LS → Prop) → Prop
 | [], L, N => N L
 | (t, .box cs) :: F, L, N => (t < L.n ∧ base + t ∉ L.fix) ∧ (look F t).isNone = true ∧ toF base F (L.newBox t (base + t) cs (.box (base + t) 0)) N
 | (t, .own kk e z xs) :: F, L, N => (t < L.n ∧ (L.purge (fun k => k == kk)).clean (fun k => k == kk) = true) ∧ (look F t).isNone = true ∧
   toF base F { L.purge (fun k => k == kk) with env := setA (L.purge (fun k => k == kk)).env t (.sl (.own (kk) e z) xs), toks := kk :: L.toks } N
theorem toF_nil (base : Nat) (L : LS) (N : LS → Prop) : toF base [] L N = N L := rfl
theorem toF_box (base t : Nat) (cs : List D) (F : List (Nat × Fact)) (L : LS) (N : LS → Prop) : toF base ((t, .box cs) :: F) L N = ((t < L.n ∧ base + t ∉ L.fix) ∧ (look F t).isNone = true ∧ toF base F (L.newBox t (base + t) cs (.box (base + t) 0)) N) := rfl
theorem toF_own (base t kk : Nat) (e : TypeId) (z : Nat) (xs : List D) (F : List (Nat × Fact)) (L : LS) (N : LS → Prop) : toF base ((t, .own kk e z xs) :: F) L N = ((t < L.n ∧ (L.purge (fun k => k == kk)).clean (fun k => k == kk) = true) ∧ (look F t).isNone = true ∧
   toF base F { L.purge (fun k => k == kk) with env := setA (L.purge (fun k => k == kk)).env t (.sl (.own (kk) e z) xs), toks := kk :: L.toks } N) := rfl
attribute [go_sem] toF_nil toF_box toF_own Option.isNone_none Option.isNone_some
end Go.Lg
/-
  Lg, part 42: a struct that is put together in a drawn part is put together once more behind it: so what has got a token bears it there too.
-/
namespace Go.Lg
open Go Go.RowKit

section
variable {P : Program} {ops : Array Oper} {Q : Exit → Act → World → Prop}
def redo1 (S : Setup) (o : Oper) (L : LS) (N : LS → Prop) : Prop := match o.dst, o.op, o.guard with
 | some d, .build t ps, none => someK (zipO (evalO L) ps.toList) fun q => buildY S t q fun d' => d < L.n ∧ N (L.put d d')
 | _, _, _ => False
def redoL (S : Setup) : List Oper → LS → (LS → Prop) → Prop
 | [], L, N => N L
 | o :: l, L, N => redo1 S o L fun L' => redoL S l L' N
theorem redoL_nil (S : Setup) (L : LS) (N : LS → Prop) : redoL S [] L N = N L := rfl
theorem redoL_build (S : Setup) (d : Nat) (t : TypeId) (ps : Array (Nat × Operand)) (ty : TypeId) (pos : String) (aft : Array Edge) (l : List Oper) (L : LS) (N : LS → Prop) : redoL S (⟨some d, .build t ps, ty, pos, aft, none⟩ :: l) L N = someK (zipO (evalO L) ps.toList) fun q => buildY S t q fun d' => d < L.n ∧ redoL S l (L.put d d') N := by
 simp only [redoL, redo1]
end

attribute [go_sem] redoL_nil redoL_build List.filterMap_cons List.filterMap_nil
end Go.Lg
/-
  Lg, part 43: a region that draws its order, with one operation in the midst that waits for all ahead of it and for which all behind it wait: it may be of any kind.
-/
namespace Go.Lg
open Go Go.RowKit

def first (n m : Nat) : Array Bool := ((List.range n).map fun j => decide (j < m)).toArray
theorem Oper.wp_congrQ {P : Program} {o : Oper} {a : Act} {w : World} {K : Act → World → Prop} {Q Q' : Exit → Act → World → Prop} (h : ∀ e a w, e ≠ .normal → Q e a w → Q' e a w) (hh : o.wp P a w K Q) : o.wp P a w K Q' := by
 have hl : LetsOut Q → LetsOut Q' := fun ⟨a, w, hq⟩ => ⟨a, w, h _ a w (by simp) hq⟩
 unfold Oper.wp at *
 generalize (execOp a.eval o).run P w = r at hh ⊢
 cases r with
 | ok x w' =>
  cases x with
  | enter f args =>
   refine Calls.mono hh fun e w'' he => ?_
   cases e with
   | returned v => exact he
   | panicked c => exact h _ _ _ (by simp) he
   | outgrown => exact hl he
  | _ => exact hh
 | halt x w' =>
  cases x <;> first | exact h _ _ _ (by simp) hh | exact hh

end Go.Lg
