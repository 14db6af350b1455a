/-
  Contracts of matching: the reference's way down the trees, the program's way along the lists.
-/
import Derived.Test.YtlcdahaihlflaaaA03
import Derived.Test.YtlcdahaihlflaaaA20p
import Derived.Test.YtlcdahaihlflaaaA29
namespace Go.Proofs.Ytlcdahaihlflaaa
open Go Go.Lg
set_option linter.unusedSimpArgs false
set_option linter.unusedVariables false
set_option maxHeartbeats 4000000
attribute [local irreducible] SW runL runQ runG runQG FC Ret1
def tkN (u : List Int) : Tk := if u = [] then .nil else .any
def optD (u : List Int) : D := .sl (tkN u) (u.map (.int .i64))
attribute [go_sem] optD
theorem nilY_tkN (u : List Int) (K : D → Prop) : nilY .eql (tkN u) (u.map (.int .i64)) K = K (.bool (tst (u = []))) := by
  unfold tkN
  by_cases h : u = []
  · subst h; simp [nilY, tst]
  · rw [if_neg h, tst_false h]
    simp [nilY, h]
theorem take_full {α : Type} (xs : List α) (n : Nat) (h : Om (xs.length ≤ n)) : xs.take n = xs := List.take_of_length_le h.out
theorem putC_full (cs new : List D) (h : Om (cs.length = new.length)) : putC cs 0 new = new := by
  have h := h.out
  unfold putC
  split
  · match cs, h with
    | [c], _ => rfl
  · unfold putCells
    rw [List.take_zero, List.nil_append, Nat.zero_add, ← h, List.drop_length, List.append_nil]
theorem idsL_opt (g : List (List Int)) : D.idsL (g.map optD) = [] := by
  induction g with
  | nil => rfl
  | cons u g ih => simp [D.idsL, optD, D.ids]; exact ih
theorem tksL_opt (g : List (List Int)) : D.tksL (g.map optD) = [] := by
  induction g with
  | nil => rfl
  | cons u g ih =>
    simp only [List.map_cons, D.tksL, ih, optD, tkN]
    split <;> rfl
theorem all_opt (g : List (List Int)) : (g.map optD).all D.one = true := by
  rw [List.all_eq_true]
  intro d hd
  obtain ⟨u, _, rfl⟩ := List.mem_map.1 hd
  rfl
attribute [local go_sem] idsL_opt tksL_opt nilY_tkN take_full all_opt linM_len
theorem putC_opt (g : List (List Int)) (h : Om (g.length = 24)) : putC [D.sl .nil [], D.sl .nil [], D.sl .nil [], D.sl .nil [], D.sl .nil [], D.sl .nil [], D.sl .nil [], D.sl .nil [], D.sl .nil [], D.sl .nil [], D.sl .nil [], D.sl .nil [], D.sl .nil [], D.sl .nil [], D.sl .nil [], D.sl .nil [], D.sl .nil [], D.sl .nil [], D.sl .nil [], D.sl .nil [], D.sl .nil [], D.sl .nil [], D.sl .nil [], D.sl .nil []] 0 (g.map optD) = g.map optD := putC_full _ _ ⟨by rw [List.length_map, h.out]; rfl⟩
attribute [local go_sem] putC_opt
theorem flat_intsD (g : List (List Int)) : flat (g.map IntsD) = g.map IntsD := by
  induction g with
  | nil => rfl
  | cons u g ih => simp [flat] at ih ⊢; simp [D.cells, IntsD]; exact ih
theorem flatMap_intsD (g : List (List Int)) : List.flatMap D.cells (g.map IntsD) = g.map IntsD := flat_intsD g
attribute [local go_sem] flatMap_intsD
theorem argsS_len (rs t : List Int) (a : Nat) : (argsS rs t a).length = (arS rs (t.getD a default)).toNat := begS_length _ _ _ _
theorem argsS_get (rs t : List Int) (a j : Nat) (h : j < (arS rs (t.getD a default)).toNat) : (argsS rs t a).getD j default = nthB rs t (a + 1) j := begS_get _ _ _ _ _ h
end Go.Proofs.Ytlcdahaihlflaaa
