/-
  Unification: the closure that solve defers.
-/
import Derived.Test.YtlcdahaihlflaaaU05
import Derived.Recover
import Derived.Laws.Pointers
import Derived.Laws.NewBlocks
namespace Go.Proofs.Ytlcdahaihlflaaa
open Go Go.Lg
set_option linter.unusedSimpArgs false
set_option linter.unusedVariables false
set_option maxHeartbeats 4000000
theorem solve1_idle (p : Addr) (w : World) : CallsD Try.prog 87 #[.pointer (some p)] .returning w fun e u' w' => e = .returned (.tuple #[]) ∧ u' = .returning ∧ w' = w := by
  refine callsD_of_wpS Try.func87 rfl fun c₀ cs hu => ?_
  apply wpS_seq
  apply wpS_region
  simp [wpOpsS, go_sem, recoverD, hu, Try.ntmps87, Exit.thenS]
  apply wpS_seq
  apply wpS_region
  simp [wpOpsS, go_sem, recoverD, hu, Try.ntmps87, Exit.thenS]
  refine wpS_cond (t := false) (by simp [Act.eval, Array.replicate]) ?_
  simp only [Bool.false_eq_true, if_false]
  refine wpS_of_wp (wp_skip ?_)
  cases c₀
  simp_all [bodyPostS, results, Try.results87]
theorem solve1_pan (p : Addr) (x : Bool) (w : World) (hc : w.cell? p = some (.bool x)) (hz : w.frozen? p = false) : CallsD Try.prog 87 #[.pointer (some p)] (.panicking (chainE 125)) w fun e u' w' =>
    e = .returned (.tuple #[]) ∧ u' = .panicking [{ v := .iface 125 (.agg #[]), recovered := true }] ∧ w' = (w.alloc (.cells #[] 125)).setCell p (.bool false) := by
  refine callsD_of_wpS Try.func87 rfl fun c₀ cs hu => ?_
  unfold chainE at hu
  have hta : ∀ w, (Instr.typeAssert (.iface 125 (.agg #[])) 20 125 true).run Try.prog w = .ok (.tuple #[.agg #[], .bool true]) w := fun w => by kernel_rfl
  apply wpS_seq
  apply wpS_region
  simp [wpOpsS, go_sem, recoverD, hu, Try.ntmps87, Exit.thenS]
  apply wpS_seq
  apply wpS_region
  simp [wpOpsS, go_sem, recoverD, hu, Try.ntmps87, Exit.thenS]
  refine wpS_cond (t := true) (by simp [Act.eval, Array.replicate]) ?_
  simp only [if_true]
  apply wpS_seq
  apply wpS_seq
  apply wpS_region
  simp [wpOpsS, go_sem, recoverD, hu, Try.ntmps87, Exit.thenS, hta]
  have hb : p.block < w.heap.size := World.block_lt_of_cell? w p hc
  have hc2 : (w.alloc (.cells #[] 125)).cell? p = some (.bool x) := (World.cell?_alloc_old w _ p (Nat.ne_of_lt hb)).trans hc
  have hz2 : (w.alloc (.cells #[] 125)).frozen? p = false := (World.frozen?_alloc_old w _ p (Nat.ne_of_lt hb)).trans hz
  apply wpS_seq
  apply wpS_region
  simp [wpOpsS, go_sem, recoverD, hu, Try.ntmps87, Exit.thenS]
  refine wpS_cond (t := false) (by simp [Act.eval, Array.replicate]) ?_
  simp only [Bool.false_eq_true, if_false]
  refine wpS_of_wp (wp_skip ?_)
  simp only [Exit.thenS]
  apply wpS_region
  simp [wpOpsS, go_sem, hc2, hz2, bodyPostS, results, Try.results87, Try.ntmps87]
end Go.Proofs.Ytlcdahaihlflaaa
