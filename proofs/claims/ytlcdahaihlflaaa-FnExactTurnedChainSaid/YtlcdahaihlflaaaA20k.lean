/-
  Chains one behind the other: the program's side.
-/
import Derived.Test.YtlcdahaihlflaaaA20j
import Derived.Test.YtlcdahaihlflaaaLTy
import Derived.Test.YtlcdahaihlflaaaLgK7
namespace Go.Proofs.Ytlcdahaihlflaaa
open Go Go.Lg
set_option linter.unusedSimpArgs false
set_option linter.unusedVariables false
set_option maxHeartbeats 4000000
attribute [local irreducible] SW runL runQ runG runQG FC Ret1 RetN toF redoL
attribute [local go_sem] List.filter_cons upR_length mapR_length
theorem sum_le_k {α : Type} {f : α → Nat} {k : Nat} : ∀ {xs : List α}, (∀ x ∈ xs, f x ≤ k) → (xs.map f).sum ≤ xs.length * k
  | [], _ => by simp
  | x :: xs, h => by
    have ih := sum_le_k (f := f) (k := k) (xs := xs) fun y hy => h y (List.mem_cons_of_mem _ hy)
    have := h x List.mem_cons_self
    simp only [List.map_cons, List.sum_cons, List.length_cons, Nat.add_mul, Nat.one_mul]
    omega
theorem ret_box1 (L : LS) (id T z k : Nat) (q : List Nat) (xs : List Int) (ys zs : List D) (hl : Lg.look L.boxes id = some [.sl (.lab q) (xs.map (.int .i64)), .sl (.own k T z) ys]) (hk : k ∈ L.toks) (hy : ys = zs) : RetK (.tup []) [(id, [.sl (.lab q) (xs.map (.int .i64)), .sl (.own 0 T z) zs])] 1 L (.tup []) := by
  subst hy
  refine ⟨[k], .tup [], .refl _, ⟨rfl, by simp⟩, ?_, ?_, rfl, fun p hp => ?_⟩
  · intro t ht; simp only [List.mem_cons, List.not_mem_nil, or_false] at ht; subst ht; exact hk
  · intro k hk; simp [D.tks, D.tksL] at hk
  · simp only [List.mem_cons, List.not_mem_nil, or_false] at hp
    subst hp
    refine ⟨_, hl, fun k hk => by simpa [D.tks, D.tksL] using hk, ?_⟩
    simp [D.mT, D.mTL, List.idxOf_cons]
def kp105 : List (Nat × List Nat) := [(0, [0, 3]), (1, [0, 3]), (2, [])]
attribute [go_sem] kp105
end Go.Proofs.Ytlcdahaihlflaaa
