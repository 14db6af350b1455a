/-
  slices.Backward over the moves of a chain: the iterator's word.
-/
import Derived.Test.YtlcdahaihlflaaaA20t
import Derived.Test.YtlcdahaihlflaaaLgK15
import Derived.Shelf.Abstract
import Derived.WalkKit
import Derived.OwnWalkIn
import Derived.TacticsInMore
import Derived.LoopNIn
import Derived.LoopIn
namespace Go.Proofs.Ytlcdahaihlflaaa
open Go Go.Lg Go.Proofs Go.RowKit Go.Shelf
set_option linter.unusedSimpArgs false
set_option linter.unusedVariables false
attribute [local go_sem] Oper.semAt_some
set_option maxRecDepth 100000 in
set_option maxHeartbeats 2000000 in
theorem bw_iter (Bs b off len cap : Nat) (cv : Nat → Nat → Value) (hl : len ≤ 60) (Fa : World → Prop) (hFa : ∀ W, Fa W → W.cell? ⟨Bs, 0, none⟩ = some (.slice (some ⟨b, off, none⟩) len cap) ∧ ∀ i < len, W.cell? ⟨b, off + i * 4, none⟩ = some (cv i 0) ∧ W.cell? ⟨b, off + i * 4 + 1, none⟩ = some (cv i 1) ∧ W.cell? ⟨b, off + i * 4 + 2, none⟩ = some (cv i 2) ∧ W.cell? ⟨b, off + i * 4 + 3, none⟩ = some (cv i 3)) :
    IterOk Try.prog 150 #[.pointer (some ⟨Bs, 0, none⟩)] len (fun i => #[.int .i64 ((len - 1 - i : Nat) : Int), .agg #[cv (len - 1 - i) 0, cv (len - 1 - i) 1, cv (len - 1 - i) 2, cv (len - 1 - i) 3]]) Fa := fun m l J W hJF hY h0 => by
  obtain ⟨hBs, _⟩ := hFa W (hJF _ _ h0)
  refine callsIn_of_wp Try.func150 rfl trivial ?_ rfl
  simp only [Try.ntmps150, List.size_toArray, List.length_cons, List.length_nil, Nat.reduceAdd, Nat.reduceSub, Array.replicate_succ, Array.replicate_zero, List.push_toArray, List.append_toArray, List.nil_append, List.cons_append]
  gi_wp2
  gi_loopw [3] (fun i wr => ∃ k : Nat, k ≤ len ∧ i = .int .i64 ((len : Int) - k - 1) ∧ J k wr)
    (fun i _ => (intOf i + 1).toNat)
  case atStart => exact ⟨0, Nat.zero_le _, congrArg _ (by omega), h0⟩
  case round =>
    obtain ⟨k, hk, rfl, hJs⟩ := hrel
    by_cases hlt : k < len
    · obtain ⟨hB2, hc2⟩ := hFa wr (hJF _ _ hJs)
      obtain ⟨fn, tmps, assign, body, hy, hR⟩ := hY (m - 1) k wr hlt hJs
      have hqe : ((len : Int) - k - 1) = ((len - 1 - k : Nat) : Int) := by omega
      rw [hqe]
      have hq : len - 1 - k < len := by omega
      obtain ⟨c0, c1, c2, c3⟩ := hc2 (len - 1 - k) hq
      generalize len - 1 - k = q at *
      have hql : q < len := hq
      gi_wp2
      refine ⟨fun h => (by cases h), ?_⟩
      refine hR.mono ?_
      rintro e W3 ⟨rfl, hJ3⟩
      gi_wp2
      go_roundw
      case rel => exact ⟨k + 1, by omega, congrArg _ (by omega), hJ3⟩
      case measure => simp [intOf]
    · obtain rfl : k = len := by omega
      gi_wp2
      go_end0
      exact ⟨⟨_, rfl⟩, hJs⟩
set_option maxRecDepth 100000 in
set_option maxHeartbeats 2000000 in
theorem bw_iter0 (Bs cap : Nat) (A : Option Addr) (enc : Nat → Array Value) (Fa : World → Prop) (hFa : ∀ W, Fa W → W.cell? ⟨Bs, 0, none⟩ = some (.slice A 0 cap)) :
    IterOk Try.prog 150 #[.pointer (some ⟨Bs, 0, none⟩)] 0 enc Fa := fun m l J W hJF hY h0 => by
  have hBs := hFa W (hJF _ _ h0)
  refine callsIn_of_wp Try.func150 rfl trivial ?_ rfl
  simp only [Try.ntmps150, List.size_toArray, List.length_cons, List.length_nil, Nat.reduceAdd, Nat.reduceSub, Array.replicate_succ, Array.replicate_zero, List.push_toArray, List.append_toArray, List.nil_append, List.cons_append]
  gi_wp2
  gi_loopw [3] (fun i wr => i = .int .i64 (-1) ∧ J 0 wr) (fun _ _ => 0)
  case atStart => exact ⟨rfl, h0⟩
  case round =>
    obtain ⟨rfl, hJs⟩ := hrel
    gi_wp2
    go_end0
    exact ⟨⟨_, rfl⟩, hJs⟩
/-- what the iterator reads -/
def FaM (bn : Nat) (A : Option Addr) (len c : Nat) (cv : Nat → Nat → Value) (W : World) : Prop := W.cell? ⟨bn, 0, none⟩ = some (.slice A len c) ∧ ∀ b off, A = some ⟨b, off, none⟩ → ∀ i < len, W.cell? ⟨b, off + i * 4, none⟩ = some (cv i 0) ∧ W.cell? ⟨b, off + i * 4 + 1, none⟩ = some (cv i 1) ∧ W.cell? ⟨b, off + i * 4 + 2, none⟩ = some (cv i 2) ∧ W.cell? ⟨b, off + i * 4 + 3, none⟩ = some (cv i 3)
def encM (len : Nat) (cv : Nat → Nat → Value) (i : Nat) : Array Value := #[.int .i64 ((len - 1 - i : Nat) : Int), .agg #[cv (len - 1 - i) 0, cv (len - 1 - i) 1, cv (len - 1 - i) 2, cv (len - 1 - i) 3]]
theorem bw_any (Bs len cap : Nat) (A : Option Addr) (cv : Nat → Nat → Value) (hl : len ≤ 60) (hA : len = 0 ∨ ∃ b off, A = some ⟨b, off, none⟩) : IterOk Try.prog 150 #[.pointer (some ⟨Bs, 0, none⟩)] len (encM len cv) (FaM Bs A len cap cv) := by
  rcases hA with rfl | ⟨b, off, rfl⟩
  · exact bw_iter0 Bs cap A _ _ fun W h => h.1
  · exact bw_iter Bs b off len cap cv hl _ fun W h => ⟨h.1, h.2 b off rfl⟩
set_option maxHeartbeats 1000000 in
theorem backward_in (m : Nat) (a : Option Addr) (len cap : Nat) (w : World) :
    Calls Try.prog 104 #[.slice a len cap] w fun e w' => e = .returned (.func (.func 150) #[] #[.pointer (some ⟨w.heap.size, 0, none⟩)]) ∧ w' = w.alloc (.cells #[.slice a len cap] 48) := by
  refine (callsIn_wide (n := m)).1 (callsIn_of_wp Try.func104 rfl trivial ?_ rfl)
  simp only [Try.ntmps104, List.size_toArray, List.length_cons, List.length_nil, Nat.reduceAdd, Nat.reduceSub, Array.replicate_succ, Array.replicate_zero, List.push_toArray, List.append_toArray, List.nil_append, List.cons_append]
  gi_wp2
  go_ret
  exact ⟨rfl, rfl⟩
end Go.Proofs.Ytlcdahaihlflaaa
