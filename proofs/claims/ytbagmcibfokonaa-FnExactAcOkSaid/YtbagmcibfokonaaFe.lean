import Derived.Test.YtbagmcibfokonaaRows
import Derived.Test.YtbagmcibfokonaaFd
import Derived.Test.YtbagmcibfokonaaLgRow
namespace Go.Proofs.Ytbagmcibfokonaa
open Go Go.Lg Go.RowKit Go.ChangeShapes Go.WideShapes Go.ChangeAt
set_option linter.unusedVariables false
theorem own : ownKnob Try.prog.godebug = none := by kernel_rfl
theorem laidOut : laidOutB Try.prog = true := by kernel_rfl
theorem wc_sig {cs : List D} (h : WC S 27 cs ∨ WC S 24 cs) : ∃ xs : List Int, cs = [.sl .any (xs.map (.int .i64))] ∧ ∀ x ∈ xs, In64 x := by
  rcases h with h | h
  all_goals
    obtain ⟨css, rfl, hl, hc⟩ := wc_st (fs := [(0, 22)]) rfl h
    match css, hl with
    | [c0], _ =>
      obtain ⟨xs, rfl, hx⟩ := wc_ints (t := 22) rfl rfl (hc 0 _ c0 rfl rfl)
      exact ⟨xs, rfl, hx⟩
set_option maxRecDepth 100000 in
theorem fnExactAcOk_lifted (os : Os) (started : os.Started) (H : Type) (enc : TypeId × Value → H) :
    ReturnsInHanded {} Try.checked os 3 .any (Rows.fnExactAcOkSpec.pre6 enc Try.prog Try.f3 Rows.fnExactAcOkRow.domain false) (Rows.fnExactAcOkSpec.post enc Try.prog Try.f3 false true false false) := by
  refine returnsInHanded_of_change (C := Try.checked) own started (by kernel_rfl) Try.func3
    (ChangeSpec.witness6 (enc := enc) (C := Try.checked) false ⟨#[], #[.agg #[.slice none 0 0], .slice none 0 0], []⟩ 8 (by kernel_rfl) (by kernel_rfl) (by kernel_rfl) (by kernel_rfl)) ?_
  intro W base args ds gs before hval hW _ _
  refine law_contract S (fn := Try.f3) (ts := [24, 22]) (tb := 4) (m := 20) laidOut (by kernel_rfl) (of_decide_eq_true (by kernel_rfl)) (of_decide_eq_true (by kernel_rfl)) (by kernel_rfl) (by kernel_rfl) rfl (fun ds hd => ?_) (fun al hl h => ?_) hval hW
  · match ds, hd with
    | [_, _], _ => rfl
  · match al, hl with
    | [a0, a1], _ =>
      obtain ⟨i0, c0, e0, _, w0, rfl⟩ := h 0 _ a0 rfl rfl
      obtain ⟨i1, c1, e1, _, w1, rfl⟩ := h 1 _ a1 rfl rfl
      cases tab24.symm.trans e0
      cases tab22.symm.trans e1
      obtain ⟨rs, rfl, _⟩ := wc_sig (.inr w0)
      obtain ⟨xs, rfl, _⟩ := wc_ints (t := 22) rfl rfl w1
      exact fnExactAcOk_fc .any .any rs xs
set_option maxRecDepth 100000 in
theorem fnExactAcOk_holds : Rows.FnExactAcOkSaid :=
  OpenClaim.holds_of_wide 3 Try.f3 rfl rfl rfl rfl rfl rfl rfl ⟨rfl, rfl, rfl, rfl, rfl⟩ rfl rfl rfl rfl rfl (by kernel_rfl) Try.func3 (by kernel_rfl)
    (of_decide_eq_true (by kernel_rfl)) (by unfold Func.isWrapper; first | (rw [if_pos (by decide +kernel)]; kernel_rfl) | (rw [if_neg (by decide +kernel)]; exact ⟨rfl, rfl⟩))
    (fun os started H enc _ => fnExactAcOk_lifted os started H enc)
end Go.Proofs.Ytbagmcibfokonaa
