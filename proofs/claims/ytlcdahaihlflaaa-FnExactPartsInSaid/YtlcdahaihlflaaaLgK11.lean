/-
  Lg: LgThawO, one behind the other.
-/
import Derived.Test.YtlcdahaihlflaaaLgK7
/-
  Lg: an own list of numbers is taken for memory (a box): what stays of the state must be seen not to read its block.
-/
namespace Go.Lg
open Go Go.RowKit
theorem baseOf_P {G : Ghost} {w : World} {bx : List (Nat × List D)} (b : Nat) (h : (baseOf G w bx []).ab b) : ∃ p ∈ (baseOf G w bx []).ids, p.2 = b := by
 rcases h with ⟨p, hp, hb⟩ | ⟨k, hk, _⟩
 ·exact ⟨(p.1, b), List.mem_filterMap.2 ⟨p, hp, by rw [hb]; rfl⟩, rfl⟩
 ·cases hk
theorem fc_bodyP {S : Setup} {f : FuncId} {fn : Func} {c : Code} {ro bx : List (Nat × List D)} {args : List D} {d : D} {bx' : List (Nat × List D)}
  (hf : S.P.funcs[f]? = some fn) (hb : fn.body = some c) (hname : (fn.name == "runtime.NumGoroutine") = false) (hn : args.length ≤ fn.ntmps)
  (h : ∀ B : Base, (∀ b, B.ab b → ∃ p ∈ B.ids, p.2 = b) → SW S B (Ret S fn.results.toList d bx') [.code c] ⟨fn.ntmps, enumD 0 args, bx, ro, [], bx.map (·.1)⟩) : FC S f ro bx [] args d bx' [] := by
 refine ⟨⟨fn, hf, hname, by rw [hb]; rfl⟩, fun w G vals hs => calls_of_sw hf hb hn hs (h _ baseOf_P) fun G' L' a' w' hs' hr => ?_⟩
 obtain ⟨d0, v, ⟨h1, h2⟩, h3, h4⟩ := resY_sound hs' hr
 refine ⟨v, h3, v, { G' with τ := fun _ => none }, rfl, rfl, rfl, fun t d' hd => ?_, ?_, hs.fixed⟩
 ·simp only [look] at hd
  split at hd
  ·rename_i ht
   subst ht
   obtain rfl := Option.some.inj hd
   refine ⟨v, rfl, ?_⟩
   exact (h4.le h1).mono (show Mono G' { G' with τ := fun _ => none } w' w' from ⟨fun _ _ _ h1 h2 => ⟨h1, h2⟩, fun _ _ => rfl⟩) (fun _ _ _ h => h) (fun _ _ => .inl rfl)
  ·cases hd
 ·exact simW_noTok (hs'.W.less h2 (ro' := []) (by simp) (tk' := []) (by simp))
end Go.Lg
