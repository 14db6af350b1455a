/-
  Lg, part 28: an empty list that is going to be appended to is given a token ahead of the first append; results are labelled.
-/
import Derived.Test.YtceejlnnlkmeiaaLgLoop
namespace Go.Lg
open Go Go.RowKit
variable {S : Setup} {B : Base} {R : LS → Prop} {kk : List VItem} {L : LS}

theorem env_set {G : Ghost} {a : Act} {w : World} (hs : Sim B L G a w) {t : Nat} {d : D} {v : Value} (hv : a.tmps[t]? = some v) (hr : Rel G w d v) : Sim B { L with env := setA L.env t d } G a w := by
  refine ⟨hs.defers, hs.size, fun t' d' hd => ?_, hs.W, hs.fixed⟩
  simp only [look_setA] at hd
  by_cases e : t = t'
  · subst e
    simp only [if_true, Option.some.injEq] at hd
    subst hd
    exact ⟨v, hv, hr⟩
  · rw [if_neg e] at hd
    exact hs.env t' d' hd

theorem sw_tok (t k : Nat) (e : TypeId) (z : Nat) {tk : Tk} (ht : look L.env t = some (.sl tk [])) (htk : tk = .nil ∨ tk = .full) (hc : (L.purge (fun x => x == k)).clean (fun x => x == k) = true)
    (h : SW S B R kk { L.purge (fun x => x == k) with env := setA (L.purge (fun x => x == k)).env t (.sl (.own k e z) []), toks := k :: L.toks }) : SW S B R kk L := fun G a w hs => by
  have hp := purge_sim hs (fun x => x == k)
  obtain ⟨v, hv, hr⟩ := hs.env t _ ht
  have hstep : TokStep B G (G.setTok k (some none)) w w k := {
    mono := ⟨fun _ _ _ h1 h2 => ⟨h1, h2⟩, fun _ _ => rfl⟩
    beta := rfl, lab := rfl, sz := Nat.le_refl _, os := rfl, tape := rfl, out := rfl
    tau := fun k' hk' => .inr ⟨by simp [Ghost.setTok, hk'], fun _ _ _ _ => ⟨rfl, rfl⟩⟩
    block := fun _ _ => .inl ⟨rfl, rfl⟩
    new := fun g e' z' hg => by simp [Ghost.setTok] at hg
    live := by simp [Ghost.setTok] }
  have hsim := tokStep_sim hp hstep hc (tk := k :: L.toks) (fun k' hk' => by
    by_cases e : k' = k
    · exact .inl e
    · rcases List.mem_cons.1 hk' with h | h
      · exact absurd h e
      · exact .inr ⟨by simp [Ghost.setTok, e], h⟩)
  refine h _ a w (env_set hsim hv ?_)
  cases hr with
  | @sl _ _ A n c b o s hn hcc hm ht' hA hu hk hst hr =>
    have h0 : n = 0 := hn
    have hc0 : c = 0 := by
      rcases htk with rfl | rfl
      · exact ht'.2.2
      · have : n = c := ht'
        omega
    exact .sl (b := 0) (o := 0) (s := 0) hn hcc hm (by simp only [TkOk, Ghost.setTok, if_true]; exact ⟨h0, hc0⟩) (.inl rfl) (by simp) (by simp [flat]) (by simp [flat]) (by simp [flat])
theorem ret1_own {S : Setup} {L : LS} {t k : Nat} {e : TypeId} {z : Nat} {xs : List D} (h : look L.env t = some (.sl (.own k e z) xs)) (hk : k ∈ L.toks) : Ret1 S [.tmp t] (.sl (.own 0 e z) xs) [] L := by
  unfold Ret1
  simp only [resY, resYs, resY1, LS.get, h, someK]
  exact ⟨k, _, .refl _, hk, fun k' hk' => by simpa [tupD, D.tks] using hk', rfl, by simp, by simp⟩
end Go.Lg
