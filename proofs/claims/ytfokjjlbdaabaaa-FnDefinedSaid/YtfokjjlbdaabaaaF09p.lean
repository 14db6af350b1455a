/-
  Drawn rules: what is drawn is a right term (the plain part).
-/
import Derived.Test.YtfokjjlbdaabaaaD04
import Derived.Test.YtfokjjlbdaabaaaDy
import Derived.Test.YtfokjjlbdaabaaaA05q
namespace Go.Proofs.Ytfokjjlbdaabaaa
open Go Go.Lg
set_option linter.unusedSimpArgs false
set_option linter.unusedVariables false
set_option maxHeartbeats 4000000
attribute [local irreducible] belowV belowC
theorem constD_fl {rs : List Int} (hs : SigOkP rs) : ∀ f ≤ rs.length, Fl rs 1 (constD rs f)
  | 0, _ => by
    have h : arS rs (-1) = 0 := arS_var (by omega)
    exact .cons (by omega) (by rw [h]; exact .nil)
  | f + 1, hf => by
    rcases Classical.em (rs.getD f default = 0) with h | h
    · rw [constD_y h]
      have e : arS rs (f : Int) = 0 := by rw [arS_sym (by omega)]; simpa using h
      exact .cons (by omega) (by rw [e]; exact .nil)
    · rw [constD_n h]
      exact constD_fl hs f (by omega)
theorem leafV_fl {rs : List Int} (hs : SigOkP rs) (bs : List Int) {vars : Int} (hv : 0 ≤ vars ∧ vars ≤ 3) (c : Cu) : Fl rs 1 (leafV bs rs vars c).1 := by
  unfold leafV
  split
  · rename_i h0
    split
    · have h := belowV_lt bs (belowC bs c 2) h0
      have e : arS rs (-1 - belowV bs (belowC bs c 2) vars) = 0 := arS_var (by omega)
      exact .cons (by omega) (by rw [e]; exact .nil)
    · exact constD_fl hs _ (Nat.le_refl _)
  · exact constD_fl hs _ (Nat.le_refl _)
theorem nodeU_tail {rs : List Int} {T : Cu → List Int × Cu} (hT : ∀ c, Fl rs 1 (T c).1) (f : Int) (c : Cu) : ∀ k, ∃ l, (nodeU T f c k).1 = f :: l ∧ Fl rs k l
  | 0 => ⟨[], rfl, .nil⟩
  | k + 1 => by
    obtain ⟨l, e, h⟩ := nodeU_tail hT f c k
    refine ⟨l ++ (T (nodeU T f c k).2).1, ?_, h.app (hT _)⟩
    rw [nodeU_s1, e]; rfl
theorem nodeU_fl {rs : List Int} {T : Cu → List Int × Cu} (hT : ∀ c, Fl rs 1 (T c).1) {f : Int} (c : Cu) {k : Nat} (h0 : 0 ≤ arS rs f) (hk : (arS rs f).toNat = k) : Fl rs 1 (nodeU T f c k).1 := by
  obtain ⟨l, e, h⟩ := nodeU_tail hT f c k
  rw [e]
  exact .cons h0 (by rw [hk, Nat.zero_add]; exact h)
theorem arS_get {rs : List Int} (hs : SigOkP rs) {n : Int} (h : 0 ≤ n ∧ n < rs.length) : 0 ≤ arS rs n ∧ (arS rs n).toNat = (rs.getD n.toNat default).toNat := by
  have h2 := hs.2 n.toNat (by omega)
  rw [arS_sym (by omega)]
  exact ⟨h2.1, rfl⟩
theorem termV_fl {rs : List Int} (hs : SigOkP rs) (bs : List Int) {vars : Int} (hv : 0 ≤ vars ∧ vars ≤ 3) : ∀ d c, Fl rs 1 (termV bs rs vars d c).1
  | 0, c => leafV_fl hs bs hv c
  | d + 1, c => by
    unfold termV
    split
    · exact leafV_fl hs bs hv _
    · have hl := hs.1
      have h := belowV_lt bs (belowC bs c 4) (n := (rs.length : Int)) (by omega)
      have ha := arS_get hs h
      exact nodeU_fl (fun c => termV_fl hs bs hv d c) _ ha.1 ha.2
def gB : Nat → Nat
  | 0 => 1
  | d + 1 => 1 + 3 * gB d
theorem nodeU_le {T : Cu → List Int × Cu} {n : Nat} (hT : ∀ c, (T c).1.length ≤ n) (f : Int) (c : Cu) {k : Nat} (hk : k ≤ 3) : (nodeU T f c k).1.length ≤ 1 + 3 * n := by
  have h := nodeU_len hT f c k
  have : k * n ≤ 3 * n := Nat.mul_le_mul_right n hk
  omega
theorem termV_le {rs : List Int} (hs : SigOkP rs) (bs : List Int) (vars : Int) : ∀ d c, (termV bs rs vars d c).1.length ≤ gB d
  | 0, c => by simp [termV, leafV_len, gB]
  | d + 1, c => by
    unfold termV
    split
    · rw [leafV_len]; unfold gB; omega
    · have hl := hs.1
      have h := belowV_lt bs (belowC bs c 4) (n := (rs.length : Int)) (by omega)
      have h2 := (hs.2 (belowV bs (belowC bs c 4) rs.length).toNat (by omega)).2
      exact nodeU_le (fun c => termV_le hs bs vars d c) _ _ (by omega)
theorem gB_le : ∀ {d e : Nat}, d ≤ e → gB d ≤ gB e
  | 0, 0, _ => Nat.le_refl _
  | 0, e + 1, _ => by unfold gB; omega
  | d + 1, 0, h => by omega
  | d + 1, e + 1, h => by have := gB_le (d := d) (e := e) (by omega); simp only [gB]; omega
theorem termV_ok {rs : List Int} (hs : SigOkP rs) (bs : List Int) {vars : Int} (hv : 0 ≤ vars ∧ vars ≤ 3) {d : Nat} (hd : d ≤ 3) (c : Cu) : TermOkP rs (termV bs rs vars d c).1 := fl_termOk hs (termV_fl hs bs hv d c) (Nat.le_trans (termV_le hs bs vars d c) (Nat.le_trans (gB_le hd) (by decide)))
/-- the left side of a drawn rule -/
def leftV (bs rs : List Int) (p : List Int × Cu) : List Int × Cu := if p.1.getD 0 default < 0 then nodeU (termV bs rs 2 0) (belowV bs p.2 rs.length) (belowC bs p.2 rs.length) (rs.getD (belowV bs p.2 rs.length).toNat default).toNat else p
theorem leftV_ok {rs : List Int} (hs : SigOkP rs) (bs : List Int) {p : List Int × Cu} (hp : TermOkP rs p.1) : TermOkP rs (leftV bs rs p).1 := by
  unfold leftV
  split
  · have hl := hs.1
    have h := belowV_lt bs p.2 (n := (rs.length : Int)) (by omega)
    have ha := arS_get hs h
    have h2 := (hs.2 (belowV bs p.2 rs.length).toNat (by omega)).2
    exact fl_termOk hs (nodeU_fl (fun c => termV_fl hs bs (by omega) 0 c) _ ha.1 ha.2) (Nat.le_trans (nodeU_le (fun c => termV_le hs bs 2 0 c) _ _ (by omega)) (by decide))
  · exact hp
/-- the right side: foreign variables become v -/
def fixF (l : List Int) (v n : Int) : Int := if n < 0 ∧ n ∉ l then v else n
def fixR (l r : List Int) (v : Int) (i : Nat) : List Int := (r.take i).map (fixF l v) ++ r.drop i
theorem fixR_len (l r : List Int) (v : Int) (i : Nat) : (fixR l r v i).length = r.length := by unfold fixR; simp; omega
theorem fixR_get (l r : List Int) (v : Int) {i : Nat} (h : i < r.length) : (fixR l r v i).getD i default = r.getD i default := by
  unfold fixR
  simp only [List.getD_eq_getElem?_getD]
  rw [List.getElem?_append_right (by rw [List.length_map, List.length_take]; omega), List.length_map, List.length_take, List.getElem?_drop, show min i r.length = i by omega, Nat.sub_self, Nat.add_zero]
theorem fixR_next (l r : List Int) (v : Int) {i : Nat} (h : i < r.length) : fixR l r v (i + 1) = (fixR l r v i).set i (fixF l v (r.getD i default)) := by
  unfold fixR
  rw [List.take_succ_eq_append_getElem h, List.map_append, List.drop_eq_getElem_cons h, List.set_append, if_neg (by rw [List.length_map, List.length_take]; omega), List.length_map, List.length_take, show min i r.length = i by omega, Nat.sub_self, List.set_cons_zero, List.append_assoc]
  simp [List.getD, h]
theorem fixR_stay (l r : List Int) (v : Int) {i : Nat} (h : i < r.length) (hn : ¬ (r.getD i default < 0 ∧ r.getD i default ∉ l)) : fixR l r v (i + 1) = fixR l r v i := by
  rw [fixR_next l r v h]
  unfold fixF
  rw [if_neg hn, ← fixR_get l r v h]
  have hl : i < (fixR l r v i).length := by rw [fixR_len]; exact h
  rw [List.getD_eq_getElem?_getD, List.getElem?_eq_getElem hl, Option.getD_some, List.set_getElem_self]
theorem fixR_all (l r : List Int) (v : Int) : fixR l r v r.length = r.map (fixF l v) := by unfold fixR; simp
end Go.Proofs.Ytfokjjlbdaabaaa
