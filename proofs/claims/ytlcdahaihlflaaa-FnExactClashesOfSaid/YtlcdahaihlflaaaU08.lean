/-
  Unification of linear terms without common variables: the plain law.
-/
import Derived.Test.YtlcdahaihlflaaaU05
import Derived.Test.YtlcdahaihlflaaaA04
namespace Go.Proofs.Ytlcdahaihlflaaa
open Go Go.Lg
set_option linter.unusedSimpArgs false
set_option linter.unusedVariables false
set_option maxHeartbeats 1000000
/-- both are met by one term: down to a variable of either the heads are equal -/
def MeetM (rs : List Int) : Nat → List Int → List Int → Prop
  | 0, _, _ => True
  | f + 1, a, b => hd a < 0 ∨ hd b < 0 ∨ (hd a = hd b ∧ ∀ p ∈ pairsX rs a b, MeetM rs f p.1 p.2)
def negs (t : List Int) : List Int := t.filter (· < 0)
def Unb (β : Bds) (t : List Int) : Prop := ∀ x ∈ t, x < 0 → β.getD (vIx x) default = []
def cat (ps : List (List Int × List Int)) : List Int := (ps.map fun p => p.1 ++ p.2).flatten
theorem negs_app (s t : List Int) : negs (s ++ t) = negs s ++ negs t := List.filter_append ..
theorem mem_negs {t : List Int} {x : Int} : x ∈ negs t ↔ x ∈ t ∧ x < 0 := by simp [negs]
theorem vIx_inj {x y : Int} (hx : x < 0) (hy : y < 0) (h : vIx x = vIx y) : x = y := by unfold vIx at h; omega
theorem occL_free {β : Bds} {n : Int} {rec : List Int → List Bool → Option (Bool × List Bool)} : ∀ (t : List Int) (s : List Bool), n ∉ t → Unb β t → ∃ s', occL β n rec t s = some (false, s')
  | [], s, _, _ => ⟨s, rfl⟩
  | m :: r, s, hn, hu => by
    have hr : n ∉ r := fun h => hn (List.mem_cons_of_mem _ h)
    have hur : Unb β r := fun x hx => hu x (List.mem_cons_of_mem _ hx)
    unfold occL
    rw [if_neg (fun h => hn (by rw [← h]; exact List.mem_cons_self ..))]
    split
    · exact occL_free r s hr hur
    · rename_i hc
      rw [if_pos (hu m (List.mem_cons_self ..) (by omega))]
      exact occL_free r _ hr hur
theorem occM_free {β : Bds} {n : Int} (g : Nat) {t : List Int} (s : List Bool) (hn : n ∉ t) (hu : Unb β t) : ∃ s', occM β n (g + 1) t s = some (false, s') := occL_free t s hn hu
theorem rootM_free {β : Bds} (g : Nat) {t : List Int} (h0 : 1 ≤ t.length) (hu : Unb β t) : rootM β (g + 1) t = some t := by
  unfold rootM
  rw [if_neg]
  rintro ⟨h1, h2⟩
  exact h2 (hu _ (getD_mem t 0 (by omega)) h1)
theorem hd_mem {t : List Int} (h : 1 ≤ t.length) : hd t ∈ t := getD_mem t 0 (by omega)
/-- the first subterms, one behind the other, are the beginning of what follows the head -/
theorem subX_drop {rs t : List Int} (h : XT rs t) {a : Nat} (ha : a < t.length) : t.drop a = subX rs t a ++ t.drop (endS rs (phiL t) a).toNat := by
  have he := endS_ge h.1 (a := a) (by rw [phiL_len]; exact ha)
  rw [phiL_len] at he
  unfold subX
  conv => lhs; rw [← List.take_append_drop (endS rs (phiL t) a).toNat t]
  rw [List.drop_append_of_le_length (by simp; omega)]
theorem flat_pre {rs t : List Int} (h : XT rs t) : ∀ j ≤ (argsS rs (phiL t) 0).length, t.drop 1 = ((List.range j).map fun k => subX rs t ((argsS rs (phiL t) 0).getD k default)).flatten ++ t.drop (nthB rs (phiL t) 1 j) := by
  intro j
  induction j with
  | zero => intro _; simp [nthB]
  | succ j ih =>
    intro hj
    have hl := h.len
    have hn : j < (arS rs ((phiL t).getD 0 default)).toNat := by rw [argsS_len] at hj; omega
    have hlt := nthB_lt h.1 (a := 0) (by rw [phiL_len]; omega) hn
    rw [Nat.zero_add, phiL_len] at hlt
    rw [List.range_succ, List.map_append, List.flatten_append, ih (by omega), List.append_assoc]
    congr 1
    simp only [List.map_cons, List.map_nil, List.flatten_cons, List.flatten_nil, List.append_nil]
    rw [argsS_get rs (phiL t) 0 j hn, Nat.zero_add]
    exact subX_drop h hlt.2
theorem sub_len {rs t : List Int} (h : XT rs t) {k : Nat} (hk : k < (argsS rs (phiL t) 0).length) : (subX rs t ((argsS rs (phiL t) 0).getD k default)).length + 1 ≤ t.length := by
  have hg := (argsS_lt h.1 (a := 0) (by rw [phiL_len]; have := h.len; omega) _ (getD_mem _ k hk)).1
  unfold subX
  simp only [List.length_drop, List.length_take]
  have := h.len
  omega
theorem fst_flat (rs a b : List Int) : (pairsX rs a b).map (·.1) = (List.range (argsS rs (phiL a) 0).length).map fun k => subX rs a ((argsS rs (phiL a) 0).getD k default) := by simp [pairsX]
theorem snd_flat (rs a b : List Int) : (pairsX rs a b).map (·.2) = (List.range (argsS rs (phiL a) 0).length).map fun k => subX rs b ((argsS rs (phiL b) 0).getD k default) := by simp [pairsX]
theorem cat_perm : ∀ ps : List (List Int × List Int), (cat ps).Perm ((ps.map (·.1)).flatten ++ (ps.map (·.2)).flatten)
  | [] => .refl _
  | p :: r => by
    have ih := cat_perm r
    simp only [cat, List.map_cons, List.flatten_cons] at ih ⊢
    rw [List.append_assoc, List.append_assoc]
    refine List.Perm.append_left _ ?_
    refine (List.Perm.append_left p.2 ih).trans ?_
    rw [← List.append_assoc, ← List.append_assoc]
    exact List.Perm.append_right _ List.perm_append_comm
theorem cat_sub {rs a b : List Int} (hA : XT rs a) (hB : XT rs b) (he : hd a = hd b) : ∃ r, (cat (pairsX rs a b) ++ r).Perm (a.drop 1 ++ b.drop 1) := by
  have h1 := flat_pre hA _ (Nat.le_refl _)
  have h2 := flat_pre hB _ (Nat.le_of_eq (argsX_len hA hB he).symm)
  generalize a.drop (nthB rs (phiL a) 1 (argsS rs (phiL a) 0).length) = ra at h1
  generalize b.drop (nthB rs (phiL b) 1 (argsS rs (phiL a) 0).length) = rb at h2
  rw [← fst_flat rs a b] at h1
  rw [← snd_flat rs a b] at h2
  refine ⟨ra ++ rb, ?_⟩
  rw [h1, h2]
  refine (List.Perm.append_right _ (cat_perm _)).trans ?_
  rw [List.append_assoc, List.append_assoc]
  refine List.Perm.append_left _ ?_
  rw [← List.append_assoc, ← List.append_assoc]
  exact List.Perm.append_right _ List.perm_append_comm
def Out (β β' : Bds) (t : List Int) : Prop := ∀ i, (∀ x ∈ t, x < 0 → vIx x ≠ i) → β'.getD i default = β.getD i default
theorem Out.refl (β : Bds) (t : List Int) : Out β β t := fun _ _ => rfl
theorem Out.set (β : Bds) {t : List Int} {x : Int} (hx : x ∈ t) (h0 : x < 0) (y : List Int) : Out β (β.set (vIx x) y) t := fun i hi => by
  have hne := hi x hx h0
  simp only [List.getD_eq_getElem?_getD, List.getElem?_set_ne hne]
theorem lin_L {rs : List Int} {g f : Nat} (ih : ∀ (a b : List Int) (β : Bds), a.length ≤ f → XT rs a → XT rs b → Unb β (a ++ b) → (negs (a ++ b)).Nodup → ∃ r, eqM rs (g + 1) f β a b = some r ∧ (r.isSome = true ↔ MeetM rs f a b) ∧ ∀ β', r = some β' → Out β β' (a ++ b)) :
    ∀ (ps : List (List Int × List Int)) (β : Bds), (∀ p ∈ ps, p.1.length ≤ f ∧ XT rs p.1 ∧ XT rs p.2) → Unb β (cat ps) → (negs (cat ps)).Nodup → ∃ r, eqL (eqM rs (g + 1) f) ps β = some r ∧ (r.isSome = true ↔ ∀ p ∈ ps, MeetM rs f p.1 p.2) ∧ ∀ β', r = some β' → Out β β' (cat ps)
  | [], β, _, _, _ => ⟨some β, rfl, by simp, fun β' h => by obtain rfl := Option.some.inj h; exact Out.refl _ _⟩
  | p :: r, β, hp, hu, hn => by
    have hc : cat (p :: r) = (p.1 ++ p.2) ++ cat r := rfl
    rw [hc] at hu hn
    rw [negs_app, List.nodup_append] at hn
    obtain ⟨hn1, hn2, hn3⟩ := hn
    obtain ⟨h1, h2, h3⟩ := hp p (List.mem_cons_self ..)
    obtain ⟨o, k1, k2, k3⟩ := ih p.1 p.2 β h1 h2 h3 (fun x hx => hu x (List.mem_append_left _ hx)) hn1
    unfold eqL
    rw [k1]
    cases o with
    | none =>
      refine ⟨none, rfl, ⟨fun h => by (cases h), fun h => ?_⟩, fun β' h => by (cases h)⟩
      have := k2.2 (h p (List.mem_cons_self ..))
      cases this
    | some γ =>
      have ho := k3 γ rfl
      obtain ⟨o, q1, q2, q3⟩ := lin_L ih r γ (fun q hq => hp q (List.mem_cons_of_mem _ hq)) (fun x hx h0 => by
        rw [ho (vIx x) fun y hy hy0 he => ?_]
        · exact hu x (List.mem_append_right _ hx) h0
        · have := vIx_inj hy0 h0 he
          exact hn3 y (mem_negs.2 ⟨hy, hy0⟩) x (mem_negs.2 ⟨hx, h0⟩) this) hn2
      refine ⟨o, q1, ?_, fun β' h i hi => ?_⟩
      · rw [q2]
        constructor
        · intro h q hq
          rcases List.mem_cons.1 hq with rfl | hq
          · exact k2.1 rfl
          · exact h q hq
        · exact fun h q hq => h q (List.mem_cons_of_mem _ hq)
      · rw [q3 β' h i fun x hx => hi x (by rw [hc]; exact List.mem_append_right _ hx)]
        exact ho i fun x hx => hi x (by rw [hc]; exact List.mem_append_left _ hx)
theorem lin_law (rs : List Int) (g : Nat) : ∀ (f : Nat) (a b : List Int) (β : Bds), a.length ≤ f → XT rs a → XT rs b → Unb β (a ++ b) → (negs (a ++ b)).Nodup → ∃ r, eqM rs (g + 1) f β a b = some r ∧ (r.isSome = true ↔ MeetM rs f a b) ∧ ∀ β', r = some β' → Out β β' (a ++ b)
  | 0, a, b, β, hl, hA, _, _, _ => by have := hA.len; omega
  | f + 1, a, b, β, hl, hA, hB, hu, hn => by
    have hla := hA.len
    have hlb := hB.len
    have hua : Unb β a := fun x hx => hu x (List.mem_append_left _ hx)
    have hub : Unb β b := fun x hx => hu x (List.mem_append_right _ hx)
    have hma := hd_mem hla.1
    have hmb := hd_mem hlb.1
    have hd2 := hn
    rw [negs_app, List.nodup_append] at hd2
    have hdis : ∀ x ∈ a, ∀ y ∈ b, x < 0 → y < 0 → x ≠ y := fun x hx y hy h1 h2 => hd2.2.2 x (mem_negs.2 ⟨hx, h1⟩) y (mem_negs.2 ⟨hy, h2⟩)
    have e : eqM rs (g + 1) (f + 1) β a b = eqB rs (g + 1) (eqM rs (g + 1) f) β a b := by
      simp only [eqM, rootM_free g hla.1 hua, rootM_free g hlb.1 hub]
    rw [e]
    unfold eqB
    have yes : ∀ (x y : List Int), hd x < 0 → hd x ∈ a ++ b → hd x ∉ y → Unb β y → ∃ r, bindM (g + 1) β x y = some r ∧ (r.isSome = true ↔ True) ∧ ∀ β', r = some β' → Out β β' (a ++ b) := fun x y h0 hm hny huy => by
      unfold bindM
      obtain ⟨s', hs'⟩ := occM_free g (List.replicate 48 false) hny huy
      refine ⟨some (β.set (vIx (hd x)) y), ?_, by simp, fun β' h => by obtain rfl := Option.some.inj h; exact Out.set β hm h0 y⟩
      split
      · rw [hs']
      · rfl
    rw [if_neg (fun h => hdis _ hma _ hmb h.2 (by omega) h.1)]
    by_cases k2 : hd b < 0 ∧ (0 ≤ hd a ∨ hd b < hd a)
    · rw [if_pos k2]
      obtain ⟨r, h1, h2, h3⟩ := yes b a k2.1 (List.mem_append_right _ hmb) (fun h => hdis _ h _ hmb k2.1 k2.1 rfl) hua
      exact ⟨r, h1, h2.trans ⟨fun _ => .inr (.inl k2.1), fun _ => trivial⟩, h3⟩
    rw [if_neg k2]
    by_cases k4 : hd a < 0
    · rw [if_pos k4]
      obtain ⟨r, h1, h2, h3⟩ := yes a b k4 (List.mem_append_left _ hma) (fun h => hdis _ hma _ h k4 k4 rfl) hub
      exact ⟨r, h1, h2.trans ⟨fun _ => .inl k4, fun _ => trivial⟩, h3⟩
    rw [if_neg k4]
    have k5 : 0 ≤ hd b := by omega
    by_cases k6 : hd a = hd b
    · rw [if_neg (by simpa using k6)]
      obtain ⟨r0, hp⟩ := cat_sub hA hB k6
      have hsub : ∀ x ∈ cat (pairsX rs a b), x ∈ a ++ b := fun x hx => by
        have := hp.mem_iff.1 (List.mem_append_left r0 hx)
        rcases List.mem_append.1 this with h | h
        · exact List.mem_append_left _ (List.mem_of_mem_drop h)
        · exact List.mem_append_right _ (List.mem_of_mem_drop h)
      have hnd : (negs (cat (pairsX rs a b))).Nodup := by
        have h1 : (negs (a.drop 1 ++ b.drop 1)).Nodup := by
          rw [negs_app, List.nodup_append]
          exact ⟨hd2.1.sublist ((List.drop_sublist 1 a).filter _), hd2.2.1.sublist ((List.drop_sublist 1 b).filter _), fun x hx y hy => hd2.2.2 x (((List.drop_sublist 1 a).filter _).subset hx) y (((List.drop_sublist 1 b).filter _).subset hy)⟩
        have h1' : (List.filter (fun x : Int => decide (x < 0)) (a.drop 1 ++ b.drop 1)).Nodup := h1
        have h2 := ((hp.filter (fun x : Int => decide (x < 0))).nodup_iff).2 h1'
        rw [show List.filter (fun x : Int => decide (x < 0)) (cat (pairsX rs a b) ++ r0) = negs (cat (pairsX rs a b)) ++ negs r0 from List.filter_append .., List.nodup_append] at h2
        exact h2.1
      obtain ⟨r, h1, h2, h3⟩ := lin_L (g := g) (f := f) (fun a b β => lin_law rs g f a b β) (pairsX rs a b) β (fun p hp => by
        obtain ⟨k, hk, rfl⟩ := List.mem_map.1 hp
        have hk := List.mem_range.1 hk
        have := sub_len hA hk
        exact ⟨by dsimp only; omega, pairsX_ok hA hB k6 _ hp⟩) (fun x hx => hu x (hsub x hx)) hnd
      refine ⟨r, h1, h2.trans ⟨fun h => .inr (.inr ⟨k6, h⟩), fun h => ?_⟩, fun β' h i hi => h3 β' h i fun x hx => hi x (hsub x hx)⟩
      rcases h with h | h | h
      · exact absurd h k4
      · exact absurd h (by omega)
      · exact h.2
    · rw [if_pos k6]
      refine ⟨none, rfl, ⟨fun h => by (cases h), fun h => ?_⟩, fun β' h => by (cases h)⟩
      rcases h with h | h | h
      · exact absurd h k4
      · exact absurd h (by omega)
      · exact absurd h.1 k6
end Go.Proofs.Ytlcdahaihlflaaa
