/-
  A15s, A15t, ACl, A06e, A06f, A17p, A17q, A17i, one behind the other.
-/
import Derived.Test.YtmogobaaophknaaG3
import Derived.Test.YtmogobaaophknaaLgK13
import Derived.Test.YtmogobaaophknaaLgK10
import Derived.Test.YtmogobaaophknaaLgK12
import Derived.Test.YtmogobaaophknaaSet
import Derived.Test.YtmogobaaophknaaG1
import Derived.Test.YtmogobaaophknaaG0
section
namespace Go.Proofs.Ytmogobaaophknaa
open Go Go.Lg
set_option linter.unusedSimpArgs false
set_option linter.unusedVariables false
set_option maxHeartbeats 4000000
attribute [local irreducible] SW runL runQ runG runQG FC Ret1 toF redoL anyB
theorem end_step {rs t : List Int} {a i : Nat} {need m : Int} (hi : i < t.length) (h3 : 1 ≤ need) (h4 : endS rs t a = scan rs (t.drop i) need i) (h0 : 0 ≤ arS rs (t.getD i default)) (hm : m = need + arS rs (t.getD i default) - 1) : (m = 0 ∧ endS rs t a = ((i + 1 : Nat) : Int)) ∨ (1 ≤ m ∧ endS rs t a = scan rs (t.drop (i + 1)) m (i + 1)) := by
 have hb := scan_step rs t need i hi
 rw [if_neg (by omega)] at hb
 subst hm
 by_cases h : need + arS rs (t.getD i default) - 1 = 0
 ·rw [if_pos h] at hb
  exact .inl ⟨h, by rw [h4, hb]; omega⟩
 ·rw [if_neg h] at hb
  exact .inr ⟨by omega, by rw [h4, hb]⟩
def kp27 : List (Nat × List Nat) := [(0, [1, 2, 3]), (1, [1, 2, 3, 7]), (2, [1, 2, 3, 7, 9]), (3, [1, 2, 3, 7, 14]), (4, [1, 2, 3, 7]), (5, [1, 2, 3, 7]), (6, [1, 2, 3, 7]), (7, [6])]
attribute [go_sem] kp27
theorem l13End_fc (rs t : List Int) (a : Nat) (hT : TermOkP rs t) (ha : a < t.length) : FC S 27 [] [] [] [.agg [.sl .any (rs.map (.int .i64))], .sl .any (t.map (.int .i64)), .int .i64 a] (.int .i64 (endS rs t a)) [] [] := by
 have he := endS_ge hT ha
 have hl := hT.2.1.2
 refine fc_body Try.func27 rfl (by kernel_rfl) (by simp [Try.f27]) fun B => ?_
 simp only [Try.ntmps27, enumD, lst0, Nat.reduceAdd]
 refine sw_bnd 1 rfl fun hb1 => ?_
 simp only [D.bnd, List.length_map] at hb1
 repeat' first | refine sw_seq ?_ | refine sw_block ?_ | refine sw_inBlock ?_ | refine sw_skip ?_ | refine sw_go 0 kp27 fun K hK => ?_ | refine fun (K : KT) (hK : KOk S 0 _ _ _ K) => ?_ | refine sw_goD kp27 (by kernel_rfl) fun K hK => ?_ | ((first | refine runL_go ?_ | refine runQ_go ?_ | refine sw_ret (ret0 ?_) | refine sw_ret ?_); simp (disch := (refine Om.mk ?_; omega)) only [go_sem, Try.results27]) | (refine hK.nil ?_; clear hK K; simp only [go_sem]) | ((first | refine sw_cond rfl ?_ ?_) <;> intro h <;> try simp (disch := (refine Om.mk ?_; omega)) only [go_sem] at h) | refine sw_exit rfl ?_ | refine sw_loopEnd ?_ | (with_reducible refine And.intro (by first | omega | (simp only [lens]; omega)) ?_) | fail
 refine sw_loopU (ι := Nat × Int) (fun p => [(2, .int .i64 p.1), (7, .int .i64 p.2)]) (fun p => []) (fun p => (p.1 ≤ t.length ∧ 0 ≤ p.2 ∧ p.2 ≤ 1 + 3 * p.1) ∧ ((p.2 = 0 ∧ endS rs t a = p.1) ∨ (1 ≤ p.2 ∧ endS rs t a = scan rs (t.drop p.1) p.2 p.1))) (fun p => t.length - p.1) (a, 1) (by (refine covers_mk0 rfl rfl ?_ ?_ ?_ ?_ <;> simp (disch := (refine Om.mk ?_; omega)) only [go_sem] <;> (try omega))) ?_ (fun p hp => ?_)
 rotate_left
 simp only [go_sem]
 obtain ⟨i, need⟩ := p
 obtain ⟨⟨h1, h2, h2'⟩, h3⟩ := hp
 dsimp only at h1 h2 h2' h3
 have hlt : 1 ≤ need → i < t.length := fun h => Classical.byContradiction fun hn => by
  have hx := scan_end rs t need i (by omega)
  omega
 have hlow : i < t.length → _ := fun h => hT.low h
 have hv : i < t.length → t.getD i default < 0 → arS rs (t.getD i default) = 0 := fun hi h => arS_var (by have := hlow hi; omega)
 have hsy : 0 ≤ t.getD i default → t.getD i default < rs.length → arS rs (t.getD i default) = rs.getD (t.getD i default).toNat default := fun h h' => arS_sym (by omega)
 repeat' first | refine sw_seq ?_ | refine sw_block ?_ | refine sw_inBlock ?_ | refine sw_skip ?_ | refine sw_go 0 kp27 fun K hK => ?_ | refine fun (K : KT) (hK : KOk S 0 _ _ _ K) => ?_ | refine sw_goD kp27 (by kernel_rfl) fun K hK => ?_ | ((first | refine runL_go ?_ | refine runQ_go ?_ | refine sw_ret (ret0 ?_) | refine sw_ret ?_); simp (disch := (refine Om.mk ?_; omega)) only [go_sem, Try.results27]) | (refine hK.nil ?_; clear hK K; simp only [go_sem]) | ((first | refine sw_cond rfl ?_ ?_) <;> intro h <;> try simp (disch := (refine Om.mk ?_; omega)) only [go_sem] at h) | refine sw_exit rfl ?_ | refine sw_loopEnd ?_ | (with_reducible refine And.intro (by first | omega | (simp only [lens]; omega)) ?_) | fail
 ·have hi := hlt (by omega)
  have e := hsy (by omega) (hlow hi).1.2
  have hl0 := (hlow hi).2
  exact ⟨(i + 1, need + rs.getD (t.getD i default).toNat default - 1), by (refine covers_mk0 rfl rfl ?_ ?_ ?_ ?_ <;> simp (disch := (refine Om.mk ?_; omega)) only [go_sem] <;> (try omega)), ⟨⟨by omega, by omega, by omega⟩, end_step (need := need) (m := need + rs.getD (t.getD i default).toNat default - 1) hi (by omega) (by omega) hl0.1 (by rw [e])⟩, by omega⟩
 ·have hi := hlt (by omega)
  have e := hv hi (by omega)
  exact ⟨(i + 1, need - 1), by (refine covers_mk0 rfl rfl ?_ ?_ ?_ ?_ <;> simp (disch := (refine Om.mk ?_; omega)) only [go_sem] <;> (try omega)), ⟨⟨by omega, by omega, by omega⟩, end_step (need := need) (m := need - 1) hi (by omega) (by omega) (by omega) (by rw [e]; omega)⟩, by omega⟩
 ·omega
 ·exact .inr ⟨by simp, rfl⟩
end Go.Proofs.Ytmogobaaophknaa
end
section
namespace Go.Proofs.Ytmogobaaophknaa
open Go Go.Lg
set_option linter.unusedSimpArgs false
set_option linter.unusedVariables false
set_option maxHeartbeats 4000000
attribute [local irreducible] SW runL runQ runG runQG FC Ret1 toF redoL anyB
theorem flat_zeros (n : Nat) (k : IntKind) (m : Int) : (List.replicate n [D.int k m]).flatten = (List.replicate n m).map (.int k) := by rw [flatten_one, List.map_replicate]
theorem idsL_intsF (k : IntKind) (xs : List Int) : D.idsL (xs.map (.int k)) = [] := by
 induction xs with
 | nil => rfl
 | cons x r ih => simp [D.idsL, D.ids, ih]
attribute [local go_sem] flat_zeros idsL_intsF
end Go.Proofs.Ytmogobaaophknaa
end
section
namespace Go.Proofs.Ytmogobaaophknaa
open Go Go.Lg
def kp50 : List (Nat × List Nat) := [(0, [0]), (1, [0, 4]), (2, [2]), (3, [2])]
attribute [go_sem] kp50
end Go.Proofs.Ytmogobaaophknaa
end
section
namespace Go.Proofs.Ytmogobaaophknaa
open Go Go.Lg
set_option linter.unusedSimpArgs false
set_option linter.unusedVariables false
set_option maxHeartbeats 4000000
attribute [local irreducible] SW runL runQ runG runQG FC
theorem take_snoc {α : Type} [Inhabited α] (xs : List α) (i : Nat) (h : i < xs.length) : xs.take (i + 1) = xs.take i ++ [xs.getD i default] := by
 rw [List.take_succ_eq_append_getElem h]
 simp [List.getD, List.getElem?_eq_getElem h]
theorem cloneL_fc (p : List Nat) (hp : p ≠ []) (tk : Tk) (xs : List Int) (h1 : xs ≠ []) (hl : xs.length ≤ 17592186044416) : FC S 50 [] [] [] [.sl tk (xs.map (.int .i64))] (Int64SL p xs) [] [] := by
 have h1' : xs.map (D.int .i64) ≠ [] := by simpa using h1
 refine FC.args (args' := [.sl .any (xs.map (.int .i64))]) ?_ (by simp only [go_sem])
 refine fc_body Try.func50 rfl (by kernel_rfl) (by simp [Try.f50]) fun B => ?_
 simp only [Try.ntmps50, enumD, lst0, Nat.reduceAdd]
 refine sw_bnd 0 rfl fun hb0 => ?_
 simp only [D.bnd, List.length_map] at hb0
 repeat' first | (refine sw_lab 2 p (k := 8000) rfl (by simp) hp ?_; simp only [go_sem]) | refine sw_seq ?_ | refine sw_skip ?_ | refine sw_go 0 kp50 fun K hK => ?_ | refine fun (K : KT) (hK : KOk S 0 _ _ _ K) => ?_ | ((first | refine runL_go ?_ | refine sw_ret (ret0 ?_) | refine sw_ret ?_); simp (disch := (refine Om.mk ?_; omega)) only [go_sem, Try.results50]) | (refine hK.nil ?_; clear hK K; simp only [go_sem]) | ((first | refine sw_cond rfl ?_ ?_) <;> intro h <;> try simp (disch := (refine Om.mk ?_; omega)) only [go_sem] at h) | (with_reducible refine And.intro (by first | omega | (simp only [lens]; omega)) ?_) | ((with_reducible refine And.intro ?_ ?_); · first | (intro x hx; subst hx; rfl) | exact upR_mem fun _ _ => rfl | exact mapR_mem fun _ _ => rfl | (intro x; refine And.intro ?_ ?_ <;> (intros; subst_vars; rfl))) | fail
end Go.Proofs.Ytmogobaaophknaa
end
section
namespace Go.Proofs.Ytmogobaaophknaa
open Go Go.Lg
set_option linter.unusedSimpArgs false
set_option linter.unusedVariables false
set_option maxHeartbeats 4000000
attribute [local irreducible] SW runL runQ runG runQG FC Ret1
def defL (rules : List RuleT) (i : Nat) : List Int := (rules.take i).foldl (fun acc r => intoL acc (r.l.getD 0 default)) []
theorem defL_succ (rules : List RuleT) (i : Nat) (h : i < rules.length) : defL rules (i + 1) = intoL (defL rules i) ((rules.getD i default).l.getD 0 default) := by
 unfold defL
 rw [take_snoc rules i h, List.foldl_append]
 rfl
theorem intoL_len' (n : Int) : ∀ xs : List Int, (intoL xs n).length ≤ xs.length + 1
 | [] => by simp [intoL]
 | x :: r => by
  have ih := intoL_len' n r
  unfold intoL
  split
  ·simp only [List.length_cons]; omega
  ·split <;> simp
theorem defL_len (rules : List RuleT) : ∀ i, i ≤ rules.length → (defL rules i).length ≤ i
 | 0, _ => by simp [defL]
 | i + 1, h => by
  have ih := defL_len rules i (by omega)
  rw [defL_succ rules i (by omega)]
  have := intoL_len' ((rules.getD i default).l.getD 0 default) (defL rules i)
  omega
theorem defL_mem (rules : List RuleT) (m : Int) : ∀ i, i ≤ rules.length → (m ∈ defL rules i ↔ ∃ j < i, (rules.getD j default).l.getD 0 default = m)
 | 0, _ => by simp [defL]
 | i + 1, h => by
  rw [defL_succ rules i (by omega), mem_intoL, defL_mem rules m i (by omega)]
  constructor
  ·rintro (⟨j, hj, e⟩ | e)
   ·exact ⟨j, by omega, e⟩
   ·exact ⟨i, by omega, e.symm⟩
  ·rintro ⟨j, hj, e⟩
   rcases Nat.lt_or_ge j i with h1 | h1
   ·exact .inl ⟨j, h1, e⟩
   ·rw [show j = i by omega] at e; exact .inr e.symm
theorem defL_all (rules : List RuleT) (m : Int) : m ∈ defL rules rules.length ↔ ∃ r ∈ rules, r.l.getD 0 default = m := by
 rw [defL_mem rules m _ (Nat.le_refl _)]
 constructor
 ·rintro ⟨j, hj, e⟩; exact ⟨_, getD_mem rules j hj, e⟩
 ·rintro ⟨r, hr, e⟩
  obtain ⟨j, hj, rfl⟩ := List.getElem_of_mem hr
  exact ⟨j, hj, by rw [← e]; simp [List.getD, List.getElem?_eq_getElem hj]⟩
def kp25 : List (Nat × List Nat) := [(0, [1]), (1, [1, 3]), (2, [1, 3, 4]), (3, [1, 3, 4, 10]), (5, [1, 3, 4]), (4, [1, 3, 4]), (6, [2])]
attribute [go_sem] kp25
theorem l6Defined_fc (x : SystemT) (hn : x.rules.length ≤ 1000) (h : ∀ j < x.rules.length, 1 ≤ (x.rules.getD j default).l.length) : FC S 25 [] [] [] [SystemD x] (.sl .any ((defL x.rules x.rules.length).map (.int .i64))) [] [] := by
 refine fc_body Try.func25 rfl (by kernel_rfl) (by simp [Try.f25]) fun B => ?_
 simp only [Try.ntmps25, enumD, lst0, Nat.reduceAdd]
 repeat' first | refine sw_seq ?_ | refine sw_block ?_ | refine sw_inBlock ?_ | refine sw_skip ?_ | refine sw_go 0 kp25 fun K hK => ?_ | refine fun (K : KT) (hK : KOk S 0 _ _ _ K) => ?_ | ((first | refine runL_go ?_ | refine sw_ret (ret0 ?_) | refine sw_ret ?_); simp (disch := (refine Om.mk ?_; omega)) only [go_sem, Try.results25]) | (refine hK.nil ?_; clear hK K; simp only [go_sem]) | ((first | refine sw_cond rfl ?_ ?_) <;> intro h <;> try simp (disch := (refine Om.mk ?_; omega)) only [go_sem] at h) | refine sw_exit rfl ?_ | refine sw_loopEnd ?_ | (with_reducible refine And.intro (by first | omega | (simp only [lens]; omega)) ?_) | ((with_reducible refine And.intro ?_ ?_); · first | (intro x hx; subst hx; rfl) | (intro x; refine And.intro ?_ ?_ <;> (intros; subst_vars; rfl))) | fail
 refine sw_loopU (ι := Nat) (fun p => [(4, .int .i64 p), (3, .sl .any ((defL x.rules p).map (.int .i64)))]) (fun p => []) (fun p => p ≤ x.rules.length) (fun p => x.rules.length - p) 0 (by (refine covers_mk0 rfl rfl ?_ ?_ ?_ ?_ <;> simp (disch := (refine Om.mk ?_; omega)) only [go_sem] <;> (try omega)); exact ⟨rfl, rfl⟩) ?_ (fun p hp => ?_)
 rotate_left
 simp only [go_sem]
 have hl := defL_len x.rules p hp
 have hs := defL_succ x.rules p
 have h1 := h p
 repeat' first | refine sw_seq ?_ | refine sw_block ?_ | refine sw_inBlock ?_ | refine sw_skip ?_ | refine sw_go 0 kp25 fun K hK => ?_ | refine fun (K : KT) (hK : KOk S 0 _ _ _ K) => ?_ | ((first | refine runL_go ?_ | refine sw_ret (ret0 ?_) | refine sw_ret ?_); simp (disch := (refine Om.mk ?_; omega)) only [go_sem, Try.results25]) | (refine hK.nil ?_; clear hK K; simp only [go_sem]) | ((first | refine sw_cond rfl ?_ ?_) <;> intro h <;> try simp (disch := (refine Om.mk ?_; omega)) only [go_sem] at h) | refine sw_exit rfl ?_ | refine sw_loopEnd ?_ | refine hK.c0 rfl rfl rfl (l1Into_fc _ (defL x.rules p) _ (by omega)) rfl rfl rfl ?_ | (with_reducible refine And.intro (by first | omega | (simp only [lens]; omega)) ?_) | ((with_reducible refine And.intro ?_ ?_); · first | (intro x hx; subst hx; rfl) | (intro x; refine And.intro ?_ ?_ <;> (intros; subst_vars; rfl))) | fail
 ·exact ⟨p + 1, (by (refine covers_mk0 rfl rfl ?_ ?_ ?_ ?_ <;> simp (disch := (refine Om.mk ?_; omega)) only [go_sem] <;> (try omega)); rw [hs (by omega)]; exact ⟨rfl, by omega⟩), by omega, by omega⟩
 ·rw [show p = x.rules.length by omega]
 ·omega
end Go.Proofs.Ytmogobaaophknaa
end
section
namespace Go.Proofs.Ytmogobaaophknaa
open Go Go.Lg
set_option linter.unusedSimpArgs false
set_option linter.unusedVariables false
def HasSub (rs t : List Int) (k : Nat) (u : List Int) : Prop := ∃ a, (k ≤ a ∧ a < t.length) ∧ subS rs t a = u
def DefP (x : SystemT) (n : Int) : Prop := ∃ r ∈ x.rules, r.l.getD 0 default = n
def PairP (x : SystemT) (r a : Nat) : Prop := (0 ≤ (x.rules.getD r default).r.getD a default ∧ DefP x ((x.rules.getD r default).r.getD a default)) ∧ ¬ HasSub x.sig (x.rules.getD r default).l 1 (subS x.sig (x.rules.getD r default).r a)
def mkP (x : SystemT) (r a : Nat) : DepPairT := ⟨(x.rules.getD r default).l, subS x.sig (x.rules.getD r default).r a, r, a⟩
open Classical in
noncomputable def prR (x : SystemT) (r : Nat) : Nat → List DepPairT
 | 0 => []
 | a + 1 => if PairP x r a then prR x r a ++ [mkP x r a] else prR x r a
noncomputable def prA (x : SystemT) : Nat → List DepPairT
 | 0 => []
 | r + 1 => prA x r ++ prR x r (x.rules.getD r default).r.length
theorem prR_yes {x : SystemT} {r a : Nat} (h : PairP x r a) : prR x r (a + 1) = prR x r a ++ [mkP x r a] := if_pos h
theorem prR_no {x : SystemT} {r a : Nat} (h : ¬ PairP x r a) : prR x r (a + 1) = prR x r a := if_neg h
theorem prR_len (x : SystemT) (r : Nat) : ∀ a, (prR x r a).length ≤ a
 | 0 => Nat.le_refl _
 | a + 1 => by
  have ih := prR_len x r a
  rcases Classical.em (PairP x r a) with h | h
  ·rw [prR_yes h, List.length_append]; simp; omega
  ·rw [prR_no h]; omega
theorem prA_len {x : SystemT} (hx : SystemOkP x) : ∀ r ≤ x.rules.length, (prA x r).length ≤ 60 * r
 | 0, _ => Nat.le_refl _
 | r + 1, h => by
  have ih := prA_len hx r (by omega)
  have h1 := prR_len x r (x.rules.getD r default).r.length
  have h2 := (hx.2 r (by omega)).1.2.1.2.1
  simp only [prA, List.length_append]
  omega
def PrOk (rs : List Int) (p : DepPairT) : Prop := (TermOkP rs p.l ∧ TermOkP rs p.r) ∧ 0 ≤ p.l.getD 0 default ∧ 0 ≤ p.r.getD 0 default
theorem prR_ok {x : SystemT} (hx : SystemOkP x) {r : Nat} (hr : r < x.rules.length) : ∀ a ≤ (x.rules.getD r default).r.length, ∀ p ∈ prR x r a, PrOk x.sig p
 | 0, _, p, hp => by cases hp
 | a + 1, ha, p, hp => by
  have ih := prR_ok hx hr a (by omega)
  have hR := hx.2 r hr
  rcases Classical.em (PairP x r a) with h | h
  ·rw [prR_yes h] at hp
   rcases List.mem_append.1 hp with hp | hp
   ·exact ih p hp
   ·rw [List.mem_singleton.1 hp]
    refine ⟨⟨hR.1.1, subS_ok hR.1.2.1 (by omega)⟩, hR.1.2.2, ?_⟩
    show 0 ≤ (subS x.sig (x.rules.getD r default).r a).getD 0 default
    rw [(sub_sub hR.1.2.1 (show a < (x.rules.getD r default).r.length by omega)).1]
    exact h.1.1
  ·rw [prR_no h] at hp; exact ih p hp
theorem prA_ok {x : SystemT} (hx : SystemOkP x) : ∀ r ≤ x.rules.length, ∀ p ∈ prA x r, PrOk x.sig p
 | 0, _, p, hp => by cases hp
 | r + 1, h, p, hp => by
  rcases List.mem_append.1 hp with hp | hp
  ·exact prA_ok hx r (by omega) p hp
  ·exact prR_ok hx (by omega) _ (Nat.le_refl _) p hp
def PairsP (x : SystemT) : Prop := SystemOkP x ∧ (prA x x.rules.length).length ≤ 64
noncomputable def allP (x : SystemT) : List DepPairT := prA x x.rules.length
open Classical in
noncomputable def pairsR (x : SystemT) : List DepPairT × Bool := if PairsP x then (allP x, true) else ([], false)
theorem pairsR_yes {x : SystemT} (h : PairsP x) : pairsR x = (allP x, true) := if_pos h
theorem pairsR_no {x : SystemT} (h : ¬ PairsP x) : pairsR x = ([], false) := if_neg h
theorem allP_ok {x : SystemT} (h : PairsP x) : ∀ p ∈ allP x, PrOk x.sig p := prA_ok h.1 _ (Nat.le_refl _)
def SetPP (set : List Int) (n : Int) : Prop := ∀ i < set.length, (0 ≤ set.getD i default ∧ set.getD i default < n) ∧ (0 < i → set.getD (i - 1) default < set.getD i default)
theorem set_len {set : List Int} {n : Int} (h : SetPP set n) : ∀ i < set.length, (i : Int) ≤ set.getD i default
 | 0, hi => by have := (h 0 hi).1.1; omega
 | i + 1, hi => by
  have ih := set_len h i (by omega)
  have := (h (i + 1) hi).2 (by omega)
  simp only [Nat.add_sub_cancel] at this
  omega
theorem set_le {set : List Int} {n : Int} (h : SetPP set n) : (set.length : Int) ≤ n ∨ set.length = 0 := by
 rcases Nat.eq_zero_or_pos set.length with h0 | h0
 ·exact .inr h0
 ·have h1 := set_len h (set.length - 1) (by omega)
  have h2 := (h (set.length - 1) (by omega)).1.2
  left; omega
end Go.Proofs.Ytmogobaaophknaa
end
section
namespace Go.Proofs.Ytmogobaaophknaa
open Go Go.Lg
set_option linter.unusedSimpArgs false
set_option linter.unusedVariables false
set_option maxHeartbeats 4000000
attribute [local irreducible] SW runL runQ runG runQG FC Ret1 toF redoL anyB
theorem defP_mem {x : SystemT} {n : Int} : n ∈ defL x.rules x.rules.length ↔ DefP x n := defL_all x.rules n
theorem hasSub_no {rs t : List Int} {u : List Int} (h : ∀ j < t.length, 1 ≤ j → subS rs t j ≠ u) : ¬ HasSub rs t 1 u := fun ⟨a, h1, e⟩ => h a h1.2 h1.1 e
open Classical in
noncomputable def atR (x : SystemT) (r a : Nat) : DepPairT × Bool := if PairP x r a then (mkP x r a, true) else (⟨[], [], 0, 0⟩, false)
theorem atR_yes {x : SystemT} {r a : Nat} (h : PairP x r a) : atR x r a = (mkP x r a, true) := if_pos h
theorem atR_no {x : SystemT} {r a : Nat} (h : ¬ PairP x r a) : atR x r a = (⟨[], [], 0, 0⟩, false) := if_neg h
theorem prR_at {x : SystemT} {r a : Nat} : ((atR x r a).2 = true → prR x r (a + 1) = prR x r a ++ [(atR x r a).1]) ∧ ((atR x r a).2 = false → prR x r (a + 1) = prR x r a) := by
 by_cases h : PairP x r a
 ·rw [atR_yes h, prR_yes h]; exact ⟨fun _ => rfl, fun e => Bool.noConfusion e⟩
 ·rw [atR_no h, prR_no h]; exact ⟨fun e => Bool.noConfusion e, fun _ => rfl⟩
def kp28 : List (Nat × List Nat) := [(0, [1, 2, 3]), (1, [1, 2, 3, 7]), (2, [1, 2, 3, 7, 11]), (4, [1, 2, 3, 7, 22]), (5, [6]), (3, [1, 2, 3, 7]), (6, [6])]
attribute [go_sem] kp28
theorem l17Part_fc (rs t u : List Int) (hT : TermOkP rs t) : FC S 28 [] [] [] [.agg [.sl .any (rs.map (.int .i64))], .sl .any (t.map (.int .i64)), .sl .any (u.map (.int .i64))] (.bool (tst (HasSub rs t 1 u))) [] [] := by
 have hl := hT.2.1
 refine fc_body Try.func28 rfl (by kernel_rfl) (by simp [Try.f28]) fun B => ?_
 simp only [Try.ntmps28, enumD, lst0, Nat.reduceAdd]
 repeat' first | refine sw_seq ?_ | refine sw_block ?_ | refine sw_inBlock ?_ | refine sw_skip ?_ | refine sw_go 0 kp28 fun K hK => ?_ | refine fun (K : KT) (hK : KOk S 0 _ _ _ K) => ?_ | ((first | refine runL_go ?_ | refine sw_ret (ret0 ?_) | refine sw_ret ?_); simp (disch := (refine Om.mk ?_; omega)) only [go_sem, Try.results28]) | (refine hK.nil ?_; clear hK K; simp only [go_sem]) | ((first | refine sw_cond rfl ?_ ?_) <;> intro h <;> try simp (disch := (refine Om.mk ?_; omega)) only [go_sem] at h) | refine sw_exit rfl ?_ | refine sw_loopEnd ?_ | (with_reducible refine And.intro (by first | omega | (simp only [lens]; omega)) ?_) | fail
 refine sw_loopU (ι := Nat) (fun p => [(7, .int .i64 p)]) (fun p => []) (fun p => (1 ≤ p ∧ p ≤ t.length) ∧ ∀ j < p, 1 ≤ j → subS rs t j ≠ u) (fun p => t.length - p) 1 (by (refine covers_mk0 rfl rfl ?_ ?_ ?_ ?_ <;> simp (disch := (refine Om.mk ?_; omega)) only [go_sem] <;> (try omega))) ?_ (fun p hp => ?_)
 rotate_left
 simp only [go_sem]
 obtain ⟨hp, hj⟩ := hp
 by_cases hil : p < t.length
 ·have h5 := endS_ge hT hil
  have h6 : ((endS rs t p).toNat : Int) = endS rs t p := by omega
  repeat' first | ((exfalso; omega)) | refine sw_seq ?_ | refine sw_block ?_ | refine sw_inBlock ?_ | refine sw_skip ?_ | refine sw_go 0 kp28 fun K hK => ?_ | refine fun (K : KT) (hK : KOk S 0 _ _ _ K) => ?_ | ((first | refine runL_go ?_ | refine sw_ret (ret0 ?_) | refine sw_ret ?_); simp (disch := (refine Om.mk ?_; omega)) only [go_sem, Try.results28]) | (refine hK.nil ?_; clear hK K; simp only [go_sem]) | ((first | refine sw_cond rfl ?_ ?_) <;> intro h <;> try simp (disch := (refine Om.mk ?_; omega)) only [go_sem] at h) | refine sw_exit rfl ?_ | refine sw_loopEnd ?_ | refine hK.c0 rfl rfl rfl (l13End_fc rs t p hT hil) rfl rfl rfl ?_ | refine hK.c0 rfl rfl rfl (specSameTerm_fc _ _ (subS rs t p) u) rfl rfl rfl ?_ | (with_reducible refine And.intro (by first | omega | (simp only [lens]; omega)) ?_) | fail
  ·exact ⟨p, ⟨hp.1, hil⟩, h⟩
  ·exact ⟨p + 1, (by (refine covers_mk0 rfl rfl ?_ ?_ ?_ ?_ <;> simp (disch := (refine Om.mk ?_; omega)) only [go_sem] <;> (try omega))), ⟨by omega, upto_succ hj fun _ => h⟩, by omega⟩
 ·repeat' first | ((exfalso; omega)) | refine sw_seq ?_ | refine sw_block ?_ | refine sw_inBlock ?_ | refine sw_skip ?_ | refine sw_go 0 kp28 fun K hK => ?_ | refine fun (K : KT) (hK : KOk S 0 _ _ _ K) => ?_ | ((first | refine runL_go ?_ | refine sw_ret (ret0 ?_) | refine sw_ret ?_); simp (disch := (refine Om.mk ?_; omega)) only [go_sem, Try.results28]) | (refine hK.nil ?_; clear hK K; simp only [go_sem]) | ((first | refine sw_cond rfl ?_ ?_) <;> intro h <;> try simp (disch := (refine Om.mk ?_; omega)) only [go_sem] at h) | refine sw_exit rfl ?_ | refine sw_loopEnd ?_ | (with_reducible refine And.intro (by first | omega | (simp only [lens]; omega)) ?_) | fail
  exact hasSub_no fun j hj' => hj j (by omega)
 ·exact ⟨⟨by omega, by omega⟩, fun j h1 h2 => absurd h1 (by omega)⟩
theorem l1CopyA_fc (tk : Tk) (xs : List Int) (hl : xs.length ≤ 17592186044416) : FC S 26 [] [] [] [.sl tk (xs.map (.int .i64))] (.sl .any (xs.map (.int .i64))) [] [] := by
 refine FC.args (args' := [.sl .any (xs.map (.int .i64))]) ?_ (by simp only [go_sem])
 refine fc_body Try.func26 rfl (by kernel_rfl) (by simp [Try.f26]) fun B => ?_
 simp only [Try.ntmps26, enumD, lst0, Nat.reduceAdd]
 refine sw_bnd 0 rfl fun hb0 => ?_
 simp only [D.bnd, List.length_map] at hb0
 repeat' first | refine sw_seq ?_ | refine sw_skip ?_ | refine sw_go 0 kp26 fun K hK => ?_ | refine fun (K : KT) (hK : KOk S 0 _ _ _ K) => ?_ | ((first | refine runL_go ?_ | refine sw_ret (ret0 ?_) | refine sw_ret ?_); simp (disch := (refine Om.mk ?_; omega)) only [go_sem, Try.results26]) | (refine hK.nil ?_; clear hK K; simp only [go_sem]) | refine sw_loopEnd ?_ | (with_reducible refine And.intro (by first | omega | (simp only [lens]; omega)) ?_) | ((with_reducible refine And.intro ?_ ?_); · first | (intro x hx; subst hx; rfl) | (intro x; refine And.intro ?_ ?_ <;> (intros; subst_vars; rfl))) | fail
def kp15 : List (Nat × List Nat) := [(0, [1, 2, 3, 6]), (1, [1, 2, 3, 6, 8]), (2, [1, 2, 3, 6, 8, 31]), (3, [6, 7]), (4, [1, 2, 3, 6, 8, 9]), (5, [1, 2, 6, 8, 9, 49]), (6, [6, 7]), (7, [6, 7])]
attribute [go_sem] kp15
theorem l17At_fc (x : SystemT) (hx : SystemOkP x) (r a : Nat) (hr : r < x.rules.length) (ha : a < (x.rules.getD r default).r.length) : FC S 15 [] [] [] [SystemD x, .int .i64 r, .int .i64 a] (.tup [DepPairD (atR x r a).1, .bool (atR x r a).2]) [] [] := by
 have hR := hx.2 r hr
 have h12 := hx.1.2
 have hT := hR.1.2.1
 have h5 := endS_ge hT ha
 have h6 : ((endS x.sig (x.rules.getD r default).r a).toNat : Int) = endS x.sig (x.rules.getD r default).r a := by omega
 have hl := hT.2.1
 have hl1 := hR.1.1.2.1
 have hsl : (subS x.sig (x.rules.getD r default).r a).length ≤ 60 := (subS_ok hT ha).2.1.2
 have h0 : ∀ j < x.rules.length, 1 ≤ (x.rules.getD j default).l.length := fun j hj => (hx.2 j hj).1.1.2.1.1
 rcases Classical.em (PairP x r a) with hPA | hPA
 ·rw [atR_yes hPA]
  have hh := hPA.1
  refine fc_body Try.func15 rfl (by kernel_rfl) (by simp [Try.f15]) fun B => ?_
  simp only [Try.ntmps15, enumD, lst0, Nat.reduceAdd]
  repeat' first | ((exfalso; omega)) | refine sw_seq ?_ | refine sw_skip ?_ | refine sw_go 0 kp15 fun K hK => ?_ | refine fun (K : KT) (hK : KOk S 0 _ _ _ K) => ?_ | refine sw_goD kp15 (by kernel_rfl) fun K hK => ?_ | ((first | refine runL_go ?_ | refine runQ_go ?_ | refine sw_ret (ret0 ?_) | refine sw_ret ?_); simp (disch := (refine Om.mk ?_; omega)) only [go_sem, Try.results15]) | (refine hK.nil ?_; clear hK K; simp only [go_sem]) | ((first | refine runG_fork rfl rfl rfl rfl rfl ?_ ?_ | refine runQG_fork rfl rfl rfl rfl rfl ?_ ?_ | refine sw_cond rfl ?_ ?_) <;> intro h <;> try simp (disch := (refine Om.mk ?_; omega)) only [go_sem] at h) | refine hK.skp rfl rfl ?_ | refine sw_loopEnd ?_ | refine hK.c0 rfl rfl rfl (l6Defined_fc x (by omega) h0) rfl rfl rfl ?_ | refine hK.c0 rfl rfl rfl (l1Has_fc _ _ _) rfl rfl rfl ?_ | refine hK.c0 rfl rfl rfl (l13End_fc x.sig (x.rules.getD r default).r a hT ha) rfl rfl rfl ?_ | refine hK.c0 rfl rfl rfl (l1CopyA_fc _ (subS x.sig (x.rules.getD r default).r a) (by omega)) rfl rfl rfl ?_ | refine hK.c0 rfl rfl rfl (l17Part_fc x.sig (x.rules.getD r default).l (subS x.sig (x.rules.getD r default).r a) hR.1.1) rfl rfl rfl ?_ | refine hK.c0 rfl rfl rfl (l1CopyA_fc _ (x.rules.getD r default).l (by omega)) rfl rfl rfl ?_ | (refine hK.fork rfl rfl rfl ?_ ?_ <;> intro h <;> try simp (disch := (refine Om.mk ?_; omega)) only [go_sem] at h) | (with_reducible refine And.intro (by first | omega | (simp only [lens]; omega)) ?_) | ((with_reducible refine And.intro ?_ ?_); · first | (intro x hx; subst hx; rfl) | (intro x; refine And.intro ?_ ?_ <;> (intros; subst_vars; rfl))) | fail
  all_goals first | exact absurd (defP_mem.2 hh.2) (by assumption) | exact absurd (by assumption) hPA.2 | exact ⟨rfl, rfl, rfl, rfl⟩ | skip
 ·rw [atR_no hPA]
  refine fc_body Try.func15 rfl (by kernel_rfl) (by simp [Try.f15]) fun B => ?_
  simp only [Try.ntmps15, enumD, lst0, Nat.reduceAdd]
  repeat' first | ((exfalso; omega)) | refine sw_seq ?_ | refine sw_skip ?_ | refine sw_go 0 kp15 fun K hK => ?_ | refine fun (K : KT) (hK : KOk S 0 _ _ _ K) => ?_ | refine sw_goD kp15 (by kernel_rfl) fun K hK => ?_ | ((first | refine runL_go ?_ | refine runQ_go ?_ | refine sw_ret (ret0 ?_) | refine sw_ret ?_); simp (disch := (refine Om.mk ?_; omega)) only [go_sem, Try.results15]) | (refine hK.nil ?_; clear hK K; simp only [go_sem]) | ((first | refine runG_fork rfl rfl rfl rfl rfl ?_ ?_ | refine runQG_fork rfl rfl rfl rfl rfl ?_ ?_ | refine sw_cond rfl ?_ ?_) <;> intro h <;> try simp (disch := (refine Om.mk ?_; omega)) only [go_sem] at h) | refine hK.skp rfl rfl ?_ | refine sw_loopEnd ?_ | refine hK.c0 rfl rfl rfl (l6Defined_fc x (by omega) h0) rfl rfl rfl ?_ | refine hK.c0 rfl rfl rfl (l1Has_fc _ _ _) rfl rfl rfl ?_ | refine hK.c0 rfl rfl rfl (l13End_fc x.sig (x.rules.getD r default).r a hT ha) rfl rfl rfl ?_ | refine hK.c0 rfl rfl rfl (l1CopyA_fc _ (subS x.sig (x.rules.getD r default).r a) (by omega)) rfl rfl rfl ?_ | refine hK.c0 rfl rfl rfl (l17Part_fc x.sig (x.rules.getD r default).l (subS x.sig (x.rules.getD r default).r a) hR.1.1) rfl rfl rfl ?_ | refine hK.c0 rfl rfl rfl (l1CopyA_fc _ (x.rules.getD r default).l (by omega)) rfl rfl rfl ?_ | (refine hK.fork rfl rfl rfl ?_ ?_ <;> intro h <;> try simp (disch := (refine Om.mk ?_; omega)) only [go_sem] at h) | (with_reducible refine And.intro (by first | omega | (simp only [lens]; omega)) ?_) | ((with_reducible refine And.intro ?_ ?_); · first | (intro x hx; subst hx; rfl) | (intro x; refine And.intro ?_ ?_ <;> (intros; subst_vars; rfl))) | fail
  all_goals first | exact absurd (show PairP x r a from ⟨⟨(by assumption), defP_mem.1 (by assumption)⟩, (by assumption)⟩) hPA | skip
def kp7 : List (Nat × List Nat) := [(0, [1]), (1, [1, 4]), (2, [1, 4, 12]), (3, [2, 3]), (4, [1, 4, 5]), (5, [1, 4, 5, 18]), (7, [1, 4, 5, 6]), (8, [1, 4, 5, 6, 29]), (10, [1, 4, 5, 6, 7, 8]), (11, [1, 4, 5, 6, 7, 39]), (12, [1, 4, 5, 6]), (9, [1, 4, 5, 6]), (6, [1, 4, 5]), (13, [4, 46]), (14, [2, 3]), (15, [2, 3])]
attribute [go_sem] kp7
theorem specPairsOf_fc (x : SystemT) : FC S 7 [] [] [] [SystemD x] (.tup [.sl .any ((pairsR x).1.map DepPairD), .bool (pairsR x).2]) [] [] := by
 rcases Classical.em (SystemOkP x) with hx | hx
 ·have h12 := hx.1.2
  have hA : (prA x x.rules.length).length ≤ 64 → pairsR x = (allP x, true) := fun h => pairsR_yes ⟨hx, h⟩
  have hB : ¬ (prA x x.rules.length).length ≤ 64 → pairsR x = ([], false) := fun h => pairsR_no fun e => h e.2
  refine fc_body Try.func7 rfl (by kernel_rfl) (by simp [Try.f7]) fun B => ?_
  simp only [Try.ntmps7, enumD, lst0, Nat.reduceAdd]
  repeat' first | ((exact absurd hx (by assumption))) | refine sw_seq ?_ | refine sw_block ?_ | refine sw_inBlock ?_ | refine sw_skip ?_ | refine sw_go 0 kp7 fun K hK => ?_ | refine fun (K : KT) (hK : KOk S 0 _ _ _ K) => ?_ | ((first | refine runL_go ?_ | refine sw_ret (ret0 ?_) | refine sw_ret ?_); simp (disch := (refine Om.mk ?_; omega)) only [go_sem, Try.results7]) | (refine hK.nil ?_; clear hK K; simp only [go_sem]) | ((first | refine sw_cond rfl ?_ ?_) <;> intro h <;> try simp (disch := (refine Om.mk ?_; omega)) only [go_sem] at h) | refine sw_exit rfl ?_ | refine sw_loopEnd ?_ | refine hK.c0 rfl rfl rfl (specSystemOk_fc _) rfl rfl rfl ?_ | (with_reducible refine And.intro (by first | omega | (simp only [lens]; omega)) ?_) | ((with_reducible refine And.intro ?_ ?_); · first | (intro x hx; subst hx; rfl) | (intro x; refine And.intro ?_ ?_ <;> (intros; subst_vars; rfl))) | fail
  refine sw_tok 4 44000 51 4 rfl (.inr rfl) rfl ?_
  simp only [go_sem]
  refine sw_loopT (ι := Nat) (fun r => [(5, .int .i64 r), (4, .sl (.own 44000 51 4) ((prA x r).map DepPairD))]) (fun _ => []) (fun _ => [44000]) (fun r => r ≤ x.rules.length) (fun r => x.rules.length - r) 0 (by (refine covers_mk0 rfl rfl ?_ ?_ ?_ ?_ <;> simp (disch := (refine Om.mk ?_; omega)) only [go_sem] <;> (try omega)); all_goals exact ⟨rfl, rfl⟩) (by omega) (fun r hr => ?_)
  simp only [go_sem]
  have hl1 := prA_len hx r hr
  by_cases hrl : r < x.rules.length
  ·have hT := (hx.2 r hrl).1.2.1
   have hTl := hT.2.1
   repeat' first | ((exfalso; omega)) | refine sw_seq ?_ | refine sw_block ?_ | refine sw_inBlock ?_ | refine sw_skip ?_ | refine sw_go 0 kp7 fun K hK => ?_ | refine fun (K : KT) (hK : KOk S 0 _ _ _ K) => ?_ | ((first | refine runL_go ?_ | refine sw_ret (ret0 ?_) | refine sw_ret ?_); simp (disch := (refine Om.mk ?_; omega)) only [go_sem, Try.results7]) | (refine hK.nil ?_; clear hK K; simp only [go_sem]) | ((first | refine sw_cond rfl ?_ ?_) <;> intro h <;> try simp (disch := (refine Om.mk ?_; omega)) only [go_sem] at h) | refine sw_exit rfl ?_ | refine sw_loopEnd ?_ | (with_reducible refine And.intro (by first | omega | (simp only [lens]; omega)) ?_) | ((with_reducible refine And.intro ?_ ?_); · first | (intro x hx; subst hx; rfl) | (intro x; refine And.intro ?_ ?_ <;> (intros; subst_vars; rfl))) | fail
   refine sw_loopT (ι := Nat) (fun a => [(6, .int .i64 a), (4, .sl (.own 44000 51 4) ((prA x r ++ prR x r a).map DepPairD))]) (fun _ => []) (fun _ => [44000]) (fun a => a ≤ (x.rules.getD r default).r.length) (fun a => (x.rules.getD r default).r.length - a) 0 (by (refine covers_mk0 rfl rfl ?_ ?_ ?_ ?_ <;> simp (disch := (refine Om.mk ?_; omega)) only [go_sem] <;> (try omega)); all_goals first | rfl | (rw [show prR x r 0 = [] from rfl, List.append_nil]; exact ⟨rfl, rfl⟩) | (rw [show prR x r 0 = [] from rfl, List.append_nil])) (by omega) (fun a ha => ?_)
   simp only [go_sem]
   have hl2 := prR_len x r a
   have hl3 : (prA x r ++ prR x r a).length ≤ 60 * r + a := by rw [List.length_append]; omega
   by_cases hal : a < (x.rules.getD r default).r.length
   ·have hst := @prR_at x r a
    repeat' first | ((exfalso; omega)) | refine sw_seq ?_ | refine sw_block ?_ | refine sw_inBlock ?_ | refine sw_skip ?_ | refine sw_go 0 kp7 fun K hK => ?_ | refine fun (K : KT) (hK : KOk S 0 _ _ _ K) => ?_ | ((first | refine runL_go ?_ | refine sw_ret (ret0 ?_) | refine sw_ret ?_); simp (disch := (refine Om.mk ?_; omega)) only [go_sem, Try.results7]) | (refine hK.nil ?_; clear hK K; simp only [go_sem]) | ((first | refine sw_cond rfl ?_ ?_) <;> intro h <;> try simp (disch := (refine Om.mk ?_; omega)) only [go_sem] at h) | refine sw_exit rfl ?_ | refine sw_loopEnd ?_ | refine hK.c0 rfl rfl rfl (l17At_fc x hx r a hrl hal) rfl rfl rfl ?_ | (with_reducible refine And.intro (by first | omega | (simp only [lens]; omega)) ?_) | ((with_reducible refine And.intro ?_ ?_); · first | (intro x hx; subst hx; rfl) | (intro x; refine And.intro ?_ ?_ <;> (intros; subst_vars; rfl))) | fail
    ·exact ⟨a + 1, (by (refine covers_mk0 rfl rfl ?_ ?_ ?_ ?_ <;> simp (disch := (refine Om.mk ?_; omega)) only [go_sem] <;> (try omega)); rw [hst.1 h, ← List.append_assoc, List.map_append (l₁ := prA x r ++ prR x r a), List.map_append (l₁ := prA x r)]; exact ⟨rfl, by omega⟩), by omega, by omega⟩
    ·exact ⟨a + 1, (by (refine covers_mk0 rfl rfl ?_ ?_ ?_ ?_ <;> simp (disch := (refine Om.mk ?_; omega)) only [go_sem] <;> (try omega)); rw [hst.2 h]; exact ⟨rfl, by omega⟩), by omega, by omega⟩
   ·repeat' first | ((exfalso; omega)) | refine sw_seq ?_ | refine sw_block ?_ | refine sw_inBlock ?_ | refine sw_skip ?_ | refine sw_go 0 kp7 fun K hK => ?_ | refine fun (K : KT) (hK : KOk S 0 _ _ _ K) => ?_ | ((first | refine runL_go ?_ | refine sw_ret (ret0 ?_) | refine sw_ret ?_); simp (disch := (refine Om.mk ?_; omega)) only [go_sem, Try.results7]) | (refine hK.nil ?_; clear hK K; simp only [go_sem]) | ((first | refine sw_cond rfl ?_ ?_) <;> intro h <;> try simp (disch := (refine Om.mk ?_; omega)) only [go_sem] at h) | refine sw_exit rfl ?_ | refine sw_loopEnd ?_ | (with_reducible refine And.intro (by first | omega | (simp only [lens]; omega)) ?_) | ((with_reducible refine And.intro ?_ ?_); · first | (intro x hx; subst hx; rfl) | (intro x; refine And.intro ?_ ?_ <;> (intros; subst_vars; rfl))) | fail
    exact ⟨r + 1, (by (refine covers_mk0 rfl rfl ?_ ?_ ?_ ?_ <;> simp (disch := (refine Om.mk ?_; omega)) only [go_sem] <;> (try omega)); rw [show prA x (r + 1) = prA x r ++ prR x r (x.rules.getD r default).r.length from rfl, show a = (x.rules.getD r default).r.length by omega]; exact ⟨rfl, by omega⟩), by omega, by omega⟩
  ·obtain rfl : r = x.rules.length := by omega
   repeat' first | ((exfalso; omega)) | refine sw_seq ?_ | refine sw_block ?_ | refine sw_inBlock ?_ | refine sw_skip ?_ | refine sw_go 0 kp7 fun K hK => ?_ | refine fun (K : KT) (hK : KOk S 0 _ _ _ K) => ?_ | ((first | refine runL_go ?_ | refine sw_ret (ret0 ?_) | refine sw_ret ?_); simp (disch := (refine Om.mk ?_; omega)) only [go_sem, Try.results7]) | (refine hK.nil ?_; clear hK K; simp only [go_sem]) | ((first | refine sw_cond rfl ?_ ?_) <;> intro h <;> try simp (disch := (refine Om.mk ?_; omega)) only [go_sem] at h) | refine sw_exit rfl ?_ | refine sw_loopEnd ?_ | (with_reducible refine And.intro (by first | omega | (simp only [lens]; omega)) ?_) | ((with_reducible refine And.intro ?_ ?_); · first | (intro x hx; subst hx; rfl) | (intro x; refine And.intro ?_ ?_ <;> (intros; subst_vars; rfl))) | fail
   ·rw [hB (by omega)]; exact ⟨rfl, rfl⟩
   ·rw [hA (by omega)]; exact ⟨rfl, rfl⟩
 ·rw [pairsR_no fun h => hx h.1]
  refine fc_body Try.func7 rfl (by kernel_rfl) (by simp [Try.f7]) fun B => ?_
  simp only [Try.ntmps7, enumD, lst0, Nat.reduceAdd]
  repeat' first | ((exact absurd (by assumption) hx)) | refine sw_seq ?_ | refine sw_block ?_ | refine sw_inBlock ?_ | refine sw_skip ?_ | refine sw_go 0 kp7 fun K hK => ?_ | refine fun (K : KT) (hK : KOk S 0 _ _ _ K) => ?_ | ((first | refine runL_go ?_ | refine sw_ret (ret0 ?_) | refine sw_ret ?_); simp (disch := (refine Om.mk ?_; omega)) only [go_sem, Try.results7]) | (refine hK.nil ?_; clear hK K; simp only [go_sem]) | ((first | refine sw_cond rfl ?_ ?_) <;> intro h <;> try simp (disch := (refine Om.mk ?_; omega)) only [go_sem] at h) | refine sw_exit rfl ?_ | refine sw_loopEnd ?_ | refine hK.c0 rfl rfl rfl (specSystemOk_fc _) rfl rfl rfl ?_ | (with_reducible refine And.intro (by first | omega | (simp only [lens]; omega)) ?_) | ((with_reducible refine And.intro ?_ ?_); · first | (intro x hx; subst hx; rfl) | (intro x; refine And.intro ?_ ?_ <;> (intros; subst_vars; rfl))) | fail
end Go.Proofs.Ytmogobaaophknaa
end
section
namespace Go.Proofs.Ytmogobaaophknaa
open Go Go.Lg
set_option linter.unusedSimpArgs false
set_option linter.unusedVariables false
set_option maxHeartbeats 4000000
attribute [local irreducible] SW runL runQ runG runQG FC Ret1 toF redoL anyB
def kp58 : List (Nat × List Nat) := [(0, [1, 2]), (1, [3])]
attribute [go_sem] kp58
theorem isDefined1_fc (f : Int) (r : RuleT) (h : 1 ≤ r.l.length) : FC S 58 [(3, [.int .i64 f])] [] [] ([RuleD r] ++ [.box 3 0]) (.bool (tst (r.l.getD 0 default = f))) [] [] := by
 refine fc_body Try.func58 rfl (by kernel_rfl) (by simp [Try.f58]) fun B => ?_
 simp only [Try.ntmps58, enumD, lst0, Nat.reduceAdd]
 repeat' first | refine sw_seq ?_ | refine sw_skip ?_ | refine sw_go 100 kp58 fun K hK => ?_ | refine fun (K : KT) (hK : KOk S 100 _ _ _ K) => ?_ | refine sw_goD kp58 (by kernel_rfl) fun K hK => ?_ | ((first | refine runL_go ?_ | refine runQ_go ?_ | refine sw_ret (ret0 ?_) | refine sw_ret ?_); simp (disch := (refine Om.mk ?_; omega)) only [go_sem, Try.results58]) | (refine hK.nil ?_; clear hK K; simp only [go_sem]) | refine sw_loopEnd ?_ | (with_reducible refine And.intro (by first | omega | (simp only [lens]; omega)) ?_) | fail
def kp47 : List (Nat × List Nat) := [(0, [2, 3]), (1, [4])]
attribute [go_sem] kp47
theorem isDefined_fc (x : SystemT) (f : Int) (h : ∀ r ∈ x.rules, 1 ≤ r.l.length) : FC S 47 [] [] [] [SystemD x, .int .i64 f] (.bool (tst (DefP x f))) [] [] := by
 refine fc_body Try.func47 rfl (by kernel_rfl) (by simp [Try.f47]) fun B => ?_
 simp only [Try.ntmps47, enumD, lst0, Nat.reduceAdd]
 repeat' first | refine sw_seq ?_ | refine sw_skip ?_ | refine sw_go 0 kp47 fun K hK => ?_ | refine fun (K : KT) (hK : KOk S 0 _ _ _ K) => ?_ | ((first | refine runL_go ?_ | refine sw_ret (ret0 ?_) | refine sw_ret ?_); simp (disch := (refine Om.mk ?_; omega)) only [go_sem, Try.results47]) | (refine hK.nil ?_; clear hK K; simp only [go_sem]) | refine sw_loopEnd ?_ | refine hK.call rfl rfl rfl (containsFuncRule_fc _ x.rules (fun r => r.l.getD 0 default = f) _ _ [(3, [.int .i64 f])] (by simp [Lg.look]) (fun r hr => isDefined1_fc f r (h r hr))) ⟨(by simp [LS.getBox, Lg.look]), rfl, rfl, (by simp only [dstOk, Nat.reduceLT])⟩ ?_ | (with_reducible refine And.intro (by first | omega | (simp only [lens]; omega)) ?_) | fail
 exact Iff.rfl
def kp49 : List (Nat × List Nat) := [(0, [1, 2, 3, 4]), (1, [1, 3, 4, 9]), (2, [1, 3, 4, 9, 14]), (4, [1, 3, 4, 9, 22]), (5, [8]), (3, [1, 3, 4, 9]), (6, [8])]
attribute [go_sem] kp49
theorem hasSub_fc (rs t u : List Int) (hT : TermOkP rs t) : FC S 49 [] [] [] [.agg [.sl .any (rs.map (.int .i64))], .sl .any (t.map (.int .i64)), .int .i64 1, .sl .any (u.map (.int .i64))] (.bool (tst (HasSub rs t 1 u))) [] [] := by
 have hl := hT.2.1
 refine fc_body Try.func49 rfl (by kernel_rfl) (by simp [Try.f49]) fun B => ?_
 simp only [Try.ntmps49, enumD, lst0, Nat.reduceAdd]
 repeat' first | refine sw_seq ?_ | refine sw_block ?_ | refine sw_inBlock ?_ | refine sw_skip ?_ | refine sw_go 0 kp49 fun K hK => ?_ | refine fun (K : KT) (hK : KOk S 0 _ _ _ K) => ?_ | ((first | refine runL_go ?_ | refine sw_ret (ret0 ?_) | refine sw_ret ?_); simp (disch := (refine Om.mk ?_; omega)) only [go_sem, Try.results49]) | (refine hK.nil ?_; clear hK K; simp only [go_sem]) | ((first | refine sw_cond rfl ?_ ?_) <;> intro h <;> try simp (disch := (refine Om.mk ?_; omega)) only [go_sem] at h) | refine sw_exit rfl ?_ | refine sw_loopEnd ?_ | (with_reducible refine And.intro (by first | omega | (simp only [lens]; omega)) ?_) | fail
 refine sw_loopU (ι := Nat) (fun p => [(9, .int .i64 p)]) (fun p => []) (fun p => (1 ≤ p ∧ p ≤ t.length) ∧ ∀ j < p, 1 ≤ j → subS rs t j ≠ u) (fun p => t.length - p) 1 (by (refine covers_mk0 rfl rfl ?_ ?_ ?_ ?_ <;> simp (disch := (refine Om.mk ?_; omega)) only [go_sem] <;> (try omega))) ?_ (fun p hp => ?_)
 rotate_left
 simp only [go_sem]
 obtain ⟨hp, hj⟩ := hp
 by_cases hil : p < t.length
 ·repeat' first | ((exfalso; omega)) | refine sw_seq ?_ | refine sw_block ?_ | refine sw_inBlock ?_ | refine sw_skip ?_ | refine sw_go 0 kp49 fun K hK => ?_ | refine fun (K : KT) (hK : KOk S 0 _ _ _ K) => ?_ | ((first | refine runL_go ?_ | refine sw_ret (ret0 ?_) | refine sw_ret ?_); simp (disch := (refine Om.mk ?_; omega)) only [go_sem, Try.results49]) | (refine hK.nil ?_; clear hK K; simp only [go_sem]) | ((first | refine sw_cond rfl ?_ ?_) <;> intro h <;> try simp (disch := (refine Om.mk ?_; omega)) only [go_sem] at h) | refine sw_exit rfl ?_ | refine sw_loopEnd ?_ | refine hK.c0 rfl rfl rfl (subAt_fc .any .any rs t p hT hil) rfl rfl rfl ?_ | refine hK.c0 rfl rfl rfl (equalInt64_fc _ _ (subS rs t p) u) rfl rfl rfl ?_ | (with_reducible refine And.intro (by first | omega | (simp only [lens]; omega)) ?_) | fail
  ·exact ⟨p, ⟨hp.1, hil⟩, h⟩
  ·exact ⟨p + 1, (by (refine covers_mk0 rfl rfl ?_ ?_ ?_ ?_ <;> simp (disch := (refine Om.mk ?_; omega)) only [go_sem] <;> (try omega))), ⟨by omega, upto_succ hj fun _ => h⟩, by omega⟩
 ·repeat' first | ((exfalso; omega)) | refine sw_seq ?_ | refine sw_block ?_ | refine sw_inBlock ?_ | refine sw_skip ?_ | refine sw_go 0 kp49 fun K hK => ?_ | refine fun (K : KT) (hK : KOk S 0 _ _ _ K) => ?_ | ((first | refine runL_go ?_ | refine sw_ret (ret0 ?_) | refine sw_ret ?_); simp (disch := (refine Om.mk ?_; omega)) only [go_sem, Try.results49]) | (refine hK.nil ?_; clear hK K; simp only [go_sem]) | ((first | refine sw_cond rfl ?_ ?_) <;> intro h <;> try simp (disch := (refine Om.mk ?_; omega)) only [go_sem] at h) | refine sw_exit rfl ?_ | refine sw_loopEnd ?_ | (with_reducible refine And.intro (by first | omega | (simp only [lens]; omega)) ?_) | fail
  exact hasSub_no fun j hj' => hj j (by omega)
 ·exact ⟨⟨by omega, by omega⟩, fun j h1 h2 => absurd h1 (by omega)⟩
def kp40 : List (Nat × List Nat) := [(0, [1, 2, 3, 6]), (1, [1, 2, 3, 6, 8]), (2, [1, 2, 3, 6, 8, 30]), (3, [6, 7]), (4, [1, 2, 3, 6, 8, 9]), (5, [1, 2, 6, 8, 9, 43]), (6, [6, 7]), (7, [6, 7])]
attribute [go_sem] kp40
theorem pairAt_fc (x : SystemT) (hx : SystemOkP x) (r a : Nat) (hr : r < x.rules.length) (ha : a < (x.rules.getD r default).r.length) : FC S 40 [] [] [] [SystemD x, .int .i64 r, .int .i64 a] (.tup [DepPairD (atR x r a).1, .bool (atR x r a).2]) [] [] := by
 have hR := hx.2 r hr
 have h12 := hx.1.2
 have hT := hR.1.2.1
 have hl := hT.2.1
 have hl1 := hR.1.1.2.1
 have hsl : 1 ≤ (subS x.sig (x.rules.getD r default).r a).length ∧ (subS x.sig (x.rules.getD r default).r a).length ≤ 60 := (subS_ok hT ha).2.1
 have hne : ∀ {xs : List Int}, 1 ≤ xs.length → xs ≠ [] := fun h e => by rw [e] at h; exact absurd h (by simp)
 have h0 : ∀ r ∈ x.rules, 1 ≤ r.l.length := fun r hr => by
  obtain ⟨j, hj, rfl⟩ := List.getElem_of_mem hr
  have := (hx.2 j hj).1.1.2.1.1
  rwa [List.getD_eq_getElem?_getD, List.getElem?_eq_getElem hj] at this
 rcases Classical.em (PairP x r a) with hPA | hPA
 ·rw [atR_yes hPA]
  have hh := hPA.1
  refine fc_body Try.func40 rfl (by kernel_rfl) (by simp [Try.f40]) fun B => ?_
  simp only [Try.ntmps40, enumD, lst0, Nat.reduceAdd]
  repeat' first | ((exfalso; omega)) | refine sw_seq ?_ | refine sw_skip ?_ | refine sw_go 0 kp40 fun K hK => ?_ | refine fun (K : KT) (hK : KOk S 0 _ _ _ K) => ?_ | refine sw_goD kp40 (by kernel_rfl) fun K hK => ?_ | ((first | refine runL_go ?_ | refine runQ_go ?_ | refine sw_ret (ret0 ?_) | refine sw_ret ?_); simp (disch := (refine Om.mk ?_; omega)) only [go_sem, Try.results40]) | (refine hK.nil ?_; clear hK K; simp only [go_sem]) | ((first | refine runG_fork rfl rfl rfl rfl rfl ?_ ?_ | refine runQG_fork rfl rfl rfl rfl rfl ?_ ?_ | refine sw_cond rfl ?_ ?_) <;> intro h <;> try simp (disch := (refine Om.mk ?_; omega)) only [go_sem] at h) | refine hK.skp rfl rfl ?_ | refine sw_loopEnd ?_ | refine hK.c0 rfl rfl rfl (isDefined_fc x _ h0) rfl rfl rfl ?_ | refine hK.c0 rfl rfl rfl (subAt_fc .any .any x.sig (x.rules.getD r default).r a hT ha) rfl rfl rfl ?_ | refine hK.c0 rfl rfl rfl (hasSub_fc x.sig (x.rules.getD r default).l (subS x.sig (x.rules.getD r default).r a) hR.1.1) rfl rfl rfl ?_ | refine hK.c0 rfl rfl rfl (cloneL_fc [1] (by simp) _ (subS x.sig (x.rules.getD r default).r a) (hne hsl.1) (by omega)) rfl rfl rfl ?_ | refine hK.c0 rfl rfl rfl (cloneL_fc [2] (by simp) _ (x.rules.getD r default).l (hne hl1.1) (by omega)) rfl rfl rfl ?_ | (refine hK.fork rfl rfl rfl ?_ ?_ <;> intro h <;> try simp (disch := (refine Om.mk ?_; omega)) only [go_sem] at h) | (with_reducible refine And.intro (by first | omega | (simp only [lens]; omega)) ?_) | ((with_reducible refine And.intro ?_ ?_); · first | (intro x hx; subst hx; rfl) | (intro x; refine And.intro ?_ ?_ <;> (intros; subst_vars; rfl))) | fail
  all_goals first | exact absurd hh.2 (by assumption) | exact absurd (by assumption) hPA.2 | exact ⟨rfl, rfl, rfl, rfl⟩ | skip
 ·rw [atR_no hPA]
  refine fc_body Try.func40 rfl (by kernel_rfl) (by simp [Try.f40]) fun B => ?_
  simp only [Try.ntmps40, enumD, lst0, Nat.reduceAdd]
  repeat' first | ((exfalso; omega)) | refine sw_seq ?_ | refine sw_skip ?_ | refine sw_go 0 kp40 fun K hK => ?_ | refine fun (K : KT) (hK : KOk S 0 _ _ _ K) => ?_ | refine sw_goD kp40 (by kernel_rfl) fun K hK => ?_ | ((first | refine runL_go ?_ | refine runQ_go ?_ | refine sw_ret (ret0 ?_) | refine sw_ret ?_); simp (disch := (refine Om.mk ?_; omega)) only [go_sem, Try.results40]) | (refine hK.nil ?_; clear hK K; simp only [go_sem]) | ((first | refine runG_fork rfl rfl rfl rfl rfl ?_ ?_ | refine runQG_fork rfl rfl rfl rfl rfl ?_ ?_ | refine sw_cond rfl ?_ ?_) <;> intro h <;> try simp (disch := (refine Om.mk ?_; omega)) only [go_sem] at h) | refine hK.skp rfl rfl ?_ | refine sw_loopEnd ?_ | refine hK.c0 rfl rfl rfl (isDefined_fc x _ h0) rfl rfl rfl ?_ | refine hK.c0 rfl rfl rfl (subAt_fc .any .any x.sig (x.rules.getD r default).r a hT ha) rfl rfl rfl ?_ | refine hK.c0 rfl rfl rfl (hasSub_fc x.sig (x.rules.getD r default).l (subS x.sig (x.rules.getD r default).r a) hR.1.1) rfl rfl rfl ?_ | refine hK.c0 rfl rfl rfl (cloneL_fc [1] (by simp) _ (subS x.sig (x.rules.getD r default).r a) (hne hsl.1) (by omega)) rfl rfl rfl ?_ | refine hK.c0 rfl rfl rfl (cloneL_fc [2] (by simp) _ (x.rules.getD r default).l (hne hl1.1) (by omega)) rfl rfl rfl ?_ | (refine hK.fork rfl rfl rfl ?_ ?_ <;> intro h <;> try simp (disch := (refine Om.mk ?_; omega)) only [go_sem] at h) | (with_reducible refine And.intro (by first | omega | (simp only [lens]; omega)) ?_) | ((with_reducible refine And.intro ?_ ?_); · first | (intro x hx; subst hx; rfl) | (intro x; refine And.intro ?_ ?_ <;> (intros; subst_vars; rfl))) | fail
  all_goals first | exact absurd (show PairP x r a from ⟨⟨(by assumption), (by assumption)⟩, (by assumption)⟩) hPA | skip
end Go.Proofs.Ytmogobaaophknaa
end
