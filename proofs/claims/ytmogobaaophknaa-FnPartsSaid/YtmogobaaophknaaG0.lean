/-
  Ty, A01, Sl, A29, A23, A23b, one behind the other.
-/
import Derived.Test.YtmogobaaophknaaSet
import Derived.Test.YtmogobaaophknaaLgK4
import Derived.Test.YtmogobaaophknaaLgK5
section
namespace Go.Proofs.Ytmogobaaophknaa
open Go Go.Lg
def IntsD (x : List Int) : D := .sl .any (x.map (.int .i64))
attribute [go_sem] IntsD
theorem ints_set (ys : List (List Int)) (i : Nat) (u : List Int) : (ys.map IntsD).set i (.sl .any (u.map (.int .i64))) = (ys.set i u).map IntsD := by rw [List.map_set]; rfl
attribute [go_sem] ints_set
structure RuleT where
 l : List Int
 r : List Int
 deriving Inhabited
def RuleD (x : RuleT) : D := .agg [.sl .any (x.l.map (.int .i64)), .sl .any (x.r.map (.int .i64))]
attribute [go_sem] RuleD
structure SystemT where
 sig : List Int
 rules : List RuleT
 deriving Inhabited
def SystemD (x : SystemT) : D := .agg [.sl .any (x.sig.map (.int .i64)), .sl .any (x.rules.map RuleD)]
attribute [go_sem] SystemD
structure DepPairT where
 l : List Int
 r : List Int
 rule : Int
 at_ : Int
 deriving Inhabited
def DepPairD (x : DepPairT) : D := .agg [.sl .any (x.l.map (.int .i64)), .sl .any (x.r.map (.int .i64)), .int .i64 x.rule, .int .i64 x.at_]
attribute [go_sem] DepPairD
end Go.Proofs.Ytmogobaaophknaa
end
section
namespace Go.Proofs.Ytmogobaaophknaa
open Go Go.Lg
set_option linter.unusedSimpArgs false
set_option maxHeartbeats 4000000
attribute [local irreducible] SW runL runQ runG runQG FC Ret1
def SigOkP (rs : List Int) : Prop := (1 ≤ rs.length ∧ rs.length ≤ 8) ∧ ∀ j < rs.length, 0 ≤ rs.getD j default ∧ rs.getD j default ≤ 3
def arS (rs : List Int) (n : Int) : Int := if -24 ≤ n ∧ n ≤ -1 then 0 else if 0 ≤ n ∧ n ≤ rs.length - 1 then rs.getD n.toNat default else -1
def scan (rs : List Int) : List Int → Int → Nat → Int
 | [], _, _ => -1
 | x :: r, need, i => if arS rs x < 0 then -1 else if need + arS rs x - 1 = 0 then (i : Int) + 1 else scan rs r (need + arS rs x - 1) (i + 1)
def endS (rs t : List Int) (a : Nat) : Int := scan rs (t.drop a) 1 a
def TermOkP (rs t : List Int) : Prop := SigOkP rs ∧ (1 ≤ t.length ∧ t.length ≤ 60) ∧ endS rs t 0 = t.length
theorem scan_step (rs t : List Int) (need : Int) (i : Nat) (h : i < t.length) : scan rs (t.drop i) need i = if arS rs (t.getD i default) < 0 then -1 else if need + arS rs (t.getD i default) - 1 = 0 then (i : Int) + 1 else scan rs (t.drop (i + 1)) (need + arS rs (t.getD i default) - 1) (i + 1) := by
 rw [List.drop_eq_getElem_cons h]
 simp [scan, List.getD, List.getElem?_eq_getElem h]
theorem scan_end (rs t : List Int) (need : Int) (i : Nat) (h : t.length ≤ i) : scan rs (t.drop i) need i = -1 := by
 rw [List.drop_of_length_le h]; rfl
theorem arS_rng {rs : List Int} (hs : SigOkP rs) (n : Int) : -1 ≤ arS rs n ∧ arS rs n ≤ 3 := by
 unfold arS
 split
 ·omega
 ·split
  ·rename_i h
   have := hs.2 n.toNat (by omega)
   omega
  ·omega
theorem arS_var {rs : List Int} {n : Int} (h : -24 ≤ n ∧ n ≤ -1) : arS rs n = 0 := if_pos h
theorem arS_sym {rs : List Int} {n : Int} (h : 0 ≤ n ∧ n ≤ rs.length - 1) : arS rs n = rs.getD n.toNat default := by
 unfold arS; rw [if_neg (by omega), if_pos h]
theorem arS_none {rs : List Int} {n : Int} (h1 : ¬ (-24 ≤ n ∧ n ≤ -1)) (h2 : ¬ (0 ≤ n ∧ n ≤ rs.length - 1)) : arS rs n = -1 := by
 unfold arS; rw [if_neg h1, if_neg h2]
theorem scan_all {rs : List Int} : ∀ (l : List Int) (need : Int) (i : Nat), scan rs l need i = i + l.length → ∀ x ∈ l, 0 ≤ arS rs x
 | [], _, _, _, x, hx => by cases hx
 | y :: r, need, i, h, x, hx => by
  simp only [scan] at h
  split at h
  ·simp only [List.length_cons] at h; omega
  ·split at h
   ·have : r = [] := by
     cases r with
     | nil => rfl
     | cons _ _ => simp only [List.length_cons] at h; omega
    subst this
    obtain rfl : x = y := by simpa using hx
    omega
   ·rcases List.mem_cons.1 hx with rfl | hx
    ·omega
    ·exact scan_all r _ _ (by rw [h]; simp only [List.length_cons]; omega) x hx
theorem ge24_of_arS {rs : List Int} {x : Int} (h : 0 ≤ arS rs x) : -24 ≤ x := by
 unfold arS at h
 split at h
 ·omega
 ·split at h <;> omega
theorem TermOkP.ge {rs t : List Int} (h : TermOkP rs t) : ∀ x ∈ t, -24 ≤ x := fun x hx => by
 have := h.2.2
 unfold endS at this
 rw [List.drop_zero] at this
 exact ge24_of_arS (scan_all (rs := rs) t 1 0 (by omega) x hx)
def skipS (rs : List Int) : List Int → Int → Nat → Nat × Bool
 | [], _, i => (i, false)
 | x :: r, need, i => if arS rs x < 0 then (i, false) else if need + arS rs x - 1 = 0 then (i + 1, true) else skipS rs r (need + arS rs x - 1) (i + 1)
theorem skip_scan (rs : List Int) : ∀ (l : List Int) (need : Int) (i : Nat), scan rs l need i = if (skipS rs l need i).2 = true then ((skipS rs l need i).1 : Int) else -1
 | [], _, _ => rfl
 | x :: r, need, i => by
  simp only [scan, skipS]
  split
  ·rfl
  ·split
   ·simp
   ·exact skip_scan rs r _ _
theorem skip_step (rs t : List Int) (need : Int) (i : Nat) (h : i < t.length) : skipS rs (t.drop i) need i = if arS rs (t.getD i default) < 0 then (i, false) else if need + arS rs (t.getD i default) - 1 = 0 then (i + 1, true) else skipS rs (t.drop (i + 1)) (need + arS rs (t.getD i default) - 1) (i + 1) := by
 rw [List.drop_eq_getElem_cons h]
 simp [skipS, List.getD, List.getElem?_eq_getElem h]
theorem skip_end (rs t : List Int) (need : Int) (i : Nat) (h : t.length ≤ i) : skipS rs (t.drop i) need i = (i, false) := by
 rw [List.drop_of_length_le h]; rfl
def nxS (rs t : List Int) (a : Nat) : Int := if a < t.length then arS rs (t.getD a default) else -1
def minAt (xs : List Int) : Nat → Int
 | 0 => xs.getD 0 default
 | n + 1 => if xs.getD (n + 1) default < minAt xs n then xs.getD (n + 1) default else minAt xs n
theorem minAt_ge (xs : List Int) (c : Int) : ∀ n, c ≤ minAt xs n ↔ ∀ j ≤ n, c ≤ xs.getD j default
  | 0 => ⟨fun h j hj => by obtain rfl : j = 0 := by omega
                           exact h, fun h => h 0 (by omega)⟩
  | n + 1 => by
    have ih := minAt_ge xs c n
    simp only [minAt]
    constructor
    · intro h j hj
      split at h
      · rcases Nat.lt_or_ge j (n + 1) with e | e
        · exact ih.1 (by omega) j (by omega)
        · obtain rfl : j = n + 1 := by omega
          exact h
      · rcases Nat.lt_or_ge j (n + 1) with e | e
        · exact ih.1 h j (by omega)
        · obtain rfl : j = n + 1 := by omega
          omega
    · intro h
      split
      · exact h _ (by omega)
      · exact ih.2 fun j hj => h j (by omega)
theorem minAt_all {xs : List Int} {c : Int} (h : 0 < xs.length) : c ≤ minAt xs (xs.length - 1) ↔ ∀ x ∈ xs, c ≤ x := by
 rw [minAt_ge, ← forall_getD (P := fun x => c ≤ x)]
 exact ⟨fun hh j hj => hh j (by omega), fun hh j hj => hh j (by omega)⟩
def kp35 : List (Nat × List Nat) := [(0, [0, 1, 2]), (1, [6])]
attribute [go_sem] kp35
theorem l1In_fc (n lo hi : Int) : FC S 35 [] [] [] [.int .i64 n, .int .i64 lo, .int .i64 hi] (.bool (tst (lo ≤ n ∧ n ≤ hi))) [] [] := by
 refine fc_body Try.func35 rfl (by kernel_rfl) (by simp [Try.f35]) fun B => ?_
 simp only [Try.ntmps35, enumD, lst0, Nat.reduceAdd]
 repeat' first | refine sw_seq ?_ | refine sw_skip ?_ | refine sw_go 0 kp35 fun K hK => ?_ | refine fun (K : KT) (hK : KOk S 0 _ _ _ K) => ?_ | ((first | refine runL_go ?_ | refine sw_ret (ret0 ?_) | refine sw_ret ?_); simp (disch := (refine Om.mk ?_; omega)) only [go_sem, Try.results35]) | (refine hK.nil ?_; clear hK K; simp only [go_sem]) | ((first | refine runG_fork rfl rfl rfl rfl rfl ?_ ?_) <;> intro h <;> try simp (disch := (refine Om.mk ?_; omega)) only [go_sem] at h) | refine hK.skp rfl rfl ?_ | refine sw_loopEnd ?_ | (refine hK.fork rfl rfl rfl ?_ ?_ <;> intro h <;> try simp (disch := (refine Om.mk ?_; omega)) only [go_sem] at h) | (with_reducible refine And.intro (by first | omega | (simp only [lens]; omega)) ?_) | fail
 ·simp [decide_tst, h]
 ·omega
def kp22 : List (Nat × List Nat) := [(0, [1]), (1, [1, 8]), (2, [2]), (3, [1, 3]), (4, [1, 3, 13]), (6, [1, 3, 22]), (7, [2]), (5, [1, 3]), (8, [2])]
attribute [go_sem] kp22
theorem specSigOk_fc (tk : Tk) (rs : List Int) : FC S 22 [] [] [] [.agg [.sl tk (rs.map (.int .i64))]] (.bool (tst (SigOkP rs))) [] [] := by
 refine fc_body Try.func22 rfl (by kernel_rfl) (by simp [Try.f22]) fun B => ?_
 simp only [Try.ntmps22, enumD, lst0, Nat.reduceAdd]
 refine sw_bnd_agg 0 0 rfl rfl fun hb0_0 => ?_
 simp only [D.bnd, List.length_map] at hb0_0
 repeat' first | refine sw_seq ?_ | refine sw_block ?_ | refine sw_inBlock ?_ | refine sw_skip ?_ | refine sw_go 0 kp22 fun K hK => ?_ | refine fun (K : KT) (hK : KOk S 0 _ _ _ K) => ?_ | ((first | refine runL_go ?_ | refine sw_ret (ret0 ?_) | refine sw_ret ?_); simp (disch := (refine Om.mk ?_; omega)) only [go_sem, Try.results22]) | (refine hK.nil ?_; clear hK K; simp only [go_sem]) | ((first | refine sw_cond rfl ?_ ?_) <;> intro h <;> try simp (disch := (refine Om.mk ?_; omega)) only [go_sem] at h) | refine sw_exit rfl ?_ | refine sw_loopEnd ?_ | refine hK.c0 rfl rfl rfl (l1In_fc _ _ _) rfl rfl rfl ?_ | (with_reducible refine And.intro (by first | omega | (simp only [lens]; omega)) ?_) | fail
 ·rintro ⟨h1, _⟩; omega
 refine sw_loopU (ι := Nat) (fun i => [(3, .int .i64 i)]) (fun _ => []) (fun i => i ≤ rs.length ∧ (∀ j < i, 0 ≤ rs.getD j default ∧ rs.getD j default ≤ 3)) (fun i => rs.length - i) 0 (by (refine covers_mk0 rfl rfl ?_ ?_ ?_ ?_ <;> simp (disch := (refine Om.mk ?_; omega)) only [go_sem] <;> (try omega))) ⟨by omega, ?_⟩ (fun i ⟨hi, hj⟩ => ?_)
 rotate_left
 simp only [go_sem]
 repeat' first | refine sw_seq ?_ | refine sw_block ?_ | refine sw_inBlock ?_ | refine sw_skip ?_ | refine sw_go 0 kp22 fun K hK => ?_ | refine fun (K : KT) (hK : KOk S 0 _ _ _ K) => ?_ | ((first | refine runL_go ?_ | refine sw_ret (ret0 ?_) | refine sw_ret ?_); simp (disch := (refine Om.mk ?_; omega)) only [go_sem, Try.results22]) | (refine hK.nil ?_; clear hK K; simp only [go_sem]) | ((first | refine sw_cond rfl ?_ ?_) <;> intro h <;> try simp (disch := (refine Om.mk ?_; omega)) only [go_sem] at h) | refine sw_exit rfl ?_ | refine sw_loopEnd ?_ | refine hK.c0 rfl rfl rfl (l1In_fc _ _ _) rfl rfl rfl ?_ | (with_reducible refine And.intro (by first | omega | (simp only [lens]; omega)) ?_) | fail
 ·rintro ⟨_, h2⟩; exact h (h2 i (by omega))
 ·exact ⟨i + 1, by (refine covers_mk0 rfl rfl ?_ ?_ ?_ ?_ <;> simp (disch := (refine Om.mk ?_; omega)) only [go_sem] <;> (try omega)), ⟨by omega, upto_succ hj (by assumption)⟩, by omega⟩
 ·exact ⟨⟨by omega, by omega⟩, fun j hj' => hj j (by omega)⟩
 ·intro j hj'; omega
def kp38 : List (Nat × List Nat) := [(0, [1]), (1, [1, 14]), (2, [2]), (3, [16, 17, 18]), (4, [16, 17, 18, 19]), (5, [4, 16, 17, 18]), (6, [16, 17, 18, 27]), (7, [2]), (8, [16, 17, 18]), (9, [2])]
attribute [go_sem] kp38
theorem implSigOk_fc (tk : Tk) (rs : List Int) : FC S 38 [] [] [] [.agg [.sl tk (rs.map (.int .i64))]] (.bool (tst (SigOkP rs))) [] [] := by
 refine fc_body Try.func38 rfl (by kernel_rfl) (by simp [Try.f38]) fun B => ?_
 simp only [Try.ntmps38, enumD, lst0, Nat.reduceAdd]
 refine sw_bnd_agg 0 0 rfl rfl fun hb0_0 => ?_
 simp only [D.bnd, List.length_map] at hb0_0
 repeat' first | refine sw_seq ?_ | refine sw_block ?_ | refine sw_inBlock ?_ | refine sw_skip ?_ | refine sw_go 0 kp38 fun K hK => ?_ | refine fun (K : KT) (hK : KOk S 0 _ _ _ K) => ?_ | ((first | refine runL_go ?_ | refine sw_ret (ret0 ?_) | refine sw_ret ?_); simp (disch := (refine Om.mk ?_; omega)) only [go_sem, Try.results38]) | (refine hK.nil ?_; clear hK K; simp only [go_sem]) | ((first | refine runG_fork rfl rfl rfl rfl rfl ?_ ?_ | refine sw_cond rfl ?_ ?_) <;> intro h <;> try simp (disch := (refine Om.mk ?_; omega)) only [go_sem] at h) | refine hK.skp rfl rfl ?_ | refine sw_exit rfl ?_ | refine sw_loopEnd ?_ | (refine hK.fork rfl rfl rfl ?_ ?_ <;> intro h <;> try simp (disch := (refine Om.mk ?_; omega)) only [go_sem] at h) | (with_reducible refine And.intro (by first | omega | (simp only [lens]; omega)) ?_) | fail
 ·rintro ⟨h1, _⟩; omega
 ·rintro ⟨h1, _⟩; omega
 refine sw_loopU (ι := Nat) (fun i => [(18, .int .i64 i)]) (fun _ => []) (fun i => i ≤ rs.length ∧ (∀ j < i, 0 ≤ rs.getD j default ∧ rs.getD j default ≤ 3)) (fun i => rs.length - i) 0 (by (refine covers_mk0 rfl rfl ?_ ?_ ?_ ?_ <;> simp (disch := (refine Om.mk ?_; omega)) only [go_sem] <;> (try omega))) ⟨by omega, ?_⟩ (fun i ⟨hi, hj⟩ => ?_)
 rotate_left
 simp only [go_sem]
 repeat' first | refine sw_seq ?_ | refine sw_block ?_ | refine sw_inBlock ?_ | refine sw_skip ?_ | refine sw_go 0 kp38 fun K hK => ?_ | refine fun (K : KT) (hK : KOk S 0 _ _ _ K) => ?_ | ((first | refine runL_go ?_ | refine sw_ret (ret0 ?_) | refine sw_ret ?_); simp (disch := (refine Om.mk ?_; omega)) only [go_sem, Try.results38]) | (refine hK.nil ?_; clear hK K; simp only [go_sem]) | ((first | refine runG_fork rfl rfl rfl rfl rfl ?_ ?_ | refine sw_cond rfl ?_ ?_) <;> intro h <;> try simp (disch := (refine Om.mk ?_; omega)) only [go_sem] at h) | refine hK.skp rfl rfl ?_ | refine sw_exit rfl ?_ | refine sw_loopEnd ?_ | (refine hK.fork rfl rfl rfl ?_ ?_ <;> intro h <;> try simp (disch := (refine Om.mk ?_; omega)) only [go_sem] at h) | (with_reducible refine And.intro (by first | omega | (simp only [lens]; omega)) ?_) | fail
 ·rintro ⟨_, h2⟩; have := h2 i (by omega); omega
 ·rintro ⟨_, h2⟩; have := h2 i (by omega); omega
 ·exact ⟨i + 1, by (refine covers_mk0 rfl rfl ?_ ?_ ?_ ?_ <;> simp (disch := (refine Om.mk ?_; omega)) only [go_sem] <;> (try omega)), ⟨by omega, upto_succ hj ⟨by assumption, by assumption⟩⟩, by omega⟩
 ·exact ⟨⟨by omega, by omega⟩, fun j hj' => hj j (by omega)⟩
 ·intro j hj'; omega
def kp55 : List (Nat × List Nat) := [(0, [1, 2]), (1, [1, 2, 5]), (2, [4]), (3, [1, 2, 8]), (4, [4]), (5, [4])]
attribute [go_sem] kp55
theorem l1Arity_fc (tk : Tk) (rs : List Int) (n : Int) : FC S 55 [] [] [] [.agg [.sl tk (rs.map (.int .i64))], .int .i64 n] (.int .i64 (arS rs n)) [] [] := by
 refine fc_body Try.func55 rfl (by kernel_rfl) (by simp [Try.f55]) fun B => ?_
 simp only [Try.ntmps55, enumD, lst0, Nat.reduceAdd]
 refine sw_bnd_agg 0 0 rfl rfl fun hb0_0 => ?_
 simp only [D.bnd, List.length_map] at hb0_0
 repeat' first | refine sw_seq ?_ | refine sw_block ?_ | refine sw_inBlock ?_ | refine sw_skip ?_ | refine sw_go 0 kp55 fun K hK => ?_ | refine fun (K : KT) (hK : KOk S 0 _ _ _ K) => ?_ | ((first | refine runL_go ?_ | refine sw_ret (ret0 ?_) | refine sw_ret ?_); simp (disch := (refine Om.mk ?_; omega)) only [go_sem, Try.results55]) | (refine hK.nil ?_; clear hK K; simp only [go_sem]) | ((first | refine sw_cond rfl ?_ ?_) <;> intro h <;> try simp (disch := (refine Om.mk ?_; omega)) only [go_sem] at h) | refine sw_loopEnd ?_ | refine hK.c0 rfl rfl rfl (l1In_fc _ _ _) rfl rfl rfl ?_ | (with_reducible refine And.intro (by first | omega | (simp only [lens]; omega)) ?_) | fail
 ·exact (arS_var h).symm
 ·rw [arS_sym (by omega)]
 ·exact (arS_none (by assumption) (by assumption)).symm
def kp45 : List (Nat × List Nat) := [(0, [1, 2, 3]), (1, [1, 2, 3, 7]), (2, [1, 3, 7, 8]), (3, [1, 3, 7, 8, 14]), (5, [1, 3, 7, 8, 9]), (6, [1, 3, 7, 8, 9, 24]), (7, [6]), (8, [1, 3, 7, 8]), (9, [1, 3, 7, 8, 30]), (10, [6]), (4, [1, 3, 7, 8]), (11, [6])]
attribute [go_sem] kp45
theorem l1End_fc (tk tk' : Tk) (rs t : List Int) (a : Int) (hs : SigOkP rs) (hl : t.length ≤ 60) (ha : 0 ≤ a) : FC S 45 [] [] [] [.agg [.sl tk (rs.map (.int .i64))], .sl tk' (t.map (.int .i64)), .int .i64 a] (.int .i64 (endS rs t a.toNat)) [] [] := by
 refine fc_body Try.func45 rfl (by kernel_rfl) (by simp [Try.f45]) fun B => ?_
 simp only [Try.ntmps45, enumD, lst0, Nat.reduceAdd]
 refine sw_bnd 1 rfl fun hb1 => ?_
 simp only [D.bnd, List.length_map] at hb1
 repeat' first | refine sw_seq ?_ | refine sw_block ?_ | refine sw_inBlock ?_ | refine sw_skip ?_ | refine sw_go 0 kp45 fun K hK => ?_ | refine fun (K : KT) (hK : KOk S 0 _ _ _ K) => ?_ | refine sw_goD kp45 (by kernel_rfl) fun K hK => ?_ | ((first | refine runL_go ?_ | refine runQ_go ?_ | refine sw_ret (ret0 ?_) | refine sw_ret ?_); simp (disch := (refine Om.mk ?_; omega)) only [go_sem, Try.results45]) | (refine hK.nil ?_; clear hK K; simp only [go_sem]) | ((first | refine sw_cond rfl ?_ ?_) <;> intro h <;> try simp (disch := (refine Om.mk ?_; omega)) only [go_sem] at h) | refine sw_exit rfl ?_ | refine sw_loopEnd ?_ | (with_reducible refine And.intro (by first | omega | (simp only [lens]; omega)) ?_) | fail
 refine sw_loopU (ι := Nat × Int) (fun p => [(8, .int .i64 p.1), (7, .int .i64 p.2)]) (fun p => []) (fun p => (a.toNat ≤ p.1 ∧ endS rs t a.toNat = scan rs (t.drop p.1) p.2 p.1) ∧ 1 ≤ p.2 ∧ p.2 ≤ 1 + 3 * p.1) (fun p => t.length - p.1) (a.toNat, 1) (by (refine covers_mk0 rfl rfl ?_ ?_ ?_ ?_ <;> simp (disch := (refine Om.mk ?_; omega)) only [go_sem] <;> (try omega))) ?_ (fun p hp => ?_)
 rotate_left
 simp only [go_sem]
 obtain ⟨i, need⟩ := p
 obtain ⟨⟨h1, h2⟩, h3, h4⟩ := hp
 have hr := arS_rng hs (t.getD i default)
 have hb : i < t.length → scan rs (t.drop i) need i = _ := scan_step rs t need i
 repeat' first | refine sw_seq ?_ | refine sw_block ?_ | refine sw_inBlock ?_ | refine sw_skip ?_ | refine sw_go 0 kp45 fun K hK => ?_ | refine fun (K : KT) (hK : KOk S 0 _ _ _ K) => ?_ | refine sw_goD kp45 (by kernel_rfl) fun K hK => ?_ | ((first | refine runL_go ?_ | refine runQ_go ?_ | refine sw_ret (ret0 ?_) | refine sw_ret ?_); simp (disch := (refine Om.mk ?_; omega)) only [go_sem, Try.results45]) | (refine hK.nil ?_; clear hK K; simp only [go_sem]) | ((first | refine sw_cond rfl ?_ ?_) <;> intro h <;> try simp (disch := (refine Om.mk ?_; omega)) only [go_sem] at h) | refine sw_exit rfl ?_ | refine sw_loopEnd ?_ | refine hK.c0 rfl rfl rfl (l1Arity_fc _ _ _) rfl rfl rfl ?_ | (with_reducible refine And.intro (by first | omega | (simp only [lens]; omega)) ?_) | fail
 ·rw [h2, hb (by omega), if_pos h]
 ·rw [h2, hb (by omega), if_neg (by omega), if_pos h]
 ·refine ⟨(i + 1, need + arS rs (t.getD i default) - 1), by (refine covers_mk0 rfl rfl ?_ ?_ ?_ ?_ <;> simp (disch := (refine Om.mk ?_; omega)) only [go_sem] <;> (try omega)), ⟨⟨by omega, ?_⟩, by omega, by omega⟩, by omega⟩
  rw [h2, hb (by omega), if_neg (by omega), if_neg h]
 ·rw [h2, scan_end rs t need i (by omega)]
 ·exact ⟨⟨by omega, rfl⟩, by omega, by omega⟩
def kp33 : List (Nat × List Nat) := [(0, [1, 2]), (1, [4])]
attribute [go_sem] kp33
theorem specTermOk_fc (tk tk' : Tk) (rs t : List Int) : FC S 33 [] [] [] [.agg [.sl tk (rs.map (.int .i64))], .sl tk' (t.map (.int .i64))] (.bool (tst (TermOkP rs t))) [] [] := by
 refine fc_body Try.func33 rfl (by kernel_rfl) (by simp [Try.f33]) fun B => ?_
 simp only [Try.ntmps33, enumD, lst0, Nat.reduceAdd]
 refine sw_bnd_agg 0 0 rfl rfl fun hb0_0 => ?_
 simp only [D.bnd, List.length_map] at hb0_0
 refine sw_bnd 1 rfl fun hb1 => ?_
 simp only [D.bnd, List.length_map] at hb1
 repeat' first | refine sw_seq ?_ | refine sw_skip ?_ | refine sw_go 0 kp33 fun K hK => ?_ | refine fun (K : KT) (hK : KOk S 0 _ _ _ K) => ?_ | ((first | refine runL_go ?_ | refine sw_ret (ret0 ?_) | refine sw_ret ?_); simp (disch := (refine Om.mk ?_; omega)) only [go_sem, Try.results33]) | (refine hK.nil ?_; clear hK K; simp only [go_sem]) | ((first | refine runG_fork rfl rfl rfl rfl rfl ?_ ?_) <;> intro h <;> try simp (disch := (refine Om.mk ?_; omega)) only [go_sem] at h) | refine hK.skp rfl rfl ?_ | refine sw_loopEnd ?_ | refine hK.c0 rfl rfl rfl (specSigOk_fc _ _) rfl rfl rfl ?_ | refine hK.c0 rfl rfl rfl (l1In_fc _ _ _) rfl rfl rfl ?_ | refine hK.c0 rfl rfl rfl (l1End_fc _ _ _ _ _ (by assumption) (by omega) (by omega)) rfl rfl rfl ?_ | (refine hK.fork rfl rfl rfl ?_ ?_ <;> intro h <;> try simp (disch := (refine Om.mk ?_; omega)) only [go_sem] at h) | (with_reducible refine And.intro (by first | omega | (simp only [lens]; omega)) ?_) | fail
 all_goals (simp only [TermOkP] at *; grind)
def kp56 : List (Nat × List Nat) := [(0, [0]), (1, [0, 7]), (2, [0]), (3, [0, 3]), (4, [0, 3, 4]), (5, [0, 3, 4, 15]), (7, [0, 3, 4]), (6, [0, 3, 4]), (8, [2])]
attribute [go_sem] kp56
theorem min_fc (tk : Tk) (xs : List Int) (h0 : 0 < xs.length) : FC S 56 [] [] [] [.sl tk (xs.map (.int .i64))] (.int .i64 (minAt xs (xs.length - 1))) [] [] := by
 refine fc_body Try.func56 rfl (by kernel_rfl) (by simp [Try.f56]) fun B => ?_
 simp only [Try.ntmps56, enumD, lst0, Nat.reduceAdd]
 refine sw_bnd 0 rfl fun hb0 => ?_
 simp only [D.bnd, List.length_map] at hb0
 repeat' first | refine sw_seq ?_ | refine sw_block ?_ | refine sw_inBlock ?_ | refine sw_skip ?_ | refine sw_go 0 kp56 fun K hK => ?_ | refine fun (K : KT) (hK : KOk S 0 _ _ _ K) => ?_ | ((first | refine runL_go ?_ | refine sw_ret (ret0 ?_) | refine sw_ret ?_); simp (disch := (refine Om.mk ?_; omega)) only [go_sem, Try.results56]) | (refine hK.nil ?_; clear hK K; simp only [go_sem]) | ((first | refine sw_cond rfl ?_ ?_) <;> intro h <;> try simp (disch := (refine Om.mk ?_; omega)) only [go_sem] at h) | refine sw_exit rfl ?_ | refine sw_loopEnd ?_ | (with_reducible refine And.intro (by first | omega | (simp only [lens]; omega)) ?_) | fail
 ·omega
 refine sw_loopU (ι := Nat) (fun p => [(4, .int .i64 (p + 1)), (3, .int .i64 (minAt xs p))]) (fun p => []) (fun p => p < xs.length) (fun p => xs.length - p) 0 (by (refine covers_mk0 rfl rfl ?_ ?_ ?_ ?_ <;> simp (disch := (refine Om.mk ?_; omega)) only [go_sem] <;> (try omega)); exact ⟨rfl, rfl⟩) ?_ (fun p hp => ?_)
 rotate_left
 simp only [go_sem]
 repeat' first | refine sw_seq ?_ | refine sw_block ?_ | refine sw_inBlock ?_ | refine sw_skip ?_ | refine sw_go 0 kp56 fun K hK => ?_ | refine fun (K : KT) (hK : KOk S 0 _ _ _ K) => ?_ | ((first | refine runL_go ?_ | refine sw_ret (ret0 ?_) | refine sw_ret ?_); simp (disch := (refine Om.mk ?_; omega)) only [go_sem, Try.results56]) | (refine hK.nil ?_; clear hK K; simp only [go_sem]) | ((first | refine sw_cond rfl ?_ ?_) <;> intro h <;> try simp (disch := (refine Om.mk ?_; omega)) only [go_sem] at h) | refine sw_exit rfl ?_ | refine sw_loopEnd ?_ | (with_reducible refine And.intro (by first | omega | (simp only [lens]; omega)) ?_) | fail
 ·exact ⟨p + 1, (by (refine covers_mk0 rfl rfl ?_ ?_ ?_ ?_ <;> simp (disch := (refine Om.mk ?_; omega)) only [go_sem] <;> (try omega)); exact ⟨rfl, by omega⟩), by omega, by omega⟩
 ·rw [show p = xs.length - 1 by omega]
 ·exact h0
def kp66 : List (Nat × List Nat) := [(0, [1, 2]), (1, [1, 2, 6]), (2, [4]), (3, [4])]
attribute [go_sem] kp66
theorem arityAt_fc (tk : Tk) (rs : List Int) (n : Int) (hn : -24 ≤ n ∧ n < rs.length) : FC S 66 [] [] [] [.agg [.sl tk (rs.map (.int .i64))], .int .i64 n] (.int .i64 (arS rs n)) [] [] := by
 refine fc_body Try.func66 rfl (by kernel_rfl) (by simp [Try.f66]) fun B => ?_
 simp only [Try.ntmps66, enumD, lst0, Nat.reduceAdd]
 refine sw_bnd_agg 0 0 rfl rfl fun hb0_0 => ?_
 simp only [D.bnd, List.length_map] at hb0_0
 repeat' first | refine sw_seq ?_ | refine sw_skip ?_ | refine sw_go 0 kp66 fun K hK => ?_ | refine fun (K : KT) (hK : KOk S 0 _ _ _ K) => ?_ | ((first | refine runL_go ?_ | refine sw_ret (ret0 ?_) | refine sw_ret ?_); simp (disch := (refine Om.mk ?_; omega)) only [go_sem, Try.results66]) | (refine hK.nil ?_; clear hK K; simp only [go_sem]) | ((first | refine sw_cond rfl ?_ ?_) <;> intro h <;> try simp (disch := (refine Om.mk ?_; omega)) only [go_sem] at h) | refine sw_loopEnd ?_ | (with_reducible refine And.intro (by first | omega | (simp only [lens]; omega)) ?_) | fail
 ·exact (arS_var (by omega)).symm
 ·rw [arS_sym (by omega)]
def kp65 : List (Nat × List Nat) := [(0, [0]), (1, [0, 31]), (2, [2]), (3, [0]), (4, [2])]
attribute [go_sem] kp65
theorem next_fc (id : Nat) (rs t : List Int) (a : Nat) (hs : SigOkP rs) (ht : ∀ x ∈ t, -24 ≤ x) : FC S 65 [] [(id, [.sl .any (rs.map (.int .i64)), .sl .any (t.map (.int .i64)), .int .i64 a])] [] [.box id 0] (.int .i64 (nxS rs t a)) [(id, [.sl .any (rs.map (.int .i64)), .sl .any (t.map (.int .i64)), .int .i64 ((if nxS rs t a < 0 then a else a + 1 : Nat) : Int)])] [] := by
 have hx : a < t.length → -24 ≤ t.getD a default := fun h => ht _ (getD_mem t a h)
 refine fc_body Try.func65 rfl (by kernel_rfl) (by simp [Try.f65]) fun B => ?_
 simp only [Try.ntmps65, enumD, lst0, Nat.reduceAdd]
 refine sw_bnd_box id 1 (if_pos rfl) rfl fun hbid_1 => ?_
 simp only [D.bnd, List.length_map] at hbid_1
 repeat' first | refine sw_seq ?_ | refine sw_skip ?_ | refine sw_go 0 kp65 fun K hK => ?_ | refine fun (K : KT) (hK : KOk S 0 _ _ _ K) => ?_ | refine sw_goD kp65 (by kernel_rfl) fun K hK => ?_ | ((first | refine runL_go ?_ | refine runQ_go ?_ | refine sw_ret (ret0 ?_) | refine sw_ret ?_); simp (disch := (refine Om.mk ?_; omega)) only [go_sem, Try.results65]) | (refine hK.nil ?_; clear hK K; simp only [go_sem]) | ((first | refine runG_fork rfl rfl rfl rfl rfl ?_ ?_ | refine runQG_fork rfl rfl rfl rfl rfl ?_ ?_ | refine sw_cond rfl ?_ ?_) <;> intro h <;> try simp (disch := (refine Om.mk ?_; omega)) only [go_sem] at h) | refine hK.skp rfl rfl ?_ | refine sw_loopEnd ?_ | refine hK.c0 rfl rfl rfl (arityAt_fc _ _ _ ⟨by omega, by omega⟩) rfl rfl rfl ?_ | (refine hK.fork rfl rfl rfl ?_ ?_ <;> intro h <;> try simp (disch := (refine Om.mk ?_; omega)) only [go_sem] at h) | (with_reducible refine And.intro (by first | omega | (simp only [lens]; omega)) ?_) | fail
 ·have e : nxS rs t a = -1 := if_neg (by omega)
  simp [e]
 ·have e : nxS rs t a = -1 := by rw [nxS, if_pos (by omega), arS_none (by omega) (by omega)]
  simp [e]
 ·have e : nxS rs t a = arS rs (t.getD a default) := if_pos (by omega)
  have h0 : 0 ≤ arS rs (t.getD a default) := by
   by_cases hn : t.getD a default < 0
   ·rw [arS_var (by omega)]; omega
   ·rw [arS_sym (by omega)]; exact (hs.2 _ (by omega)).1
  rw [if_neg (by omega)]
  exact ⟨e.symm, by simp⟩
def kp60 : List (Nat × List Nat) := [(0, [0]), (1, [0, 3]), (2, [0, 3, 6]), (4, [0, 3, 4]), (5, [0, 3, 4, 12]), (6, [2]), (7, [0, 3]), (3, [0, 3]), (8, [2])]
attribute [go_sem] kp60
theorem skip_fc (id : Nat) (rs t : List Int) (a : Nat) (hs : SigOkP rs) (ht : ∀ x ∈ t, -24 ≤ x) (hl : t.length ≤ 60) : FC S 60 [] [(id, [.sl .any (rs.map (.int .i64)), .sl .any (t.map (.int .i64)), .int .i64 a])] [] [.box id 0] (.bool (skipS rs (t.drop a) 1 a).2) [(id, [.sl .any (rs.map (.int .i64)), .sl .any (t.map (.int .i64)), .int .i64 (skipS rs (t.drop a) 1 a).1])] [] := by
 refine fc_body Try.func60 rfl (by kernel_rfl) (by simp [Try.f60]) fun B => ?_
 simp only [Try.ntmps60, enumD, lst0, Nat.reduceAdd]
 refine sw_bnd_box id 1 (if_pos rfl) rfl fun hbid_1 => ?_
 simp only [D.bnd, List.length_map] at hbid_1
 repeat' first | refine sw_seq ?_ | refine sw_block ?_ | refine sw_inBlock ?_ | refine sw_skip ?_ | refine sw_go 0 kp60 fun K hK => ?_ | refine fun (K : KT) (hK : KOk S 0 _ _ _ K) => ?_ | ((first | refine runL_go ?_ | refine sw_ret (ret0 ?_) | refine sw_ret ?_); simp (disch := (refine Om.mk ?_; omega)) only [go_sem, Try.results60]) | (refine hK.nil ?_; clear hK K; simp only [go_sem]) | ((first | refine sw_cond rfl ?_ ?_) <;> intro h <;> try simp (disch := (refine Om.mk ?_; omega)) only [go_sem] at h) | refine sw_exit rfl ?_ | refine sw_loopEnd ?_ | (with_reducible refine And.intro (by first | omega | (simp only [lens]; omega)) ?_) | fail
 refine sw_loopU (ι := Nat × Int) (fun p => [(3, .int .i64 p.2)]) (fun p => [(id, [.sl .any (rs.map (.int .i64)), .sl .any (t.map (.int .i64)), .int .i64 p.1])]) (fun p => (a ≤ p.1 ∧ ((1 ≤ p.2 ∧ skipS rs (t.drop a) 1 a = skipS rs (t.drop p.1) p.2 p.1) ∨ (p.2 = 0 ∧ skipS rs (t.drop a) 1 a = (p.1, true)))) ∧ p.2 ≤ 1 + 3 * p.1) (fun p => t.length - p.1) (a, 1) (by (refine covers_mk0 rfl rfl ?_ ?_ ?_ ?_ <;> simp (disch := (refine Om.mk ?_; omega)) only [go_sem] <;> (try omega))) ?_ (fun p hp => ?_)
 rotate_left
 simp only [go_sem]
 obtain ⟨i, need⟩ := p
 obtain ⟨⟨h1, h2⟩, h4⟩ := hp
 dsimp only at h1 h2 h4
 have hr := arS_rng hs (t.getD i default)
 have hn : nxS rs t i ≤ 3 := by unfold nxS; split <;> omega
 have hb : i < t.length → skipS rs (t.drop i) need i = _ := skip_step rs t need i
 repeat' first | refine sw_seq ?_ | refine sw_block ?_ | refine sw_inBlock ?_ | refine sw_skip ?_ | refine sw_go 0 kp60 fun K hK => ?_ | refine fun (K : KT) (hK : KOk S 0 _ _ _ K) => ?_ | ((first | refine runL_go ?_ | refine sw_ret (ret0 ?_) | refine sw_ret ?_); simp (disch := (refine Om.mk ?_; omega)) only [go_sem, Try.results60]) | (refine hK.nil ?_; clear hK K; simp only [go_sem]) | ((first | refine sw_cond rfl ?_ ?_) <;> intro h <;> try simp (disch := (refine Om.mk ?_; omega)) only [go_sem] at h) | refine sw_exit rfl ?_ | refine sw_loopEnd ?_ | (refine hK.callB rfl rfl rfl (next_fc id rs t i hs ht) ⟨⟨by simp only [Nat.reduceLT], (by first | (simp; all_goals fail) | (simp [LS.getBox, Lg.look]; all_goals fail)), by (simp [Lg.look]; all_goals fail), by (simp; all_goals fail), by (simp; all_goals fail)⟩, ⟨by (simp [D.ids, D.idsL]; all_goals fail), by (simp [D.ids, D.idsL]; all_goals fail), by (simp [D.tks, D.tksL]; all_goals fail), by (simp [D.tks, D.tksL]; all_goals fail), by (simp; all_goals fail)⟩, rfl⟩ ?_; simp (disch := (refine Om.mk ?_; omega)) only [go_sem]) | (with_reducible refine And.intro (by first | omega | (simp only [lens]; omega)) ?_) | fail
 ·have e : i < t.length → nxS rs t i = arS rs (t.getD i default) := fun h => if_pos h
  rcases h2 with ⟨h2, h3⟩ | ⟨h2, h3⟩
  ·rw [h3]
   by_cases hi : i < t.length
   ·rw [hb hi, if_pos (by rw [← e hi]; assumption), if_pos (by assumption)]; simp
   ·rw [skip_end rs t need i (by omega), if_pos (by assumption)]; simp
  ·omega
 ·have hi : i < t.length := by
   by_cases hi : i < t.length
   ·exact hi
   ·have : nxS rs t i = -1 := if_neg hi
    omega
  have e : nxS rs t i = arS rs (t.getD i default) := if_pos hi
  refine ⟨(i + 1, need + nxS rs t i - 1), (by (refine covers_mk0 rfl rfl ?_ ?_ ?_ ?_ <;> simp (disch := (refine Om.mk ?_; omega)) only [go_sem] <;> (try omega)); rw [if_neg (by omega)]), ⟨⟨by omega, ?_⟩, by omega⟩, by omega⟩
  rcases h2 with ⟨h2, h3⟩ | ⟨h2, h3⟩
  ·rw [h3, hb hi, if_neg (by omega), ← e]
   by_cases hz : need + nxS rs t i - 1 = 0
   ·rw [if_pos hz]; exact .inr ⟨hz, rfl⟩
   ·rw [if_neg hz]; exact .inl ⟨by dsimp only; omega, rfl⟩
  ·omega
 ·rcases h2 with ⟨h2, h3⟩ | ⟨h2, h3⟩
  ·omega
  ·rw [h3]; simp
 ·exact ⟨⟨by omega, .inl ⟨by omega, rfl⟩⟩, by omega⟩
def kp52 : List (Nat × List Nat) := [(0, [1, 2, 3]), (1, [7]), (2, [7, 13]), (3, [6]), (4, [6])]
attribute [go_sem] kp52
theorem endAt_fc (tk tk' : Tk) (rs t : List Int) (a : Int) (hs : SigOkP rs) (ht : ∀ x ∈ t, -24 ≤ x) (hl : t.length ≤ 60) (ha : 0 ≤ a) : FC S 52 [] [] [] [.agg [.sl tk (rs.map (.int .i64))], .sl tk' (t.map (.int .i64)), .int .i64 a] (.int .i64 (endS rs t a.toNat)) [] [] := by
 obtain ⟨a, rfl⟩ := Int.eq_ofNat_of_zero_le ha
 refine FC.args (args' := [.agg [.sl .any (rs.map (.int .i64))], .sl .any (t.map (.int .i64)), .int .i64 a]) ?_ (by simp only [go_sem])
 refine fc_body Try.func52 rfl (by kernel_rfl) (by simp [Try.f52]) fun B => ?_
 simp only [Try.ntmps52, enumD, lst0, Nat.reduceAdd]
 repeat' first | refine sw_seq ?_ | refine sw_skip ?_ | refine sw_go 0 kp52 fun K hK => ?_ | refine fun (K : KT) (hK : KOk S 0 _ _ _ K) => ?_ | ((first | refine runL_go ?_ | refine sw_ret (ret0 ?_) | refine sw_ret ?_); simp (disch := (refine Om.mk ?_; omega)) only [go_sem, Try.results52]) | (refine hK.nil ?_; clear hK K; simp only [go_sem]) | ((first | refine sw_cond rfl ?_ ?_) <;> intro h <;> try simp (disch := (refine Om.mk ?_; omega)) only [go_sem] at h) | refine sw_loopEnd ?_ | (refine hK.callB rfl rfl rfl (skip_fc 7 rs t a hs ht hl) ⟨⟨by simp only [Nat.reduceLT], (by first | (simp; all_goals fail) | (simp [LS.getBox, Lg.look]; all_goals fail)), by (simp [Lg.look]; all_goals fail), by (simp; all_goals fail), by (simp; all_goals fail)⟩, ⟨by (simp [D.ids, D.idsL]; all_goals fail), by (simp [D.ids, D.idsL]; all_goals fail), by (simp [D.tks, D.tksL]; all_goals fail), by (simp [D.tks, D.tksL]; all_goals fail), by (simp; all_goals fail)⟩, rfl⟩ ?_; simp (disch := (refine Om.mk ?_; omega)) only [go_sem]) | (with_reducible refine And.intro (by first | omega | (simp only [lens]; omega)) ?_) | ((with_reducible refine And.intro ?_ ?_); · first | (intro x hx; subst hx; rfl) | (intro x; refine And.intro ?_ ?_ <;> (intros; subst_vars; rfl))) | fail
 all_goals first | (rw [endS, skip_scan, h]; rfl)
def kp46 : List (Nat × List Nat) := [(0, [1, 2]), (1, [4])]
attribute [go_sem] kp46
theorem implTermOk_fc (tk tk' : Tk) (rs t : List Int) : FC S 46 [] [] [] [.agg [.sl tk (rs.map (.int .i64))], .sl tk' (t.map (.int .i64))] (.bool (tst (TermOkP rs t))) [] [] := by
 refine fc_body Try.func46 rfl (by kernel_rfl) (by simp [Try.f46]) fun B => ?_
 simp only [Try.ntmps46, enumD, lst0, Nat.reduceAdd]
 refine sw_bnd_agg 0 0 rfl rfl fun hb0_0 => ?_
 simp only [D.bnd, List.length_map] at hb0_0
 refine sw_bnd 1 rfl fun hb1 => ?_
 simp only [D.bnd, List.length_map] at hb1
 repeat' first | refine sw_seq ?_ | refine sw_skip ?_ | refine sw_go 0 kp46 fun K hK => ?_ | refine fun (K : KT) (hK : KOk S 0 _ _ _ K) => ?_ | ((first | refine runL_go ?_ | refine sw_ret (ret0 ?_) | refine sw_ret ?_); simp (disch := (refine Om.mk ?_; omega)) only [go_sem, Try.results46]) | (refine hK.nil ?_; clear hK K; simp only [go_sem]) | ((first | refine runG_fork rfl rfl rfl rfl rfl ?_ ?_) <;> intro h <;> try simp (disch := (refine Om.mk ?_; omega)) only [go_sem] at h) | refine hK.skp rfl rfl ?_ | refine sw_loopEnd ?_ | refine hK.c0 rfl rfl rfl (implSigOk_fc _ _) rfl rfl rfl ?_ | refine hK.c0 rfl rfl rfl (min_fc _ _ (by omega)) rfl rfl rfl ?_ | refine hK.c0 rfl rfl rfl (endAt_fc _ _ _ _ _ (by assumption) ((minAt_all (by omega)).1 (by assumption)) (by omega) (by omega)) rfl rfl rfl ?_ | (refine hK.fork rfl rfl rfl ?_ ?_ <;> intro h <;> try simp (disch := (refine Om.mk ?_; omega)) only [go_sem] at h) | (with_reducible refine And.intro (by first | omega | (simp only [lens]; omega)) ?_) | fail
 ·rename_i h1 h2 h3
  have h4 := (minAt_all (by omega)).1 h
  simp only [TermOkP, Int.toNat_zero]
  exact ⟨fun e => ⟨h1, by omega, e⟩, fun e => e.2.2⟩
 ·intro e
  have := (minAt_all (c := -24) (by omega)).2 e.ge
  omega
 ·rintro ⟨_, h1, _⟩; omega
 ·rintro ⟨_, h1, _⟩; omega
 ·rintro ⟨h1, _⟩; contradiction
end Go.Proofs.Ytmogobaaophknaa
end
section
namespace Go.Proofs.Ytmogobaaophknaa
open Go Go.Lg
set_option linter.unusedSimpArgs false
set_option maxHeartbeats 4000000
attribute [local irreducible] SW runL runQ runG runQG FC Ret1
def kp64 : List (Nat × List Nat) := [(0, [0, 1]), (1, [0, 1, 7, 8]), (2, [0, 1, 7, 8, 9]), (3, [0, 1, 5, 7, 8]), (4, [0, 1, 5, 7, 8, 16]), (5, [4]), (6, [0, 1, 7, 8]), (7, [4])]
attribute [go_sem] kp64
theorem indexFuncRule_fc (tk : Tk) (xs : List (RuleT)) (p : RuleT → Prop) (f : Nat) (cap : List D) (ro : List (Nat × List D)) (hro : ∀ p ∈ ro, Lg.look ro p.1 = some p.2) (hf : ∀ x ∈ xs, FC S f ro [] [] ([RuleD x] ++ cap) (.bool (tst (p x))) [] []) : FC S 64 ro [] [] [.sl tk (xs.map RuleD), .fn f cap] (.int .i64 (fidx p xs)) [] [] := by
 refine fc_body Try.func64 rfl (by kernel_rfl) (by simp [Try.f64]) fun B => ?_
 simp only [Try.ntmps64, enumD, lst0, Nat.reduceAdd]
 refine sw_bnd 0 rfl fun hb0 => ?_
 simp only [D.bnd, List.length_map] at hb0
 repeat' first | refine sw_seq ?_ | refine sw_block ?_ | refine sw_inBlock ?_ | refine sw_skip ?_ | refine sw_go 0 kp64 fun K hK => ?_ | refine fun (K : KT) (hK : KOk S 0 _ _ _ K) => ?_ | ((first | refine runL_go ?_ | refine sw_ret (ret0 ?_) | refine sw_ret ?_); simp (disch := (refine Om.mk ?_; omega)) only [go_sem, Try.results64]) | (refine hK.nil ?_; clear hK K; simp only [go_sem]) | ((first | refine sw_cond rfl ?_ ?_) <;> intro h <;> try simp (disch := (refine Om.mk ?_; omega)) only [go_sem] at h) | refine sw_exit rfl ?_ | refine sw_loopEnd ?_ | (with_reducible refine And.intro (by first | omega | (simp only [lens]; omega)) ?_) | fail
 refine sw_loopU (ι := Nat) (fun i => [(8, .int .i64 i)]) (fun _ => []) (fun i => i ≤ xs.length ∧ (∀ j < i, ¬ p (xs.getD j default))) (fun i => xs.length - i) 0 (by (refine covers_mk0 rfl rfl ?_ ?_ ?_ ?_ <;> simp (disch := (refine Om.mk ?_; omega)) only [go_sem] <;> (try omega)); exact boxLe_mk hro) ⟨by omega, ?_⟩ (fun i ⟨hi, hj⟩ => ?_)
 rotate_left
 simp only [go_sem]
 repeat' first | refine sw_seq ?_ | refine sw_block ?_ | refine sw_inBlock ?_ | refine sw_skip ?_ | refine sw_go 0 kp64 fun K hK => ?_ | refine fun (K : KT) (hK : KOk S 0 _ _ _ K) => ?_ | ((first | refine runL_go ?_ | refine sw_ret (ret0 ?_) | refine sw_ret ?_); simp (disch := (refine Om.mk ?_; omega)) only [go_sem, Try.results64]) | (refine hK.nil ?_; clear hK K; simp only [go_sem]) | ((first | refine sw_cond rfl ?_ ?_) <;> intro h <;> try simp (disch := (refine Om.mk ?_; omega)) only [go_sem] at h) | refine sw_exit rfl ?_ | refine sw_loopEnd ?_ | (with_reducible refine And.intro (by first | omega | (simp only [lens]; omega)) ?_) | fail
 ·refine hK.call rfl rfl rfl (hf (xs.getD i default) (getD_mem _ _ (by omega))) ⟨hro, rfl, rfl, (by simp only [dstOk, Nat.reduceLT])⟩ ?_
  repeat' first | refine sw_seq ?_ | refine sw_block ?_ | refine sw_inBlock ?_ | refine sw_skip ?_ | refine sw_go 0 kp64 fun K hK => ?_ | refine fun (K : KT) (hK : KOk S 0 _ _ _ K) => ?_ | ((first | refine runL_go ?_ | refine sw_ret (ret0 ?_) | refine sw_ret ?_); simp (disch := (refine Om.mk ?_; omega)) only [go_sem, Try.results64]) | (refine hK.nil ?_; clear hK K; simp only [go_sem]) | ((first | refine sw_cond rfl ?_ ?_) <;> intro h <;> try simp (disch := (refine Om.mk ?_; omega)) only [go_sem] at h) | refine sw_exit rfl ?_ | refine sw_loopEnd ?_ | (with_reducible refine And.intro (by first | omega | (simp only [lens]; omega)) ?_) | fail
  ·exact (fidx_at hj (by omega) h).symm
  ·exact ⟨i + 1, (by (refine covers_mk0 rfl rfl ?_ ?_ ?_ ?_ <;> simp (disch := (refine Om.mk ?_; omega)) only [go_sem] <;> (try omega)); exact boxLe_mk hro), ⟨by omega, upto_succ hj h⟩, by omega⟩
 ·exact (fidx_none fun j hj' => hj j (by omega)).symm
 ·intro j hj'; omega
def kp57 : List (Nat × List Nat) := [(0, [0, 1]), (1, [4])]
attribute [go_sem] kp57
theorem containsFuncRule_fc (tk : Tk) (xs : List (RuleT)) (p : RuleT → Prop) (f : Nat) (cap : List D) (ro : List (Nat × List D)) (hro : ∀ p ∈ ro, Lg.look ro p.1 = some p.2) (hf : ∀ x ∈ xs, FC S f ro [] [] ([RuleD x] ++ cap) (.bool (tst (p x))) [] []) : FC S 57 ro [] [] [.sl tk (xs.map RuleD), .fn f cap] (.bool (tst (∃ x ∈ xs, p x))) [] [] := by
 refine fc_body Try.func57 rfl (by kernel_rfl) (by simp [Try.f57]) fun B => ?_
 simp only [Try.ntmps57, enumD, lst0, Nat.reduceAdd]
 repeat' first | refine sw_seq ?_ | refine sw_skip ?_ | refine sw_go 0 kp57 fun K hK => ?_ | refine fun (K : KT) (hK : KOk S 0 _ _ _ K) => ?_ | ((first | refine runL_go ?_ | refine sw_ret (ret0 ?_) | refine sw_ret ?_); simp (disch := (refine Om.mk ?_; omega)) only [go_sem, Try.results57]) | (refine hK.nil ?_; clear hK K; simp only [go_sem]) | refine sw_loopEnd ?_ | (with_reducible refine And.intro (by first | omega | (simp only [lens]; omega)) ?_) | fail
 refine hK.call rfl rfl rfl (indexFuncRule_fc _ _ p _ _ ro hro hf) ⟨hro, rfl, rfl, (by simp only [dstOk, Nat.reduceLT])⟩ ?_
 repeat' first | refine sw_seq ?_ | refine sw_skip ?_ | refine sw_go 0 kp57 fun K hK => ?_ | refine fun (K : KT) (hK : KOk S 0 _ _ _ K) => ?_ | ((first | refine runL_go ?_ | refine sw_ret (ret0 ?_) | refine sw_ret ?_); simp (disch := (refine Om.mk ?_; omega)) only [go_sem, Try.results57]) | (refine hK.nil ?_; clear hK K; simp only [go_sem]) | refine sw_loopEnd ?_ | (with_reducible refine And.intro (by first | omega | (simp only [lens]; omega)) ?_) | fail
 exact fidx_ge
def kp59 : List (Nat × List Nat) := [(0, [0, 1]), (1, [0, 1, 10]), (2, [4]), (3, [0, 1, 12, 13]), (4, [0, 1, 12, 13, 14]), (5, [0, 1, 5, 12, 13]), (6, [0, 1, 12, 13, 24]), (7, [4]), (8, [0, 1, 12, 13]), (9, [4])]
attribute [go_sem] kp59
theorem equalInt64_fc (tk tk' : Tk) (xs ys : List (Int)) : FC S 59 [] [] [] [.sl tk (xs.map (.int .i64)), .sl tk' (ys.map (.int .i64))] (.bool (tst (xs = ys))) [] [] := by
 refine fc_body Try.func59 rfl (by kernel_rfl) (by simp [Try.f59]) fun B => ?_
 simp only [Try.ntmps59, enumD, lst0, Nat.reduceAdd]
 refine sw_bnd 0 rfl fun hb0 => ?_
 simp only [D.bnd, List.length_map] at hb0
 refine sw_bnd 1 rfl fun hb1 => ?_
 simp only [D.bnd, List.length_map] at hb1
 repeat' first | refine sw_seq ?_ | refine sw_block ?_ | refine sw_inBlock ?_ | refine sw_skip ?_ | refine sw_go 0 kp59 fun K hK => ?_ | refine fun (K : KT) (hK : KOk S 0 _ _ _ K) => ?_ | refine sw_goD kp59 (by kernel_rfl) fun K hK => ?_ | ((first | refine runL_go ?_ | refine runQ_go ?_ | refine sw_ret (ret0 ?_) | refine sw_ret ?_); simp (disch := (refine Om.mk ?_; omega)) only [go_sem, Try.results59]) | (refine hK.nil ?_; clear hK K; simp only [go_sem]) | ((first | refine sw_cond rfl ?_ ?_) <;> intro h <;> try simp (disch := (refine Om.mk ?_; omega)) only [go_sem] at h) | refine sw_exit rfl ?_ | refine sw_loopEnd ?_ | (with_reducible refine And.intro (by first | omega | (simp only [lens]; omega)) ?_) | fail
 ·intro e; exact h (by rw [e])
 refine sw_loopU (ι := Nat) (fun i => [(13, .int .i64 i)]) (fun _ => []) (fun i => i ≤ xs.length ∧ (∀ j < i, xs.getD j default = ys.getD j default)) (fun i => xs.length - i) 0 (by (refine covers_mk0 rfl rfl ?_ ?_ ?_ ?_ <;> simp (disch := (refine Om.mk ?_; omega)) only [go_sem] <;> (try omega))) ⟨by omega, ?_⟩ (fun i ⟨hi, hj⟩ => ?_)
 rotate_left
 simp only [go_sem]
 repeat' first | refine sw_seq ?_ | refine sw_block ?_ | refine sw_inBlock ?_ | refine sw_skip ?_ | refine sw_go 0 kp59 fun K hK => ?_ | refine fun (K : KT) (hK : KOk S 0 _ _ _ K) => ?_ | refine sw_goD kp59 (by kernel_rfl) fun K hK => ?_ | ((first | refine runL_go ?_ | refine runQ_go ?_ | refine sw_ret (ret0 ?_) | refine sw_ret ?_); simp (disch := (refine Om.mk ?_; omega)) only [go_sem, Try.results59]) | (refine hK.nil ?_; clear hK K; simp only [go_sem]) | ((first | refine sw_cond rfl ?_ ?_) <;> intro h <;> try simp (disch := (refine Om.mk ?_; omega)) only [go_sem] at h) | refine sw_exit rfl ?_ | refine sw_loopEnd ?_ | (with_reducible refine And.intro (by first | omega | (simp only [lens]; omega)) ?_) | fail
 ·intro e; exact h (by rw [e])
 ·exact ⟨i + 1, by (refine covers_mk0 rfl rfl ?_ ?_ ?_ ?_ <;> simp (disch := (refine Om.mk ?_; omega)) only [go_sem] <;> (try omega)), ⟨by omega, upto_succ hj (by assumption)⟩, by omega⟩
 ·exact ext_getD (by assumption) fun j hj' => hj j (by omega)
 ·intro j hj'; omega
end Go.Proofs.Ytmogobaaophknaa
end
section
namespace Go.Proofs.Ytmogobaaophknaa
open Go Go.Lg
set_option linter.unusedSimpArgs false
set_option maxHeartbeats 4000000
attribute [local irreducible] SW runL runQ runG runQG FC Ret1
def kp37 : List (Nat × List Nat) := [(0, [0, 1]), (1, [0, 1, 10]), (2, [4]), (3, [0, 1, 5]), (4, [0, 1, 5, 14]), (6, [0, 1, 5, 25]), (7, [4]), (5, [0, 1, 5]), (8, [4])]
attribute [go_sem] kp37
theorem specSameTerm_fc (tk tk' : Tk) (xs ys : List Int) : FC S 37 [] [] [] [.sl tk (xs.map (.int .i64)), .sl tk' (ys.map (.int .i64))] (.bool (tst (xs = ys))) [] [] := by
 refine fc_body Try.func37 rfl (by kernel_rfl) (by simp [Try.f37]) fun B => ?_
 simp only [Try.ntmps37, enumD, lst0, Nat.reduceAdd]
 refine sw_bnd 0 rfl fun hb0 => ?_
 simp only [D.bnd, List.length_map] at hb0
 refine sw_bnd 1 rfl fun hb1 => ?_
 simp only [D.bnd, List.length_map] at hb1
 repeat' first | refine sw_seq ?_ | refine sw_block ?_ | refine sw_inBlock ?_ | refine sw_skip ?_ | refine sw_go 0 kp37 fun K hK => ?_ | refine fun (K : KT) (hK : KOk S 0 _ _ _ K) => ?_ | refine sw_goD kp37 (by kernel_rfl) fun K hK => ?_ | ((first | refine runL_go ?_ | refine runQ_go ?_ | refine sw_ret (ret0 ?_) | refine sw_ret ?_); simp (disch := (refine Om.mk ?_; omega)) only [go_sem, Try.results37]) | (refine hK.nil ?_; clear hK K; simp only [go_sem]) | ((first | refine sw_cond rfl ?_ ?_) <;> intro h <;> try simp (disch := (refine Om.mk ?_; omega)) only [go_sem] at h) | refine sw_exit rfl ?_ | refine sw_loopEnd ?_ | (with_reducible refine And.intro (by first | omega | (simp only [lens]; omega)) ?_) | fail
 ·intro e; exact h (by rw [e])
 refine sw_loopU (ι := Nat) (fun i => [(5, .int .i64 i)]) (fun _ => []) (fun i => i ≤ xs.length ∧ (∀ j < i, xs.getD j default = ys.getD j default)) (fun i => xs.length - i) 0 (by (refine covers_mk0 rfl rfl ?_ ?_ ?_ ?_ <;> simp (disch := (refine Om.mk ?_; omega)) only [go_sem] <;> (try omega))) ⟨by omega, ?_⟩ (fun i ⟨hi, hj⟩ => ?_)
 rotate_left
 simp only [go_sem]
 repeat' first | refine sw_seq ?_ | refine sw_block ?_ | refine sw_inBlock ?_ | refine sw_skip ?_ | refine sw_go 0 kp37 fun K hK => ?_ | refine fun (K : KT) (hK : KOk S 0 _ _ _ K) => ?_ | refine sw_goD kp37 (by kernel_rfl) fun K hK => ?_ | ((first | refine runL_go ?_ | refine runQ_go ?_ | refine sw_ret (ret0 ?_) | refine sw_ret ?_); simp (disch := (refine Om.mk ?_; omega)) only [go_sem, Try.results37]) | (refine hK.nil ?_; clear hK K; simp only [go_sem]) | ((first | refine sw_cond rfl ?_ ?_) <;> intro h <;> try simp (disch := (refine Om.mk ?_; omega)) only [go_sem] at h) | refine sw_exit rfl ?_ | refine sw_loopEnd ?_ | (with_reducible refine And.intro (by first | omega | (simp only [lens]; omega)) ?_) | fail
 ·intro e; exact h (by rw [e])
 ·exact ⟨i + 1, by (refine covers_mk0 rfl rfl ?_ ?_ ?_ ?_ <;> simp (disch := (refine Om.mk ?_; omega)) only [go_sem] <;> (try omega)), ⟨by omega, upto_succ hj (by assumption)⟩, by omega⟩
 ·exact ext_getD (by assumption) fun j hj' => hj j (by omega)
 ·intro j hj'; omega
end Go.Proofs.Ytmogobaaophknaa
end
section
namespace Go.Proofs.Ytmogobaaophknaa
open Go Go.Lg
set_option linter.unusedSimpArgs false
set_option maxHeartbeats 4000000
attribute [local irreducible] SW runL runQ runG runQG FC Ret1
end Go.Proofs.Ytmogobaaophknaa
end
section
namespace Go.Proofs.Ytmogobaaophknaa
open Go Go.Lg
set_option linter.unusedSimpArgs false
set_option maxHeartbeats 4000000
attribute [local irreducible] SW runL runQ runG runQG FC Ret1
end Go.Proofs.Ytmogobaaophknaa
end
