/-
  Unification: a term with other variables (24 below).
-/
import Derived.Test.YtlcdahaihlflaaaU10
import Derived.Test.YtlcdahaihlflaaaA02
import Derived.Test.YtlcdahaihlflaaaACl
namespace Go.Proofs.Ytlcdahaihlflaaa
open Go Go.Lg
set_option linter.unusedSimpArgs false
set_option linter.unusedVariables false
set_option maxHeartbeats 4000000
attribute [local irreducible] SW runL runQ runG runQG FC Ret1
theorem sw_freezeAtW {B : Base} {R : LS → Prop} {k : List VItem} {L : LS} (rid t s : Nat) (tk : Tk) {id n : Nat} {cs : List D} (xs : List D) {ops : Array Oper} {dr : Bool} (ht : Lg.look L.env t = some (.ms id n)) (hb : Lg.look L.boxes id = some cs) (hx : cs = flat xs) (hn : n = xs.length)
    (hu : ∀ x ∈ xs, x.cells.length = s) (hk : ∀ d ∈ cs, d.memOk = true) (htk : tk = .any ∨ tk = .nn) (hh : SW S B R (.code (.region rid ops dr) :: k) { L with env := setA L.env t (.sl tk xs), boxes := eraseK id L.boxes }) : SW S B R (.code (.region rid ops dr) :: k) L :=
  sw_freeze t s tk xs ht hb hx hn hu hk htk hh
def awF (n : Int) : Int := if n < 0 then n - 24 else n
def awayL (t : List Int) : List Int := t.map awF
def preM (f : Int → Int) (t : List Int) (i : Nat) : List Int := (t.take i).map f ++ t.drop i
theorem preM_len (f : Int → Int) (t : List Int) (i : Nat) : (preM f t i).length = t.length := by unfold preM; simp; omega
theorem preM_z (f : Int → Int) (t : List Int) : preM f t 0 = t := rfl
theorem preM_get (f : Int → Int) (t : List Int) {i : Nat} (h : i < t.length) : (preM f t i).getD i default = t.getD i default := by
  unfold preM
  simp only [List.getD_eq_getElem?_getD]
  rw [List.getElem?_append_right (by rw [List.length_map, List.length_take]; omega), List.length_map, List.length_take, List.getElem?_drop, show min i t.length = i by omega, Nat.sub_self, Nat.add_zero]
theorem preM_next (f : Int → Int) (t : List Int) {i : Nat} (h : i < t.length) : preM f t (i + 1) = (preM f t i).set i (f (t.getD i default)) := by
  unfold preM
  rw [List.take_succ_eq_append_getElem h, List.map_append, List.drop_eq_getElem_cons h, List.set_append, if_neg (by rw [List.length_map, List.length_take]; omega), List.length_map, List.length_take, show min i t.length = i by omega, Nat.sub_self, List.set_cons_zero, List.append_assoc]
  simp [List.getD, h]
theorem preM_stay (f : Int → Int) (t : List Int) {i : Nat} (h : i < t.length) (hn : f (t.getD i default) = t.getD i default) : preM f t (i + 1) = preM f t i := by
  rw [preM_next f t h, hn, ← preM_get f t h]
  have hl : i < (preM f t i).length := by rw [preM_len]; exact h
  rw [List.getD_eq_getElem?_getD, List.getElem?_eq_getElem hl, Option.getD_some, List.set_getElem_self]
theorem preM_all (f : Int → Int) (t : List Int) : preM f t t.length = t.map f := by unfold preM; simp
theorem cloneOwnW_fc (tk : Tk) (xs : List Int) (hl : xs.length ≤ 17592186044416) : FC S 90 [] [] [] [.sl tk (xs.map (.int .i64))] (.sl (.own 0 2 1) (xs.map (.int .i64))) [] [0] := by
  refine FC.args (args' := [.sl .any (xs.map (.int .i64))]) ?_ (by simp only [go_sem])
  refine fc_body1 Try.func90 rfl (by kernel_rfl) (by simp [Try.f90]) fun B => ?_
  simp only [Try.ntmps90, enumD, List.map_nil, List.map_cons, List.length_map, Nat.zero_add, Nat.reduceAdd]
  refine sw_bnd 0 rfl fun hb0 => ?_
  simp only [D.bnd, List.length_map] at hb0
  refine sw_nilcase 0 rfl (fun hx => ?_) ?_ <;> simp only [go_sem]
  · have hx : xs = [] := by simpa using hx
    subst hx
    repeat' first
      | (refine sw_tok 2 5000 2 1 rfl (.inl rfl) rfl ?_; simp only [go_sem])
      | exact Bool.noConfusion h
      | refine sw_seq ?_
      | refine sw_block ?_
      | refine sw_skip ?_
      | refine sw_inBlock ?_
      | refine sw_go 0 kp90 fun K hK => ?_
      | refine fun (K : List Oper → LS → Prop) (hK : KOk S 0 _ _ _ K) => ?_
      | ((first | refine runL_go ?_ | refine runQ_go ?_); simp (disch := (refine Om.mk ?_; omega)) only [go_sem])
      | (refine hK.nil ?_; clear hK K; simp only [go_sem])
      | (refine sw_cond rfl (fun h => ?_) (fun h => ?_) <;> (try simp (disch := (refine Om.mk ?_; omega)) only [go_sem] at h))
      | (refine sw_exit rfl ?_)
      | (refine sw_loopEnd ?_)
      | ((first | refine sw_ret (ret0 ?_) | refine sw_ret ?_); simp (disch := (refine Om.mk ?_; omega)) only [go_sem, Try.results90])
      | (with_reducible refine And.intro (by first | omega | (simp only [List.length_append, List.length_take, List.length_drop, List.length_cons, List.length_nil, List.length_map]; omega)) ?_)
      | ((with_reducible refine And.intro ?_ ?_); · first | (intro x hx; subst hx; rfl) | exact upR_mem fun _ _ => rfl | exact mapR_mem fun _ _ => rfl | (intro x; refine And.intro ?_ ?_ <;> (intros; subst_vars; rfl)))
      | fail
    exact ret1_own rfl (by simp)
  · repeat' first
      | exact Bool.noConfusion h
      | refine sw_seq ?_
      | refine sw_block ?_
      | refine sw_skip ?_
      | refine sw_inBlock ?_
      | refine sw_go 0 kp90 fun K hK => ?_
      | refine fun (K : List Oper → LS → Prop) (hK : KOk S 0 _ _ _ K) => ?_
      | ((first | refine runL_go ?_ | refine runQ_go ?_); simp (disch := (refine Om.mk ?_; omega)) only [go_sem])
      | (refine hK.nil ?_; clear hK K; simp only [go_sem])
      | (refine sw_cond rfl (fun h => ?_) (fun h => ?_) <;> (try simp (disch := (refine Om.mk ?_; omega)) only [go_sem] at h))
      | (refine sw_exit rfl ?_)
      | (refine sw_loopEnd ?_)
      | ((first | refine sw_ret (ret0 ?_) | refine sw_ret ?_); simp (disch := (refine Om.mk ?_; omega)) only [go_sem, Try.results90])
      | (with_reducible refine And.intro (by first | omega | (simp only [List.length_append, List.length_take, List.length_drop, List.length_cons, List.length_nil, List.length_map]; omega)) ?_)
      | ((with_reducible refine And.intro ?_ ?_); · first | (intro x hx; subst hx; rfl) | exact upR_mem fun _ _ => rfl | exact mapR_mem fun _ _ => rfl | (intro x; refine And.intro ?_ ?_ <;> (intros; subst_vars; rfl)))
      | fail
    exact ret1_own rfl (by simp)
def kp48 : List (Nat × List Nat) := [(0, [0]), (1, [3]), (2, [3, 8, 9, 10]), (3, [3, 8, 9, 10, 11]), (4, [3, 4, 5, 8, 9, 10]), (5, [3, 4, 5, 8, 9, 10, 16]), (6, [3, 8, 9, 10]), (7, [3, 8, 9, 10]), (8, [2])]
attribute [go_sem] kp48
theorem away_fc (t : List Int) (h1 : 1 ≤ t.length ∧ t.length ≤ 1000) (ht : ∀ x ∈ t, -24 ≤ x) : FC S 48 [] [] [] [.sl .any (t.map (.int .i64))] (.sl .any ((awayL t).map (.int .i64))) [] [] := by
  have hne : t ≠ [] := by rintro rfl; simp at h1
  refine fc_body Try.func48 rfl (by kernel_rfl) (by simp [Try.f48]) fun B => ?_
  simp only [Try.ntmps48, enumD, List.map_nil, List.map_cons, List.length_map, Nat.zero_add, Nat.reduceAdd]
  repeat' first
    | exact Bool.noConfusion h
    | refine sw_seq ?_
    | refine sw_block ?_
    | refine sw_skip ?_
    | refine sw_inBlock ?_
    | refine sw_go 0 kp48 fun K hK => ?_
    | refine fun (K : List Oper → LS → Prop) (hK : KOk S 0 _ _ _ K) => ?_
    | ((first | refine runL_go ?_ | refine runQ_go ?_); simp (disch := (refine Om.mk ?_; omega)) only [go_sem])
    | (refine hK.nil ?_; clear hK K; simp only [go_sem])
    | (refine sw_cond rfl (fun h => ?_) (fun h => ?_) <;> (try simp (disch := (refine Om.mk ?_; omega)) only [go_sem] at h))
    | (refine sw_exit rfl ?_)
    | (refine sw_loopEnd ?_)
    | ((first | refine sw_ret (ret0 ?_) | refine sw_ret ?_); simp (disch := (refine Om.mk ?_; omega)) only [go_sem, Try.results48])
    | (refine hK.callT rfl rfl rfl (cloneOwnW_fc .any t (by omega)) ⟨⟨by simp only [Nat.reduceLT], by simp, by simp [Lg.look]⟩, by assumption⟩ ?_; simp (disch := (refine Om.mk ?_; omega)) only [go_sem])
    | (with_reducible refine And.intro (by first | omega | (simp only [List.length_append, List.length_take, List.length_drop, List.length_cons, List.length_nil, List.length_map]; omega)) ?_)
    | ((with_reducible refine And.intro ?_ ?_); · first | (intro x hx; subst hx; rfl) | exact upR_mem fun _ _ => rfl | exact mapR_mem fun _ _ => rfl | (intro x; refine And.intro ?_ ?_ <;> (intros; subst_vars; rfl)))
    | fail
  refine sw_loopT (ι := Nat) (fun i => [(10, .int .i64 i)]) (fun i => [(7, (preM awF t i).map (.int .i64))]) (fun _ => []) (fun i => i ≤ t.length) (fun i => t.length - i) 0 (by rw [preM_z]; (refine covers_mk0 rfl rfl ?_ ?_ ?_ ?_ <;> simp (disch := (refine Om.mk ?_; omega)) only [go_sem] <;> (try omega)); all_goals first | rfl | exact ⟨rfl, rfl⟩ | trace_state) (by omega) (fun i hi => ?_)
  simp only [go_sem]
  have hpl := preM_len awF t i
  have hpg := @preM_get awF t i
  have hpn := @preM_next awF t i
  have hps := @preM_stay awF t i
  by_cases hil : i < t.length
  · have hpg := hpg hil
    have hx := ht _ (getD_mem t i hil)
    by_cases hv : t.getD i default < 0
    · have hf : awF (t.getD i default) = t.getD i default - 24 := if_pos hv
      repeat' first
        | ((exfalso; omega))
        | exact Bool.noConfusion h
        | refine sw_seq ?_
        | refine sw_block ?_
        | refine sw_skip ?_
        | refine sw_inBlock ?_
        | refine sw_go 0 kp48 fun K hK => ?_
        | refine fun (K : List Oper → LS → Prop) (hK : KOk S 0 _ _ _ K) => ?_
        | ((first | refine runL_go ?_ | refine runQ_go ?_); simp (disch := (refine Om.mk ?_; omega)) only [go_sem])
        | (refine hK.nil ?_; clear hK K; simp only [go_sem])
        | (refine sw_cond rfl (fun h => ?_) (fun h => ?_) <;> (try simp (disch := (refine Om.mk ?_; omega)) only [go_sem] at h))
        | (refine sw_exit rfl ?_)
        | (refine sw_loopEnd ?_)
        | ((first | refine sw_ret (ret0 ?_) | refine sw_ret ?_); simp (disch := (refine Om.mk ?_; omega)) only [go_sem, Try.results48])
        | (with_reducible refine And.intro (by first | omega | (simp only [List.length_append, List.length_take, List.length_drop, List.length_cons, List.length_nil, List.length_map]; omega)) ?_)
        | ((with_reducible refine And.intro ?_ ?_); · first | (intro x hx; subst hx; rfl) | exact upR_mem fun _ _ => rfl | exact mapR_mem fun _ _ => rfl | (intro x; refine And.intro ?_ ?_ <;> (intros; subst_vars; rfl)))
        | fail
      all_goals exact ⟨i + 1, (by rw [hpn hil, hf, ← hpg]; (refine covers_mk0 rfl rfl ?_ ?_ ?_ ?_ <;> simp (disch := (refine Om.mk ?_; omega)) only [go_sem] <;> (try omega)); all_goals first | rfl | exact ⟨rfl, by omega⟩ | omega | trace_state), by omega, by omega⟩
    · have hf : awF (t.getD i default) = t.getD i default := if_neg hv
      repeat' first
        | ((exfalso; omega))
        | exact Bool.noConfusion h
        | refine sw_seq ?_
        | refine sw_block ?_
        | refine sw_skip ?_
        | refine sw_inBlock ?_
        | refine sw_go 0 kp48 fun K hK => ?_
        | refine fun (K : List Oper → LS → Prop) (hK : KOk S 0 _ _ _ K) => ?_
        | ((first | refine runL_go ?_ | refine runQ_go ?_); simp (disch := (refine Om.mk ?_; omega)) only [go_sem])
        | (refine hK.nil ?_; clear hK K; simp only [go_sem])
        | (refine sw_cond rfl (fun h => ?_) (fun h => ?_) <;> (try simp (disch := (refine Om.mk ?_; omega)) only [go_sem] at h))
        | (refine sw_exit rfl ?_)
        | (refine sw_loopEnd ?_)
        | ((first | refine sw_ret (ret0 ?_) | refine sw_ret ?_); simp (disch := (refine Om.mk ?_; omega)) only [go_sem, Try.results48])
        | (with_reducible refine And.intro (by first | omega | (simp only [List.length_append, List.length_take, List.length_drop, List.length_cons, List.length_nil, List.length_map]; omega)) ?_)
        | ((with_reducible refine And.intro ?_ ?_); · first | (intro x hx; subst hx; rfl) | exact upR_mem fun _ _ => rfl | exact mapR_mem fun _ _ => rfl | (intro x; refine And.intro ?_ ?_ <;> (intros; subst_vars; rfl)))
        | fail
      all_goals exact ⟨i + 1, (by rw [hps hil hf]; (refine covers_mk0 rfl rfl ?_ ?_ ?_ ?_ <;> simp (disch := (refine Om.mk ?_; omega)) only [go_sem] <;> (try omega)); all_goals first | rfl | exact ⟨rfl, by omega⟩ | omega | trace_state), by omega, by omega⟩
  · repeat' first
      | ((exfalso; omega))
      | ((refine sw_freezeAtW 8 3 1 .any ((preM awF t i).map (.int .i64)) rfl rfl (flat_ints _).symm (by rw [List.length_map, hpl]) (cells_one fun _ => rfl) (memOk_ints _) (.inl rfl) ?_; simp only [go_sem]))
      | exact Bool.noConfusion h
      | refine sw_seq ?_
      | refine sw_block ?_
      | refine sw_skip ?_
      | refine sw_inBlock ?_
      | refine sw_go 0 kp48 fun K hK => ?_
      | refine fun (K : List Oper → LS → Prop) (hK : KOk S 0 _ _ _ K) => ?_
      | ((first | refine runL_go ?_ | refine runQ_go ?_); simp (disch := (refine Om.mk ?_; omega)) only [go_sem])
      | (refine hK.nil ?_; clear hK K; simp only [go_sem])
      | (refine sw_cond rfl (fun h => ?_) (fun h => ?_) <;> (try simp (disch := (refine Om.mk ?_; omega)) only [go_sem] at h))
      | (refine sw_exit rfl ?_)
      | (refine sw_loopEnd ?_)
      | ((first | refine sw_ret (ret0 ?_) | refine sw_ret ?_); simp (disch := (refine Om.mk ?_; omega)) only [go_sem, Try.results48])
      | (with_reducible refine And.intro (by first | omega | (simp only [List.length_append, List.length_take, List.length_drop, List.length_cons, List.length_nil, List.length_map]; omega)) ?_)
      | ((with_reducible refine And.intro ?_ ?_); · first | (intro x hx; subst hx; rfl) | exact upR_mem fun _ _ => rfl | exact mapR_mem fun _ _ => rfl | (intro x; refine And.intro ?_ ?_ <;> (intros; subst_vars; rfl)))
      | fail
    all_goals (rw [show i = t.length by omega, preM_all]; rfl)
end Go.Proofs.Ytlcdahaihlflaaa
