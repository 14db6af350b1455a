/-
  U11, U1x, U14, U15, U16, U20, P20, P21, one behind the other.
-/
import Derived.Test.YtmogobaaophknaaG6
import Derived.Test.YtmogobaaophknaaG4
section
namespace Go.Proofs.Ytmogobaaophknaa
open Go Go.Lg
set_option linter.unusedSimpArgs false
set_option linter.unusedVariables false
set_option maxHeartbeats 4000000
attribute [local irreducible] SW runL runQ runG runQG FC Ret1
theorem sw_freezeAtW {B : Base} {R : LS → Prop} {k : List VItem} {L : LS} (rid t s : Nat) (tk : Tk) {id n : Nat} {cs : List D} (xs : List D) {ops : Array Oper} {dr : Bool} (ht : Lg.look L.env t = some (.ms id n)) (hb : Lg.look L.boxes id = some cs) (hx : cs = flat xs) (hn : n = xs.length)
  (hu : ∀ x ∈ xs, x.cells.length = s) (hk : ∀ d ∈ cs, d.memOk = true) (htk : tk = .any ∨ tk = .nn) (hh : SW S B R (.code (.region rid ops dr) :: k) { L with env := setA L.env t (.sl tk xs), boxes := eraseK id L.boxes }) : SW S B R (.code (.region rid ops dr) :: k) L :=
 sw_freeze t s tk xs ht hb hx hn hu hk htk hh
def awF (n : Int) : Int := if n < 0 then n - 24 else n
def awayL (t : List Int) : List Int := t.map awF
def preM (f : Int → Int) (t : List Int) (i : Nat) : List Int := (t.take i).map f ++ t.drop i
theorem preM_len (f : Int → Int) (t : List Int) (i : Nat) : (preM f t i).length = t.length := by unfold preM; simp; omega
theorem preM_z (f : Int → Int) (t : List Int) : preM f t 0 = t := rfl
theorem preM_get (f : Int → Int) (t : List Int) {i : Nat} (h : i < t.length) : (preM f t i).getD i default = t.getD i default := by
 unfold preM
 simp only [List.getD_eq_getElem?_getD]
 rw [List.getElem?_append_right (by rw [List.length_map, List.length_take]; omega), List.length_map, List.length_take, List.getElem?_drop, show min i t.length = i by omega, Nat.sub_self, Nat.add_zero]
theorem preM_next (f : Int → Int) (t : List Int) {i : Nat} (h : i < t.length) : preM f t (i + 1) = (preM f t i).set i (f (t.getD i default)) := by
 unfold preM
 rw [List.take_succ_eq_append_getElem h, List.map_append, List.drop_eq_getElem_cons h, List.set_append, if_neg (by rw [List.length_map, List.length_take]; omega), List.length_map, List.length_take, show min i t.length = i by omega, Nat.sub_self, List.set_cons_zero, List.append_assoc]
 simp [List.getD, h]
theorem preM_stay (f : Int → Int) (t : List Int) {i : Nat} (h : i < t.length) (hn : f (t.getD i default) = t.getD i default) : preM f t (i + 1) = preM f t i := by
 rw [preM_next f t h, hn, ← preM_get f t h]
 have hl : i < (preM f t i).length := by rw [preM_len]; exact h
 rw [List.getD_eq_getElem?_getD, List.getElem?_eq_getElem hl, Option.getD_some, List.set_getElem_self]
theorem preM_all (f : Int → Int) (t : List Int) : preM f t t.length = t.map f := by unfold preM; simp
theorem cloneOwnW_fc (tk : Tk) (xs : List Int) (hl : xs.length ≤ 17592186044416) : FC S 50 [] [] [] [.sl tk (xs.map (.int .i64))] (.sl (.own 0 2 1) (xs.map (.int .i64))) [] [0] := by
 refine FC.args (args' := [.sl .any (xs.map (.int .i64))]) ?_ (by simp only [go_sem])
 refine fc_body1 Try.func50 rfl (by kernel_rfl) (by simp [Try.f50]) fun B => ?_
 simp only [Try.ntmps50, enumD, lst0, Nat.reduceAdd]
 refine sw_bnd 0 rfl fun hb0 => ?_
 simp only [D.bnd, List.length_map] at hb0
 refine sw_nilcase 0 rfl (fun hx => ?_) ?_ <;> simp only [go_sem]
 ·have hx : xs = [] := by simpa using hx
  subst hx
  repeat' first | (refine sw_tok 2 5000 2 1 rfl (.inl rfl) rfl ?_; simp only [go_sem]) | refine sw_seq ?_ | refine sw_skip ?_ | refine sw_go 0 kp50 fun K hK => ?_ | refine fun (K : KT) (hK : KOk S 0 _ _ _ K) => ?_ | ((first | refine runL_go ?_ | refine sw_ret (ret0 ?_) | refine sw_ret ?_); simp (disch := (refine Om.mk ?_; omega)) only [go_sem, Try.results50]) | (refine hK.nil ?_; clear hK K; simp only [go_sem]) | ((first | refine sw_cond rfl ?_ ?_) <;> intro h <;> try simp (disch := (refine Om.mk ?_; omega)) only [go_sem] at h) | (with_reducible refine And.intro (by first | omega | (simp only [lens]; omega)) ?_) | ((with_reducible refine And.intro ?_ ?_); · first | (intro x hx; subst hx; rfl) | (intro x; refine And.intro ?_ ?_ <;> (intros; subst_vars; rfl))) | fail
  exact ret1_own rfl (by simp)
 ·repeat' first | refine sw_seq ?_ | refine sw_skip ?_ | refine sw_go 0 kp50 fun K hK => ?_ | refine fun (K : KT) (hK : KOk S 0 _ _ _ K) => ?_ | ((first | refine runL_go ?_ | refine sw_ret (ret0 ?_) | refine sw_ret ?_); simp (disch := (refine Om.mk ?_; omega)) only [go_sem, Try.results50]) | (refine hK.nil ?_; clear hK K; simp only [go_sem]) | ((first | refine sw_cond rfl ?_ ?_) <;> intro h <;> try simp (disch := (refine Om.mk ?_; omega)) only [go_sem] at h) | (with_reducible refine And.intro (by first | omega | (simp only [lens]; omega)) ?_) | ((with_reducible refine And.intro ?_ ?_); · first | (intro x hx; subst hx; rfl) | (intro x; refine And.intro ?_ ?_ <;> (intros; subst_vars; rfl))) | fail
  exact ret1_own rfl (by simp)
def kp43 : List (Nat × List Nat) := [(0, [0]), (1, [3]), (2, [3, 8, 9, 10]), (3, [3, 8, 9, 10, 11]), (4, [3, 4, 5, 8, 9, 10]), (5, [3, 4, 5, 8, 9, 10, 16]), (6, [3, 8, 9, 10]), (7, [3, 8, 9, 10]), (8, [2])]
attribute [go_sem] kp43
theorem away_fc (t : List Int) (h1 : 1 ≤ t.length ∧ t.length ≤ 1000) (ht : ∀ x ∈ t, -24 ≤ x) : FC S 43 [] [] [] [.sl .any (t.map (.int .i64))] (.sl .any ((awayL t).map (.int .i64))) [] [] := by
 have hne : t ≠ [] := by rintro rfl; simp at h1
 refine fc_body Try.func43 rfl (by kernel_rfl) (by simp [Try.f43]) fun B => ?_
 simp only [Try.ntmps43, enumD, lst0, Nat.reduceAdd]
 repeat' first | refine sw_seq ?_ | refine sw_block ?_ | refine sw_inBlock ?_ | refine sw_skip ?_ | refine sw_go 0 kp43 fun K hK => ?_ | refine fun (K : KT) (hK : KOk S 0 _ _ _ K) => ?_ | ((first | refine runL_go ?_ | refine sw_ret (ret0 ?_) | refine sw_ret ?_); simp (disch := (refine Om.mk ?_; omega)) only [go_sem, Try.results43]) | (refine hK.nil ?_; clear hK K; simp only [go_sem]) | ((first | refine sw_cond rfl ?_ ?_) <;> intro h <;> try simp (disch := (refine Om.mk ?_; omega)) only [go_sem] at h) | refine sw_exit rfl ?_ | refine sw_loopEnd ?_ | (refine hK.callT rfl rfl rfl (cloneOwnW_fc .any t (by omega)) ⟨⟨by simp only [Nat.reduceLT], by simp, by simp [Lg.look]⟩, by assumption⟩ ?_; simp (disch := (refine Om.mk ?_; omega)) only [go_sem]) | (with_reducible refine And.intro (by first | omega | (simp only [lens]; omega)) ?_) | fail
 refine sw_loopT (ι := Nat) (fun i => [(10, .int .i64 i)]) (fun i => [(7, (preM awF t i).map (.int .i64))]) (fun _ => []) (fun i => i ≤ t.length) (fun i => t.length - i) 0 (by rw [preM_z]; (refine covers_mk0 rfl rfl ?_ ?_ ?_ ?_ <;> simp (disch := (refine Om.mk ?_; omega)) only [go_sem] <;> (try omega)); all_goals first | rfl | exact ⟨rfl, rfl⟩ | trace_state) (by omega) (fun i hi => ?_)
 simp only [go_sem]
 have hpl := preM_len awF t i
 have hpg := @preM_get awF t i
 have hpn := @preM_next awF t i
 have hps := @preM_stay awF t i
 by_cases hil : i < t.length
 ·have hpg := hpg hil
  have hx := ht _ (getD_mem t i hil)
  by_cases hv : t.getD i default < 0
  ·have hf : awF (t.getD i default) = t.getD i default - 24 := if_pos hv
   repeat' first | ((exfalso; omega)) | refine sw_seq ?_ | refine sw_block ?_ | refine sw_inBlock ?_ | refine sw_skip ?_ | refine sw_go 0 kp43 fun K hK => ?_ | refine fun (K : KT) (hK : KOk S 0 _ _ _ K) => ?_ | ((first | refine runL_go ?_ | refine sw_ret (ret0 ?_) | refine sw_ret ?_); simp (disch := (refine Om.mk ?_; omega)) only [go_sem, Try.results43]) | (refine hK.nil ?_; clear hK K; simp only [go_sem]) | ((first | refine sw_cond rfl ?_ ?_) <;> intro h <;> try simp (disch := (refine Om.mk ?_; omega)) only [go_sem] at h) | refine sw_exit rfl ?_ | refine sw_loopEnd ?_ | (with_reducible refine And.intro (by first | omega | (simp only [lens]; omega)) ?_) | fail
   all_goals exact ⟨i + 1, (by rw [hpn hil, hf, ← hpg]; (refine covers_mk0 rfl rfl ?_ ?_ ?_ ?_ <;> simp (disch := (refine Om.mk ?_; omega)) only [go_sem] <;> (try omega)); all_goals first | rfl | exact ⟨rfl, by omega⟩ | omega | trace_state), by omega, by omega⟩
  ·have hf : awF (t.getD i default) = t.getD i default := if_neg hv
   repeat' first | ((exfalso; omega)) | refine sw_seq ?_ | refine sw_block ?_ | refine sw_inBlock ?_ | refine sw_skip ?_ | refine sw_go 0 kp43 fun K hK => ?_ | refine fun (K : KT) (hK : KOk S 0 _ _ _ K) => ?_ | ((first | refine runL_go ?_ | refine sw_ret (ret0 ?_) | refine sw_ret ?_); simp (disch := (refine Om.mk ?_; omega)) only [go_sem, Try.results43]) | (refine hK.nil ?_; clear hK K; simp only [go_sem]) | ((first | refine sw_cond rfl ?_ ?_) <;> intro h <;> try simp (disch := (refine Om.mk ?_; omega)) only [go_sem] at h) | refine sw_exit rfl ?_ | refine sw_loopEnd ?_ | (with_reducible refine And.intro (by first | omega | (simp only [lens]; omega)) ?_) | fail
   all_goals exact ⟨i + 1, (by rw [hps hil hf]; (refine covers_mk0 rfl rfl ?_ ?_ ?_ ?_ <;> simp (disch := (refine Om.mk ?_; omega)) only [go_sem] <;> (try omega)); all_goals first | rfl | exact ⟨rfl, by omega⟩ | omega | trace_state), by omega, by omega⟩
 ·repeat' first | ((exfalso; omega)) | ((refine sw_freezeAtW 8 3 1 .any ((preM awF t i).map (.int .i64)) rfl rfl (flat_ints _).symm (by rw [List.length_map, hpl]) (cells_one fun _ => rfl) (memOk_ints _) (.inl rfl) ?_; simp only [go_sem])) | refine sw_seq ?_ | refine sw_block ?_ | refine sw_inBlock ?_ | refine sw_skip ?_ | refine sw_go 0 kp43 fun K hK => ?_ | refine fun (K : KT) (hK : KOk S 0 _ _ _ K) => ?_ | ((first | refine runL_go ?_ | refine sw_ret (ret0 ?_) | refine sw_ret ?_); simp (disch := (refine Om.mk ?_; omega)) only [go_sem, Try.results43]) | (refine hK.nil ?_; clear hK K; simp only [go_sem]) | ((first | refine sw_cond rfl ?_ ?_) <;> intro h <;> try simp (disch := (refine Om.mk ?_; omega)) only [go_sem] at h) | refine sw_exit rfl ?_ | refine sw_loopEnd ?_ | (with_reducible refine And.intro (by first | omega | (simp only [lens]; omega)) ?_) | fail
  all_goals (rw [show i = t.length by omega, preM_all]; rfl)
end Go.Proofs.Ytmogobaaophknaa
end
section
namespace Go.Proofs.Ytmogobaaophknaa
open Go Go.Lg
set_option linter.unusedSimpArgs false
set_option linter.unusedVariables false
theorem phiL_id {rs t : List Int} (h : TermOkP rs t) : phiL t = t := by
 unfold phiL
 conv => rhs; rw [← List.map_id t]
 exact List.map_congr_left fun x hx => by have := h.ge x hx; unfold phi; rw [if_neg (by omega)]; rfl
theorem XT.of {rs t : List Int} (h : TermOkP rs t) : XT rs t := ⟨by rw [phiL_id h]; exact h, fun x hx => by have := h.ge x hx; omega⟩
theorem phi_aw {n : Int} (h : -24 ≤ n) : phi (awF n) = n := by unfold phi awF; split <;> split <;> omega
theorem phiL_away {rs t : List Int} (h : TermOkP rs t) : phiL (awayL t) = t := by
 unfold phiL awayL
 rw [List.map_map]
 conv => rhs; rw [← List.map_id t]
 exact List.map_congr_left fun x hx => phi_aw (h.ge x hx)
theorem XT.away {rs t : List Int} (h : TermOkP rs t) : XT rs (awayL t) := ⟨by rw [phiL_away h]; exact h, fun x hx => by
 obtain ⟨y, hy, rfl⟩ := List.mem_map.1 hx
 have := h.ge y hy
 unfold awF; split <;> omega⟩
def b0 : Bds := List.replicate 48 []
theorem b0_get (i : Nat) : b0.getD i default = [] := by
 unfold b0
 rw [List.getD_eq_getElem?_getD, List.getElem?_replicate]
 split <;> rfl
theorem b0_ok (rs : List Int) : BOK rs b0 := ⟨by simp [b0], fun x hx => .inl (List.eq_of_mem_replicate hx)⟩
end Go.Proofs.Ytmogobaaophknaa
end
section
namespace Go.Proofs.Ytmogobaaophknaa
open Go Go.Lg
set_option linter.unusedVariables false
set_option linter.unusedSimpArgs false
def ap (σ : Int → List Int) (t : List Int) : List Int := t.flatMap fun x => if x < 0 then σ x else [x]
theorem ap_nil (σ : Int → List Int) : ap σ [] = [] := rfl
theorem ap_cons (σ : Int → List Int) (x : Int) (t : List Int) : ap σ (x :: t) = (if x < 0 then σ x else [x]) ++ ap σ t := rfl
theorem ap_flatten (σ : Int → List Int) : ∀ xs : List (List Int), ap σ xs.flatten = (xs.map (ap σ)).flatten
 | [] => rfl
 | x :: xs => by
  have := ap_flatten σ xs
  simp only [ap, List.flatten_cons, List.flatMap_append, List.map_cons] at this ⊢
  rw [this]
def GS (rs : List Int) (σ : Int → List Int) : Prop := ∀ x, x < 0 → Fl rs 1 (σ x)
def Sat (σ : Int → List Int) (β : Bds) : Prop := ∀ i : Nat, β.getD i default ≠ [] → σ (-1 - (i : Int)) = ap σ (β.getD i default)
theorem phi_lt0 {x : Int} (h : x < 0) (h8 : -48 ≤ x) : -24 ≤ phi x ∧ phi x ≤ -1 := by unfold phi; split <;> omega
theorem ap_flk {rs : List Int} {σ : Int → List Int} (hσ : GS rs σ) : ∀ (t : List Int) (k : Nat), Fl rs k (phiL t) → (∀ x ∈ t, -48 ≤ x) → Fl rs k (ap σ t)
 | [], k, h, _ => h
 | x :: t, k, h, h8 => by
  have e : phiL (x :: t) = phi x :: phiL t := rfl
  rw [e] at h
  cases h with
  | @cons _ k' _ h0 r =>
   have hx8 := h8 x List.mem_cons_self
   have ht8 : ∀ y ∈ t, -48 ≤ y := fun y hy => h8 y (List.mem_cons_of_mem _ hy)
   rw [ap_cons]
   by_cases hx : x < 0
   ·rw [if_pos hx]
    rw [arS_var (phi_lt0 hx hx8)] at r
    have := (hσ x hx).app (ap_flk hσ t _ r ht8)
    rwa [Int.toNat_zero, Nat.add_zero, Nat.add_comm] at this
   ·rw [if_neg hx]
    rw [phi_pos (by omega)] at h0 r
    exact .cons h0 (ap_flk hσ t _ r ht8)
theorem ap_fl {rs : List Int} {σ : Int → List Int} (hσ : GS rs σ) {t : List Int} (h : XT rs t) : Fl rs 1 (ap σ t) := ap_flk hσ t 1 (termOk_fl h.1) h.2
theorem ap_pos {rs : List Int} {σ : Int → List Int} (hσ : GS rs σ) {t : List Int} (h : XT rs t) : 1 ≤ (ap σ t).length := (ap_fl hσ h).len
theorem xt_cons {rs t : List Int} (h : XT rs t) : ∃ l, t = hd t :: l ∧ 0 ≤ arS rs (phi (hd t)) ∧ Fl rs (arS rs (phi (hd t))).toNat (phiL l) := by
 have hl := h.len
 cases t with
 | nil => simp at hl
 | cons x l =>
  refine ⟨l, rfl, ?_⟩
  have h1 := termOk_fl h.1
  have e : phiL (x :: l) = phi x :: phiL l := rfl
  rw [e] at h1
  cases h1 with
  | @cons _ k' _ h0 r =>
   rw [Nat.zero_add] at r
   exact ⟨h0, r⟩
theorem xt_var {rs t : List Int} (h : XT rs t) (hn : hd t < 0) : t = [hd t] := by
 obtain ⟨l, e, h0, h1⟩ := xt_cons h
 have h8 := (h.get (a := 0) (by have := h.len; omega)).1
 rw [arS_var (phi_lt0 hn h8)] at h1
 have h2 := h1.zero
 have h3 : l = [] := by
  cases l with
  | nil => rfl
  | cons y l => simp [phiL] at h2
 rw [h3] at e
 exact e
theorem ap_var {σ : Int → List Int} {x : Int} (h : x < 0) : ap σ [x] = σ x := by
 rw [ap_cons, if_pos h, ap_nil, List.append_nil]
def partsX (rs a : List Int) : List (List Int) := (List.range (argsS rs (phiL a) 0).length).map fun k => subX rs a ((argsS rs (phiL a) 0).getD k default)
theorem parts_flat {rs t : List Int} (h : XT rs t) : t = hd t :: (partsX rs t).flatten := by
  have h1 := flat_pre h _ (Nat.le_refl _)
  obtain ⟨l, e, h0, h2⟩ := xt_cons h
  have hl := h.len
  have e0 : phiL t = [phi (hd t)] ++ (phiL l ++ []) := by
    have : phiL t = phiL (hd t :: l) := congrArg phiL e
    rw [this]; simp [phiL]
  have hn : (argsS rs (phiL t) 0).length = (arS rs (phi (hd t))).toNat := by
    unfold argsS
    rw [begS_length, phiL_get t 0 (by omega)]
    rfl
  obtain ⟨l1, l2, e1, h3, h4, h5⟩ := Fl.cut [phi (hd t)] [] _ _ _ h2 (Nat.le_refl _)
  rw [Nat.sub_self] at h4
  have e2 := h4.zero
  rw [e2, List.append_nil] at e1
  have h6 : nthB rs (phiL t) 1 (argsS rs (phiL t) 0).length = t.length := by
    rw [hn, e0]
    have h5' := h5
    simp only [List.length_cons, List.length_nil, Nat.zero_add] at h5'
    rw [h5', ← e1, ← phiL_len t, e0]
    simp
  rw [h6, List.drop_length, List.append_nil] at h1
  have e3 : t = hd t :: t.drop 1 := by
    conv => lhs; rw [e]
    rw [show t.drop 1 = l by conv => lhs; rw [e]
                             rfl]
  conv => lhs; rw [e3, h1]
  rfl
theorem partsX_ok {rs a : List Int} (h : XT rs a) : ∀ x ∈ partsX rs a, XT rs x := fun x hx => by
 simp only [partsX, List.mem_map, List.mem_range] at hx
 obtain ⟨k, hk, rfl⟩ := hx
 exact subX_ok h (argsX_lt h hk)
theorem flatten_inj {rs : List Int} : ∀ (xs ys : List (List Int)), xs.length = ys.length → (∀ x ∈ xs, Fl rs 1 x) → (∀ y ∈ ys, Fl rs 1 y) → xs.flatten = ys.flatten → xs = ys
 | [], [], _, _, _, _ => rfl
 | x :: xs, y :: ys, hl, hx, hy, e => by
  obtain ⟨e1, e2⟩ := (hx x List.mem_cons_self).uniq (hy y List.mem_cons_self) e
  rw [e1, flatten_inj xs ys (by simpa using hl) (fun z hz => hx z (List.mem_cons_of_mem _ hz)) (fun z hz => hy z (List.mem_cons_of_mem _ hz)) e2]
 | [], _ :: _, hl, _, _, _ => by simp at hl
 | _ :: _, [], hl, _, _, _ => by simp at hl
theorem ap_node {rs : List Int} {σ : Int → List Int} {t : List Int} (h : XT rs t) (h0 : 0 ≤ hd t) : ap σ t = hd t :: ((partsX rs t).map (ap σ)).flatten := by
 conv => lhs; rw [parts_flat h]
 rw [ap_cons, if_neg (by omega), ap_flatten]
 rfl
theorem map_eq_pairs {α β : Type} (f : α → β) : ∀ ps : List (α × α), (ps.map (·.1)).map f = (ps.map (·.2)).map f ↔ ∀ p ∈ ps, f p.1 = f p.2
 | [] => by simp
 | p :: ps => by
  simp only [List.map_cons, List.cons.injEq, List.mem_cons, forall_eq_or_imp, map_eq_pairs f ps]
theorem pairs_fst (rs a b : List Int) : (pairsX rs a b).map (·.1) = partsX rs a := fst_flat rs a b
theorem pairs_snd {rs a b : List Int} (hA : XT rs a) (hB : XT rs b) (he : hd a = hd b) : (pairsX rs a b).map (·.2) = partsX rs b := by
 rw [snd_flat, ← argsX_len hA hB he]; rfl
theorem dec_iff {rs a b : List Int} {σ : Int → List Int} (hσ : GS rs σ) (hA : XT rs a) (hB : XT rs b) (he : hd a = hd b) (h0 : 0 ≤ hd a) : ap σ a = ap σ b ↔ ∀ p ∈ pairsX rs a b, ap σ p.1 = ap σ p.2 := by
 rw [← map_eq_pairs (ap σ), pairs_fst, pairs_snd hA hB he, ap_node hA h0, ap_node hB (by omega), he]
 constructor
 ·intro e
  have e := (List.cons.inj e).2
  refine flatten_inj (rs := rs) _ _ ?_ ?_ ?_ e
  ·rw [List.length_map, List.length_map, ← pairs_fst rs a b, ← pairs_snd hA hB he, List.length_map, List.length_map]
  ·intro x hx
   obtain ⟨y, hy, rfl⟩ := List.mem_map.1 hx
   exact ap_fl hσ (partsX_ok hA y hy)
  ·intro x hx
   obtain ⟨y, hy, rfl⟩ := List.mem_map.1 hx
   exact ap_fl hσ (partsX_ok hB y hy)
 ·intro e; rw [e]
theorem sum_parts {rs a : List Int} {σ : Int → List Int} (hA : XT rs a) (h0 : 0 ≤ hd a) : (((partsX rs a).map (ap σ)).map List.length).sum + 1 = (ap σ a).length := by
 rw [ap_node hA h0, List.length_cons, List.length_flatten]
def Edge (β : Bds) (i j : Nat) : Prop := ∃ x ∈ β.getD i default, x < 0 ∧ vIx x = j
inductive Rch (β : Bds) : Nat → Nat → Prop
 | refl (i : Nat) : Rch β i i
 | step {i j k : Nat} (h : Edge β i j) (r : Rch β j k) : Rch β i k
theorem Rch.trans {β : Bds} {i j k : Nat} (h : Rch β i j) (h' : Rch β j k) : Rch β i k := by
 induction h with
 | refl => exact h'
 | step e _ ih => exact .step e (ih h')
def Acy (β : Bds) : Prop := ∀ i j, Edge β i j → ¬ Rch β j i
theorem filter_lt {p q : Nat → Bool} (h : ∀ x, p x = true → q x = true) : ∀ l : List Nat, (∃ x ∈ l, q x = true ∧ p x = false) → (l.filter p).length < (l.filter q).length
 | [], ⟨x, hx, _⟩ => by cases hx
 | y :: l, ⟨x, hx, h1, h2⟩ => by
  have hle : ∀ l : List Nat, (l.filter p).length ≤ (l.filter q).length := fun l => by
   induction l with
   | nil => exact Nat.le_refl _
   | cons z l ih =>
    by_cases hz : p z = true
    ·rw [List.filter_cons_of_pos hz, List.filter_cons_of_pos (h z hz), List.length_cons, List.length_cons]; omega
    ·rw [List.filter_cons_of_neg hz]
     by_cases hz' : q z = true
     ·rw [List.filter_cons_of_pos hz', List.length_cons]; omega
     ·rw [List.filter_cons_of_neg hz']; exact ih
  rcases List.mem_cons.1 hx with rfl | hx
  ·rw [List.filter_cons_of_pos h1, List.filter_cons_of_neg (by rw [h2]; simp), List.length_cons]
   have := hle l; omega
  ·have ih := filter_lt h l ⟨x, hx, h1, h2⟩
   by_cases hz : p y = true
   ·rw [List.filter_cons_of_pos hz, List.filter_cons_of_pos (h y hz), List.length_cons, List.length_cons]; omega
   ·rw [List.filter_cons_of_neg hz]
    by_cases hz' : q y = true
    ·rw [List.filter_cons_of_pos hz', List.length_cons]; omega
    ·rw [List.filter_cons_of_neg hz']; exact ih
theorem edge_lt {rs : List Int} {β : Bds} (hβ : BOK rs β) {i j : Nat} (h : Edge β i j) : i < 48 := by
 obtain ⟨x, hx, _⟩ := h
 by_cases hl : i < β.length
 ·rw [← hβ.1]; exact hl
 ·rw [List.getD_eq_getElem?_getD, List.getElem?_eq_none (by omega)] at hx
  cases hx
theorem rank_ex {rs : List Int} {β : Bds} (hβ : BOK rs β) (hA : Acy β) : ∃ r : Nat → Nat, (∀ i j, Edge β i j → r j < r i) ∧ ∀ i, r i ≤ 48 := by
 classical
 refine ⟨fun i => ((List.range 48).filter fun k => decide (Rch β i k)).length, fun i j he => ?_, fun i => ?_⟩
 ·refine filter_lt (fun k hk => ?_) _ ⟨i, List.mem_range.2 (edge_lt hβ he), ?_, ?_⟩
  ·exact decide_eq_true (.step he (of_decide_eq_true hk))
  ·exact decide_eq_true (.refl i)
  ·exact decide_eq_false (hA i j he)
 ·exact Nat.le_trans (List.length_filter_le _ _) (by simp)
def itS (β : Bds) : Nat → Int → List Int
 | 0, _ => [-1]
 | n + 1, x => if β.getD (vIx x) default = [] then [-1] else ap (itS β n) (β.getD (vIx x) default)
theorem one_fl (rs : List Int) : Fl rs 1 [-1] := .cons (by rw [arS_var (by omega)]; omega) (by rw [arS_var (by omega)]; exact .nil)
theorem itS_gs {rs : List Int} {β : Bds} (hβ : BOK rs β) : ∀ n, GS rs (itS β n)
 | 0 => fun x _ => one_fl rs
 | n + 1 => fun x hx => by
  unfold itS
  split
  ·exact one_fl rs
  ·rename_i h
   exact ap_fl (itS_gs hβ n) (hβ.get h)
theorem ap_congr {σ τ : Int → List Int} : ∀ {t : List Int}, (∀ x ∈ t, x < 0 → σ x = τ x) → ap σ t = ap τ t
 | [], _ => rfl
 | x :: t, h => by
  rw [ap_cons, ap_cons, ap_congr fun y hy => h y (List.mem_cons_of_mem _ hy)]
  by_cases hx : x < 0
  ·rw [if_pos hx, if_pos hx, h x List.mem_cons_self hx]
  ·rw [if_neg hx, if_neg hx]
theorem sol_ex {rs : List Int} {β : Bds} (hβ : BOK rs β) (hA : Acy β) : ∃ σ, GS rs σ ∧ Sat σ β := by
 obtain ⟨r, hr, h48⟩ := rank_ex hβ hA
 have st : ∀ n x, x < 0 → r (vIx x) < n → itS β n x = itS β (n + 1) x := by
  intro n
  induction n with
  | zero => intro x _ h; omega
  | succ n ih =>
   intro x hx h
   show (if β.getD (vIx x) default = [] then [-1] else ap (itS β n) (β.getD (vIx x) default)) = if β.getD (vIx x) default = [] then [-1] else ap (itS β (n + 1)) (β.getD (vIx x) default)
   split
   ·rfl
   ·exact ap_congr fun y hy h0 => ih y h0 (by have := hr (vIx x) (vIx y) ⟨y, hy, h0, rfl⟩; omega)
 refine ⟨itS β 49, itS_gs hβ 49, fun i hi => ?_⟩
 have hv : vIx (-1 - (i : Int)) = i := by unfold vIx; omega
 rw [st 49 _ (by omega) (by rw [hv]; have := h48 i; omega)]
 show (if β.getD (vIx (-1 - (i : Int))) default = [] then [-1] else ap (itS β 49) (β.getD (vIx (-1 - (i : Int))) default)) = _
 rw [hv, if_neg hi]
theorem sat_at {σ : Int → List Int} {β : Bds} (h : Sat σ β) {x : Int} (hx : x < 0) (hb : β.getD (vIx x) default ≠ []) : σ x = ap σ (β.getD (vIx x) default) := by
 have := h (vIx x) hb
 rwa [show -1 - ((vIx x : Nat) : Int) = x by unfold vIx; omega] at this
theorem root_law {rs : List Int} {β : Bds} (hβ : BOK rs β) {r : Nat → Nat} (hr : ∀ i j, Edge β i j → r j < r i) : ∀ (g : Nat) (t : List Int), XT rs t → (hd t < 0 → r (vIx (hd t)) < g) → ∃ u, rootM β (g + 1) t = some u ∧ XT rs u ∧ (hd u < 0 → β.getD (vIx (hd u)) default = []) ∧ (∀ σ, Sat σ β → ap σ u = ap σ t) ∧ ∀ i, (∃ x ∈ u, x < 0 ∧ Rch β (vIx x) i) → ∃ x ∈ t, x < 0 ∧ Rch β (vIx x) i
 | g, t, hT, hg => by
  by_cases hc : hd t < 0 ∧ β.getD (vIx (hd t)) default ≠ []
  ·obtain ⟨g', rfl⟩ : ∃ g', g = g' + 1 := ⟨g - 1, by have := hg hc.1; omega⟩
   have hb := hβ.get hc.2
   have hlb := hb.len
   have hmem : hd (β.getD (vIx (hd t)) default) ∈ β.getD (vIx (hd t)) default := getD_mem _ 0 (by omega)
   obtain ⟨u, h1, h2, h3, h4, h5⟩ := root_law hβ hr g' _ hb (fun h0 => by
    have := hr (vIx (hd t)) _ ⟨_, hmem, h0, rfl⟩
    have := hg hc.1
    omega)
   have ht : t = [hd t] := xt_var hT hc.1
   refine ⟨u, ?_, h2, h3, fun σ hs => ?_, fun i hi => ?_⟩
   ·rw [rootM]; exact (if_pos hc).trans h1
   ·rw [h4 σ hs, ← sat_at hs hc.1 hc.2, ← ap_var (σ := σ) hc.1, ← ht]
   ·obtain ⟨x, hx, h0, hxr⟩ := h5 i hi
    exact ⟨hd t, by rw [ht]; exact List.mem_singleton.2 (by simp [hd]), hc.1, .step ⟨x, hx, h0, rfl⟩ hxr⟩
  ·refine ⟨t, ?_, hT, fun h0 => ?_, fun _ _ => rfl, fun i h => h⟩
   ·rw [rootM]; exact if_neg hc
   ·exact Classical.byContradiction fun hn => hc ⟨h0, hn⟩
end Go.Proofs.Ytmogobaaophknaa
end
section
namespace Go.Proofs.Ytmogobaaophknaa
open Go Go.Lg
set_option linter.unusedVariables false
set_option linter.unusedSimpArgs false
def Sn (s : List Bool) (k : Nat) : Prop := s.getD k default = true
theorem sn_set {s : List Bool} {i k : Nat} (hi : i < s.length) : Sn (s.set i true) k ↔ i = k ∨ Sn s k := by
 unfold Sn
 by_cases e : i = k
 ·subst e
  simp [List.getD_eq_getElem?_getD, hi]
 ·simp only [List.getD_eq_getElem?_getD, List.getElem?_set_ne e]
  simp [e]
def OccSp (β : Bds) (n : Int) (t : List Int) (s : List Bool) (q : Bool × List Bool) : Prop :=
 q.2.length = 48 ∧ (q.1 = true → ∃ x ∈ t, x < 0 ∧ Rch β (vIx x) (vIx n)) ∧ (q.1 = false → (∀ k, Sn s k → Sn q.2 k) ∧ (∀ x ∈ t, x < 0 → x ≠ n ∧ Sn q.2 (vIx x)) ∧ ∀ k, Sn q.2 k → ¬ Sn s k → ∀ y ∈ β.getD k default, y < 0 → y ≠ n ∧ Sn q.2 (vIx y))
theorem vIx_lt {x : Int} (h : -48 ≤ x) (h0 : x < 0) : vIx x < 48 := by unfold vIx; omega
theorem occL_law {β : Bds} {n : Int} (hn : n < 0) {rec : List Int → List Bool → Option (Bool × List Bool)} : ∀ (t : List Int) (s : List Bool), (∀ x ∈ t, x < 0 → β.getD (vIx x) default ≠ [] → ∀ s : List Bool, s.length = 48 → ∃ q, rec (β.getD (vIx x) default) s = some q ∧ OccSp β n (β.getD (vIx x) default) s q) → (∀ x ∈ t, -48 ≤ x) → s.length = 48 → ∃ q, occL β n rec t s = some q ∧ OccSp β n t s q
 | [], s, _, _, hl => ⟨(false, s), rfl, hl, fun h => (by cases h), fun _ => ⟨fun _ h => h, fun x hx => (by cases hx), fun k h1 h2 => absurd h1 h2⟩⟩
 | m :: r, s, hrec, h8, hl => by
  have hrec' : ∀ x ∈ r, x < 0 → β.getD (vIx x) default ≠ [] → ∀ s : List Bool, s.length = 48 → ∃ q, rec (β.getD (vIx x) default) s = some q ∧ OccSp β n (β.getD (vIx x) default) s q := fun x hx => hrec x (List.mem_cons_of_mem _ hx)
  have h8' : ∀ x ∈ r, -48 ≤ x := fun x hx => h8 x (List.mem_cons_of_mem _ hx)
  have hm8 := h8 m List.mem_cons_self
  unfold occL
  by_cases e : m = n
  ·rw [if_pos e]
   exact ⟨_, rfl, hl, fun _ => ⟨m, List.mem_cons_self, by omega, by rw [e]; exact .refl _⟩, fun h => by cases h⟩
  rw [if_neg e]
  by_cases h0 : 0 ≤ m ∨ s.getD (vIx m) default = true
  ·rw [if_pos h0]
   obtain ⟨q, h1, h2, h3, h4⟩ := occL_law hn r s hrec' h8' hl
   refine ⟨q, h1, h2, fun h => ?_, fun h => ?_⟩
   ·obtain ⟨x, hx, hx0, hr⟩ := h3 h
    exact ⟨x, List.mem_cons_of_mem _ hx, hx0, hr⟩
   ·obtain ⟨k1, k2, k3⟩ := h4 h
    refine ⟨k1, fun x hx hx0 => ?_, k3⟩
    rcases List.mem_cons.1 hx with rfl | hx
    ·exact ⟨e, k1 _ (h0.resolve_left (by omega))⟩
    ·exact k2 x hx hx0
  rw [if_neg h0]
  have hm0 : m < 0 := by omega
  have hns : ¬ Sn s (vIx m) := fun h => h0 (.inr h)
  have hlt := vIx_lt hm8 hm0
  have hset := @sn_set s (vIx m)
  by_cases hb : β.getD (vIx m) default = []
  ·rw [if_pos hb]
   obtain ⟨q, h1, h2, h3, h4⟩ := occL_law hn r (s.set (vIx m) true) hrec' h8' (by rw [List.length_set]; exact hl)
   refine ⟨q, h1, h2, fun h => ?_, fun h => ?_⟩
   ·obtain ⟨x, hx, hx0, hr⟩ := h3 h
    exact ⟨x, List.mem_cons_of_mem _ hx, hx0, hr⟩
   ·obtain ⟨k1, k2, k3⟩ := h4 h
    refine ⟨fun k hk => k1 k ((hset (by omega)).2 (.inr hk)), fun x hx hx0 => ?_, fun k hk hk' y hy hy0 => ?_⟩
    ·rcases List.mem_cons.1 hx with rfl | hx
     ·exact ⟨e, k1 _ ((hset (by omega)).2 (.inl rfl))⟩
     ·exact k2 x hx hx0
    ·by_cases ek : vIx m = k
     ·subst ek; rw [hb] at hy; cases hy
     ·exact k3 k hk (fun h => hk' (((hset (by omega)).1 h).resolve_left ek)) y hy hy0
  rw [if_neg hb]
  obtain ⟨q1, g1, g2, g3, g4⟩ := hrec m List.mem_cons_self hm0 hb (s.set (vIx m) true) (by rw [List.length_set]; exact hl)
  rw [g1]
  obtain ⟨b1, s2⟩ := q1
  cases b1 with
  | true =>
   obtain ⟨y, hy, hy0, hr⟩ := g3 rfl
   exact ⟨_, rfl, g2, fun _ => ⟨m, List.mem_cons_self, hm0, .step ⟨y, hy, hy0, rfl⟩ hr⟩, fun h => by cases h⟩
  | false =>
   obtain ⟨a1, a2, a3⟩ := g4 rfl
   obtain ⟨q, h1, h2, h3, h4⟩ := occL_law hn r s2 hrec' h8' g2
   refine ⟨q, h1, h2, fun h => ?_, fun h => ?_⟩
   ·obtain ⟨x, hx, hx0, hr⟩ := h3 h
    exact ⟨x, List.mem_cons_of_mem _ hx, hx0, hr⟩
   ·obtain ⟨k1, k2, k3⟩ := h4 h
    refine ⟨fun k hk => k1 k (a1 k ((hset (by omega)).2 (.inr hk))), fun x hx hx0 => ?_, fun k hk hk' y hy hy0 => ?_⟩
    ·rcases List.mem_cons.1 hx with rfl | hx
     ·exact ⟨e, k1 _ (a1 _ ((hset (by omega)).2 (.inl rfl)))⟩
     ·exact k2 x hx hx0
    ·by_cases h5 : Sn s2 k
     ·by_cases ek : vIx m = k
      ·subst ek
       have := a2 y hy hy0
       exact ⟨this.1, k1 _ this.2⟩
      ·have := a3 k h5 (fun h => hk' (((hset (by omega)).1 h).resolve_left ek)) y hy hy0
       exact ⟨this.1, k1 _ this.2⟩
     ·exact k3 k hk h5 y hy hy0
theorem occM_law {rs : List Int} {β : Bds} (hβ : BOK rs β) {n : Int} (hn : n < 0) {r : Nat → Nat} (hr : ∀ i j, Edge β i j → r j < r i) : ∀ (f : Nat) (t : List Int) (s : List Bool), (∀ x ∈ t, x < 0 → β.getD (vIx x) default ≠ [] → r (vIx x) < f) → (∀ x ∈ t, -48 ≤ x) → s.length = 48 → ∃ q, occM β n (f + 1) t s = some q ∧ OccSp β n t s q
 | f, t, s, hf, h8, hl => by
  refine occL_law hn t s (fun x hx h0 hb s hs => ?_) h8 hl
  have := hf x hx h0 hb
  obtain ⟨f', rfl⟩ : ∃ f', f = f' + 1 := ⟨f - 1, by omega⟩
  exact occM_law hβ hn hr f' _ s (fun y hy hy0 _ => by have := hr (vIx x) (vIx y) ⟨y, hy, hy0, rfl⟩; omega) (hβ.get hb).2 hs
def OccP (β : Bds) (n : Int) (t : List Int) : Prop := ∃ x ∈ t, x < 0 ∧ Rch β (vIx x) (vIx n)
theorem occM_top {rs : List Int} {β : Bds} (hβ : BOK rs β) (hA : Acy β) {n : Int} (hn : n < 0) {t : List Int} (hT : ∀ x ∈ t, -48 ≤ x) : ∃ q, occM β n 60 t (List.replicate 48 false) = some q ∧ (q.1 = true ↔ OccP β n t) := by
 obtain ⟨r, hr, h48⟩ := rank_ex hβ hA
 obtain ⟨q, h1, h2, h3, h4⟩ := occM_law hβ hn hr 59 t (List.replicate 48 false) (fun x _ _ _ => by have := h48 (vIx x); omega) hT (by simp)
 refine ⟨q, h1, h3, fun ⟨x, hx, hx0, hrc⟩ => ?_⟩
 cases hq : q.1 with
 | true => rfl
 | false =>
  exfalso
  obtain ⟨k1, k2, k3⟩ := h4 hq
  have hno : ∀ k, ¬ Sn (List.replicate 48 false) k := fun k hk => by
   unfold Sn at hk
   rw [List.getD_eq_getElem?_getD, List.getElem?_replicate] at hk
   split at hk <;> cases hk
  have key : ∀ i j, Rch β i j → Sn q.2 i → i ≠ vIx n → j ≠ vIx n := by
   intro i j h
   induction h with
   | refl i => exact fun _ h => h
   | step he _ ih =>
    intro hs _
    obtain ⟨y, hy, hy0, rfl⟩ := he
    have := k3 _ hs (hno _) y hy hy0
    exact ih this.2 fun e => this.1 (vIx_inj hy0 hn e)
  have := k2 x hx hx0
  exact key _ _ hrc this.2 (fun e => this.1 (vIx_inj hx0 hn e)) rfl
def cnt (β : Bds) : Nat := (β.filter fun x => x.isEmpty).length
theorem cnt_set : ∀ (β : Bds) (i : Nat) (y : List Int), i < β.length → β.getD i default = [] → y ≠ [] → cnt (β.set i y) + 1 = cnt β
 | [], i, y, h, _, _ => by simp at h
 | x :: β, 0, y, _, h, hy => by
  have : x = [] := h
  subst this
  cases y with
  | nil => exact absurd rfl hy
  | cons a b => simp [cnt]
 | x :: β, i + 1, y, h, h1, hy => by
  have := cnt_set β i y (by simpa using h) h1 hy
  simp only [cnt, List.set_cons_succ, List.filter_cons] at this ⊢
  split <;> simp_all <;> omega
theorem getD_set {β : Bds} {i : Nat} (hi : i < β.length) (y : List Int) (k : Nat) : (β.set i y).getD k default = if i = k then y else β.getD k default := by
 by_cases e : i = k
 ·subst e; simp [List.getD_eq_getElem?_getD, hi]
 ·simp only [List.getD_eq_getElem?_getD, List.getElem?_set_ne e, if_neg e]
theorem rch_set {β : Bds} {i : Nat} (hi : i < β.length) (hb : β.getD i default = []) {y : List Int} {a b : Nat} (h : Rch (β.set i y) a b) : Rch β a b ∨ (Rch β a i ∧ ∃ z ∈ y, z < 0 ∧ Rch β (vIx z) b) := by
 induction h with
 | refl a => exact .inl (.refl a)
 | @step a c b he hr ih =>
  obtain ⟨x, hx, hx0, rfl⟩ := he
  rw [getD_set hi] at hx
  by_cases e : i = a
  ·subst e
   rw [if_pos rfl] at hx
   rcases ih with ih | ⟨ih, hz⟩
   ·exact .inr ⟨.refl _, x, hx, hx0, ih⟩
   ·exact .inr ⟨.refl _, hz⟩
  ·rw [if_neg e] at hx
   have he : Edge β a (vIx x) := ⟨x, hx, hx0, rfl⟩
   rcases ih with ih | ⟨ih, hz⟩
   ·exact .inl (.step he ih)
   ·exact .inr ⟨.step he ih, hz⟩
theorem bind_acy {β : Bds} (hA : Acy β) {x : Int} (hi : vIx x < β.length) (hb : β.getD (vIx x) default = []) {y : List Int} (ho : ¬ OccP β x y) : Acy (β.set (vIx x) y) := by
 intro i j he hr
 have hr := rch_set hi hb hr
 obtain ⟨z, hz, hz0, rfl⟩ := he
 rw [getD_set hi] at hz
 by_cases e : vIx x = i
 ·subst e
  rw [if_pos rfl] at hz
  rcases hr with hr | ⟨hr, _⟩
  ·exact ho ⟨z, hz, hz0, hr⟩
  ·exact ho ⟨z, hz, hz0, hr⟩
 ·rw [if_neg e] at hz
  have he : Edge β i (vIx z) := ⟨z, hz, hz0, rfl⟩
  rcases hr with hr | ⟨hr, w, hw, hw0, hr2⟩
  ·exact hA _ _ he hr
  ·exact ho ⟨w, hw, hw0, hr2.trans (.step he hr)⟩
theorem bind_sat {β : Bds} {x : Int} (hx : x < 0) (hi : vIx x < β.length) (hb : β.getD (vIx x) default = []) {y : List Int} (hy : y ≠ []) (σ : Int → List Int) : Sat σ (β.set (vIx x) y) ↔ Sat σ β ∧ σ x = ap σ y := by
 have hv : -1 - ((vIx x : Nat) : Int) = x := by unfold vIx; omega
 constructor
 ·intro h
  constructor
  ·intro i hne
   have := h i
   rw [getD_set hi] at this
   by_cases e : vIx x = i
   ·subst e; exact absurd hb hne
   ·rw [if_neg e] at this; exact this hne
  ·have := h (vIx x)
   rw [getD_set hi, if_pos rfl, hv] at this
   exact this hy
 ·intro ⟨h1, h2⟩ i hne
  rw [getD_set hi] at hne ⊢
  by_cases e : vIx x = i
  ·subst e; rw [if_pos rfl, hv]; exact h2
  ·rw [if_neg e] at hne ⊢; exact h1 i hne
theorem mem_ap {σ : Int → List Int} {z : Int} (hz : z < 0) : ∀ {t : List Int}, z ∈ t → (σ z).length ≤ (ap σ t).length
 | x :: t, h => by
  rw [ap_cons, List.length_append]
  rcases List.mem_cons.1 h with rfl | h
  ·rw [if_pos hz]; omega
  ·have := mem_ap (σ := σ) hz h; omega
theorem rch_size {β : Bds} {σ : Int → List Int} (hs : Sat σ β) {i j : Nat} (h : Rch β i j) : (σ (-1 - (j : Int))).length ≤ (σ (-1 - (i : Int))).length := by
 induction h with
 | refl => exact Nat.le_refl _
 | @step i j k he _ ih =>
  obtain ⟨z, hz, hz0, rfl⟩ := he
  have hne : β.getD i default ≠ [] := fun e => by rw [e] at hz; cases hz
  rw [hs i hne]
  have := mem_ap (σ := σ) hz0 hz
  rw [show -1 - ((vIx z : Nat) : Int) = z by unfold vIx; omega] at ih
  omega
theorem occ_none {rs : List Int} {β : Bds} {x : Int} (hx : x < 0) {y : List Int} (hY : XT rs y) (h0 : 0 ≤ hd y) (ho : OccP β x y) (σ : Int → List Int) (hs : Sat σ β) : σ x ≠ ap σ y := by
 intro e
 obtain ⟨z, hz, hz0, hr⟩ := ho
 have h1 := rch_size hs hr
 rw [show -1 - ((vIx z : Nat) : Int) = z by unfold vIx; omega, show -1 - ((vIx x : Nat) : Int) = x by unfold vIx; omega] at h1
 obtain ⟨l, el, _⟩ := xt_cons hY
 have hzl : z ∈ l := by
  rw [el] at hz
  rcases List.mem_cons.1 hz with h | h
  ·omega
  ·exact h
 have h2 := mem_ap (σ := σ) hz0 hzl
 have h3 : (ap σ y).length = (ap σ l).length + 1 := by
  conv => lhs; rw [el]
  rw [ap_cons, if_neg (by omega)]
  simp only [List.length_append, List.length_singleton]; omega
 rw [e] at h1
 omega
def Good (rs : List Int) (β : Bds) (P : (Int → List Int) → Prop) : Option Bds → Prop
 | none => ∀ σ, GS rs σ → Sat σ β → ¬ P σ
 | some β' => BOK rs β' ∧ Acy β' ∧ (β' = β ∨ cnt β' < cnt β) ∧ ∀ σ, GS rs σ → (Sat σ β' ↔ Sat σ β ∧ P σ)
theorem Good.congr {rs : List Int} {β : Bds} {P Q : (Int → List Int) → Prop} {r : Option Bds} (h : Good rs β P r) (he : ∀ σ, GS rs σ → Sat σ β → (P σ ↔ Q σ)) : Good rs β Q r := by
 cases r with
 | none => exact fun σ h1 h2 h3 => h σ h1 h2 ((he σ h1 h2).2 h3)
 | some β' =>
  obtain ⟨h1, h2, h3, h4⟩ := h
  exact ⟨h1, h2, h3, fun σ hσ => (h4 σ hσ).trans ⟨fun ⟨a, b⟩ => ⟨a, (he σ hσ a).1 b⟩, fun ⟨a, b⟩ => ⟨a, (he σ hσ a).2 b⟩⟩⟩
theorem bindM_law {rs : List Int} {β : Bds} (hβ : BOK rs β) (hA : Acy β) {x y : List Int} (hX : XT rs x) (hY : XT rs y) (hx : hd x < 0) (hbx : β.getD (vIx (hd x)) default = []) (hby : hd y < 0 → β.getD (vIx (hd y)) default = []) (hne : hd y < 0 → hd y ≠ hd x) :
  ∃ r, bindM 60 β x y = some r ∧ Good rs β (fun σ => σ (hd x) = ap σ y) r := by
 have hx8 := (hX.get (a := 0) (by have := hX.len; omega)).1
 have hlt := vIx_lt hx8 hx
 have hl : vIx (hd x) < β.length := by rw [hβ.1]; exact hlt
 have good : ¬ OccP β (hd x) y → Good rs β (fun σ => σ (hd x) = ap σ y) (some (β.set (vIx (hd x)) y)) := fun ho =>
  ⟨hβ.set _ hY, bind_acy hA hl hbx ho, .inr (by have := cnt_set β _ y hl hbx hY.ne; omega), fun σ _ => bind_sat hx hl hbx hY.ne σ⟩
 unfold bindM
 by_cases h0 : 0 ≤ hd y
 ·rw [if_pos h0]
  obtain ⟨q, h1, h2⟩ := occM_top hβ hA hx hY.2
  rw [h1]
  obtain ⟨b, s⟩ := q
  cases b with
  | true => exact ⟨_, rfl, fun σ _ hs => occ_none hx hY h0 (h2.1 rfl) σ hs⟩
  | false => exact ⟨_, rfl, good fun ho => by have := h2.2 ho; cases this⟩
 ·rw [if_neg h0]
  refine ⟨_, rfl, good fun ⟨z, hz, hz0, hr⟩ => ?_⟩
  have ey := xt_var hY (by omega)
  rw [ey] at hz
  obtain rfl := List.mem_singleton.1 hz
  generalize ei : vIx (hd y) = i at hr
  generalize ej : vIx (hd x) = j at hr
  cases hr with
  | refl => exact hne hz0 (vIx_inj hz0 hx (ei.trans ej.symm))
  | step he _ =>
   obtain ⟨w, hw, _⟩ := he
   rw [← ei, hby hz0] at hw
   cases hw
theorem eqL_mono {rec rec' : Bds → List Int → List Int → Option (Option Bds)} (h : ∀ β a b r, rec β a b = some r → rec' β a b = some r) : ∀ (ps : List (List Int × List Int)) (β : Bds) (r : Option Bds), eqL rec ps β = some r → eqL rec' ps β = some r
 | [], _, _, e => e
 | p :: ps, β, r, e => by
  unfold eqL at e ⊢
  split at e
  ·cases e
  ·rename_i hq; rw [h _ _ _ _ hq]; exact e
  ·rename_i β' hq; rw [h _ _ _ _ hq]; exact eqL_mono h ps β' r e
theorem eqM_mono {rs : List Int} {g : Nat} : ∀ (f : Nat) (β : Bds) (a b : List Int) (r : Option Bds), eqM rs g f β a b = some r → eqM rs g (f + 1) β a b = some r
 | 0, _, _, _, _, e => by cases e
 | f + 1, β, a, b, r, e => by
  unfold eqM at e ⊢
  split at e
  ·rename_i a1 b1 h1 h2
   unfold eqB at e ⊢
   split at e
   ·rename_i c; rw [if_pos c]; exact e
   ·rename_i c; rw [if_neg c]
    split at e
    ·rename_i c; rw [if_pos c]; exact e
    ·rename_i c; rw [if_neg c]
     split at e
     ·rename_i c; rw [if_pos c]; exact e
     ·rename_i c; rw [if_neg c]
      split at e
      ·rename_i c; rw [if_pos c]; exact e
      ·rename_i c; rw [if_neg c]
       exact eqL_mono (fun β a b r => eqM_mono f β a b r) _ _ _ e
  ·cases e
theorem eqM_up {rs : List Int} {g : Nat} {f : Nat} {β : Bds} {a b : List Int} {r : Option Bds} (h : eqM rs g f β a b = some r) : ∀ d, eqM rs g (f + d) β a b = some r
 | 0 => h
 | d + 1 => eqM_mono _ _ _ _ _ (eqM_up h d)
theorem eqL_up {rs : List Int} {g : Nat} {f : Nat} {β : Bds} {ps : List (List Int × List Int)} {r : Option Bds} (h : eqL (eqM rs g f) ps β = some r) (d : Nat) : eqL (eqM rs g (f + d)) ps β = some r :=
 eqL_mono (fun β a b r h => eqM_up h d) ps β r h
def AllEq (σ : Int → List Int) (ps : List (List Int × List Int)) : Prop := ∀ p ∈ ps, ap σ p.1 = ap σ p.2
theorem good_step {rs : List Int} {β β1 : Bds} {P Q : (Int → List Int) → Prop} (h1 : Good rs β P (some β1)) {r : Option Bds} (h2 : Good rs β1 Q r) : Good rs β (fun σ => P σ ∧ Q σ) r := by
 obtain ⟨a1, a2, a3, a4⟩ := h1
 cases r with
 | none => exact fun σ hσ hs ⟨hp, hq⟩ => h2 σ hσ ((a4 σ hσ).2 ⟨hs, hp⟩) hq
 | some β2 =>
  obtain ⟨b1, b2, b3, b4⟩ := h2
  refine ⟨b1, b2, ?_, fun σ hσ => ?_⟩
  ·rcases b3 with b3 | b3
   ·rw [b3]; exact a3
   ·rcases a3 with a3 | a3
    ·rw [a3] at b3; exact .inr b3
    ·exact .inr (by omega)
  ·rw [b4 σ hσ, a4 σ hσ, and_assoc]
theorem eqL_law {rs : List Int} (I : Bds → Prop) (hI : ∀ β β', I β → BOK rs β → Acy β → (β' = β ∨ cnt β' < cnt β) → I β') : ∀ (ps : List (List Int × List Int)),
  (∀ p ∈ ps, ∀ β, I β → BOK rs β → Acy β → ∃ f r, eqM rs 60 f β p.1 p.2 = some r ∧ Good rs β (fun σ => ap σ p.1 = ap σ p.2) r) → ∀ β, I β → BOK rs β → Acy β → ∃ f r, eqL (eqM rs 60 f) ps β = some r ∧ Good rs β (fun σ => AllEq σ ps) r
 | [], _, β, _, hβ, hA => ⟨0, some β, rfl, hβ, hA, .inl rfl, fun σ _ => ⟨fun h => ⟨h, fun p hp => by cases hp⟩, fun h => h.1⟩⟩
 | p :: ps, h, β, hi, hβ, hA => by
  obtain ⟨f1, r1, e1, g1⟩ := h p List.mem_cons_self β hi hβ hA
  cases r1 with
  | none =>
   refine ⟨f1, none, ?_, fun σ h1 h2 h3 => g1 σ h1 h2 (h3 p List.mem_cons_self)⟩
   unfold eqL; rw [e1]
  | some β1 =>
   obtain ⟨f2, r2, e2, g2⟩ := eqL_law I hI ps (fun q hq => h q (List.mem_cons_of_mem _ hq)) β1 (hI β β1 hi hβ hA g1.2.2.1) g1.1 g1.2.1
   refine ⟨f1 + f2, r2, ?_, (good_step g1 g2).congr fun σ _ _ => ?_⟩
   ·unfold eqL
    rw [eqM_up e1 f2]
    have := eqL_up e2 f1
    rwa [Nat.add_comm] at this
   ·simp only [AllEq, List.mem_cons, forall_eq_or_imp]
theorem eq_node {rs : List Int} {β : Bds} (hβ : BOK rs β) (hA : Acy β) {a b a1 b1 : List Int} (hra : rootM β 60 a = some a1) (hrb : rootM β 60 b = some b1) (hA1 : XT rs a1) (hB1 : XT rs b1)
  (ha : hd a1 < 0 → β.getD (vIx (hd a1)) default = []) (hb : hd b1 < 0 → β.getD (vIx (hd b1)) default = []) (hrec : hd a1 = hd b1 → 0 ≤ hd a1 → ∃ f r, eqL (eqM rs 60 f) (pairsX rs a1 b1) β = some r ∧ Good rs β (fun σ => AllEq σ (pairsX rs a1 b1)) r) :
  ∃ f r, eqM rs 60 f β a b = some r ∧ Good rs β (fun σ => ap σ a1 = ap σ b1) r := by
 have e : ∀ f, eqM rs 60 (f + 1) β a b = eqB rs 60 (eqM rs 60 f) β a1 b1 := fun f => by
  show (match rootM β 60 a, rootM β 60 b with | some a1, some b1 => eqB rs 60 (eqM rs 60 f) β a1 b1 | _, _ => none) = _
  rw [hra, hrb]
 by_cases c1 : hd a1 = hd b1 ∧ hd a1 < 0
 ·refine ⟨1, some β, ?_, hβ, hA, .inl rfl, fun σ _ => ⟨fun h => ⟨h, ?_⟩, fun h => h.1⟩⟩
  ·rw [e]; unfold eqB; rw [if_pos c1]
  ·rw [xt_var hA1 c1.2, xt_var hB1 (by omega), c1.1]
 by_cases c2 : hd b1 < 0 ∧ (0 ≤ hd a1 ∨ hd b1 < hd a1)
 ·obtain ⟨r, h1, h2⟩ := bindM_law hβ hA hB1 hA1 c2.1 (hb c2.1) ha (fun h e => c1 ⟨e, h⟩)
  refine ⟨1, r, ?_, h2.congr fun σ _ _ => ?_⟩
  ·rw [e]; unfold eqB; rw [if_neg c1, if_pos c2]; exact h1
  ·conv => rhs; rw [xt_var hB1 c2.1]
   rw [ap_var (σ := σ) c2.1]
   exact eq_comm
 by_cases c3 : hd a1 < 0
 ·obtain ⟨r, h1, h2⟩ := bindM_law hβ hA hA1 hB1 c3 (ha c3) hb (fun h e => c1 ⟨e.symm, c3⟩)
  refine ⟨1, r, ?_, h2.congr fun σ _ _ => ?_⟩
  ·rw [e]; unfold eqB; rw [if_neg c1, if_neg c2, if_pos c3]; exact h1
  ·conv => rhs; rw [xt_var hA1 c3]
   rw [ap_var (σ := σ) c3]
 by_cases c4 : hd a1 = hd b1
 ·obtain ⟨f, r, h1, h2⟩ := hrec c4 (by omega)
  refine ⟨f + 1, r, ?_, h2.congr fun σ hσ _ => (dec_iff hσ hA1 hB1 c4 (by omega)).symm⟩
  rw [e]; unfold eqB; rw [if_neg c1, if_neg c2, if_neg c3, if_neg (by omega)]; exact h1
 ·refine ⟨1, none, ?_, fun σ _ _ h => ?_⟩
  ·rw [e]; unfold eqB; rw [if_neg c1, if_neg c2, if_neg c3, if_pos c4]
  ·have h0 : 0 ≤ hd b1 := by
    by_cases h : hd b1 < 0
    ·exact absurd ⟨h, .inl (by omega)⟩ c2
    ·omega
   have h : ap σ a1 = ap σ b1 := h
   rw [ap_node hA1 (by omega), ap_node hB1 h0] at h
   exact c4 (List.cons.inj h).1
theorem part_len {rs a : List Int} {σ : Int → List Int} (hA : XT rs a) (h0 : 0 ≤ hd a) : ∀ x ∈ partsX rs a, (ap σ x).length + 1 ≤ (ap σ a).length := fun x hx => by
 have h1 := sum_parts (σ := σ) hA h0
 have h2 : (ap σ x).length ≤ (((partsX rs a).map (ap σ)).map List.length).sum := by
  have : ∀ (l : List Nat) (n : Nat), n ∈ l → n ≤ l.sum := fun l n h => by
   induction l with
   | nil => cases h
   | cons m l ih =>
    rw [List.sum_cons]
    rcases List.mem_cons.1 h with rfl | h
    ·omega
    ·have := ih h; omega
  exact this _ _ (List.mem_map.2 ⟨_, List.mem_map.2 ⟨x, hx, rfl⟩, rfl⟩)
 omega
theorem eq_law (rs : List Int) : ∀ (c : Nat) (β : Bds), cnt β < c → BOK rs β → Acy β → ∀ a b, XT rs a → XT rs b → ∃ f r, eqM rs 60 f β a b = some r ∧ Good rs β (fun σ => ap σ a = ap σ b) r
 | 0, β, h, _, _, _, _, _, _ => by omega
 | c + 1, β, h, hβ, hA, a, b, hTa, hTb => by
  obtain ⟨σ, hσ, hsat⟩ := sol_ex hβ hA
  obtain ⟨r, hr, h48⟩ := rank_ex hβ hA
  have main : ∀ (m : Nat) (a b : List Int), (ap σ a).length ≤ m → XT rs a → XT rs b → ∃ f r, eqM rs 60 f β a b = some r ∧ Good rs β (fun σ => ap σ a = ap σ b) r := by
   intro m
   induction m with
   | zero => intro a b hm ha _; have := ap_pos hσ ha; omega
   | succ m ih =>
    intro a b hm ha hb
    obtain ⟨a1, u1, u2, u3, u4, _⟩ := root_law hβ hr 59 a ha (fun _ => by have := h48 (vIx (hd a)); omega)
    obtain ⟨b1, v1, v2, v3, v4, _⟩ := root_law hβ hr 59 b hb (fun _ => by have := h48 (vIx (hd b)); omega)
    obtain ⟨f, q, k1, k2⟩ := eq_node hβ hA u1 v1 u2 v2 u3 v3 (fun he h0 => by
     refine eqL_law (fun β' => β' = β ∨ cnt β' < c) (fun β1 β2 h1 _ _ h2 => ?_) _ (fun p hp β1 hi hβ1 hA1 => ?_) β (.inl rfl) hβ hA
     ·rcases h1 with rfl | h1
      ·rcases h2 with rfl | h2
       ·exact .inl rfl
       ·exact .inr (by omega)
      ·rcases h2 with rfl | h2
       ·exact .inr h1
       ·exact .inr (by omega)
     ·have hp1 : p.1 ∈ partsX rs a1 := by rw [← pairs_fst rs a1 b1]; exact List.mem_map.2 ⟨p, hp, rfl⟩
      have hp2 : p.2 ∈ partsX rs b1 := by rw [← pairs_snd u2 v2 he]; exact List.mem_map.2 ⟨p, hp, rfl⟩
      rcases hi with rfl | hi
      ·have h1 := part_len (σ := σ) u2 h0 _ hp1
       rw [u4 σ hsat] at h1
       exact ih _ _ (by omega) (partsX_ok u2 _ hp1) (partsX_ok v2 _ hp2)
      ·exact eq_law rs c β1 hi hβ1 hA1 _ _ (partsX_ok u2 _ hp1) (partsX_ok v2 _ hp2))
    exact ⟨f, q, k1, k2.congr fun τ _ hs => by rw [u4 τ hs, v4 τ hs]⟩
  exact main _ a b (Nat.le_refl _) hTa hTb
def Unif (rs : List Int) (β : Bds) (P : (Int → List Int) → Prop) : Prop := ∃ σ, GS rs σ ∧ Sat σ β ∧ P σ
theorem good_unif {rs : List Int} {β : Bds} {P : (Int → List Int) → Prop} {r : Option Bds} (h : Good rs β P r) : r.isSome = true ↔ Unif rs β P := by
 cases r with
 | none => exact Iff.intro (fun h => by cases h) (fun ⟨σ, h1, h2, h3⟩ => absurd h3 (h σ h1 h2))
 | some β' =>
  refine ⟨fun _ => ?_, fun _ => rfl⟩
  obtain ⟨h1, h2, _, h4⟩ := h
  obtain ⟨σ, hσ, hs⟩ := sol_ex h1 h2
  have := (h4 σ hσ).1 hs
  exact ⟨σ, hσ, this.1, this.2⟩
theorem eqM_unif {rs : List Int} {β : Bds} (hβ : BOK rs β) (hA : Acy β) {a b : List Int} (ha : XT rs a) (hb : XT rs b) : ∃ f r, eqM rs 60 f β a b = some r ∧ (r.isSome = true ↔ Unif rs β fun σ => ap σ a = ap σ b) := by
 obtain ⟨f, r, h1, h2⟩ := eq_law rs (cnt β + 1) β (by omega) hβ hA a b ha hb
 exact ⟨f, r, h1, good_unif h2⟩
end Go.Proofs.Ytmogobaaophknaa
end
section
namespace Go.Proofs.Ytmogobaaophknaa
open Go Go.Lg
set_option linter.unusedVariables false
set_option linter.unusedSimpArgs false
theorem Unif.congr {rs : List Int} {β : Bds} {P Q : (Int → List Int) → Prop} (h : ∀ σ, GS rs σ → Sat σ β → (P σ ↔ Q σ)) : Unif rs β P ↔ Unif rs β Q :=
 ⟨fun ⟨σ, h1, h2, h3⟩ => ⟨σ, h1, h2, (h σ h1 h2).1 h3⟩, fun ⟨σ, h1, h2, h3⟩ => ⟨σ, h1, h2, (h σ h1 h2).2 h3⟩⟩
end Go.Proofs.Ytmogobaaophknaa
end
section
namespace Go.Proofs.Ytmogobaaophknaa
open Go Go.Lg
set_option linter.unusedVariables false
set_option linter.unusedSimpArgs false
end Go.Proofs.Ytmogobaaophknaa
end
section
namespace Go.Proofs.Ytmogobaaophknaa
open Go Go.Lg
set_option linter.unusedVariables false
def ConnU (rs c b : List Int) : Prop := Unif rs b0 fun σ => ap σ c = ap σ (awayL b)
theorem b0_acy : Acy b0 := fun i j h _ => by
 obtain ⟨x, hx, _⟩ := h
 rw [b0_get] at hx
 cases hx
theorem conn_impl {rs c b : List Int} (hc : XT rs c) (hb : TermOkP rs b) : ∃ f r, eqM rs 60 f b0 c (awayL b) = some r ∧ (r.isSome = true ↔ ConnU rs c b) := eqM_unif (b0_ok rs) b0_acy hc (XT.away hb)
end Go.Proofs.Ytmogobaaophknaa
end
section
namespace Go.Proofs.Ytmogobaaophknaa
open Go Go.Lg
set_option linter.unusedSimpArgs false
set_option linter.unusedVariables false
set_option maxHeartbeats 4000000
attribute [local irreducible] SW runL runQ runG runQG FC Ret1 DefP
noncomputable def mkO (x : SystemT) (t : List Int) (a : Nat) : Int := if t.getD a default < 0 then 2 else if a = 0 then 0 else if tst (DefP x (t.getD a default)) = true then 2 else 1
def kp51 : List (Nat × List Nat) := [(0, [1, 2, 3]), (1, [2, 3, 7]), (2, [2, 3, 7, 12]), (3, [6]), (4, [3, 7, 15]), (5, [6]), (6, [18]), (7, [6]), (8, [6])]
attribute [go_sem] kp51
theorem markOf_fc (x : SystemT) (t : List Int) (a : Nat) (ha : a < t.length) (h : ∀ r ∈ x.rules, 1 ≤ r.l.length) : FC S 51 [] [] [] [SystemD x, .sl .any (t.map (.int .i64)), .int .i64 a] (.int .i64 (mkO x t a)) [] [] := by
 have cD := isDefined_fc x (t.getD a default) h
 unfold mkO
 refine fc_body Try.func51 rfl (by kernel_rfl) (by simp [Try.f51]) fun B => ?_
 simp only [Try.ntmps51, enumD, lst0, Nat.reduceAdd]
 by_cases c1 : t.getD a default < 0
 ·rw [if_pos c1]
  repeat' first | ((exfalso; omega)) | refine sw_seq ?_ | refine sw_block ?_ | refine sw_inBlock ?_ | refine sw_skip ?_ | refine sw_go 0 kp51 fun K hK => ?_ | refine fun (K : KT) (hK : KOk S 0 _ _ _ K) => ?_ | ((first | refine runL_go ?_ | refine sw_ret (ret0 ?_) | refine sw_ret ?_); simp (disch := (refine Om.mk ?_; omega)) only [go_sem, Try.results51]) | (refine hK.nil ?_; clear hK K; simp only [go_sem]) | ((first | refine sw_cond rfl ?_ ?_) <;> intro h <;> try simp (disch := (refine Om.mk ?_; omega)) only [go_sem] at h) | refine sw_loopEnd ?_ | (with_reducible refine And.intro (by first | omega | (simp only [lens]; omega)) ?_) | fail
 rw [if_neg c1]
 by_cases c2 : a = 0
 ·rw [if_pos c2]
  repeat' first | ((exfalso; omega)) | refine sw_seq ?_ | refine sw_block ?_ | refine sw_inBlock ?_ | refine sw_skip ?_ | refine sw_go 0 kp51 fun K hK => ?_ | refine fun (K : KT) (hK : KOk S 0 _ _ _ K) => ?_ | ((first | refine runL_go ?_ | refine sw_ret (ret0 ?_) | refine sw_ret ?_); simp (disch := (refine Om.mk ?_; omega)) only [go_sem, Try.results51]) | (refine hK.nil ?_; clear hK K; simp only [go_sem]) | ((first | refine sw_cond rfl ?_ ?_) <;> intro h <;> try simp (disch := (refine Om.mk ?_; omega)) only [go_sem] at h) | refine sw_loopEnd ?_ | (with_reducible refine And.intro (by first | omega | (simp only [lens]; omega)) ?_) | fail
 rw [if_neg c2]
 by_cases c3 : DefP x (t.getD a default)
 ·rw [tst_true c3] at cD ⊢
  rw [if_pos rfl]
  repeat' first | ((exfalso; omega)) | refine sw_seq ?_ | refine sw_block ?_ | refine sw_inBlock ?_ | refine sw_skip ?_ | refine sw_go 0 kp51 fun K hK => ?_ | refine fun (K : KT) (hK : KOk S 0 _ _ _ K) => ?_ | ((first | refine runL_go ?_ | refine sw_ret (ret0 ?_) | refine sw_ret ?_); simp (disch := (refine Om.mk ?_; omega)) only [go_sem, Try.results51]) | (refine hK.nil ?_; clear hK K; simp only [go_sem]) | ((first | refine sw_cond rfl ?_ ?_) <;> intro h <;> try simp (disch := (refine Om.mk ?_; omega)) only [go_sem] at h) | refine sw_loopEnd ?_ | refine hK.c0 rfl rfl rfl (cD) rfl rfl rfl ?_ | (with_reducible refine And.intro (by first | omega | (simp only [lens]; omega)) ?_) | fail
 ·rw [tst_false c3] at cD ⊢
  rw [if_neg (by decide)]
  repeat' first | ((exfalso; omega)) | refine sw_seq ?_ | refine sw_block ?_ | refine sw_inBlock ?_ | refine sw_skip ?_ | refine sw_go 0 kp51 fun K hK => ?_ | refine fun (K : KT) (hK : KOk S 0 _ _ _ K) => ?_ | ((first | refine runL_go ?_ | refine sw_ret (ret0 ?_) | refine sw_ret ?_); simp (disch := (refine Om.mk ?_; omega)) only [go_sem, Try.results51]) | (refine hK.nil ?_; clear hK K; simp only [go_sem]) | ((first | refine sw_cond rfl ?_ ?_) <;> intro h <;> try simp (disch := (refine Om.mk ?_; omega)) only [go_sem] at h) | refine sw_loopEnd ?_ | refine hK.c0 rfl rfl rfl (cD) rfl rfl rfl ?_ | (with_reducible refine And.intro (by first | omega | (simp only [lens]; omega)) ?_) | fail
end Go.Proofs.Ytmogobaaophknaa
end
