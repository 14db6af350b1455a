/-
  FnParts: the law.
-/
import Derived.Test.YtmogobaaophknaaG3
import Derived.Test.YtmogobaaophknaaG9
import Derived.Test.YtmogobaaophknaaE06
namespace Go.Proofs.Ytmogobaaophknaa
open Go Go.Lg
set_option linter.unusedSimpArgs false
set_option linter.unusedVariables false
set_option maxHeartbeats 4000000
attribute [local irreducible] SW runL runQ runG runQG FC Ret1 toF redoL anyB
theorem rowsP {edges : List (List Int)} {set : List Int} : ∀ y ∈ partsR edges set, y.length ≤ set.length := fun y hy => cmp_row (C := wM (natS set) (r0 edges set) set.length) set.length (Nat.le_refl _) y hy
attribute [local irreducible] partsR graphG
theorem pairs_small (x : SystemT) : (pairsR x).1.length ≤ 64 ∧ ∀ p ∈ (pairsR x).1, PrOk x.sig p := by
 rcases Classical.em (PairsP x) with h | h
 ·rw [pairsR_yes h]
  exact ⟨h.2, allP_ok h⟩
 ·rw [pairsR_no h]
  exact ⟨by simp, fun p hp => by cases hp⟩
noncomputable def grF (x : SystemT) : List (List Int) := graphG x (pairsR x).1 (pairsR x).1.length
def kp8 : List (Nat × List Nat) := [(0, [1]), (1, [1, 3]), (2, [1, 3, 12]), (3, [2]), (4, [2])]
attribute [go_sem] kp8
theorem graphOf_fc (x : SystemT) : FC S 8 [] [] [] [SystemD x] (.sl .any ((grF x).map IntsD)) [] [] := by
 have hl := graphG_len x (pairsR x).1 (pairsR x).1.length
 have cP := implPairsOf_fc x
 unfold grF
 rcases Classical.em (PairsP x) with h | h
 ·have h64 : (allP x).length ≤ 64 := h.2
  have cG := graph_fc x h.1 (allP x) (allP_ok h) h64
  rw [pairsR_yes h] at cP hl ⊢
  dsimp only at cP hl ⊢
  generalize hg : graphG x (allP x) (allP x).length = gr at *
  generalize allP x = P at *
  by_cases h0 : P.length = 0
  ·have hg0 : gr = [] := List.length_eq_zero_iff.1 (by omega)
   subst hg0
   refine fc_body Try.func8 rfl (by kernel_rfl) (by simp [Try.f8]) fun B => ?_
   simp only [Try.ntmps8, enumD, lst0, Nat.reduceAdd]
   repeat' first | ((exfalso; omega)) | refine sw_seq ?_ | refine sw_skip ?_ | refine sw_go 0 kp8 fun K hK => ?_ | refine fun (K : KT) (hK : KOk S 0 _ _ _ K) => ?_ | ((first | refine runL_go ?_ | refine sw_ret (ret0 ?_) | refine sw_ret ?_); simp (disch := (refine Om.mk ?_; omega)) only [go_sem, Try.results8]) | (refine hK.nil ?_; clear hK K; simp only [go_sem]) | ((first | refine sw_cond rfl ?_ ?_) <;> intro h <;> try simp (disch := (refine Om.mk ?_; omega)) only [go_sem] at h) | refine sw_loopEnd ?_ | refine hK.c0 rfl rfl rfl (cP) rfl rfl rfl ?_ | refine hK.c0 rfl rfl rfl (cG) rfl rfl rfl ?_ | (with_reducible refine And.intro (by first | omega | (simp only [lens]; omega)) ?_) | fail
  ·skip
   refine fc_body Try.func8 rfl (by kernel_rfl) (by simp [Try.f8]) fun B => ?_
   simp only [Try.ntmps8, enumD, lst0, Nat.reduceAdd]
   repeat' first | ((exfalso; omega)) | refine sw_seq ?_ | refine sw_skip ?_ | refine sw_go 0 kp8 fun K hK => ?_ | refine fun (K : KT) (hK : KOk S 0 _ _ _ K) => ?_ | ((first | refine runL_go ?_ | refine sw_ret (ret0 ?_) | refine sw_ret ?_); simp (disch := (refine Om.mk ?_; omega)) only [go_sem, Try.results8]) | (refine hK.nil ?_; clear hK K; simp only [go_sem]) | ((first | refine sw_cond rfl ?_ ?_) <;> intro h <;> try simp (disch := (refine Om.mk ?_; omega)) only [go_sem] at h) | refine sw_loopEnd ?_ | refine hK.c0 rfl rfl rfl (cP) rfl rfl rfl ?_ | refine hK.c0 rfl rfl rfl (cG) rfl rfl rfl ?_ | (with_reducible refine And.intro (by first | omega | (simp only [lens]; omega)) ?_) | fail
 ·rw [pairsR_no h] at cP hl ⊢
  dsimp only at cP hl ⊢
  have hg0 : graphG x [] 0 = [] := List.length_eq_zero_iff.1 hl
  show FC S 8 [] [] [] [SystemD x] (.sl .any ((graphG x [] 0).map IntsD)) [] []
  rw [hg0]
  refine fc_body Try.func8 rfl (by kernel_rfl) (by simp [Try.f8]) fun B => ?_
  simp only [Try.ntmps8, enumD, lst0, Nat.reduceAdd]
  repeat' first | ((exfalso; omega)) | refine sw_seq ?_ | refine sw_skip ?_ | refine sw_go 0 kp8 fun K hK => ?_ | refine fun (K : KT) (hK : KOk S 0 _ _ _ K) => ?_ | ((first | refine runL_go ?_ | refine sw_ret (ret0 ?_) | refine sw_ret ?_); simp (disch := (refine Om.mk ?_; omega)) only [go_sem, Try.results8]) | (refine hK.nil ?_; clear hK K; simp only [go_sem]) | ((first | refine sw_cond rfl ?_ ?_) <;> intro h <;> try simp (disch := (refine Om.mk ?_; omega)) only [go_sem] at h) | refine sw_loopEnd ?_ | refine hK.c0 rfl rfl rfl (cP) rfl rfl rfl ?_ | (with_reducible refine And.intro (by first | omega | (simp only [lens]; omega)) ?_) | fail
def kp4 : List (Nat × List Nat) := [(0, [0]), (1, [2])]
attribute [go_sem] kp4
theorem big_fc (bs : List Int) : FC S 4 [] [] [] [.sl .any (bs.map (.int .u8))] (.bool (tst (4096 < (bs.length : Int)))) [] [] := by
 refine fc_body Try.func4 rfl (by kernel_rfl) (by simp [Try.f4]) fun B => ?_
 simp only [Try.ntmps4, enumD, lst0, Nat.reduceAdd]
 refine sw_bnd 0 rfl fun hb0 => ?_
 simp only [D.bnd, List.length_map] at hb0
 repeat' first | refine sw_seq ?_ | refine sw_skip ?_ | refine sw_go 0 kp4 fun K hK => ?_ | refine fun (K : KT) (hK : KOk S 0 _ _ _ K) => ?_ | ((first | refine runL_go ?_ | refine sw_ret (ret0 ?_) | refine sw_ret ?_); simp (disch := (refine Om.mk ?_; omega)) only [go_sem, Try.results4]) | (refine hK.nil ?_; clear hK K; simp only [go_sem]) | refine sw_loopEnd ?_ | (with_reducible refine And.intro (by first | omega | (simp only [lens]; omega)) ?_) | fail
theorem parts_all (x : SystemT) : FC S 9 [] [] [] [SystemD x, .sl .any ((upTo (pairsR x).1.length).map (.int .i64))] (.sl .any ((partsR (grF x) (upTo (pairsR x).1.length)).map IntsD)) [] [] := by
 have c := implPartsIn_fc [1] (by simp) x (upTo (pairsR x).1.length)
 have e : partsInR x (upTo (pairsR x).1.length) = partsR (grF x) (upTo (pairsR x).1.length) := by
  unfold grF
  rcases Classical.em (PairsP x) with h | h
  ·have hS : SetPP (upTo (allP x).length) (allP x).length := fun i hi => by
    rw [upTo_len] at hi
    rw [upTo_get hi]
    refine ⟨by omega, fun h0 => ?_⟩
    rw [upTo_get (by omega)]; omega
   rw [pairsR_yes h]
   exact partsInR_yes ⟨h, hS⟩
  ·rw [partsInR_no fun hh => h hh.1, pairsR_no h]
   rw [parts_ls]
   rfl
 rw [e] at c
 exact c.weak (bx'' := []) (tk'' := []) (le_Int64SSL _ _) (by simp) (by simp)
noncomputable def seenF (Ps : List (List Int)) (i k : Nat) (q : Nat) : Bool := tst ((∃ j, j < i ∧ (q : Int) ∈ Ps.getD j default) ∨ (q : Int) ∈ (Ps.getD i default).take k)
theorem seen_z {Ps : List (List Int)} : seenF Ps 0 0 = fun _ => false := by
 funext q
 refine tst_false ?_
 rintro (⟨j, h, _⟩ | h)
 ·omega
 ·rw [List.take_zero] at h; cases h
theorem seen_no {Ps : List (List Int)} {i k q : Nat} (h1 : ∀ j < i, (q : Int) ∉ Ps.getD j default) (h2 : (q : Int) ∉ (Ps.getD i default).take k) : seenF Ps i k q = false := by
 refine tst_false ?_
 rintro (⟨j, h, h3⟩ | h)
 ·exact h1 j h h3
 ·exact h2 h
theorem seen_s {Ps : List (List Int)} {i k : Nat} (hk : k < (Ps.getD i default).length) {q : Nat} (hq : (Ps.getD i default).getD k default = (q : Int)) : (fun x => if x = q then true else seenF Ps i k x) = seenF Ps i (k + 1) := by
 funext x
 unfold seenF
 rw [take_snocP hk, hq]
 by_cases hx : x = q
 ·subst hx
  rw [if_pos rfl, tst_true (.inr (by simp))]
 ·rw [if_neg hx]
  congr 1
  refine propext (or_congr Iff.rfl ?_)
  rw [List.mem_append, List.mem_singleton]
  exact ⟨.inl, fun h => h.elim id fun h => absurd (by omega) hx⟩
theorem seen_n {Ps : List (List Int)} {i k : Nat} (hk : (Ps.getD i default).length ≤ k) : seenF Ps i k = seenF Ps (i + 1) 0 := by
 funext x
 unfold seenF
 rw [List.take_of_length_le hk, List.take_zero]
 congr 1
 refine propext ⟨?_, ?_⟩
 ·rintro (⟨j, h1, h2⟩ | h)
  ·exact .inl ⟨j, by omega, h2⟩
  ·exact .inl ⟨i, by omega, h⟩
 ·rintro (⟨j, h1, h2⟩ | h)
  ·rcases Nat.lt_or_ge j i with h3 | h3
   ·exact .inl ⟨j, h3, h2⟩
   ·obtain rfl : j = i := by omega
    exact .inr h2
  ·cases h
theorem seen_yes {Ps : List (List Int)} {I q : Nat} (h : ∃ j < I, (q : Int) ∈ Ps.getD j default) : seenF Ps I 0 q = true := tst_true (.inl (by obtain ⟨j, h1, h2⟩ := h; exact ⟨j, h1, h2⟩))
def someM (g pt : List Int) (a m : Nat) : Prop := (∃ y ∈ g.take a, y ∈ pt) ∨ (m ≠ 0 ∧ g.getD a default ∈ pt.take m)
theorem some_z {g pt : List Int} : ¬ someM g pt 0 0 := by
 rintro (⟨y, h, _⟩ | ⟨h, _⟩)
 ·rw [List.take_zero] at h; cases h
 ·exact h rfl
theorem some_s {g pt : List Int} {a m : Nat} (hm : m < pt.length) : someM g pt a (m + 1) ↔ someM g pt a m ∨ g.getD a default = pt.getD m default := by
 unfold someM
 rw [take_snocP hm, List.mem_append, List.mem_singleton]
 constructor
 ·rintro (h | ⟨_, h | h⟩)
  ·exact .inl (.inl h)
  ·refine .inl (.inr ⟨?_, h⟩)
   rintro rfl
   rw [List.take_zero] at h; cases h
  ·exact .inr h
 ·rintro ((h | ⟨h1, h2⟩) | h)
  ·exact .inl h
  ·exact .inr ⟨by omega, .inl h2⟩
  ·exact .inr ⟨by omega, .inr h⟩
theorem some_n {g pt : List Int} {a m : Nat} (ha : a < g.length) (hm : pt.length ≤ m) : someM g pt a m ↔ someM g pt (a + 1) 0 := by
 unfold someM
 rw [List.take_of_length_le hm, take_snocP ha]
 constructor
 ·rintro (⟨y, h1, h2⟩ | ⟨_, h⟩)
  ·exact .inl ⟨y, List.mem_append_left _ h1, h2⟩
  ·exact .inl ⟨_, List.mem_append_right _ (List.mem_singleton.2 rfl), h⟩
 ·rintro (⟨y, h1, h2⟩ | ⟨h, _⟩)
  ·rcases List.mem_append.1 h1 with h1 | h1
   ·exact .inl ⟨y, h1, h2⟩
   ·rw [List.mem_singleton.1 h1] at h2
    refine .inr ⟨?_, h2⟩
    rintro rfl
    rw [List.length_eq_zero_iff.1 (Nat.le_zero.1 hm)] at h2; cases h2
  ·exact absurd rfl h
theorem some_e {g pt : List Int} (h : ∃ y ∈ g, y ∈ pt) {a : Nat} (ha : g.length ≤ a) : someM g pt a 0 := by
 obtain ⟨y, h1, h2⟩ := h
 exact .inl ⟨y, by rw [List.take_of_length_le ha]; exact h1, h2⟩
def StpF (p : Prop) : Prop := p
theorem stop_atF {S : Setup} {B : Base} {R : LS → Prop} {k : List VItem} {L : LS} (id : Nat) {ops : Array Oper} {dr : Bool} (h : StpF (SW S B R (.code (.region id ops dr) :: k) L)) : SW S B R (.code (.region id ops dr) :: k) L := h
attribute [local irreducible] StpF seenF someM bRow grF
attribute [local go_sem] bRow_get bRow_set bRow_len rep_bRow bRow_ids bRow_tks bRow_pu
def kp3 : List (Nat × List Nat) := [(0, [0]), (1, [0, 21]), (2, [2]), (3, [3]), (4, [4]), (5, [4, 5]), (6, [4, 5, 7]), (7, [4, 5, 7, 8]), (8, [4, 5, 7, 8, 9]), (9, [4, 5, 7, 8, 9, 37]), (11, [4, 5, 7, 8, 9]), (10, [4, 5, 7, 8, 9]), (12, [5, 7, 10]), (13, [5, 7, 10, 51]), (14, [2]), (15, [5, 7, 10, 11]), (16, [5, 7, 10, 11, 12]), (17, [5, 7, 10, 11, 12, 58]), (19, [5, 7, 10, 11, 12, 86]), (20, [2]), (21, [5, 7, 10, 11, 12, 13]), (22, [5, 7, 10, 11, 12, 13, 93]), (24, [5, 7, 10, 11, 12, 13, 14]), (25, [5, 7, 10, 11, 12, 13, 14, 116]), (26, [2]), (27, [5, 7, 10, 11, 12, 13, 14]), (28, [5, 7, 10, 11, 12, 13, 14, 15]), (29, [5, 7, 10, 11, 12, 13, 14, 15, 16]), (30, [5, 7, 10, 11, 12, 13, 14, 15, 16, 126]), (32, [5, 7, 10, 11, 12, 13, 14, 15, 16, 17]), (33, [5, 7, 10, 11, 12, 13, 14, 15, 16, 17, 135]), (35, [5, 7, 10, 11, 12, 13, 14, 15, 16, 17]), (34, [5, 7, 10, 11, 12, 13, 14, 15, 16, 17]), (31, [5, 7, 10, 11, 12, 13, 14, 15, 16]), (36, [5, 7, 10, 11, 12, 13, 157]), (37, [2]), (23, [5, 7, 10, 11, 12, 13]), (18, [5, 7, 10, 11, 12]), (38, [7, 11, 18]), (39, [7, 11, 18, 161]), (41, [7, 11, 18, 19]), (42, [7, 11, 18, 19, 170]), (44, [7, 11, 18, 19, 188]), (45, [2]), (43, [7, 11, 18, 19]), (40, [7, 11, 18]), (46, [2])]
attribute [go_sem] kp3
theorem fnParts_fc (bs : List Int) (hb : BytesP bs) : FC S 3 [] [] [] [.sl .any (bs.map (.int .u8))] (.bool true) [] [] := by
 by_cases hl : 4096 < (bs.length : Int)
 ·skip
  refine fc_body Try.func3 rfl (by kernel_rfl) (by simp [Try.f3]) fun B => ?_
  simp only [Try.ntmps3, enumD, lst0, Nat.reduceAdd]
  repeat' first | ((exfalso; omega)) | refine sw_seq ?_ | refine sw_block ?_ | refine sw_inBlock ?_ | refine sw_skip ?_ | refine sw_go 0 kp3 fun K hK => ?_ | refine fun (K : KT) (hK : KOk S 0 _ _ _ K) => ?_ | refine sw_goD kp3 (by kernel_rfl) fun K hK => ?_ | ((first | refine runL_go ?_ | refine runQ_go ?_ | refine sw_ret (ret0 ?_) | refine sw_ret ?_); simp (disch := (refine Om.mk ?_; omega)) only [go_sem, Try.results3]) | (refine hK.nil ?_; clear hK K; simp only [go_sem]) | ((first | refine runG_fork rfl rfl rfl rfl rfl ?_ ?_ | refine runQG_fork rfl rfl rfl rfl rfl ?_ ?_ | refine sw_cond rfl ?_ ?_) <;> intro h <;> try simp (disch := (refine Om.mk ?_; omega)) only [go_sem] at h) | refine hK.skp rfl rfl ?_ | refine sw_exit rfl ?_ | refine sw_loopEnd ?_ | refine hK.c0 rfl rfl rfl (big_fc _) rfl rfl rfl ?_ | (refine hK.fork rfl rfl rfl ?_ ?_ <;> intro h <;> try simp (disch := (refine Om.mk ?_; omega)) only [go_sem] at h) | (with_reducible refine And.intro (by first | omega | (simp only [lens]; omega)) ?_) | ((with_reducible refine And.intro ?_ ?_); · first | (intro x hx; subst hx; rfl) | exact upR_mem fun _ _ => rfl | exact mapR_mem fun _ _ => rfl | (intro x; refine And.intro ?_ ?_ <;> (intros; subst_vars; rfl))) | fail
 have cN := roll_fc bs hb (by omega)
 have hi0 : (rolC bs).i ≤ bs.length := by show (0 : Nat) ≤ _; omega
 generalize rolC bs = c0 at *
 obtain ⟨x, c1, cW⟩ := w9System_fc bs hb 15 c0 hi0
 have cP := specPairsOf_fc x
 have cG := graphOf_fc x
 have cA := parts_all x
 obtain ⟨hP1, _⟩ := pairs_small x
 have hgl : (grF x).length = (pairsR x).1.length := by unfold grF; exact graphG_len x _ _
 have hgr : ∀ j < (grF x).length, ((grF x).getD j default).length ≤ 64 := fun j hj => by
  have := rowG_len x (pairsR x).1 j (pairsR x).1.length
  unfold grF at hj ⊢
  rw [graphG_len] at hj
  rw [graphG_get x _ _ j hj]; omega
 generalize grF x = gr at *
 generalize (pairsR x).2 = pb at *
 generalize hn : (pairsR x).1 = P at *
 have f1 := fun i => @pl_head gr P.length i
 have f2 := fun i k => @pl_elem gr P.length i k
 have f3 := fun i k => @pl_some gr P.length i k
 have f4 := fun i => @pl_loop gr P.length i
 have hPs : (partsR gr (upTo P.length)).length ≤ P.length := by
  rw [parts_ls, List.length_map]
  exact Nat.le_trans (List.length_filter_le _ _) (Nat.le_of_eq List.length_range)
 have hrow : ∀ y ∈ partsR gr (upTo P.length), y.length ≤ P.length := fun y hy => by
  have h := rowsP (edges := gr) (set := upTo P.length) y hy
  rwa [upTo_len] at h
 generalize hPP : partsR gr (upTo P.length) = Ps at *
 refine fc_body Try.func3 rfl (by kernel_rfl) (by simp [Try.f3]) fun B => ?_
 simp only [Try.ntmps3, enumD, lst0, Nat.reduceAdd]
 repeat' first | ((exfalso; omega)) | ((refine sw_goAt (id := 3) 0 kp3 1 rfl fun K hK => ?_)) | refine sw_seq ?_ | refine sw_block ?_ | refine sw_inBlock ?_ | refine sw_skip ?_ | refine sw_go 0 kp3 fun K hK => ?_ | refine fun (K : KT) (hK : KOk S 0 _ _ _ K) => ?_ | refine sw_goD kp3 (by kernel_rfl) fun K hK => ?_ | ((first | refine runL_go ?_ | refine runQ_go ?_ | refine sw_ret (ret0 ?_) | refine sw_ret ?_); simp (disch := (refine Om.mk ?_; omega)) only [go_sem, Try.results3]) | (refine hK.nil ?_; clear hK K; simp only [go_sem]) | ((first | refine runG_fork rfl rfl rfl rfl rfl ?_ ?_ | refine runQG_fork rfl rfl rfl rfl rfl ?_ ?_ | refine sw_cond rfl ?_ ?_) <;> intro h <;> try simp (disch := (refine Om.mk ?_; omega)) only [go_sem] at h) | refine hK.skp rfl rfl ?_ | refine sw_exit rfl ?_ | refine sw_loopEnd ?_ | refine hK.c0 rfl rfl rfl (big_fc _) rfl rfl rfl ?_ | (refine hK.fork rfl rfl rfl ?_ ?_ <;> intro h <;> try simp (disch := (refine Om.mk ?_; omega)) only [go_sem] at h) | (with_reducible refine And.intro (by first | omega | (simp only [lens]; omega)) ?_) | ((with_reducible refine And.intro ?_ ?_); · first | (intro x hx; subst hx; rfl) | exact upR_mem fun _ _ => rfl | exact mapR_mem fun _ _ => rfl | (intro x; refine And.intro ?_ ?_ <;> (intros; subst_vars; rfl))) | fail
 refine LopsW.callP rfl 1015 rfl rfl cN ⟨⟨by simp only [Nat.reduceLT], by simp, by simp [Lg.look]⟩, by simp [D.memOk]⟩ ?_
 simp only [go_sem]
 refine LopsW.nil ?_
 refine fun (K : List Oper → LS → Prop) (hK : KOk S 0 _ _ _ K) => ?_
 simp only [go_sem]
 repeat' first | ((exfalso; omega)) | ((refine hK.callB rfl rfl rfl (cW) ⟨⟨by simp only [Nat.reduceLT], (by simp), (by simp [Lg.look]), (by simp), (by simp)⟩, ⟨by simp [D.ids, D.idsL, SystemD, idsL_intsE, idsL_rulesE], by simp [D.ids, D.idsL, idsL_intsE], by simp [D.tks, D.tksL, SystemD, tksE, tksL_rulesE], by simp [D.tks, D.tksL, tksE], by simp⟩, (by simp [LS.clean, D.puOk, D.pu, D.pu1, D.tks, D.tksL, tksE, tksL_rulesE, puOk_rulesE, inTok])⟩ ?_; simp (disch := (refine Om.mk ?_; omega)) only [go_sem])) | ((refine sw_tok 8 44000 2 1 rfl (.inr rfl) rfl ?_; simp only [go_sem])) | refine sw_seq ?_ | refine sw_block ?_ | refine sw_inBlock ?_ | refine sw_skip ?_ | refine sw_go 0 kp3 fun K hK => ?_ | refine fun (K : KT) (hK : KOk S 0 _ _ _ K) => ?_ | refine sw_goD kp3 (by kernel_rfl) fun K hK => ?_ | ((first | refine runL_go ?_ | refine runQ_go ?_ | refine sw_ret (ret0 ?_) | refine sw_ret ?_); simp (disch := (refine Om.mk ?_; omega)) only [go_sem, Try.results3]) | (refine hK.nil ?_; clear hK K; simp only [go_sem]) | ((first | refine runG_fork rfl rfl rfl rfl rfl ?_ ?_ | refine runQG_fork rfl rfl rfl rfl rfl ?_ ?_ | refine sw_cond rfl ?_ ?_) <;> intro h <;> try simp (disch := (refine Om.mk ?_; omega)) only [go_sem] at h) | refine hK.skp rfl rfl ?_ | refine sw_exit rfl ?_ | refine sw_loopEnd ?_ | refine hK.c0 rfl rfl rfl (cP) rfl rfl rfl ?_ | refine hK.c0 rfl rfl rfl (cG) rfl rfl rfl ?_ | (refine hK.fork rfl rfl rfl ?_ ?_ <;> intro h <;> try simp (disch := (refine Om.mk ?_; omega)) only [go_sem] at h) | (with_reducible refine And.intro (by first | omega | (simp only [lens]; omega)) ?_) | ((with_reducible refine And.intro ?_ ?_); · first | (intro x hx; subst hx; rfl) | exact upR_mem fun _ _ => rfl | exact mapR_mem fun _ _ => rfl | (intro x; refine And.intro ?_ ?_ <;> (intros; subst_vars; rfl))) | fail
 refine sw_loopT (ι := Nat) (fun i => [(9, .int .i64 i), (8, .sl (.own 44000 2 1) ((upTo i).map (.int .i64)))]) (fun _ => []) (fun _ => [44000]) (fun i => i ≤ P.length) (fun i => P.length - i) 0 (by (refine covers_mk0 rfl rfl ?_ ?_ ?_ ?_ <;> simp (disch := (refine Om.mk ?_; omega)) only [go_sem] <;> (try omega)); all_goals first | rfl | exact ⟨rfl, rfl⟩ | trace_state) (by omega) (fun i hi => ?_)
 simp only [go_sem]
 have hul := upTo_len i
 have hus := upTo_succ i
 by_cases hil : i < P.length
 ·repeat' first | ((exfalso; omega)) | refine sw_seq ?_ | refine sw_block ?_ | refine sw_inBlock ?_ | refine sw_skip ?_ | refine sw_go 0 kp3 fun K hK => ?_ | refine fun (K : KT) (hK : KOk S 0 _ _ _ K) => ?_ | refine sw_goD kp3 (by kernel_rfl) fun K hK => ?_ | ((first | refine runL_go ?_ | refine runQ_go ?_ | refine sw_ret (ret0 ?_) | refine sw_ret ?_); simp (disch := (refine Om.mk ?_; omega)) only [go_sem, Try.results3]) | (refine hK.nil ?_; clear hK K; simp only [go_sem]) | ((first | refine runG_fork rfl rfl rfl rfl rfl ?_ ?_ | refine runQG_fork rfl rfl rfl rfl rfl ?_ ?_ | refine sw_cond rfl ?_ ?_) <;> intro h <;> try simp (disch := (refine Om.mk ?_; omega)) only [go_sem] at h) | refine hK.skp rfl rfl ?_ | refine sw_exit rfl ?_ | refine sw_loopEnd ?_ | (refine hK.fork rfl rfl rfl ?_ ?_ <;> intro h <;> try simp (disch := (refine Om.mk ?_; omega)) only [go_sem] at h) | (with_reducible refine And.intro (by first | omega | (simp only [lens]; omega)) ?_) | ((with_reducible refine And.intro ?_ ?_); · first | (intro x hx; subst hx; rfl) | exact upR_mem fun _ _ => rfl | exact mapR_mem fun _ _ => rfl | (intro x; refine And.intro ?_ ?_ <;> (intros; subst_vars; rfl))) | fail
  all_goals exact ⟨i + 1, (by rw [hus]; (refine covers_mk0 rfl rfl ?_ ?_ ?_ ?_ <;> simp (disch := (refine Om.mk ?_; omega)) only [go_sem] <;> (try omega)); all_goals first | exact ⟨by omega, by rw [List.map_append]; rfl⟩ | (simp; done) | trace_state), by omega, by omega⟩
 obtain rfl : i = P.length := by omega
 repeat' first | ((exfalso; omega)) | refine sw_seq ?_ | refine sw_block ?_ | refine sw_inBlock ?_ | refine sw_skip ?_ | refine sw_go 0 kp3 fun K hK => ?_ | refine fun (K : KT) (hK : KOk S 0 _ _ _ K) => ?_ | refine sw_goD kp3 (by kernel_rfl) fun K hK => ?_ | ((first | refine runL_go ?_ | refine runQ_go ?_ | refine sw_ret (ret0 ?_) | refine sw_ret ?_); simp (disch := (refine Om.mk ?_; omega)) only [go_sem, Try.results3]) | (refine hK.nil ?_; clear hK K; simp only [go_sem]) | ((first | refine runG_fork rfl rfl rfl rfl rfl ?_ ?_ | refine runQG_fork rfl rfl rfl rfl rfl ?_ ?_ | refine sw_cond rfl ?_ ?_) <;> intro h <;> try simp (disch := (refine Om.mk ?_; omega)) only [go_sem] at h) | refine hK.skp rfl rfl ?_ | refine sw_exit rfl ?_ | refine sw_loopEnd ?_ | (refine hK.c0 rfl rfl rfl (FC.args (cA) ?le) rfl rfl rfl ?_; case le => (simp only [go_sem])) | (refine hK.fork rfl rfl rfl ?_ ?_ <;> intro h <;> try simp (disch := (refine Om.mk ?_; omega)) only [go_sem] at h) | (with_reducible refine And.intro (by first | omega | (simp only [lens]; omega)) ?_) | ((with_reducible refine And.intro ?_ ?_); · first | (intro x hx; subst hx; rfl) | exact upR_mem fun _ _ => rfl | exact mapR_mem fun _ _ => rfl | (intro x; refine And.intro ?_ ?_ <;> (intros; subst_vars; rfl))) | fail
 rw [← seen_z (Ps := Ps)]
 refine sw_loopT (ι := Nat) (fun i => [(12, .int .i64 i)]) (fun i => [(54, bRow P.length (seenF Ps i 0))]) (fun _ => []) (fun i => i ≤ Ps.length) (fun i => Ps.length - i) 0 (by (refine covers_mk0 rfl rfl ?_ ?_ ?_ ?_ <;> simp (disch := (refine Om.mk ?_; omega)) only [go_sem] <;> (try omega)); all_goals first | rfl | exact ⟨rfl, rfl⟩ | trace_state) (by omega) (fun i hi => ?_)
 simp only [go_sem]
 by_cases hil : i < Ps.length
 ·have hh := f1 i hil
  have hprev : 0 < i → 0 < (Ps.getD (i - 1) default).length := fun h0 => (f1 (i - 1) (by omega)).1
  obtain ⟨hh1, hh2⟩ := hh
  have hptl := hrow _ (getD_mem Ps i hil)
  repeat' first | ((exfalso; omega)) | refine sw_seq ?_ | refine sw_block ?_ | refine sw_inBlock ?_ | refine sw_skip ?_ | refine sw_go 0 kp3 fun K hK => ?_ | refine fun (K : KT) (hK : KOk S 0 _ _ _ K) => ?_ | refine sw_goD kp3 (by kernel_rfl) fun K hK => ?_ | ((first | refine runL_go ?_ | refine runQ_go ?_ | refine sw_ret (ret0 ?_) | refine sw_ret ?_); simp (disch := (refine Om.mk ?_; omega)) only [go_sem, Try.results3]) | (refine hK.nil ?_; clear hK K; simp only [go_sem]) | ((first | refine runG_fork rfl rfl rfl rfl rfl ?_ ?_ | refine runQG_fork rfl rfl rfl rfl rfl ?_ ?_ | refine sw_cond rfl ?_ ?_) <;> intro h <;> try simp (disch := (refine Om.mk ?_; omega)) only [go_sem] at h) | refine hK.skp rfl rfl ?_ | refine sw_exit rfl ?_ | refine sw_loopEnd ?_ | (refine hK.fork rfl rfl rfl ?_ ?_ <;> intro h <;> try simp (disch := (refine Om.mk ?_; omega)) only [go_sem] at h) | (with_reducible refine And.intro (by first | omega | (simp only [lens]; omega)) ?_) | ((with_reducible refine And.intro ?_ ?_); · first | (intro x hx; subst hx; rfl) | exact upR_mem fun _ _ => rfl | exact mapR_mem fun _ _ => rfl | (intro x; refine And.intro ?_ ?_ <;> (intros; subst_vars; rfl))) | fail
  all_goals
   refine sw_loopT (ι := Nat) (fun k => [(13, .int .i64 k)]) (fun k => [(54, bRow P.length (seenF Ps i k))]) (fun _ => []) (fun k => k ≤ (Ps.getD i default).length) (fun k => (Ps.getD i default).length - k) 0 (by (refine covers_mk0 rfl rfl ?_ ?_ ?_ ?_ <;> simp (disch := (refine Om.mk ?_; omega)) only [go_sem] <;> (try omega)); all_goals first | rfl | exact ⟨rfl, rfl⟩ | trace_state) (by omega) (fun k hk => ?_)
   simp only [go_sem]
   by_cases hkl : k < (Ps.getD i default).length
   ·obtain ⟨⟨g1, g2⟩, g3, g4⟩ := f2 i k hil hkl
    have hso := f3 i k hil hkl
    obtain ⟨q, hq, hqn⟩ : ∃ q : Nat, (Ps.getD i default).getD k default = (q : Int) ∧ q < P.length := ⟨((Ps.getD i default).getD k default).toNat, by omega, by omega⟩
    rw [hq] at g3 g4 hso
    rw [Int.toNat_natCast] at hso
    have hns := seen_no g3 g4
    have hsn := seen_s hkl hq
    have hgq := hgr q (by omega)
    repeat' first | ((exfalso; omega)) | ((refine stop_atF 25 ?_)) | refine sw_seq ?_ | refine sw_block ?_ | refine sw_inBlock ?_ | refine sw_skip ?_ | refine sw_go 0 kp3 fun K hK => ?_ | refine fun (K : KT) (hK : KOk S 0 _ _ _ K) => ?_ | refine sw_goD kp3 (by kernel_rfl) fun K hK => ?_ | ((first | refine runL_go ?_ | refine runQ_go ?_ | refine sw_ret (ret0 ?_) | refine sw_ret ?_); simp (disch := (refine Om.mk ?_; omega)) only [go_sem, Try.results3]) | (refine hK.nil ?_; clear hK K; simp only [go_sem]) | ((first | refine runG_fork rfl rfl rfl rfl rfl ?_ ?_ | refine runQG_fork rfl rfl rfl rfl rfl ?_ ?_ | refine sw_cond rfl ?_ ?_) <;> intro h <;> try simp (disch := (refine Om.mk ?_; omega)) only [go_sem] at h) | refine hK.skp rfl rfl ?_ | refine sw_exit rfl ?_ | refine sw_loopEnd ?_ | (refine hK.fork rfl rfl rfl ?_ ?_ <;> intro h <;> try simp (disch := (refine Om.mk ?_; omega)) only [go_sem] at h) | (with_reducible refine And.intro (by first | omega | (simp only [lens]; omega)) ?_) | ((with_reducible refine And.intro ?_ ?_); · first | (intro x hx; subst hx; rfl) | exact upR_mem fun _ _ => rfl | exact mapR_mem fun _ _ => rfl | (intro x; refine And.intro ?_ ?_ <;> (intros; subst_vars; rfl))) | fail
    unfold StpF
    rw [hq]
    repeat' first | ((exfalso; omega)) | ((exfalso; exact absurd (by assumption) (by rw [hns]; decide))) | refine sw_seq ?_ | refine sw_block ?_ | refine sw_inBlock ?_ | refine sw_skip ?_ | refine sw_go 0 kp3 fun K hK => ?_ | refine fun (K : KT) (hK : KOk S 0 _ _ _ K) => ?_ | refine sw_goD kp3 (by kernel_rfl) fun K hK => ?_ | ((first | refine runL_go ?_ | refine runQ_go ?_ | refine sw_ret (ret0 ?_) | refine sw_ret ?_); simp (disch := (refine Om.mk ?_; omega)) only [go_sem, Try.results3]) | (refine hK.nil ?_; clear hK K; simp only [go_sem]) | ((first | refine runG_fork rfl rfl rfl rfl rfl ?_ ?_ | refine runQG_fork rfl rfl rfl rfl rfl ?_ ?_ | refine sw_cond rfl ?_ ?_) <;> intro h <;> try simp (disch := (refine Om.mk ?_; omega)) only [go_sem] at h) | refine hK.skp rfl rfl ?_ | refine sw_exit rfl ?_ | refine sw_loopEnd ?_ | (refine hK.fork rfl rfl rfl ?_ ?_ <;> intro h <;> try simp (disch := (refine Om.mk ?_; omega)) only [go_sem] at h) | (with_reducible refine And.intro (by first | omega | (simp only [lens]; omega)) ?_) | ((with_reducible refine And.intro ?_ ?_); · first | (intro x hx; subst hx; rfl) | exact upR_mem fun _ _ => rfl | exact mapR_mem fun _ _ => rfl | (intro x; refine And.intro ?_ ?_ <;> (intros; subst_vars; rfl))) | fail
    rw [hsn]
    refine sw_loopT (ι := Nat) (fun a => [(16, .int .i64 a), (15, .bool (tst (someM (gr.getD q default) (Ps.getD i default) a 0)))]) (fun _ => []) (fun _ => []) (fun a => a ≤ (gr.getD q default).length) (fun a => (gr.getD q default).length - a) 0 (by rw [tst_false some_z]; (refine covers_mk0 rfl rfl ?_ ?_ ?_ ?_ <;> simp (disch := (refine Om.mk ?_; omega)) only [go_sem] <;> (try omega)); all_goals first | rfl | exact ⟨rfl, rfl⟩ | trace_state) (by omega) (fun a ha => ?_)
    simp only [go_sem]
    by_cases hal : a < (gr.getD q default).length
    ·repeat' first | ((exfalso; omega)) | refine sw_seq ?_ | refine sw_block ?_ | refine sw_inBlock ?_ | refine sw_skip ?_ | refine sw_go 0 kp3 fun K hK => ?_ | refine fun (K : KT) (hK : KOk S 0 _ _ _ K) => ?_ | refine sw_goD kp3 (by kernel_rfl) fun K hK => ?_ | ((first | refine runL_go ?_ | refine runQ_go ?_ | refine sw_ret (ret0 ?_) | refine sw_ret ?_); simp (disch := (refine Om.mk ?_; omega)) only [go_sem, Try.results3]) | (refine hK.nil ?_; clear hK K; simp only [go_sem]) | ((first | refine runG_fork rfl rfl rfl rfl rfl ?_ ?_ | refine runQG_fork rfl rfl rfl rfl rfl ?_ ?_ | refine sw_cond rfl ?_ ?_) <;> intro h <;> try simp (disch := (refine Om.mk ?_; omega)) only [go_sem] at h) | refine hK.skp rfl rfl ?_ | refine sw_exit rfl ?_ | refine sw_loopEnd ?_ | (refine hK.fork rfl rfl rfl ?_ ?_ <;> intro h <;> try simp (disch := (refine Om.mk ?_; omega)) only [go_sem] at h) | (with_reducible refine And.intro (by first | omega | (simp only [lens]; omega)) ?_) | ((with_reducible refine And.intro ?_ ?_); · first | (intro x hx; subst hx; rfl) | exact upR_mem fun _ _ => rfl | exact mapR_mem fun _ _ => rfl | (intro x; refine And.intro ?_ ?_ <;> (intros; subst_vars; rfl))) | fail
     refine sw_loopT (ι := Nat) (fun m => [(17, .int .i64 m), (15, .bool (tst (someM (gr.getD q default) (Ps.getD i default) a m)))]) (fun _ => []) (fun _ => []) (fun m => m ≤ (Ps.getD i default).length) (fun m => (Ps.getD i default).length - m) 0 (by (refine covers_mk0 rfl rfl ?_ ?_ ?_ ?_ <;> simp (disch := (refine Om.mk ?_; omega)) only [go_sem] <;> (try omega)); all_goals first | rfl | exact ⟨rfl, rfl⟩ | trace_state) (by omega) (fun m hm => ?_)
     simp only [go_sem]
     by_cases hml : m < (Ps.getD i default).length
     ·have hS := @some_s (gr.getD q default) (Ps.getD i default) a m hml
      by_cases hA : someM (gr.getD q default) (Ps.getD i default) a m
      ·have e : tst (someM (gr.getD q default) (Ps.getD i default) a (m + 1)) = true := tst_true (hS.2 (.inl hA))
       rw [tst_true hA]
       repeat' first | ((exfalso; omega)) | refine sw_seq ?_ | refine sw_block ?_ | refine sw_inBlock ?_ | refine sw_skip ?_ | refine sw_go 0 kp3 fun K hK => ?_ | refine fun (K : KT) (hK : KOk S 0 _ _ _ K) => ?_ | refine sw_goD kp3 (by kernel_rfl) fun K hK => ?_ | ((first | refine runL_go ?_ | refine runQ_go ?_ | refine sw_ret (ret0 ?_) | refine sw_ret ?_); simp (disch := (refine Om.mk ?_; omega)) only [go_sem, Try.results3]) | (refine hK.nil ?_; clear hK K; simp only [go_sem]) | ((first | refine runG_fork rfl rfl rfl rfl rfl ?_ ?_ | refine runQG_fork rfl rfl rfl rfl rfl ?_ ?_ | refine sw_cond rfl ?_ ?_) <;> intro h <;> try simp (disch := (refine Om.mk ?_; omega)) only [go_sem] at h) | refine hK.skp rfl rfl ?_ | refine sw_exit rfl ?_ | refine sw_loopEnd ?_ | (refine hK.fork rfl rfl rfl ?_ ?_ <;> intro h <;> try simp (disch := (refine Om.mk ?_; omega)) only [go_sem] at h) | (with_reducible refine And.intro (by first | omega | (simp only [lens]; omega)) ?_) | ((with_reducible refine And.intro ?_ ?_); · first | (intro x hx; subst hx; rfl) | exact upR_mem fun _ _ => rfl | exact mapR_mem fun _ _ => rfl | (intro x; refine And.intro ?_ ?_ <;> (intros; subst_vars; rfl))) | fail
       all_goals exact ⟨m + 1, (by rw [e]; (refine covers_mk0 rfl rfl ?_ ?_ ?_ ?_ <;> simp (disch := (refine Om.mk ?_; omega)) only [go_sem] <;> (try omega)); all_goals first | rfl | (simp; done) | trace_state), by omega, by omega⟩
      ·rw [tst_false hA]
       by_cases hB : (gr.getD q default).getD a default = (Ps.getD i default).getD m default
       ·have e : tst (someM (gr.getD q default) (Ps.getD i default) a (m + 1)) = true := tst_true (hS.2 (.inr hB))
        repeat' first | ((exfalso; omega)) | refine sw_seq ?_ | refine sw_block ?_ | refine sw_inBlock ?_ | refine sw_skip ?_ | refine sw_go 0 kp3 fun K hK => ?_ | refine fun (K : KT) (hK : KOk S 0 _ _ _ K) => ?_ | refine sw_goD kp3 (by kernel_rfl) fun K hK => ?_ | ((first | refine runL_go ?_ | refine runQ_go ?_ | refine sw_ret (ret0 ?_) | refine sw_ret ?_); simp (disch := (refine Om.mk ?_; omega)) only [go_sem, Try.results3]) | (refine hK.nil ?_; clear hK K; simp only [go_sem]) | ((first | refine runG_fork rfl rfl rfl rfl rfl ?_ ?_ | refine runQG_fork rfl rfl rfl rfl rfl ?_ ?_ | refine sw_cond rfl ?_ ?_) <;> intro h <;> try simp (disch := (refine Om.mk ?_; omega)) only [go_sem] at h) | refine hK.skp rfl rfl ?_ | refine sw_exit rfl ?_ | refine sw_loopEnd ?_ | (refine hK.fork rfl rfl rfl ?_ ?_ <;> intro h <;> try simp (disch := (refine Om.mk ?_; omega)) only [go_sem] at h) | (with_reducible refine And.intro (by first | omega | (simp only [lens]; omega)) ?_) | ((with_reducible refine And.intro ?_ ?_); · first | (intro x hx; subst hx; rfl) | exact upR_mem fun _ _ => rfl | exact mapR_mem fun _ _ => rfl | (intro x; refine And.intro ?_ ?_ <;> (intros; subst_vars; rfl))) | fail
        all_goals exact ⟨m + 1, (by rw [e]; (refine covers_mk0 rfl rfl ?_ ?_ ?_ ?_ <;> simp (disch := (refine Om.mk ?_; omega)) only [go_sem] <;> (try omega)); all_goals first | rfl | exact ⟨by rw [hB]; simp, by omega⟩ | (simp [hB]; done) | trace_state), by omega, by omega⟩
       ·have e : tst (someM (gr.getD q default) (Ps.getD i default) a (m + 1)) = false := tst_false fun hc => (hS.1 hc).elim hA hB
        repeat' first | ((exfalso; omega)) | refine sw_seq ?_ | refine sw_block ?_ | refine sw_inBlock ?_ | refine sw_skip ?_ | refine sw_go 0 kp3 fun K hK => ?_ | refine fun (K : KT) (hK : KOk S 0 _ _ _ K) => ?_ | refine sw_goD kp3 (by kernel_rfl) fun K hK => ?_ | ((first | refine runL_go ?_ | refine runQ_go ?_ | refine sw_ret (ret0 ?_) | refine sw_ret ?_); simp (disch := (refine Om.mk ?_; omega)) only [go_sem, Try.results3]) | (refine hK.nil ?_; clear hK K; simp only [go_sem]) | ((first | refine runG_fork rfl rfl rfl rfl rfl ?_ ?_ | refine runQG_fork rfl rfl rfl rfl rfl ?_ ?_ | refine sw_cond rfl ?_ ?_) <;> intro h <;> try simp (disch := (refine Om.mk ?_; omega)) only [go_sem] at h) | refine hK.skp rfl rfl ?_ | refine sw_exit rfl ?_ | refine sw_loopEnd ?_ | (refine hK.fork rfl rfl rfl ?_ ?_ <;> intro h <;> try simp (disch := (refine Om.mk ?_; omega)) only [go_sem] at h) | (with_reducible refine And.intro (by first | omega | (simp only [lens]; omega)) ?_) | ((with_reducible refine And.intro ?_ ?_); · first | (intro x hx; subst hx; rfl) | exact upR_mem fun _ _ => rfl | exact mapR_mem fun _ _ => rfl | (intro x; refine And.intro ?_ ?_ <;> (intros; subst_vars; rfl))) | fail
        all_goals exact ⟨m + 1, (by rw [e]; (refine covers_mk0 rfl rfl ?_ ?_ ?_ ?_ <;> simp (disch := (refine Om.mk ?_; omega)) only [go_sem] <;> (try omega)); all_goals first | rfl | (simp [hB]; done) | trace_state), by omega, by omega⟩
     ·have e : tst (someM (gr.getD q default) (Ps.getD i default) a m) = tst (someM (gr.getD q default) (Ps.getD i default) (a + 1) 0) := congrArg tst (propext (some_n hal (by omega)))
      rw [e]
      repeat' first | ((exfalso; omega)) | refine sw_seq ?_ | refine sw_block ?_ | refine sw_inBlock ?_ | refine sw_skip ?_ | refine sw_go 0 kp3 fun K hK => ?_ | refine fun (K : KT) (hK : KOk S 0 _ _ _ K) => ?_ | refine sw_goD kp3 (by kernel_rfl) fun K hK => ?_ | ((first | refine runL_go ?_ | refine runQ_go ?_ | refine sw_ret (ret0 ?_) | refine sw_ret ?_); simp (disch := (refine Om.mk ?_; omega)) only [go_sem, Try.results3]) | (refine hK.nil ?_; clear hK K; simp only [go_sem]) | ((first | refine runG_fork rfl rfl rfl rfl rfl ?_ ?_ | refine runQG_fork rfl rfl rfl rfl rfl ?_ ?_ | refine sw_cond rfl ?_ ?_) <;> intro h <;> try simp (disch := (refine Om.mk ?_; omega)) only [go_sem] at h) | refine hK.skp rfl rfl ?_ | refine sw_exit rfl ?_ | refine sw_loopEnd ?_ | (refine hK.fork rfl rfl rfl ?_ ?_ <;> intro h <;> try simp (disch := (refine Om.mk ?_; omega)) only [go_sem] at h) | (with_reducible refine And.intro (by first | omega | (simp only [lens]; omega)) ?_) | ((with_reducible refine And.intro ?_ ?_); · first | (intro x hx; subst hx; rfl) | exact upR_mem fun _ _ => rfl | exact mapR_mem fun _ _ => rfl | (intro x; refine And.intro ?_ ?_ <;> (intros; subst_vars; rfl))) | fail
      all_goals exact ⟨a + 1, (by (refine covers_mk0 rfl rfl ?_ ?_ ?_ ?_ <;> simp (disch := (refine Om.mk ?_; omega)) only [go_sem] <;> (try omega)); all_goals first | rfl | (simp; done) | trace_state), by omega, by omega⟩
    ·rw [tst_true (some_e hso (by omega))]
     repeat' first | ((exfalso; omega)) | refine sw_seq ?_ | refine sw_block ?_ | refine sw_inBlock ?_ | refine sw_skip ?_ | refine sw_go 0 kp3 fun K hK => ?_ | refine fun (K : KT) (hK : KOk S 0 _ _ _ K) => ?_ | refine sw_goD kp3 (by kernel_rfl) fun K hK => ?_ | ((first | refine runL_go ?_ | refine runQ_go ?_ | refine sw_ret (ret0 ?_) | refine sw_ret ?_); simp (disch := (refine Om.mk ?_; omega)) only [go_sem, Try.results3]) | (refine hK.nil ?_; clear hK K; simp only [go_sem]) | ((first | refine runG_fork rfl rfl rfl rfl rfl ?_ ?_ | refine runQG_fork rfl rfl rfl rfl rfl ?_ ?_ | refine sw_cond rfl ?_ ?_) <;> intro h <;> try simp (disch := (refine Om.mk ?_; omega)) only [go_sem] at h) | refine hK.skp rfl rfl ?_ | refine sw_exit rfl ?_ | refine sw_loopEnd ?_ | (refine hK.fork rfl rfl rfl ?_ ?_ <;> intro h <;> try simp (disch := (refine Om.mk ?_; omega)) only [go_sem] at h) | (with_reducible refine And.intro (by first | omega | (simp only [lens]; omega)) ?_) | ((with_reducible refine And.intro ?_ ?_); · first | (intro x hx; subst hx; rfl) | exact upR_mem fun _ _ => rfl | exact mapR_mem fun _ _ => rfl | (intro x; refine And.intro ?_ ?_ <;> (intros; subst_vars; rfl))) | fail
     all_goals exact ⟨k + 1, (by (refine covers_mk0 rfl rfl ?_ ?_ ?_ ?_ <;> simp (disch := (refine Om.mk ?_; omega)) only [go_sem] <;> (try omega)); all_goals first | rfl | (simp; done) | trace_state), by omega, by omega⟩
   ·repeat' first | ((exfalso; omega)) | refine sw_seq ?_ | refine sw_block ?_ | refine sw_inBlock ?_ | refine sw_skip ?_ | refine sw_go 0 kp3 fun K hK => ?_ | refine fun (K : KT) (hK : KOk S 0 _ _ _ K) => ?_ | refine sw_goD kp3 (by kernel_rfl) fun K hK => ?_ | ((first | refine runL_go ?_ | refine runQ_go ?_ | refine sw_ret (ret0 ?_) | refine sw_ret ?_); simp (disch := (refine Om.mk ?_; omega)) only [go_sem, Try.results3]) | (refine hK.nil ?_; clear hK K; simp only [go_sem]) | ((first | refine runG_fork rfl rfl rfl rfl rfl ?_ ?_ | refine runQG_fork rfl rfl rfl rfl rfl ?_ ?_ | refine sw_cond rfl ?_ ?_) <;> intro h <;> try simp (disch := (refine Om.mk ?_; omega)) only [go_sem] at h) | refine hK.skp rfl rfl ?_ | refine sw_exit rfl ?_ | refine sw_loopEnd ?_ | (refine hK.fork rfl rfl rfl ?_ ?_ <;> intro h <;> try simp (disch := (refine Om.mk ?_; omega)) only [go_sem] at h) | (with_reducible refine And.intro (by first | omega | (simp only [lens]; omega)) ?_) | ((with_reducible refine And.intro ?_ ?_); · first | (intro x hx; subst hx; rfl) | exact upR_mem fun _ _ => rfl | exact mapR_mem fun _ _ => rfl | (intro x; refine And.intro ?_ ?_ <;> (intros; subst_vars; rfl))) | fail
    all_goals exact ⟨i + 1, (by rw [← seen_n (show (Ps.getD i default).length ≤ k by omega)]; (refine covers_mk0 rfl rfl ?_ ?_ ?_ ?_ <;> simp (disch := (refine Om.mk ?_; omega)) only [go_sem] <;> (try omega)); all_goals first | (simp; done) | trace_state), by omega, by omega⟩
 ·have hie : i = Ps.length := by omega
  subst hie
  repeat' first | ((exfalso; omega)) | refine sw_seq ?_ | refine sw_block ?_ | refine sw_inBlock ?_ | refine sw_skip ?_ | refine sw_go 0 kp3 fun K hK => ?_ | refine fun (K : KT) (hK : KOk S 0 _ _ _ K) => ?_ | refine sw_goD kp3 (by kernel_rfl) fun K hK => ?_ | ((first | refine runL_go ?_ | refine runQ_go ?_ | refine sw_ret (ret0 ?_) | refine sw_ret ?_); simp (disch := (refine Om.mk ?_; omega)) only [go_sem, Try.results3]) | (refine hK.nil ?_; clear hK K; simp only [go_sem]) | ((first | refine runG_fork rfl rfl rfl rfl rfl ?_ ?_ | refine runQG_fork rfl rfl rfl rfl rfl ?_ ?_ | refine sw_cond rfl ?_ ?_) <;> intro h <;> try simp (disch := (refine Om.mk ?_; omega)) only [go_sem] at h) | refine hK.skp rfl rfl ?_ | refine sw_exit rfl ?_ | refine sw_loopEnd ?_ | (refine hK.fork rfl rfl rfl ?_ ?_ <;> intro h <;> try simp (disch := (refine Om.mk ?_; omega)) only [go_sem] at h) | (with_reducible refine And.intro (by first | omega | (simp only [lens]; omega)) ?_) | ((with_reducible refine And.intro ?_ ?_); · first | (intro x hx; subst hx; rfl) | exact upR_mem fun _ _ => rfl | exact mapR_mem fun _ _ => rfl | (intro x; refine And.intro ?_ ?_ <;> (intros; subst_vars; rfl))) | fail
  refine sw_loopT (ι := Nat) (fun i => [(18, .int .i64 i)]) (fun _ => []) (fun _ => []) (fun i => i ≤ gr.length) (fun i => gr.length - i) 0 (by (refine covers_mk0 rfl rfl ?_ ?_ ?_ ?_ <;> simp (disch := (refine Om.mk ?_; omega)) only [go_sem] <;> (try omega)); all_goals first | rfl | exact ⟨rfl, rfl⟩ | trace_state) (by omega) (fun i hi => ?_)
  simp only [go_sem]
  by_cases hil : i < gr.length
  ·have hgi := hgr i hil
   repeat' first | ((exfalso; omega)) | refine sw_seq ?_ | refine sw_block ?_ | refine sw_inBlock ?_ | refine sw_skip ?_ | refine sw_go 0 kp3 fun K hK => ?_ | refine fun (K : KT) (hK : KOk S 0 _ _ _ K) => ?_ | refine sw_goD kp3 (by kernel_rfl) fun K hK => ?_ | ((first | refine runL_go ?_ | refine runQ_go ?_ | refine sw_ret (ret0 ?_) | refine sw_ret ?_); simp (disch := (refine Om.mk ?_; omega)) only [go_sem, Try.results3]) | (refine hK.nil ?_; clear hK K; simp only [go_sem]) | ((first | refine runG_fork rfl rfl rfl rfl rfl ?_ ?_ | refine runQG_fork rfl rfl rfl rfl rfl ?_ ?_ | refine sw_cond rfl ?_ ?_) <;> intro h <;> try simp (disch := (refine Om.mk ?_; omega)) only [go_sem] at h) | refine hK.skp rfl rfl ?_ | refine sw_exit rfl ?_ | refine sw_loopEnd ?_ | (refine hK.fork rfl rfl rfl ?_ ?_ <;> intro h <;> try simp (disch := (refine Om.mk ?_; omega)) only [go_sem] at h) | (with_reducible refine And.intro (by first | omega | (simp only [lens]; omega)) ?_) | ((with_reducible refine And.intro ?_ ?_); · first | (intro x hx; subst hx; rfl) | exact upR_mem fun _ _ => rfl | exact mapR_mem fun _ _ => rfl | (intro x; refine And.intro ?_ ?_ <;> (intros; subst_vars; rfl))) | fail
   refine sw_loopT (ι := Nat) (fun a => [(19, .int .i64 a)]) (fun _ => []) (fun _ => []) (fun a => a ≤ (gr.getD i default).length) (fun a => (gr.getD i default).length - a) 0 (by (refine covers_mk0 rfl rfl ?_ ?_ ?_ ?_ <;> simp (disch := (refine Om.mk ?_; omega)) only [go_sem] <;> (try omega)); all_goals first | rfl | exact ⟨rfl, rfl⟩ | trace_state) (by omega) (fun a ha => ?_)
   simp only [go_sem]
   by_cases hal : a < (gr.getD i default).length
   ·by_cases hB : (gr.getD i default).getD a default = (i : Int)
    ·have hy := seen_yes (Ps := Ps) (I := Ps.length) (q := i) (f4 i (by omega) (by rw [← hB]; exact getD_mem _ a hal))
     generalize seenF Ps Ps.length 0 = sF at *
     repeat' first | ((exfalso; omega)) | ((exfalso; exact absurd (by assumption) (by rw [hy]; decide))) | refine sw_seq ?_ | refine sw_block ?_ | refine sw_inBlock ?_ | refine sw_skip ?_ | refine sw_go 0 kp3 fun K hK => ?_ | refine fun (K : KT) (hK : KOk S 0 _ _ _ K) => ?_ | refine sw_goD kp3 (by kernel_rfl) fun K hK => ?_ | ((first | refine runL_go ?_ | refine runQ_go ?_ | refine sw_ret (ret0 ?_) | refine sw_ret ?_); simp (disch := (refine Om.mk ?_; omega)) only [go_sem, Try.results3]) | (refine hK.nil ?_; clear hK K; simp only [go_sem]) | ((first | refine runG_fork rfl rfl rfl rfl rfl ?_ ?_ | refine runQG_fork rfl rfl rfl rfl rfl ?_ ?_ | refine sw_cond rfl ?_ ?_) <;> intro h <;> try simp (disch := (refine Om.mk ?_; omega)) only [go_sem] at h) | refine hK.skp rfl rfl ?_ | refine sw_exit rfl ?_ | refine sw_loopEnd ?_ | (refine hK.fork rfl rfl rfl ?_ ?_ <;> intro h <;> try simp (disch := (refine Om.mk ?_; omega)) only [go_sem] at h) | (with_reducible refine And.intro (by first | omega | (simp only [lens]; omega)) ?_) | ((with_reducible refine And.intro ?_ ?_); · first | (intro x hx; subst hx; rfl) | exact upR_mem fun _ _ => rfl | exact mapR_mem fun _ _ => rfl | (intro x; refine And.intro ?_ ?_ <;> (intros; subst_vars; rfl))) | fail
     all_goals first | exact ⟨a + 1, (by (refine covers_mk0 rfl rfl ?_ ?_ ?_ ?_ <;> simp (disch := (refine Om.mk ?_; omega)) only [go_sem] <;> (try omega)); all_goals first | rfl | (simp; done) | trace_state), by omega, by omega⟩ | trace_state
    ·repeat' first | ((exfalso; omega)) | refine sw_seq ?_ | refine sw_block ?_ | refine sw_inBlock ?_ | refine sw_skip ?_ | refine sw_go 0 kp3 fun K hK => ?_ | refine fun (K : KT) (hK : KOk S 0 _ _ _ K) => ?_ | refine sw_goD kp3 (by kernel_rfl) fun K hK => ?_ | ((first | refine runL_go ?_ | refine runQ_go ?_ | refine sw_ret (ret0 ?_) | refine sw_ret ?_); simp (disch := (refine Om.mk ?_; omega)) only [go_sem, Try.results3]) | (refine hK.nil ?_; clear hK K; simp only [go_sem]) | ((first | refine runG_fork rfl rfl rfl rfl rfl ?_ ?_ | refine runQG_fork rfl rfl rfl rfl rfl ?_ ?_ | refine sw_cond rfl ?_ ?_) <;> intro h <;> try simp (disch := (refine Om.mk ?_; omega)) only [go_sem] at h) | refine hK.skp rfl rfl ?_ | refine sw_exit rfl ?_ | refine sw_loopEnd ?_ | (refine hK.fork rfl rfl rfl ?_ ?_ <;> intro h <;> try simp (disch := (refine Om.mk ?_; omega)) only [go_sem] at h) | (with_reducible refine And.intro (by first | omega | (simp only [lens]; omega)) ?_) | ((with_reducible refine And.intro ?_ ?_); · first | (intro x hx; subst hx; rfl) | exact upR_mem fun _ _ => rfl | exact mapR_mem fun _ _ => rfl | (intro x; refine And.intro ?_ ?_ <;> (intros; subst_vars; rfl))) | fail
     all_goals exact ⟨a + 1, (by (refine covers_mk0 rfl rfl ?_ ?_ ?_ ?_ <;> simp (disch := (refine Om.mk ?_; omega)) only [go_sem] <;> (try omega)); all_goals first | rfl | (simp; done) | trace_state), by omega, by omega⟩
   ·repeat' first | ((exfalso; omega)) | refine sw_seq ?_ | refine sw_block ?_ | refine sw_inBlock ?_ | refine sw_skip ?_ | refine sw_go 0 kp3 fun K hK => ?_ | refine fun (K : KT) (hK : KOk S 0 _ _ _ K) => ?_ | refine sw_goD kp3 (by kernel_rfl) fun K hK => ?_ | ((first | refine runL_go ?_ | refine runQ_go ?_ | refine sw_ret (ret0 ?_) | refine sw_ret ?_); simp (disch := (refine Om.mk ?_; omega)) only [go_sem, Try.results3]) | (refine hK.nil ?_; clear hK K; simp only [go_sem]) | ((first | refine runG_fork rfl rfl rfl rfl rfl ?_ ?_ | refine runQG_fork rfl rfl rfl rfl rfl ?_ ?_ | refine sw_cond rfl ?_ ?_) <;> intro h <;> try simp (disch := (refine Om.mk ?_; omega)) only [go_sem] at h) | refine hK.skp rfl rfl ?_ | refine sw_exit rfl ?_ | refine sw_loopEnd ?_ | (refine hK.fork rfl rfl rfl ?_ ?_ <;> intro h <;> try simp (disch := (refine Om.mk ?_; omega)) only [go_sem] at h) | (with_reducible refine And.intro (by first | omega | (simp only [lens]; omega)) ?_) | ((with_reducible refine And.intro ?_ ?_); · first | (intro x hx; subst hx; rfl) | exact upR_mem fun _ _ => rfl | exact mapR_mem fun _ _ => rfl | (intro x; refine And.intro ?_ ?_ <;> (intros; subst_vars; rfl))) | fail
    all_goals exact ⟨i + 1, (by (refine covers_mk0 rfl rfl ?_ ?_ ?_ ?_ <;> simp (disch := (refine Om.mk ?_; omega)) only [go_sem] <;> (try omega)); all_goals first | rfl | (simp; done) | trace_state), by omega, by omega⟩
  ·repeat' first | ((exfalso; omega)) | refine sw_seq ?_ | refine sw_block ?_ | refine sw_inBlock ?_ | refine sw_skip ?_ | refine sw_go 0 kp3 fun K hK => ?_ | refine fun (K : KT) (hK : KOk S 0 _ _ _ K) => ?_ | refine sw_goD kp3 (by kernel_rfl) fun K hK => ?_ | ((first | refine runL_go ?_ | refine runQ_go ?_ | refine sw_ret (ret0 ?_) | refine sw_ret ?_); simp (disch := (refine Om.mk ?_; omega)) only [go_sem, Try.results3]) | (refine hK.nil ?_; clear hK K; simp only [go_sem]) | ((first | refine runG_fork rfl rfl rfl rfl rfl ?_ ?_ | refine runQG_fork rfl rfl rfl rfl rfl ?_ ?_ | refine sw_cond rfl ?_ ?_) <;> intro h <;> try simp (disch := (refine Om.mk ?_; omega)) only [go_sem] at h) | refine hK.skp rfl rfl ?_ | refine sw_exit rfl ?_ | refine sw_loopEnd ?_ | (refine hK.fork rfl rfl rfl ?_ ?_ <;> intro h <;> try simp (disch := (refine Om.mk ?_; omega)) only [go_sem] at h) | (with_reducible refine And.intro (by first | omega | (simp only [lens]; omega)) ?_) | ((with_reducible refine And.intro ?_ ?_); · first | (intro x hx; subst hx; rfl) | exact upR_mem fun _ _ => rfl | exact mapR_mem fun _ _ => rfl | (intro x; refine And.intro ?_ ?_ <;> (intros; subst_vars; rfl))) | fail
end Go.Proofs.Ytmogobaaophknaa
