/-
  Chains turned round: the program's side.
-/
import Derived.Test.YtlcdahaihlflaaaT01
namespace Go.Proofs.Ytlcdahaihlflaaa
open Go Go.Lg
set_option linter.unusedSimpArgs false
set_option linter.unusedVariables false
set_option maxHeartbeats 4000000
attribute [local irreducible] SW runL runQ runG runQG FC Ret1 RetN toF redoL
attribute [local go_sem] List.filter_cons upR_length mapR_length
theorem sim_of_sw {S : Setup} {B : Base} {L L' : LS} (h : ∀ R : LS → Prop, SW S B R [] L' → SW S B R [] L) {G : Ghost} {a : Act} {w : World} (hs : Sim B L G a w) : ∃ G', Sim B L' G' a w := by
  have h1 := h (fun X => X = L') (sw_nil rfl)
  unfold SW at h1
  rcases h1 G a w hs with ⟨_, G', X, h2, rfl⟩ | ⟨c, hc, _⟩
  · exact ⟨G', h2⟩
  · cases hc
theorem turnL_get (a : ChainT) (i : Nat) (h : i < a.moves.length) : (turnL a a.moves.length).getD i default = tmv a (a.moves.length - 1 - i) := by
  simp [turnL, List.getD, h]
theorem flat_move : ∀ (ms : List MoveT) (i j : Nat), i < ms.length → j < 4 → (flat (ms.map MoveD))[i * 4 + j]? = (MoveD (ms.getD i default)).cells[j]?
  | [], _, _, h, _ => by simp at h
  | m :: r, 0, j, _, hj => by
    rw [List.map_cons, flat_cons, List.getElem?_append_left (by simp [MoveD, D.cells]; omega)]
    simp
  | m :: r, i + 1, j, h, hj => by
    rw [List.map_cons, flat_cons, List.getElem?_append_right (by simp [MoveD, D.cells]; omega)]
    have := flat_move r i j (by simpa using h) hj
    simp only [MoveD, D.cells, List.length_cons, List.length_nil] at this ⊢
    rw [show (i + 1) * 4 + j - (0 + 1 + 1 + 1 + 1) = i * 4 + j by omega, this]
    simp
theorem slM {G : Ghost} {w : World} {ms : List MoveT} {A : Option Addr} {n c : Nat} (h : Rel G w (.sl .any (ms.map MoveD)) (.slice A n c)) : n = ms.length ∧ (ms = [] ∨ ∃ b o, A = some ⟨b, o, none⟩ ∧ ∀ i < ms.length, ∀ j < 4, o + i * 4 + j < G.lim b ∧ ∃ v, w.cell? ⟨b, o + i * 4 + j, none⟩ = some v ∧ ∀ d, (MoveD (ms.getD i default)).cells[j]? = some d → Rel G w d v) := by
  cases h with
  | @sl _ _ A n c b o s hn hc hm ht hA hu hk hst hr =>
  refine ⟨by simpa using hn, ?_⟩
  rcases hA with e | rfl
  · left; simpa using e
  · refine .inr ⟨b, o, rfl, fun i hi j hj => ?_⟩
    have hf := flat_move ms i j hi hj
    obtain ⟨d, hd⟩ : ∃ d, (MoveD (ms.getD i default)).cells[j]? = some d := ⟨(MoveD (ms.getD i default)).cells[j]'(by simp [MoveD, D.cells]; omega), by simp⟩
    rw [hd] at hf
    obtain ⟨h1, v, h2⟩ := hst _ _ hf
    refine ⟨by omega, v, by rw [Nat.add_assoc]; exact h2, fun d' hd' => ?_⟩
    rw [hd] at hd'
    cases hd'
    exact hr _ _ _ hf h2
/-- the cells that hold the moves -/
def cvOf (A : Option Addr) (w : World) (i j : Nat) : Value := match A with | some ⟨b, o, _⟩ => (w.cell? ⟨b, o + i * 4 + j, none⟩).getD undef | none => undef
theorem faM_at {G : Ghost} {w : World} {ms : List MoveT} {A : Option Addr} {n c bn : Nat} (h : Rel G w (.sl .any (ms.map MoveD)) (.slice A n c)) (hb : w.cell? ⟨bn, 0, none⟩ = some (.slice A n c)) : FaM bn A n c (cvOf A w) w := by
  obtain ⟨rfl, h1⟩ := slM h
  refine ⟨hb, fun b off e i hi => ?_⟩
  subst e
  rcases h1 with rfl | ⟨b', o', e, h2⟩
  · simp at hi
  · cases e
    have g : ∀ j < 4, w.cell? ⟨b, off + i * 4 + j, none⟩ = some (cvOf (some ⟨b, off, none⟩) w i j) := fun j hj => by
      obtain ⟨_, v, e, _⟩ := h2 i hi j hj
      simp only [cvOf, e, Option.getD_some]
    exact ⟨g 0 (by omega), g 1 (by omega), g 2 (by omega), g 3 (by omega)⟩
theorem faM_keep {G G' : Ghost} {w w' : World} {ms : List MoveT} {A : Option Addr} {n c bn : Nat} {cv : Nat → Nat → Value} (h : Rel G w (.sl .any (ms.map MoveD)) (.slice A n c)) (hm : Mono G G' w w') (hb : w'.heap[bn]? = w.heap[bn]?) (hf : FaM bn A n c cv w) : FaM bn A n c cv w' := by
  obtain ⟨rfl, h1⟩ := slM h
  refine ⟨by have := hf.1; unfold World.cell? at this ⊢; simp only at this ⊢; rw [hb]; exact this, fun b off e i hi => ?_⟩
  obtain ⟨f0, f1, f2, f3⟩ := hf.2 b off e i hi
  rcases h1 with rfl | ⟨b', o', e', h2⟩
  · simp at hi
  · rw [e] at e'
    cases e'
    exact ⟨(hm.cell _ _ _ (h2 i hi 0 (by omega)).1 f0).2, (hm.cell _ _ _ (h2 i hi 1 (by omega)).1 f1).2, (hm.cell _ _ _ (h2 i hi 2 (by omega)).1 f2).2, (hm.cell _ _ _ (h2 i hi 3 (by omega)).1 f3).2⟩
theorem relM {G : Ghost} {w : World} {ms : List MoveT} {A : Option Addr} {n c bn : Nat} {cv : Nat → Nat → Value} (h : Rel G w (.sl .any (ms.map MoveD)) (.slice A n c)) (hf : FaM bn A n c cv w) {i : Nat} (hi : i < ms.length) : Rel G w (MoveD (ms.getD i default)) (.agg #[cv i 0, cv i 1, cv i 2, cv i 3]) := by
  obtain ⟨rfl, h1⟩ := slM h
  rcases h1 with rfl | ⟨b, o, e, h2⟩
  · simp at hi
  · obtain ⟨f0, f1, f2, f3⟩ := hf.2 b o e i hi
    have g : ∀ j < 4, ∀ v, w.cell? ⟨b, o + i * 4 + j, none⟩ = some v → ∀ d, (MoveD (ms.getD i default)).cells[j]? = some d → Rel G w d v := fun j hj v hv d hd => by
      obtain ⟨_, v', e', hr⟩ := h2 i hi j hj
      rw [hv] at e'
      cases e'
      exact hr d hd
    refine .agg (vl := [cv i 0, cv i 1, cv i 2, cv i 3]) (by simp) fun j d v hd hv => ?_
    match j with
    | 0 => cases hv; exact g 0 (by omega) _ f0 d hd
    | 1 => cases hv; exact g 1 (by omega) _ f1 d hd
    | 2 => cases hv; exact g 2 (by omega) _ f2 d hd
    | 3 => cases hv; exact g 3 (by omega) _ f3 d hd
    | j + 4 => simp at hv
theorem sim_alloc {B : Base} {L : LS} {G : Ghost} {a : Act} {W : World} (h1 : Sim B L G a W) (o : Obj) : Sim B L G a (W.alloc o) := by
  obtain ⟨q1, q2⟩ := simW_other (w' := W.alloc o) h1.W (by simp) (fun b vs e z hb => (RowKit.Below.heap_alloc W o b (Array.getElem?_eq_some_iff.1 hb).1).trans hb) (fun b hb => RowKit.Below.heap_alloc W o b (Nat.lt_of_lt_of_le hb h1.W.sz)) rfl rfl rfl (Nat.le_refl _)
  refine h1.move q1 fun d v hr => hr.mono q2 (fun _ _ _ h => h) fun k _ => ?_
  cases hx : G.τ k with
  | none => exact .inl rfl
  | some x =>
    refine .inr ⟨rfl, fun g e z hg => ⟨rfl, ?_⟩⟩
    obtain ⟨_, _, ⟨cur, q, _⟩, _⟩ := h1.W.tau k g e z (hx.trans hg)
    unfold World.shape?
    rw [RowKit.Below.heap_alloc W o g (Array.getElem?_eq_some_iff.1 q).1]
theorem sim_put {B : Base} {L : LS} {G : Ghost} {a' : Act} {W : World} {l : Nat} {o : Obj} (o' : Obj) (h : Sim B L G a' W) (hl : B.w.heap.size ≤ l) (ho : W.heap[l]? = some o) (hc : o.isCells = false) : Sim B L G a' (W.putObj l o') := by
  obtain ⟨h1, h2⟩ := simW_other (w' := W.putObj l o') h.W (by simp) (fun b vs e z hb => by
    by_cases e1 : b = l
    · subst e1; rw [ho] at hb; cases hb; cases hc
    · exact (World.putObj_heap_other e1).trans hb) (fun b hb => World.putObj_heap_other (by omega)) rfl rfl rfl (Nat.le_refl _)
  refine h.move h1 fun d v hr => hr.mono h2 (fun _ _ _ h => h) fun k _ => ?_
  cases hx : G.τ k with
  | none => exact .inl rfl
  | some x =>
    refine .inr ⟨rfl, fun g e z hg => ⟨rfl, ?_⟩⟩
    obtain ⟨_, _, ⟨cur, q, _⟩, _⟩ := h.W.tau k g e z (hx.trans hg)
    have hne : g ≠ l := fun e1 => by subst e1; rw [ho] at q; cases q; cases hc
    unfold World.shape?
    rw [World.putObj_heap_other hne]
theorem chainAdd3_fc (p : List Nat) (frm : List Int) (l : List MoveT) (n : Nat) (hn : n < l.length) (hl : l.length ≤ 60) (ht : 1 ≤ (l.getD n default).to.length ∧ (l.getD n default).to.length ≤ 60) : FC S 105 [] [(3, [.sl (.lab (p ++ [0])) (frm.map (.int .i64)), .sl (.own 5 136 4) (upR (fun i y => MoveL (p ++ [1] ++ [i]) y) l n)])] [5] [.box 3 0, MoveD (l.getD n default)]
    (.tup []) [(3, [.sl (.lab (p ++ [0])) (frm.map (.int .i64)), .sl (.own 0 136 4) (upR (fun i y => MoveL (p ++ [1] ++ [i]) y) l (n + 1))])] [0] := by
  have hu := upR_length (fun i y => MoveL (p ++ [1] ++ [i]) y) l n
  have hs := upR_succ (fun i y => MoveL (p ++ [1] ++ [i]) y) l n
  have hne : (l.getD n default).to ≠ [] := fun e => by rw [e] at ht; simp at ht
  refine fc_bodyN Try.func105 rfl (by kernel_rfl) (by simp [Try.f105]) rfl fun B => ?_
  simp only [Try.ntmps105, enumD, List.map_nil, List.map_cons, List.length_map, Nat.zero_add, Nat.reduceAdd]
  repeat' first
    | exact Bool.noConfusion h
    | refine sw_seq ?_
    | refine sw_block ?_
    | refine sw_skip ?_
    | refine sw_inBlock ?_
    | refine sw_go 100 kp105 fun K hK => ?_
    | (refine sw_goH 100 kp105 7 (id := 2) (by kernel_rfl) (by kernel_rfl) rfl rfl rfl rfl (by simp only [Nat.reduceLT]) rfl fun K hK => ?_; simp only [List.take, List.drop, Lg.LS.put])
    | refine fun (K : List Oper → LS → Prop) (hK : KOk S 100 _ _ _ K) => ?_
    | refine sw_goD kp105 (by kernel_rfl) fun K hK => ?_
    | ((first | refine runL_go ?_ | refine runQ_go ?_); simp (disch := (refine Om.mk ?_; omega)) only [go_sem])
    | (refine hK.nil ?_; clear hK K; simp only [go_sem])
    | (refine sw_cond rfl (fun h => ?_) (fun h => ?_) <;> (try simp (disch := (refine Om.mk ?_; omega)) only [go_sem] at h))
    | (refine sw_exit rfl ?_)
    | (refine sw_loopEnd ?_)
    | ((first | refine sw_ret (ret0 ?_) | refine sw_ret ?_); simp (disch := (refine Om.mk ?_; omega)) only [go_sem, Try.results105])
    | (refine sw_nil ?_; simp (disch := (refine Om.mk ?_; omega)) only [go_sem, Try.results105])
    | refine hK.call rfl rfl rfl (cloneLab_fc (p ++ [1] ++ [n] ++ [3]) (by simp) _ (l.getD n default).to hne (by omega)) ⟨(by intro p hp; cases hp), rfl, rfl, (by simp only [dstOk, Nat.reduceLT])⟩ ?_
    | (with_reducible refine And.intro (by first | omega | (simp only [List.length_append, List.length_take, List.length_drop, List.length_cons, List.length_nil, List.length_map]; omega)) ?_)
    | ((with_reducible refine And.intro ?_ ?_); · first | (intro x hx; subst hx; rfl) | exact upR_mem fun _ _ => rfl | exact mapR_mem fun _ _ => rfl | (intro x; refine And.intro ?_ ?_ <;> (intros; subst_vars; rfl)))
    | fail
  unfold RetN
  simp only [go_sem]
  refine ret_box1 _ 3 _ _ 16000 (p ++ [0]) frm _ _ (by simp only [Lg.look, if_true] <;> rfl) ?_ ?_
  · simp
  · exact hs.symm
def kp59 : List (Nat × List Nat) := [(0, [1, 2]), (1, [1, 2, 3]), (2, [2, 3]), (9, [2])]
attribute [go_sem] kp59
theorem turned_fc (p : List Nat) (hp : p ≠ []) (a : ChainT) (ha : LenP a) (hla : a.moves.length ≤ 60) : FC S 59 [] [] [] [ChainD a] (ChainL p (turnC a)) [] [] := by
  have hf := curT_len ha a.moves.length (Nat.le_refl _)
  have hne : curT a a.moves.length ≠ [] := fun e => by rw [e] at hf; simp at hf
  unfold FC
  refine ⟨⟨Try.f59, Try.func59, by kernel_rfl, rfl⟩, fun w G vals hs => ?_⟩
  refine (callsIn_wide (n := 9)).1 (callsIn_of_wp_marks Try.func59 rfl trivial ?_ rfl)
  have hs0 := start_sim (n := Try.f59.ntmps) hs (by simp [Try.f59])
  simp only [Try.ntmps59, enumD, Nat.zero_add, Nat.reduceAdd, List.map_cons, List.map_nil] at hs0 ⊢
  unfold ChainD at hs0
  refine wpIn_seq (wpIn_wide.2 (regW (L2 := ⟨38, [(1, .box 1 0), (2, .box 2 0)], [(1, [.sl .any (a.frm.map (.int .i64)), .sl .any (a.moves.map MoveD)]), (2, [.sl .nil [], .sl .nil []])], [], [], []⟩) hs0 ?_ fun G1 a1 w1 hs1 => ?_))
  · refine lops_go 0 ?_
    refine fun (K : List Oper → LS → Prop) (hK : KOk S 0 _ _ _ K) => ?_
    simp only [go_sem]
    repeat' first
      | exact Bool.noConfusion h
      | refine sw_seq ?_
      | refine sw_block ?_
      | refine sw_skip ?_
      | refine sw_inBlock ?_
      | refine sw_go 0 kp59 fun K hK => ?_
      | refine fun (K : List Oper → LS → Prop) (hK : KOk S 0 _ _ _ K) => ?_
      | ((first | refine runL_go ?_ | refine runQ_go ?_); simp (disch := (refine Om.mk ?_; omega)) only [go_sem])
      | (refine hK.nil ?_; clear hK K; simp only [go_sem])
      | (refine sw_cond rfl (fun h => ?_) (fun h => ?_) <;> (try simp (disch := (refine Om.mk ?_; omega)) only [go_sem] at h))
      | (refine sw_exit rfl ?_)
      | (refine sw_loopEnd ?_)
      | ((first | refine sw_ret (ret0 ?_) | refine sw_ret ?_); simp (disch := (refine Om.mk ?_; omega)) only [go_sem, Try.results59])
      | (with_reducible refine And.intro (by first | omega | (simp only [List.length_append, List.length_take, List.length_drop, List.length_cons, List.length_nil, List.length_map]; omega)) ?_)
      | ((with_reducible refine And.intro ?_ ?_); · first | (intro x hx; subst hx; rfl) | exact upR_mem fun _ _ => rfl | exact mapR_mem fun _ _ => rfl | (intro x; refine And.intro ?_ ?_ <;> (intros; subst_vars; rfl)))
      | fail
    refine hK.nil ?_
    (refine covers_mk0 rfl rfl ?_ ?_ ?_ ?_ <;> simp (disch := (refine Om.mk ?_; omega)) only [go_sem] <;> (try omega))
  refine wpIn_seq (wpIn_wide.2 (regW (L2 := ⟨38, [(1, .box 1 0), (2, .box 2 0), (3, .box 3 0)], [(1, [.sl .any (a.frm.map (.int .i64)), .sl .any (a.moves.map MoveD)]), (2, [.sl .nil [], .sl .nil []]), (3, [.sl (.lab (p ++ [0])) ((curT a a.moves.length).map (.int .i64)), .sl .nil []])], [], [], []⟩) hs1 ?_ fun G2 a2 w2 hs2 => ?_))
  · refine lops_go 0 ?_
    refine fun (K : List Oper → LS → Prop) (hK : KOk S 0 _ _ _ K) => ?_
    simp only [go_sem]
    have c := chainEnd_fc a
    unfold ChainD at c
    repeat' first
      | exact Bool.noConfusion h
      | refine sw_seq ?_
      | refine sw_block ?_
      | refine sw_skip ?_
      | refine sw_inBlock ?_
      | refine sw_go 0 kp59 fun K hK => ?_
      | refine fun (K : List Oper → LS → Prop) (hK : KOk S 0 _ _ _ K) => ?_
      | ((first | refine runL_go ?_ | refine runQ_go ?_); simp (disch := (refine Om.mk ?_; omega)) only [go_sem])
      | (refine hK.nil ?_; clear hK K; simp only [go_sem])
      | (refine sw_cond rfl (fun h => ?_) (fun h => ?_) <;> (try simp (disch := (refine Om.mk ?_; omega)) only [go_sem] at h))
      | (refine sw_exit rfl ?_)
      | (refine sw_loopEnd ?_)
      | ((first | refine sw_ret (ret0 ?_) | refine sw_ret ?_); simp (disch := (refine Om.mk ?_; omega)) only [go_sem, Try.results59])
      | refine hK.call rfl rfl rfl (c) ⟨(by intro p hp; cases hp), rfl, rfl, (by simp only [dstOk, Nat.reduceLT])⟩ ?_
      | refine hK.call rfl rfl rfl (cloneLab_fc (p ++ [0]) (by simp) _ (curT a a.moves.length) hne (by omega)) ⟨(by intro p hp; cases hp), rfl, rfl, (by simp only [dstOk, Nat.reduceLT])⟩ ?_
      | (with_reducible refine And.intro (by first | omega | (simp only [List.length_append, List.length_take, List.length_drop, List.length_cons, List.length_nil, List.length_map]; omega)) ?_)
      | ((with_reducible refine And.intro ?_ ?_); · first | (intro x hx; subst hx; rfl) | exact upR_mem fun _ _ => rfl | exact mapR_mem fun _ _ => rfl | (intro x; refine And.intro ?_ ?_ <;> (intros; subst_vars; rfl)))
      | fail
    refine hK.nil ?_
    (refine covers_mk0 rfl rfl ?_ ?_ ?_ ?_ <;> simp (disch := (refine Om.mk ?_; omega)) only [go_sem] <;> (try omega))
  obtain ⟨G2, hs2⟩ := sim_of_sw (S := S) (L' := ⟨38, [(1, .box 1 0), (2, .box 2 0), (3, .box 3 0)], [(1, [.sl .any (a.frm.map (.int .i64)), .sl .any (a.moves.map MoveD)]), (2, [.sl .nil [], .sl .nil []]), (3, [.sl (.lab (p ++ [0])) ((curT a a.moves.length).map (.int .i64)), .sl (.own 5 136 4) []])], [], [5], []⟩) (fun R h => by
    refine sw_tokBox 3 1 5 136 4 rfl rfl rfl ?_
    simp only [go_sem]
    exact h) hs2
  refine wpIn_seq (wpIn_seq (wpIn_wide.2 (regA 2 (L1 := ⟨38, [(1, .box 1 0), (2, .box 2 0), (3, .box 3 0), (12, .sl .any (a.moves.map MoveD))], [(1, [.sl .any (a.frm.map (.int .i64)), .sl .any (a.moves.map MoveD)]), (2, [.sl .nil [], .sl .nil []]), (3, [.sl (.lab (p ++ [0])) ((curT a a.moves.length).map (.int .i64)), .sl (.own 5 136 4) []])], [], [5], []⟩) hs2 ?_ fun G3 a3 w3 hs3 => ?_)))
  · refine lops_go 0 ?_
    refine fun (K : List Oper → LS → Prop) (hK : KOk S 0 _ _ _ K) => ?_
    simp only [go_sem]
    repeat' first
      | exact Bool.noConfusion h
      | refine sw_seq ?_
      | refine sw_block ?_
      | refine sw_skip ?_
      | refine sw_inBlock ?_
      | refine sw_go 0 kp59 fun K hK => ?_
      | refine fun (K : List Oper → LS → Prop) (hK : KOk S 0 _ _ _ K) => ?_
      | ((first | refine runL_go ?_ | refine runQ_go ?_); simp (disch := (refine Om.mk ?_; omega)) only [go_sem])
      | (refine hK.nil ?_; clear hK K; simp only [go_sem])
      | (refine sw_cond rfl (fun h => ?_) (fun h => ?_) <;> (try simp (disch := (refine Om.mk ?_; omega)) only [go_sem] at h))
      | (refine sw_exit rfl ?_)
      | (refine sw_loopEnd ?_)
      | ((first | refine sw_ret (ret0 ?_) | refine sw_ret ?_); simp (disch := (refine Om.mk ?_; omega)) only [go_sem, Try.results59])
      | (with_reducible refine And.intro (by first | omega | (simp only [List.length_append, List.length_take, List.length_drop, List.length_cons, List.length_nil, List.length_map]; omega)) ?_)
      | ((with_reducible refine And.intro ?_ ?_); · first | (intro x hx; subst hx; rfl) | exact upR_mem fun _ _ => rfl | exact mapR_mem fun _ _ => rfl | (intro x; refine And.intro ?_ ?_ <;> (intros; subst_vars; rfl)))
      | fail
    refine hK.nil ?_
    (refine covers_mk0 rfl rfl ?_ ?_ ?_ ?_ <;> simp (disch := (refine Om.mk ?_; omega)) only [go_sem] <;> (try omega))
  simp only [List.drop_succ_cons, List.drop_zero]
  obtain ⟨sv, hv12, hr12⟩ := hs3.env 12 _ rfl
  obtain ⟨A, n, c, rfl⟩ : ∃ A n c, sv = .slice A n c := by cases hr12; exact ⟨_, _, _, rfl⟩
  obtain ⟨hn, hA⟩ := slM hr12
  subst hn
  refine wpList_step fun N hN => ?_
  rw [if_pos (by simp [Region.wanted])]
  unfold Oper.wp
  have hrun : ∀ (ty : TypeId) (pos : String) (aft : Array Edge) (tys : Array TypeId), (execOp a3.eval ⟨some 13, .call ⟨.value (.func 104), #[.tmp 12], tys⟩, ty, pos, aft, none⟩).run S.P w3 = .ok (.enter 104 #[.slice A a.moves.length c]) w3 := fun _ _ _ _ => by
    have hEn : Lg.Enters S.P 104 := ⟨Try.f104, Try.func104, by kernel_rfl, rfl⟩
    simp [execOp, Act.eval, hv12, resolve, Deferred.ofValue, invoke, enter_run hEn]
  rw [hrun, Oper.upon_enter]
  refine (backward_in 9 A a.moves.length c w3).mono ?_
  rintro e w4 ⟨rfl, rfl⟩
  refine hN _ _ (wpList_nil ?_)
  have hw3 : w3.heap.size < (w3.alloc (.cells #[.slice A a.moves.length c] 48)).heap.size := by simp
  have hnew := World.alloc_heap_new w3 (.cells #[.slice A a.moves.length c] 48)
  have hs4 := (sim_alloc hs3 (.cells #[.slice A a.moves.length c] 48)).put (t := 13) (d := .raw (.func (.func 150) #[] #[.pointer (some ⟨w3.heap.size, 0, none⟩)])) (v := .func (.func 150) #[] #[.pointer (some ⟨w3.heap.size, 0, none⟩)]) (by simp) (.raw (by simp))
  have hcell : (w3.alloc (.cells #[.slice A a.moves.length c] 48)).cell? ⟨w3.heap.size, 0, none⟩ = some (.slice A a.moves.length c) := by
    unfold World.cell?
    simp only [hnew]
    rfl
  have hfr : Free ⟨38, [(1, .box 1 0), (2, .box 2 0), (3, .box 3 0), (12, .sl .any (a.moves.map MoveD))], [(1, [.sl .any (a.frm.map (.int .i64)), .sl .any (a.moves.map MoveD)]), (2, [.sl .nil [], .sl .nil []]), (3, [.sl (.lab (p ++ [0])) ((curT a a.moves.length).map (.int .i64)), .sl (.own 5 136 4) []])], [], [5], []⟩ G3 w3.heap.size := by
    refine ⟨fun q _ hq => by have := hs3.W.blt _ _ hq; omega, fun k _ e z hq => ?_⟩
    obtain ⟨_, _, ⟨cur, h3, _⟩, _⟩ := hs3.W.tau _ _ _ _ hq
    have := (Array.getElem?_eq_some_iff.1 h3).1
    omega
  have hr4 : Rel G3 (w3.alloc (.cells #[.slice A a.moves.length c] 48)) (.sl .any (a.moves.map MoveD)) (.slice A a.moves.length c) := by
    obtain ⟨v, h1, h2⟩ := (sim_alloc hs3 (.cells #[.slice A a.moves.length c] 48)).env 12 _ rfl
    rw [hv12] at h1
    cases h1
    exact h2
  have hf4 := faM_at hr4 hcell
  generalize (w3.alloc (.cells #[.slice A a.moves.length c] 48)) = w4 at *
  generalize w3.heap.size = bn at *
  have htm : (a3.put (some 13) (.func (.func 150) #[] #[.pointer (some ⟨bn, 0, none⟩)])).tmps[12]? = some (.slice A a.moves.length c) := by
    simp only [Act.put]
    rw [Array.getElem?_setIfInBounds_ne (by omega)]
    exact hv12
  have hev : (a3.put (some 13) (.func (.func 150) #[] #[.pointer (some ⟨bn, 0, none⟩)])).tmps[13]? = some (.func (.func 150) #[] #[.pointer (some ⟨bn, 0, none⟩)]) := by
    have := hs3.size
    simp only [Act.put]
    rw [Array.getElem?_setIfInBounds_self_of_lt (by rw [this]; show 13 < 38; decide)]
  generalize (a3.put (some 13) (.func (.func 150) #[] #[.pointer (some ⟨bn, 0, none⟩)])) = a4 at *
  let Lr : Nat → LS := fun i => ⟨38, [(1, .box 1 0), (2, .box 2 0), (3, .box 3 0), (12, .sl .any (a.moves.map MoveD))], [(1, [.sl .any (a.frm.map (.int .i64)), .sl .any (a.moves.map MoveD)]), (2, [.sl .nil [], .sl .nil []]), (3, [.sl (.lab (p ++ [0])) ((curT a a.moves.length).map (.int .i64)), .sl (.own 5 136 4) (upR (fun i y => MoveL (p ++ [1] ++ [i]) y) (turnL a a.moves.length) i)])], [], [5], []⟩
  let Lp : Nat → LS := fun i => { Lr i with env := [(14, .int .i64 ((a.moves.length - 1 - i : Nat) : Int)), (15, MoveD (a.moves.getD (a.moves.length - 1 - i) default)), (1, .box 1 0), (2, .box 2 0), (3, .box 3 0)] }
  let La : Nat → LS := fun i => { Lr i with fix := [1, 2, 3], env := [(1, .box 1 0), (2, .box 2 0), (3, .box 3 0), (4, .int .i64 ((a.moves.length - 1 - i : Nat) : Int)), (5, .box 5 0)], boxes := [(1, [.sl .any (a.frm.map (.int .i64)), .sl .any (a.moves.map MoveD)]), (2, [.sl .nil [], .sl .nil []]), (3, [.sl (.lab (p ++ [0])) ((curT a a.moves.length).map (.int .i64)), .sl (.own 5 136 4) (upR (fun i y => MoveL (p ++ [1] ++ [i]) y) (turnL a a.moves.length) i)]), (5, (MoveD (a.moves.getD (a.moves.length - 1 - i) default)).cells)] }
  let Lb : Nat → LS := fun i => { Lr (i + 1) with env := [], fix := [1, 2, 3, 5] }
  refine wpIn_block (rng_sim (S := S) (B := baseOf G w [] []) rfl (gf := 150) (lb := #[.pointer (some ⟨bn, 0, none⟩)]) (n := a.moves.length) (m := 9) (enc := encM a.moves.length (cvOf A w4)) (Fa := FaM bn A a.moves.length c (cvOf A w4)) ?hg ?eg (fun i => rfl) (bw_any bn a.moves.length c A _ hla ?hA0) Lr Lp La Lb 38 bn (Lr 0).env (fun i => ⟨rfl, rfl, rfl⟩) (fun i => ⟨rfl, rfl, rfl⟩) (fun i => rfl) ?hE ?hb ?hFaK (G0 := G3) ?hs ?hf0 ⟨_, _, _, hnew⟩ hf4 ?hP ?hA ?hB ?hdone)
  case hg => simp [Act.eval, hev]
  case eg =>
    have hEn : Lg.Enters S.P 150 := ⟨Try.f150, Try.func150, by kernel_rfl, rfl⟩
    exact enter_run hEn
  case hA0 =>
    rcases hA with h | ⟨b, o, h, _⟩
    · exact .inl (by rw [h]; rfl)
    · exact .inr ⟨b, o, h⟩
  case hE =>
    intro t d hd
    have hm := mem_of_look hd
    simp only [Lr, List.mem_cons, Prod.mk.injEq, List.not_mem_nil, or_false] at hm
    rcases hm with ⟨rfl, rfl⟩ | ⟨rfl, rfl⟩ | ⟨rfl, rfl⟩ | ⟨rfl, rfl⟩
    · exact ⟨rfl, fun id hid i => by simp [D.ids] at hid; subst hid; simp [Lr, La]⟩
    · exact ⟨rfl, fun id hid i => by simp [D.ids] at hid; subst hid; simp [Lr, La]⟩
    · exact ⟨rfl, fun id hid i => by simp [D.ids] at hid; subst hid; simp [Lr, La]⟩
    · exact ⟨rfl, fun id hid i => by simp [D.ids] at hid⟩
  case hb =>
    intro i hi
    refine ⟨fun q hq => ⟨hq, ?_⟩, fun k hk => hk⟩
    simp only [Lr, List.mem_cons, List.not_mem_nil, or_false] at hq
    rcases hq with rfl | rfl | rfl <;> rfl
  case hFaK =>
    intro i G5 G6 W W' h hm hb hf
    obtain ⟨v, h1, h2⟩ := h.env 12 _ rfl
    rw [htm] at h1
    cases h1
    exact faM_keep h2 hm hb hf
  case hs =>
    refine hs4.less ?_
    simp only [LS.put, setA, Lr]
    (refine covers_mk0 rfl rfl ?_ ?_ ?_ ?_ <;> simp (disch := (refine Om.mk ?_; omega)) only [go_sem] <;> (try omega))
    rfl
  case hf0 => exact hfr
  case hP =>
    intro i hi G5 W h hf
    obtain ⟨v, h1, h2⟩ := h.env 12 _ rfl
    rw [htm] at h1
    cases h1
    have hr15 := relM h2 hf (i := a.moves.length - 1 - i) (by omega)
    have h3 := (h.put (t := 14) (d := .int .i64 ((a.moves.length - 1 - i : Nat) : Int)) (v := .int .i64 ((a.moves.length - 1 - i : Nat) : Int)) (by show 14 < 38; decide) .int).put (t := 15) (d := MoveD (a.moves.getD (a.moves.length - 1 - i) default)) (by show 15 < 38; decide) hr15
    have hz : ∀ (t : Array Value) (x y : Value), ((#[14, 15] : Array Tmp).zip #[x, y]).foldl (fun t (p, v) => t.setIfInBounds p v) t = (t.setIfInBounds 14 x).setIfInBounds 15 y := fun t x y => by simp
    unfold encM
    rw [hz]
    refine Sim.less (L := LS.put (LS.put (Lr i) 14 (.int .i64 ((a.moves.length - 1 - i : Nat) : Int))) 15 (MoveD (a.moves.getD (a.moves.length - 1 - i) default))) h3 ?_
    simp only [LS.put, setA, Lr, Lp]
    (refine covers_mk0 rfl rfl ?_ ?_ ?_ ?_ <;> simp (disch := (refine Om.mk ?_; omega)) only [go_sem] <;> (try omega))
  case hA =>
    intro i hi r B2 G5 a5 W5 Q5 h5 hno hQ
    simp only [Lp, Lr, La, List.map_cons, List.map_nil, MoveD, D.cells] at h5 hQ
    refine wpIn_seq (regR (L2 := ⟨38, [(15, .agg [.int .i64 (a.moves.getD (a.moves.length - 1 - i) default).eq, .int .i64 (a.moves.getD (a.moves.length - 1 - i) default).at_, .bool (a.moves.getD (a.moves.length - 1 - i) default).back, .sl .any ((a.moves.getD (a.moves.length - 1 - i) default).to.map (.int .i64))]), (1, .box 1 0), (2, .box 2 0), (3, .box 3 0), (4, .int .i64 ((a.moves.length - 1 - i : Nat) : Int))], [(1, [.sl .any (a.frm.map (.int .i64)), .sl .any (a.moves.map MoveD)]), (2, [.sl .nil [], .sl .nil []]), (3, [.sl (.lab (p ++ [0])) ((curT a a.moves.length).map (.int .i64)), .sl (.own 5 136 4) (upR (fun i y => MoveL (p ++ [1] ++ [i]) y) (turnL a a.moves.length) i)])], [], [5], [1, 2, 3]⟩) h5 (fun _ _ h => hno _ _ h) (by simp) ?_ fun G6 a6 W6 h6 => ?_)
    · refine lops_go 0 ?_
      refine fun (K : List Oper → LS → Prop) (hK : KOk S 0 _ _ _ K) => ?_
      simp only [go_sem]
      repeat' first
        | exact Bool.noConfusion h
        | refine sw_seq ?_
        | refine sw_block ?_
        | refine sw_skip ?_
        | refine sw_inBlock ?_
        | refine sw_go 0 kp59 fun K hK => ?_
        | refine fun (K : List Oper → LS → Prop) (hK : KOk S 0 _ _ _ K) => ?_
        | ((first | refine runL_go ?_ | refine runQ_go ?_); simp (disch := (refine Om.mk ?_; omega)) only [go_sem])
        | (refine hK.nil ?_; clear hK K; simp only [go_sem])
        | (refine sw_cond rfl (fun h => ?_) (fun h => ?_) <;> (try simp (disch := (refine Om.mk ?_; omega)) only [go_sem] at h))
        | (refine sw_exit rfl ?_)
        | (refine sw_loopEnd ?_)
        | ((first | refine sw_ret (ret0 ?_) | refine sw_ret ?_); simp (disch := (refine Om.mk ?_; omega)) only [go_sem, Try.results59])
        | (with_reducible refine And.intro (by first | omega | (simp only [List.length_append, List.length_take, List.length_drop, List.length_cons, List.length_nil, List.length_map]; omega)) ?_)
        | ((with_reducible refine And.intro ?_ ?_); · first | (intro x hx; subst hx; rfl) | exact upR_mem fun _ _ => rfl | exact mapR_mem fun _ _ => rfl | (intro x; refine And.intro ?_ ?_ <;> (intros; subst_vars; rfl)))
        | fail
      try refine hK.nil ?_
      (refine covers_mk0 rfl rfl ?_ ?_ ?_ ?_ <;> simp (disch := (refine Om.mk ?_; omega)) only [go_sem] <;> (try omega))
    refine regR (L2 := ⟨38, [(1, .box 1 0), (2, .box 2 0), (3, .box 3 0), (4, .int .i64 ((a.moves.length - 1 - i : Nat) : Int)), (5, .box 5 0)], [(1, [.sl .any (a.frm.map (.int .i64)), .sl .any (a.moves.map MoveD)]), (2, [.sl .nil [], .sl .nil []]), (3, [.sl (.lab (p ++ [0])) ((curT a a.moves.length).map (.int .i64)), .sl (.own 5 136 4) (upR (fun i y => MoveL (p ++ [1] ++ [i]) y) (turnL a a.moves.length) i)]), (5, [.int .i64 (a.moves.getD (a.moves.length - 1 - i) default).eq, .int .i64 (a.moves.getD (a.moves.length - 1 - i) default).at_, .bool (a.moves.getD (a.moves.length - 1 - i) default).back, .sl .any ((a.moves.getD (a.moves.length - 1 - i) default).to.map (.int .i64))])], [], [5], [1, 2, 3]⟩) h6 (fun _ _ h => hno _ _ h) (by simp) ?_ fun G6 a6 W6 h6 => hQ _ _ _ h6
    · refine lops_go 0 ?_
      refine fun (K : List Oper → LS → Prop) (hK : KOk S 0 _ _ _ K) => ?_
      simp only [go_sem]
      repeat' first
        | exact Bool.noConfusion h
        | refine sw_seq ?_
        | refine sw_block ?_
        | refine sw_skip ?_
        | refine sw_inBlock ?_
        | refine sw_go 0 kp59 fun K hK => ?_
        | refine fun (K : List Oper → LS → Prop) (hK : KOk S 0 _ _ _ K) => ?_
        | ((first | refine runL_go ?_ | refine runQ_go ?_); simp (disch := (refine Om.mk ?_; omega)) only [go_sem])
        | (refine hK.nil ?_; clear hK K; simp only [go_sem])
        | (refine sw_cond rfl (fun h => ?_) (fun h => ?_) <;> (try simp (disch := (refine Om.mk ?_; omega)) only [go_sem] at h))
        | (refine sw_exit rfl ?_)
        | (refine sw_loopEnd ?_)
        | ((first | refine sw_ret (ret0 ?_) | refine sw_ret ?_); simp (disch := (refine Om.mk ?_; omega)) only [go_sem, Try.results59])
        | (with_reducible refine And.intro (by first | omega | (simp only [List.length_append, List.length_take, List.length_drop, List.length_cons, List.length_nil, List.length_map]; omega)) ?_)
        | ((with_reducible refine And.intro ?_ ?_); · first | (intro x hx; subst hx; rfl) | exact upR_mem fun _ _ => rfl | exact mapR_mem fun _ _ => rfl | (intro x; refine And.intro ?_ ?_ <;> (intros; subst_vars; rfl)))
        | fail
      try refine hK.nil ?_
      (refine covers_mk0 rfl rfl ?_ ?_ ?_ ?_ <;> simp (disch := (refine Om.mk ?_; omega)) only [go_sem] <;> (try omega))
  case hB =>
    intro i hi r B2 G5 a5 W5 Q5 h5 hno hQ
    have hg := turnL_get a i hi
    have hql := curT_len ha (a.moves.length - 1 - i) (by omega)
    simp only [Lr, La, Lb, List.map_cons, List.map_nil, MoveD, D.cells] at h5 hQ
    have hqb : a.moves.length - 1 - i < a.moves.length := by omega
    generalize a.moves.length - 1 - i = q at *
    have c := chainAdd3_fc p (curT a a.moves.length) (turnL a a.moves.length) i (by rw [turnL_len]; exact hi) (by rw [turnL_len]; exact hla) (by rw [hg]; exact hql)
    rw [hg] at c
    simp only [MoveL, Int64SL, MoveD, tmv] at c
    refine wpIn_block (wpIn_seq (regR (L2 := ⟨38, [(1, .box 1 0), (2, .box 2 0), (3, .box 3 0), (4, .int .i64 (q : Int)), (5, .box 5 0), (6, .sl .any (a.frm.map (.int .i64)))], [(1, [.sl .any (a.frm.map (.int .i64)), .sl .any (a.moves.map MoveD)]), (2, [.sl .nil [], .sl .nil []]), (3, [.sl (.lab (p ++ [0])) ((curT a a.moves.length).map (.int .i64)), .sl (.own 5 136 4) (upR (fun i y => MoveL (p ++ [1] ++ [i]) y) (turnL a a.moves.length) i)]), (5, [.int .i64 (a.moves.getD q default).eq, .int .i64 (a.moves.getD q default).at_, .bool (a.moves.getD q default).back, .sl .any ((a.moves.getD q default).to.map (.int .i64))])], [], [5], [1, 2, 3, 5]⟩) h5 (fun _ _ h => hno _ _ h) (by simp) ?_ fun G6 a6 W6 h6 => ?_))
    · refine lops_go 0 ?_
      refine fun (K : List Oper → LS → Prop) (hK : KOk S 0 _ _ _ K) => ?_
      simp only [go_sem]
      repeat' first
        | exact Bool.noConfusion h
        | refine sw_seq ?_
        | refine sw_block ?_
        | refine sw_skip ?_
        | refine sw_inBlock ?_
        | refine sw_go 0 kp59 fun K hK => ?_
        | refine fun (K : List Oper → LS → Prop) (hK : KOk S 0 _ _ _ K) => ?_
        | ((first | refine runL_go ?_ | refine runQ_go ?_); simp (disch := (refine Om.mk ?_; omega)) only [go_sem])
        | (refine hK.nil ?_; clear hK K; simp only [go_sem])
        | (refine sw_cond rfl (fun h => ?_) (fun h => ?_) <;> (try simp (disch := (refine Om.mk ?_; omega)) only [go_sem] at h))
        | (refine sw_exit rfl ?_)
        | (refine sw_loopEnd ?_)
        | ((first | refine sw_ret (ret0 ?_) | refine sw_ret ?_); simp (disch := (refine Om.mk ?_; omega)) only [go_sem, Try.results59])
        | (with_reducible refine And.intro (by first | omega | (simp only [List.length_append, List.length_take, List.length_drop, List.length_cons, List.length_nil, List.length_map]; omega)) ?_)
        | ((with_reducible refine And.intro ?_ ?_); · first | (intro x hx; subst hx; rfl) | exact upR_mem fun _ _ => rfl | exact mapR_mem fun _ _ => rfl | (intro x; refine And.intro ?_ ?_ <;> (intros; subst_vars; rfl)))
        | fail
      try refine hK.nil ?_
      (refine covers_mk0 rfl rfl ?_ ?_ ?_ ?_ <;> simp (disch := (refine Om.mk ?_; omega)) only [go_sem] <;> (try omega))
    refine wpIn_seq (wpIn_seq (regR (L2 := ⟨38, [(1, .box 1 0), (2, .box 2 0), (3, .box 3 0), (4, .int .i64 (q : Int)), (5, .box 5 0), (6, .sl .any (a.frm.map (.int .i64))), (19, .bool (decide (0 < (q : Int))))], [(1, [.sl .any (a.frm.map (.int .i64)), .sl .any (a.moves.map MoveD)]), (2, [.sl .nil [], .sl .nil []]), (3, [.sl (.lab (p ++ [0])) ((curT a a.moves.length).map (.int .i64)), .sl (.own 5 136 4) (upR (fun i y => MoveL (p ++ [1] ++ [i]) y) (turnL a a.moves.length) i)]), (5, [.int .i64 (a.moves.getD q default).eq, .int .i64 (a.moves.getD q default).at_, .bool (a.moves.getD q default).back, .sl .any ((a.moves.getD q default).to.map (.int .i64))])], [], [5], [1, 2, 3, 5]⟩) h6 (fun _ _ h => hno _ _ h) (by simp) ?_ fun G7 a7 W7 h7 => ?_))
    · refine lops_go 0 ?_
      refine fun (K : List Oper → LS → Prop) (hK : KOk S 0 _ _ _ K) => ?_
      simp only [go_sem]
      repeat' first
        | exact Bool.noConfusion h
        | refine sw_seq ?_
        | refine sw_block ?_
        | refine sw_skip ?_
        | refine sw_inBlock ?_
        | refine sw_go 0 kp59 fun K hK => ?_
        | refine fun (K : List Oper → LS → Prop) (hK : KOk S 0 _ _ _ K) => ?_
        | ((first | refine runL_go ?_ | refine runQ_go ?_); simp (disch := (refine Om.mk ?_; omega)) only [go_sem])
        | (refine hK.nil ?_; clear hK K; simp only [go_sem])
        | (refine sw_cond rfl (fun h => ?_) (fun h => ?_) <;> (try simp (disch := (refine Om.mk ?_; omega)) only [go_sem] at h))
        | (refine sw_exit rfl ?_)
        | (refine sw_loopEnd ?_)
        | ((first | refine sw_ret (ret0 ?_) | refine sw_ret ?_); simp (disch := (refine Om.mk ?_; omega)) only [go_sem, Try.results59])
        | (with_reducible refine And.intro (by first | omega | (simp only [List.length_append, List.length_take, List.length_drop, List.length_cons, List.length_nil, List.length_map]; omega)) ?_)
        | ((with_reducible refine And.intro ?_ ?_); · first | (intro x hx; subst hx; rfl) | exact upR_mem fun _ _ => rfl | exact mapR_mem fun _ _ => rfl | (intro x; refine And.intro ?_ ?_ <;> (intros; subst_vars; rfl)))
        | fail
      try refine hK.nil ?_
      (refine covers_mk0 rfl rfl ?_ ?_ ?_ ?_ <;> simp (disch := (refine Om.mk ?_; omega)) only [go_sem] <;> (try omega))
    obtain ⟨v19, hv19, hr19⟩ := h7.env 19 _ rfl
    cases hr19
    refine wpIn_mono (Q := fun e a8 W8 => e = .normal ∧ ∃ G8, Sim B2 ⟨38, [(1, .box 1 0), (2, .box 2 0), (3, .box 3 0), (4, .int .i64 (q : Int)), (5, .box 5 0), (6, .sl .any ((curT a q).map (.int .i64)))], [(1, [.sl .any (a.frm.map (.int .i64)), .sl .any (a.moves.map MoveD)]), (2, [.sl .nil [], .sl .nil []]), (3, [.sl (.lab (p ++ [0])) ((curT a a.moves.length).map (.int .i64)), .sl (.own 5 136 4) (upR (fun i y => MoveL (p ++ [1] ++ [i]) y) (turnL a a.moves.length) i)]), (5, [.int .i64 (a.moves.getD q default).eq, .int .i64 (a.moves.getD q default).at_, .bool (a.moves.getD q default).back, .sl .any ((a.moves.getD q default).to.map (.int .i64))])], [], [5], [1, 2, 3, 5]⟩ G8 a8 W8) ?_ ?_
    · refine wpIn_cond_split (t := decide (0 < (q : Int))) (by simp [Act.eval, hv19]) (fun ht => ?_) (fun ht => ?_)
      · cases q with
        | zero => simp at ht
        | succ k =>
          have hw : IntKind.i64.wrap (((k + 1 : Nat) : Int) - 1) = (k : Int) := by rw [wrap64 (by omega) (by omega)]; omega
          refine regR (L2 := ⟨38, [(1, .box 1 0), (2, .box 2 0), (3, .box 3 0), (4, .int .i64 ((k + 1 : Nat) : Int)), (5, .box 5 0), (6, .sl .any ((curT a (k + 1)).map (.int .i64)))], [(1, [.sl .any (a.frm.map (.int .i64)), .sl .any (a.moves.map MoveD)]), (2, [.sl .nil [], .sl .nil []]), (3, [.sl (.lab (p ++ [0])) ((curT a a.moves.length).map (.int .i64)), .sl (.own 5 136 4) (upR (fun i y => MoveL (p ++ [1] ++ [i]) y) (turnL a a.moves.length) i)]), (5, [.int .i64 (a.moves.getD (k + 1) default).eq, .int .i64 (a.moves.getD (k + 1) default).at_, .bool (a.moves.getD (k + 1) default).back, .sl .any ((a.moves.getD (k + 1) default).to.map (.int .i64))])], [], [5], [1, 2, 3, 5]⟩) h7 (fun _ _ h => by cases h.1) (by simp) ?_ fun G8 a8 W8 h8 => ⟨rfl, G8, h8⟩
          · refine lops_go 0 ?_
            refine fun (K : List Oper → LS → Prop) (hK : KOk S 0 _ _ _ K) => ?_
            simp only [go_sem]
            repeat' first
              | ((rw [hw]; simp (disch := (refine Om.mk ?_; omega)) only [Int.toNat_natCast, go_sem]))
              | exact Bool.noConfusion h
              | refine sw_seq ?_
              | refine sw_block ?_
              | refine sw_skip ?_
              | refine sw_inBlock ?_
              | refine sw_go 0 kp59 fun K hK => ?_
              | refine fun (K : List Oper → LS → Prop) (hK : KOk S 0 _ _ _ K) => ?_
              | ((first | refine runL_go ?_ | refine runQ_go ?_); simp (disch := (refine Om.mk ?_; omega)) only [go_sem])
              | (refine hK.nil ?_; clear hK K; simp only [go_sem])
              | (refine sw_cond rfl (fun h => ?_) (fun h => ?_) <;> (try simp (disch := (refine Om.mk ?_; omega)) only [go_sem] at h))
              | (refine sw_exit rfl ?_)
              | (refine sw_loopEnd ?_)
              | ((first | refine sw_ret (ret0 ?_) | refine sw_ret ?_); simp (disch := (refine Om.mk ?_; omega)) only [go_sem, Try.results59])
              | (with_reducible refine And.intro (by first | omega | (simp only [List.length_append, List.length_take, List.length_drop, List.length_cons, List.length_nil, List.length_map]; omega)) ?_)
              | ((with_reducible refine And.intro ?_ ?_); · first | (intro x hx; subst hx; rfl) | exact upR_mem fun _ _ => rfl | exact mapR_mem fun _ _ => rfl | (intro x; refine And.intro ?_ ?_ <;> (intros; subst_vars; rfl)))
              | fail
            try refine hK.nil ?_
            (refine covers_mk0 rfl rfl ?_ ?_ ?_ ?_ <;> simp (disch := (refine Om.mk ?_; omega)) only [go_sem] <;> (try omega))
            all_goals rfl
      · cases q with
        | zero =>
          refine wpIn_skip ⟨rfl, G7, h7.less ?_⟩
          (refine covers_mk0 rfl rfl ?_ ?_ ?_ ?_ <;> simp (disch := (refine Om.mk ?_; omega)) only [go_sem] <;> (try omega))
          rfl
        | succ k => simp at ht
    · rintro e a8 W8 ⟨rfl, G8, h8⟩
      refine regR (L2 := ⟨38, [], [(1, [.sl .any (a.frm.map (.int .i64)), .sl .any (a.moves.map MoveD)]), (2, [.sl .nil [], .sl .nil []]), (3, [.sl (.lab (p ++ [0])) ((curT a a.moves.length).map (.int .i64)), .sl (.own 37000 136 4) (upR (fun i y => MoveL (p ++ [1] ++ [i]) y) (turnL a a.moves.length) (i + 1))])], [], [37000], [1, 2, 3, 5]⟩) h8 (fun _ _ h => hno _ _ h) (by simp) ?_ fun G9 a9 W9 h9 => ?_
      · refine lops_go 0 ?_
        refine fun (K : List Oper → LS → Prop) (hK : KOk S 0 _ _ _ K) => ?_
        simp only [go_sem]
        repeat' first
          | exact Bool.noConfusion h
          | refine sw_seq ?_
          | refine sw_block ?_
          | refine sw_skip ?_
          | refine sw_inBlock ?_
          | refine sw_go 0 kp59 fun K hK => ?_
          | refine fun (K : List Oper → LS → Prop) (hK : KOk S 0 _ _ _ K) => ?_
          | ((first | refine runL_go ?_ | refine runQ_go ?_); simp (disch := (refine Om.mk ?_; omega)) only [go_sem])
          | (refine hK.nil ?_; clear hK K; simp only [go_sem])
          | (refine sw_cond rfl (fun h => ?_) (fun h => ?_) <;> (try simp (disch := (refine Om.mk ?_; omega)) only [go_sem] at h))
          | (refine sw_exit rfl ?_)
          | (refine sw_loopEnd ?_)
          | ((first | refine sw_ret (ret0 ?_) | refine sw_ret ?_); simp (disch := (refine Om.mk ?_; omega)) only [go_sem, Try.results59])
          | (refine hK.callB rfl rfl rfl (c) ⟨⟨by simp only [Nat.reduceLT], (by first | (simp; all_goals fail) | (simp [LS.getBox, Lg.look]; all_goals fail)), by (simp [Lg.look]; all_goals fail), by (simp; all_goals fail), by (simp; all_goals fail)⟩, ⟨by (simp [D.ids, D.idsL]; all_goals fail), by (simp [D.ids, D.idsL]; all_goals fail), by (simp [D.tks, D.tksL]; all_goals fail), by (simp [D.tks, D.tksL]; all_goals fail), by (simp; all_goals fail)⟩, rfl⟩ ?_; simp (disch := (refine Om.mk ?_; omega)) only [go_sem])
          | (with_reducible refine And.intro (by first | omega | (simp only [List.length_append, List.length_take, List.length_drop, List.length_cons, List.length_nil, List.length_map]; omega)) ?_)
          | ((with_reducible refine And.intro ?_ ?_); · first | (intro x hx; subst hx; rfl) | exact upR_mem fun _ _ => rfl | exact mapR_mem fun _ _ => rfl | (intro x; refine And.intro ?_ ?_ <;> (intros; subst_vars; rfl)))
          | fail
        try refine hK.nil ?_
        (refine covers_mk0 rfl rfl ?_ ?_ ?_ ?_ <;> simp (disch := (refine Om.mk ?_; omega)) only [go_sem] <;> (try omega))
      obtain ⟨G10, h10⟩ := sim_of_sw (S := S) (L' := ⟨38, [], [(1, [.sl .any (a.frm.map (.int .i64)), .sl .any (a.moves.map MoveD)]), (2, [.sl .nil [], .sl .nil []]), (3, [.sl (.lab (p ++ [0])) ((curT a a.moves.length).map (.int .i64)), .sl (.own 5 136 4) (upR (fun i y => MoveL (p ++ [1] ++ [i]) y) (turnL a a.moves.length) (i + 1))])], [], [5], [1, 2, 3, 5]⟩) (fun R h => by
        refine sw_renC 37000 5 rfl rfl ?_
        simp only [go_sem]
        exact h) h9
      exact hQ _ _ _ h10
  case hdone =>
    intro Db G5 W h5 hD hDl
    simp only [Lr] at h5
    obtain ⟨G6, h6⟩ := sim_of_sw (S := S) (L' := ⟨38, [(1, .box 1 0), (2, .box 2 0), (3, .box 3 0)], [(1, [.sl .any (a.frm.map (.int .i64)), .sl .any (a.moves.map MoveD)]), (2, [.sl .nil [], .sl .nil []]), (3, [.sl (.lab (p ++ [0])) ((curT a a.moves.length).map (.int .i64)), .sl (.lab (p ++ [1])) (upR (fun i y => MoveL (p ++ [1] ++ [i]) y) (turnL a a.moves.length) a.moves.length)])], [], [], []⟩) (fun R h => by
      refine sw_labBox 3 1 (p ++ [1]) (k := 5) rfl rfl (by simp) (by simp) ?_
      simp only [go_sem]
      refine sw_weak ?_ h
      (refine covers_mk0 rfl rfl ?_ ?_ ?_ ?_ <;> simp (disch := (refine Om.mk ?_; omega)) only [go_sem] <;> (try omega))) h5
    have h7 := rnd_in h6 rfl
    simp only [List.map_cons, List.map_nil] at h7
    have hdf : a4.defers = [] := hs4.defers
    rw [hdf]
    refine wpIn_seq (wpIn_wide.2 (regD (a := { a4 with defers := [] }) (L2 := ⟨38, [(1, .box 1 0), (2, .box 2 0), (3, .box 3 0)], [(2, [.sl (.lab (p ++ [0])) ((curT a a.moves.length).map (.int .i64)), .sl (.lab (p ++ [1])) (upR (fun i y => MoveL (p ++ [1] ++ [i]) y) (turnL a a.moves.length) a.moves.length)])], [], [], [1, 2, 3]⟩) h7 (fun _ _ h => by obtain ⟨v, _, h, _⟩ := h; cases h) ?_ fun G8 a8 W8 h8 => ?_))
    · refine lops_go 0 ?_
      refine fun (K : List Oper → LS → Prop) (hK : KOk S 0 _ _ _ K) => ?_
      simp only [go_sem]
      repeat' first
        | exact Bool.noConfusion h
        | refine sw_seq ?_
        | refine sw_block ?_
        | refine sw_skip ?_
        | refine sw_inBlock ?_
        | refine sw_go 0 kp59 fun K hK => ?_
        | refine fun (K : List Oper → LS → Prop) (hK : KOk S 0 _ _ _ K) => ?_
        | ((first | refine runL_go ?_ | refine runQ_go ?_); simp (disch := (refine Om.mk ?_; omega)) only [go_sem])
        | (refine hK.nil ?_; clear hK K; simp only [go_sem])
        | (refine sw_cond rfl (fun h => ?_) (fun h => ?_) <;> (try simp (disch := (refine Om.mk ?_; omega)) only [go_sem] at h))
        | (refine sw_exit rfl ?_)
        | (refine sw_loopEnd ?_)
        | ((first | refine sw_ret (ret0 ?_) | refine sw_ret ?_); simp (disch := (refine Om.mk ?_; omega)) only [go_sem, Try.results59])
        | (with_reducible refine And.intro (by first | omega | (simp only [List.length_append, List.length_take, List.length_drop, List.length_cons, List.length_nil, List.length_map]; omega)) ?_)
        | ((with_reducible refine And.intro ?_ ?_); · first | (intro x hx; subst hx; rfl) | exact upR_mem fun _ _ => rfl | exact mapR_mem fun _ _ => rfl | (intro x; refine And.intro ?_ ?_ <;> (intros; subst_vars; rfl)))
        | fail
      try refine hK.nil ?_
      (refine covers_mk0 rfl rfl ?_ ?_ ?_ ?_ <;> simp (disch := (refine Om.mk ?_; omega)) only [go_sem] <;> (try omega))
    obtain ⟨s1, s2, s3, s4, s5⟩ := rnd_out h6 rfl h8
    refine wpIn_ret ?_
    have hD8 := s2.same _ _ hD rfl
    refine ⟨by simp, .inl ⟨_, _, rfl, run_takeDeferred hD8, ?_⟩⟩
    have h9 : Sim (baseOf G w [] []) ⟨38, [(1, .box 1 0), (2, .box 2 0), (3, .box 3 0)], [(2, [.sl (.lab (p ++ [0])) ((curT a a.moves.length).map (.int .i64)), .sl (.lab (p ++ [1])) (upR (fun i y => MoveL (p ++ [1] ++ [i]) y) (turnL a a.moves.length) a.moves.length)])], [], [], []⟩ G8 a8 W8 := ⟨h8.defers, h8.size, h8.env, s1, fun q hq => by cases hq⟩
    have h10 := sim_put (.deferred none) h9 hDl hD8 rfl
    have hRet : Ret S Try.f59.results.toList (ChainL p (turnC a)) [] ⟨38, [(1, .box 1 0), (2, .box 2 0), (3, .box 3 0)], [(2, [.sl (.lab (p ++ [0])) ((curT a a.moves.length).map (.int .i64)), .sl (.lab (p ++ [1])) (upR (fun i y => MoveL (p ++ [1] ++ [i]) y) (turnL a a.moves.length) a.moves.length)])], [], [], []⟩ := by
      rw [Try.results59]
      refine ret0 ?_
      simp only [go_sem]
      refine ⟨rfl, ?_⟩
      have h := upR_all (fun i y => MoveL (p ++ [1] ++ [i]) y) (turnL a a.moves.length)
      rw [turnL_len] at h
      exact h
    obtain ⟨v, hrn, G11, hE⟩ := ret_end hs.fixed h10 hRet
    exact ⟨v, hrn, v, G11, rfl, hE⟩
def kp22 : List (Nat × List Nat) := [(0, [1, 3, 5, 6]), (1, [5, 6, 12]), (2, [6, 7]), (3, [6, 7])]
attribute [go_sem] kp22
theorem implTurnedChain_fc (p : List Nat) (hp : p ≠ []) (rs : List Int) (es : List EqT) (a : ChainT) : FC S 22 [] [] [] [.agg [.sl .any (rs.map (.int .i64))], .sl .any (es.map EqD), ChainD a] (.tup [ChainL p (turnR rs es a), .bool (tst (ChainP rs es a))]) [] [] := by
  rcases Classical.em (ChainP rs es a) with h1 | hn
  · rw [turnR_yes h1]
    have c := turned_fc p hp a h1.len h1.1.2.2
    refine fc_body Try.func22 rfl (by kernel_rfl) (by simp [Try.f22]) fun B => ?_
    simp only [Try.ntmps22, enumD, List.map_nil, List.map_cons, List.length_map, Nat.zero_add, Nat.reduceAdd]
    repeat' first
      | ((exact absurd h1 (by assumption)))
      | exact Bool.noConfusion h
      | refine sw_seq ?_
      | refine sw_block ?_
      | refine sw_skip ?_
      | refine sw_inBlock ?_
      | refine sw_go 0 kp22 fun K hK => ?_
      | refine fun (K : List Oper → LS → Prop) (hK : KOk S 0 _ _ _ K) => ?_
      | ((first | refine runL_go ?_ | refine runQ_go ?_); simp (disch := (refine Om.mk ?_; omega)) only [go_sem])
      | (refine hK.nil ?_; clear hK K; simp only [go_sem])
      | (refine sw_cond rfl (fun h => ?_) (fun h => ?_) <;> (try simp (disch := (refine Om.mk ?_; omega)) only [go_sem] at h))
      | (refine sw_exit rfl ?_)
      | (refine sw_loopEnd ?_)
      | ((first | refine sw_ret (ret0 ?_) | refine sw_ret ?_); simp (disch := (refine Om.mk ?_; omega)) only [go_sem, Try.results22])
      | refine hK.call rfl rfl rfl (implChainOk_fc _ _ rs es a) ⟨(by intro p hp; cases hp), rfl, rfl, (by simp only [dstOk, Nat.reduceLT])⟩ ?_
      | refine hK.call rfl rfl rfl (c) ⟨(by intro p hp; cases hp), rfl, rfl, (by simp only [dstOk, Nat.reduceLT])⟩ ?_
      | (with_reducible refine And.intro (by first | omega | (simp only [List.length_append, List.length_take, List.length_drop, List.length_cons, List.length_nil, List.length_map]; omega)) ?_)
      | ((with_reducible refine And.intro ?_ ?_); · first | (intro x hx; subst hx; rfl) | exact upR_mem fun _ _ => rfl | exact mapR_mem fun _ _ => rfl | (intro x; refine And.intro ?_ ?_ <;> (intros; subst_vars; rfl)))
      | fail
    all_goals first | assumption | (simp [mapR, le0]; done) | (intros; assumption) | trace_state
  · rw [turnR_no hn]
    refine fc_body Try.func22 rfl (by kernel_rfl) (by simp [Try.f22]) fun B => ?_
    simp only [Try.ntmps22, enumD, List.map_nil, List.map_cons, List.length_map, Nat.zero_add, Nat.reduceAdd]
    repeat' first
      | ((exact absurd (by assumption) hn))
      | exact Bool.noConfusion h
      | refine sw_seq ?_
      | refine sw_block ?_
      | refine sw_skip ?_
      | refine sw_inBlock ?_
      | refine sw_go 0 kp22 fun K hK => ?_
      | refine fun (K : List Oper → LS → Prop) (hK : KOk S 0 _ _ _ K) => ?_
      | ((first | refine runL_go ?_ | refine runQ_go ?_); simp (disch := (refine Om.mk ?_; omega)) only [go_sem])
      | (refine hK.nil ?_; clear hK K; simp only [go_sem])
      | (refine sw_cond rfl (fun h => ?_) (fun h => ?_) <;> (try simp (disch := (refine Om.mk ?_; omega)) only [go_sem] at h))
      | (refine sw_exit rfl ?_)
      | (refine sw_loopEnd ?_)
      | ((first | refine sw_ret (ret0 ?_) | refine sw_ret ?_); simp (disch := (refine Om.mk ?_; omega)) only [go_sem, Try.results22])
      | refine hK.call rfl rfl rfl (implChainOk_fc _ _ rs es a) ⟨(by intro p hp; cases hp), rfl, rfl, (by simp only [dstOk, Nat.reduceLT])⟩ ?_
      | (with_reducible refine And.intro (by first | omega | (simp only [List.length_append, List.length_take, List.length_drop, List.length_cons, List.length_nil, List.length_map]; omega)) ?_)
      | ((with_reducible refine And.intro ?_ ?_); · first | (intro x hx; subst hx; rfl) | exact upR_mem fun _ _ => rfl | exact mapR_mem fun _ _ => rfl | (intro x; refine And.intro ?_ ?_ <;> (intros; subst_vars; rfl)))
      | fail
    all_goals first | assumption | (simp [mapR, le0]; done) | (simp [mapR, le0]; assumption) | trace_state
end Go.Proofs.Ytlcdahaihlflaaa
