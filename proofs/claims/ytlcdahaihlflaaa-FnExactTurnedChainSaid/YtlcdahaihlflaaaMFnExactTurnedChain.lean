/-
  What the marking and the checking functions do. Made by M.gen.
-/
import Derived.Test.YtlcdahaihlflaaaSet
import Derived.Test.YtlcdahaihlflaaaLTy
namespace Go.Proofs.Ytlcdahaihlflaaa
open Go Go.Lg
set_option linter.unusedSimpArgs false
set_option linter.unusedVariables false
set_option maxHeartbeats 4000000
set_option maxRecDepth 20000
attribute [local irreducible] OpsM SM
theorem markInt64S_mk : MKs S.P 38 shInt64S := by
  refine ⟨⟨_, Try.func38, by kernel_rfl, rfl⟩, fun lim w v qs k h hW h0 hb => ?_⟩
  refine calls_of_sm (vals := [v, Value.int .i64 k]) (t := 4) Try.func38 rfl (by simp [Try.f38]) rfl (R := fun E' w' => Lg.look E' 4 = some (Value.int .i64 (k + qs.length)) ∧ w' = wrs w qs k) ?_ (fun E' w' h => ⟨_, h.1, rfl, h.2⟩)
  simp only [Try.ntmps38, enumV]
  repeat' first
    | refine sm_seq ?_
    | refine sm_block ?_
    | refine sm_skip ?_
    | refine sm_inBlock ?_
    | refine sm_region ?_
    | refine m_move rfl (by decide) ?_
    | refine m_assign rfl (by decide) ?_
    | refine m_len rfl (kd_slice rfl) (by decide) ?_
    | refine m_lss rfl rfl (by decide) ?_
    | refine m_nil ?_
  refine sm_mark_loop h hW h0 hb (by intro p hp; simp only [List.mem_cons, List.not_mem_nil, or_false] at hp; rcases hp with rfl | rfl | rfl <;> rfl) fun A m cp hv hm i k' wi J hk0 hkm hi hx hend => ?_
  subst hv
  simp only [maxLen] at hm
  repeat' first
    | refine sm_seq ?_
    | refine sm_block ?_
    | refine sm_skip ?_
    | refine sm_inBlock ?_
    | refine sm_region ?_
    | refine m_move rfl (by decide) ?_
    | refine m_assign rfl (by decide) ?_
    | refine m_len rfl (kd_slice rfl) (by decide) ?_
    | refine m_lss rfl rfl (by decide) ?_
    | refine m_nil ?_
  refine sm_cond rfl (fun hc => ?_) (fun hc => ?_)
  · have hlt : i < m := by simpa using hc
    obtain ⟨b, o, l, rfl, hF0, hw0, hkb, hJ⟩ := hx hlt
    have hk0' := hk0
    obtain ⟨r1, m1, rfl, hm1, -, hn1⟩ := LvF.cell_step hF0
    have ha1 := hw0 _ List.mem_cons_self
    have hb1 := fun q hq => hw0 q (List.mem_cons_of_mem _ hq)
    simp only [List.length_cons] at hkb
    repeat' first
      | refine m_indexAddr rfl rfl (kd_slice rfl) (fun w => Lg.run_sizeOf (S.ok _ _ rfl) w) hlt (by decide) ?_
      | refine m_fieldAddr (S := S) rfl rfl rfl rfl rfl (by decide) (by decide) ?_
      | refine m_store (S := S) rfl rfl rfl rfl rfl ha1 hm1 ?_
      | refine m_add rfl rfl (by omega) (by decide) ?_
      | refine sm_seq ?_
      | refine sm_block ?_
      | refine sm_skip ?_
      | refine sm_inBlock ?_
      | refine sm_region ?_
      | refine m_move rfl (by decide) ?_
      | refine m_assign rfl (by decide) ?_
      | refine m_len rfl (kd_slice rfl) (by decide) ?_
      | refine m_lss rfl rfl (by decide) ?_
      | refine m_nil ?_
    obtain ⟨hF1, hw1⟩ := hn1 (k') ha1 hb1
    obtain rfl := hF1.nil_step
    repeat' first
      | refine m_add rfl rfl (by omega) (by decide) ?_
      | refine sm_seq ?_
      | refine sm_block ?_
      | refine sm_skip ?_
      | refine sm_inBlock ?_
      | refine sm_region ?_
      | refine m_move rfl (by decide) ?_
      | refine m_assign rfl (by decide) ?_
      | refine m_len rfl (kd_slice rfl) (by decide) ?_
      | refine m_lss rfl rfl (by decide) ?_
      | refine m_nil ?_
    refine sm_loopEnd (Eq.mp (congrArg (J _) ?_) (hJ _ ?_))
    · first | rfl | (simp only [wrs_append, wrs, List.append_nil]; done) | (simp only [wrs_append, wrs, List.append_nil]; rfl)
    intro p hp
    simp only [List.mem_cons, List.not_mem_nil, or_false] at hp
    rcases hp with rfl | rfl | rfl
    · rfl
    · exact int_eq (by simp only [List.length_append, List.length_cons, List.length_nil]; omega)
    · rfl
  · have hlt : ¬ i < m := by simpa using hc
    obtain ⟨rfl, rfl⟩ := hend (by omega)
    refine sm_exit rfl ?_
    repeat' first
      | refine sm_seq ?_
      | refine sm_block ?_
      | refine sm_skip ?_
      | refine sm_inBlock ?_
      | refine sm_region ?_
      | refine m_move rfl (by decide) ?_
      | refine m_assign rfl (by decide) ?_
      | refine m_len rfl (kd_slice rfl) (by decide) ?_
      | refine m_lss rfl rfl (by decide) ?_
      | refine m_nil ?_
    exact sm_ret ⟨rfl, rfl⟩
theorem heldInt64S_mk : HDs S.P 51 shInt64S := by
  refine ⟨⟨_, Try.func51, by kernel_rfl, rfl⟩, fun lim w v qs k h hW h0 hb => ?_⟩
  refine calls_of_sm (vals := [v, Value.int .i64 k]) (t := 4) Try.func51 rfl (by simp [Try.f51]) rfl (R := fun E' w' => Lg.look E' 4 = some (Value.int .i64 (k + qs.length)) ∧ w' = w) ?_ (fun E' w' h => ⟨_, h.1, rfl, h.2⟩)
  simp only [Try.ntmps51, enumV]
  repeat' first
    | refine sm_seq ?_
    | refine sm_block ?_
    | refine sm_skip ?_
    | refine sm_inBlock ?_
    | refine sm_region ?_
    | refine m_move rfl (by decide) ?_
    | refine m_assign rfl (by decide) ?_
    | refine m_len rfl (kd_slice rfl) (by decide) ?_
    | refine m_lss rfl rfl (by decide) ?_
    | refine m_nil ?_
  refine sm_held_loop h hW h0 hb (by intro p hp; simp only [List.mem_cons, List.not_mem_nil, or_false] at hp; rcases hp with rfl | rfl | rfl <;> rfl) fun A m cp hv hm i k' J hk0 hkm hi hx hend => ?_
  subst hv
  simp only [maxLen] at hm
  repeat' first
    | refine sm_seq ?_
    | refine sm_block ?_
    | refine sm_skip ?_
    | refine sm_inBlock ?_
    | refine sm_region ?_
    | refine m_move rfl (by decide) ?_
    | refine m_assign rfl (by decide) ?_
    | refine m_len rfl (kd_slice rfl) (by decide) ?_
    | refine m_lss rfl rfl (by decide) ?_
    | refine m_nil ?_
  refine sm_cond rfl (fun hc => ?_) (fun hc => ?_)
  · have hlt : i < m := by simpa using hc
    obtain ⟨b, o, l, rfl, hF0, hw0, hkb, hJ⟩ := hx hlt
    obtain ⟨r1, m1, rfl, hm1, hF1, -⟩ := LvF.cell_step hF0
    have ha1 := (holds_head hw0).int hm1
    have hw1 := holds_tail hw0
    simp only [List.length_cons] at hkb
    repeat' first
      | refine m_indexAddr rfl rfl (kd_slice rfl) (fun w => Lg.run_sizeOf (S.ok _ _ rfl) w) hlt (by decide) ?_
      | refine m_fieldAddr (S := S) rfl rfl rfl rfl rfl (by decide) (by decide) ?_
      | refine m_load (S := S) rfl rfl rfl rfl ha1 (by decide) ?_
      | refine m_neq rfl rfl (by decide) ?_
      | refine sm_seq ?_
      | refine sm_block ?_
      | refine sm_skip ?_
      | refine sm_inBlock ?_
      | refine sm_region ?_
      | refine m_move rfl (by decide) ?_
      | refine m_assign rfl (by decide) ?_
      | refine m_len rfl (kd_slice rfl) (by decide) ?_
      | refine m_lss rfl rfl (by decide) ?_
      | refine m_nil ?_
    refine sm_cond rfl (fun hc => absurd hc (by simp)) (fun _ => ?_)
    repeat' first
      | refine m_add rfl rfl (by omega) (by decide) ?_
      | refine sm_seq ?_
      | refine sm_block ?_
      | refine sm_skip ?_
      | refine sm_inBlock ?_
      | refine sm_region ?_
      | refine m_move rfl (by decide) ?_
      | refine m_assign rfl (by decide) ?_
      | refine m_len rfl (kd_slice rfl) (by decide) ?_
      | refine m_lss rfl rfl (by decide) ?_
      | refine m_nil ?_
    obtain rfl := hF1.nil_step
    repeat' first
      | refine m_add rfl rfl (by omega) (by decide) ?_
      | refine sm_seq ?_
      | refine sm_block ?_
      | refine sm_skip ?_
      | refine sm_inBlock ?_
      | refine sm_region ?_
      | refine m_move rfl (by decide) ?_
      | refine m_assign rfl (by decide) ?_
      | refine m_len rfl (kd_slice rfl) (by decide) ?_
      | refine m_lss rfl rfl (by decide) ?_
      | refine m_nil ?_
    refine sm_loopEnd (hJ _ ?_)
    intro p hp
    simp only [List.mem_cons, List.not_mem_nil, or_false] at hp
    rcases hp with rfl | rfl | rfl
    · rfl
    · exact int_eq (by simp only [List.length_append, List.length_cons, List.length_nil]; omega)
    · rfl
  · have hlt : ¬ i < m := by simpa using hc
    obtain rfl := hend (by omega)
    refine sm_exit rfl ?_
    repeat' first
      | refine sm_seq ?_
      | refine sm_block ?_
      | refine sm_skip ?_
      | refine sm_inBlock ?_
      | refine sm_region ?_
      | refine m_move rfl (by decide) ?_
      | refine m_assign rfl (by decide) ?_
      | refine m_len rfl (kd_slice rfl) (by decide) ?_
      | refine m_lss rfl rfl (by decide) ?_
      | refine m_nil ?_
    exact sm_ret ⟨rfl, rfl⟩
theorem markSig_mk : MKa S.P 26 fsSig := by
  refine ⟨⟨_, Try.func26, by kernel_rfl, rfl⟩, fun lim w vs qs k hl h hW h0 hb => ?_⟩
  simp only [fsSig, Fs.len] at hl
  rcases vs with _ | ⟨v0, _ | ⟨_, _⟩⟩ <;> simp at hl
  clear hl
  refine calls_of_sm (vals := [Value.agg [v0].toArray, Value.int .i64 k]) (t := 4) Try.func26 rfl (by simp [Try.f26]) rfl (R := fun E' w' => Lg.look E' 4 = some (Value.int .i64 (k + qs.length)) ∧ Marked w qs k w') ?_ (fun E' w' h => ⟨_, h.1, rfl, h.2⟩)
  simp only [Try.ntmps26, enumV]
  repeat' first
    | refine m_box rfl (by decide) ?_
    | refine sm_seq ?_
    | refine sm_block ?_
    | refine sm_skip ?_
    | refine sm_inBlock ?_
    | refine sm_region ?_
    | refine m_move rfl (by decide) ?_
    | refine m_assign rfl (by decide) ?_
    | refine m_len rfl (kd_slice rfl) (by decide) ?_
    | refine m_lss rfl rfl (by decide) ?_
    | refine m_nil ?_
  have hx0 : ∀ q ∈ ([] : List (Nat × Nat)), MkC w q := by simp
  have hM0 : Marked w [] k (w.alloc (.cells [v0].toArray 31)) := Marked.of_grown (Grown.alloc w _ _) k
  have hB0 : ∀ (j : Nat) u, [v0][j]? = some u → cellAt (w.alloc (.cells [v0].toArray 31)) w.heap.size j = some u := fun j u hj => by rw [cellAt_alloc]; simpa using hj
  have hA0 := h
  have hw0 := hW
  unfold fsSig at hA0
  obtain ⟨l1, r1, rfl, hL1, hA1⟩ := LvA.sub_step hA0
  simp only [List.length_append] at hb
  have hi1 : ∀ q ∈ l1, MkC w q := fun q hq => (Lv.ints _ _ _ hL1 q hq).2
  repeat' first
    | refine m_fieldAddr (S := S) rfl rfl rfl rfl rfl (by decide) (by decide) ?_
    | refine m_load (S := S) rfl rfl rfl rfl (hB0 0 _ rfl) (by decide) ?_
    | refine sm_seq ?_
    | refine sm_block ?_
    | refine sm_skip ?_
    | refine sm_inBlock ?_
    | refine sm_region ?_
    | refine m_move rfl (by decide) ?_
    | refine m_assign rfl (by decide) ?_
    | refine m_len rfl (kd_slice rfl) (by decide) ?_
    | refine m_lss rfl rfl (by decide) ?_
    | refine m_nil ?_
  have ha1 := fun q hq => hw0 q (List.mem_append_left _ hq)
  have hw1 := fun q hq => hw0 q (List.mem_append_right _ hq)
  have hI1 := hM0.intW lim hx0
  refine m_call markInt64S_mk.1 rfl rfl (markInt64S_mk.2 lim _ v0 l1 _ (Lv.mono hI1 _ _ _ hL1) (fun q hq => hM0.Wr (ha1 q hq)) (by omega) (by omega)) (by decide) ?_
  rintro _ w1 ⟨rfl, hm1'⟩
  refine ⟨_, rfl, ?_⟩
  have hm1 := Marked.of_wrs (k) (fun q (hq : q ∈ l1) => hM0.Wr (ha1 q hq)) (fun q hq => (Lv.ints _ _ _ (Lv.mono hI1 _ _ _ hL1) q hq).2)
  rw [← hm1'] at hm1
  have hB1 := box_stands hB0 hm1 ha1
  have hM1 := hM0.append (l2 := l1) (w'' := w1) (by simpa only [List.nil_append, List.length_append, List.length_nil, Int.natCast_add, Int.natCast_zero, Int.zero_add, Int.add_zero, Int.add_assoc] using hm1)
  have hx1 := fun q (hq : q ∈ _ ++ l1) => (List.mem_append.1 hq).elim (hx0 q) (hi1 q)
  repeat' first
    | refine sm_seq ?_
    | refine sm_block ?_
    | refine sm_skip ?_
    | refine sm_inBlock ?_
    | refine sm_region ?_
    | refine m_move rfl (by decide) ?_
    | refine m_assign rfl (by decide) ?_
    | refine m_len rfl (kd_slice rfl) (by decide) ?_
    | refine m_lss rfl rfl (by decide) ?_
    | refine m_nil ?_
  obtain rfl := hA1.nil_step
  repeat' first
    | refine sm_seq ?_
    | refine sm_block ?_
    | refine sm_skip ?_
    | refine sm_inBlock ?_
    | refine sm_region ?_
    | refine m_move rfl (by decide) ?_
    | refine m_assign rfl (by decide) ?_
    | refine m_len rfl (kd_slice rfl) (by decide) ?_
    | refine m_lss rfl rfl (by decide) ?_
    | refine m_nil ?_
  refine sm_ret ⟨?_, ?_⟩
  · exact int_eq (by simp only [List.length_append, List.length_nil]; omega)
  · simpa only [List.nil_append, List.append_nil, List.append_assoc] using hM1
theorem markEqS_mk : MKs S.P 27 shEqS := by
  refine ⟨⟨_, Try.func27, by kernel_rfl, rfl⟩, fun lim w v qs k h hW h0 hb => ?_⟩
  refine calls_of_sm (vals := [v, Value.int .i64 k]) (t := 4) Try.func27 rfl (by simp [Try.f27]) rfl (R := fun E' w' => Lg.look E' 4 = some (Value.int .i64 (k + qs.length)) ∧ w' = wrs w qs k) ?_ (fun E' w' h => ⟨_, h.1, rfl, h.2⟩)
  simp only [Try.ntmps27, enumV]
  repeat' first
    | refine sm_seq ?_
    | refine sm_block ?_
    | refine sm_skip ?_
    | refine sm_inBlock ?_
    | refine sm_region ?_
    | refine m_move rfl (by decide) ?_
    | refine m_assign rfl (by decide) ?_
    | refine m_len rfl (kd_slice rfl) (by decide) ?_
    | refine m_lss rfl rfl (by decide) ?_
    | refine m_nil ?_
  refine sm_mark_loop h hW h0 hb (by intro p hp; simp only [List.mem_cons, List.not_mem_nil, or_false] at hp; rcases hp with rfl | rfl | rfl <;> rfl) fun A m cp hv hm i k' wi J hk0 hkm hi hx hend => ?_
  subst hv
  simp only [maxLen] at hm
  repeat' first
    | refine sm_seq ?_
    | refine sm_block ?_
    | refine sm_skip ?_
    | refine sm_inBlock ?_
    | refine sm_region ?_
    | refine m_move rfl (by decide) ?_
    | refine m_assign rfl (by decide) ?_
    | refine m_len rfl (kd_slice rfl) (by decide) ?_
    | refine m_lss rfl rfl (by decide) ?_
    | refine m_nil ?_
  refine sm_cond rfl (fun hc => ?_) (fun hc => ?_)
  · have hlt : i < m := by simpa using hc
    obtain ⟨b, o, l, rfl, hF0, hw0, hkb, hJ⟩ := hx hlt
    have hk0' := hk0
    obtain ⟨v1, l1, r1, rfl, hc1, hL1, -, hn1⟩ := LvF.sub_step hF0
    have ha1 := fun q hq => hw0 q (List.mem_append_left _ hq)
    have hb1 := fun q hq => hw0 q (List.mem_append_right _ hq)
    simp only [List.length_append] at hkb
    repeat' first
      | refine m_indexAddr rfl rfl (kd_slice rfl) (fun w => Lg.run_sizeOf (S.ok _ _ rfl) w) hlt (by decide) ?_
      | refine m_fieldAddr (S := S) rfl rfl rfl rfl rfl (by decide) (by decide) ?_
      | refine m_load (S := S) rfl rfl rfl rfl hc1 (by decide) ?_
      | refine sm_seq ?_
      | refine sm_block ?_
      | refine sm_skip ?_
      | refine sm_inBlock ?_
      | refine sm_region ?_
      | refine m_move rfl (by decide) ?_
      | refine m_assign rfl (by decide) ?_
      | refine m_len rfl (kd_slice rfl) (by decide) ?_
      | refine m_lss rfl rfl (by decide) ?_
      | refine m_nil ?_
    refine m_call markInt64S_mk.1 rfl rfl (markInt64S_mk.2 lim _ v1 l1 _ hL1 ha1 (by omega) (by omega)) (by decide) ?_
    rintro _ _ ⟨rfl, rfl⟩
    refine ⟨_, rfl, ?_⟩
    obtain ⟨hF1, hw1⟩ := hn1 (k') ha1 hb1
    obtain ⟨v2, l2, r2, rfl, hc2, hL2, -, hn2⟩ := LvF.sub_step hF1
    have ha2 := fun q hq => hw1 q (List.mem_append_left _ hq)
    have hb2 := fun q hq => hw1 q (List.mem_append_right _ hq)
    simp only [List.length_append] at hkb
    repeat' first
      | refine m_indexAddr rfl rfl (kd_slice rfl) (fun w => Lg.run_sizeOf (S.ok _ _ rfl) w) hlt (by decide) ?_
      | refine m_fieldAddr (S := S) rfl rfl rfl rfl rfl (by decide) (by decide) ?_
      | refine m_load (S := S) rfl rfl rfl rfl hc2 (by decide) ?_
      | refine sm_seq ?_
      | refine sm_block ?_
      | refine sm_skip ?_
      | refine sm_inBlock ?_
      | refine sm_region ?_
      | refine m_move rfl (by decide) ?_
      | refine m_assign rfl (by decide) ?_
      | refine m_len rfl (kd_slice rfl) (by decide) ?_
      | refine m_lss rfl rfl (by decide) ?_
      | refine m_nil ?_
    refine m_call markInt64S_mk.1 rfl rfl (markInt64S_mk.2 lim _ v2 l2 _ hL2 ha2 (by omega) (by omega)) (by decide) ?_
    rintro _ _ ⟨rfl, rfl⟩
    refine ⟨_, rfl, ?_⟩
    obtain ⟨hF2, hw2⟩ := hn2 (k' + (l1.length : Int)) ha2 hb2
    obtain rfl := hF2.nil_step
    repeat' first
      | refine m_add rfl rfl (by omega) (by decide) ?_
      | refine sm_seq ?_
      | refine sm_block ?_
      | refine sm_skip ?_
      | refine sm_inBlock ?_
      | refine sm_region ?_
      | refine m_move rfl (by decide) ?_
      | refine m_assign rfl (by decide) ?_
      | refine m_len rfl (kd_slice rfl) (by decide) ?_
      | refine m_lss rfl rfl (by decide) ?_
      | refine m_nil ?_
    refine sm_loopEnd (Eq.mp (congrArg (J _) ?_) (hJ _ ?_))
    · first | rfl | (simp only [wrs_append, wrs, List.append_nil]; done) | (simp only [wrs_append, wrs, List.append_nil]; rfl)
    intro p hp
    simp only [List.mem_cons, List.not_mem_nil, or_false] at hp
    rcases hp with rfl | rfl | rfl
    · rfl
    · exact int_eq (by simp only [List.length_append, List.length_cons, List.length_nil]; omega)
    · rfl
  · have hlt : ¬ i < m := by simpa using hc
    obtain ⟨rfl, rfl⟩ := hend (by omega)
    refine sm_exit rfl ?_
    repeat' first
      | refine sm_seq ?_
      | refine sm_block ?_
      | refine sm_skip ?_
      | refine sm_inBlock ?_
      | refine sm_region ?_
      | refine m_move rfl (by decide) ?_
      | refine m_assign rfl (by decide) ?_
      | refine m_len rfl (kd_slice rfl) (by decide) ?_
      | refine m_lss rfl rfl (by decide) ?_
      | refine m_nil ?_
    exact sm_ret ⟨rfl, rfl⟩
theorem markMoveS_mk : MKs S.P 62 shMoveS := by
  refine ⟨⟨_, Try.func62, by kernel_rfl, rfl⟩, fun lim w v qs k h hW h0 hb => ?_⟩
  refine calls_of_sm (vals := [v, Value.int .i64 k]) (t := 4) Try.func62 rfl (by simp [Try.f62]) rfl (R := fun E' w' => Lg.look E' 4 = some (Value.int .i64 (k + qs.length)) ∧ w' = wrs w qs k) ?_ (fun E' w' h => ⟨_, h.1, rfl, h.2⟩)
  simp only [Try.ntmps62, enumV]
  repeat' first
    | refine sm_seq ?_
    | refine sm_block ?_
    | refine sm_skip ?_
    | refine sm_inBlock ?_
    | refine sm_region ?_
    | refine m_move rfl (by decide) ?_
    | refine m_assign rfl (by decide) ?_
    | refine m_len rfl (kd_slice rfl) (by decide) ?_
    | refine m_lss rfl rfl (by decide) ?_
    | refine m_nil ?_
  refine sm_mark_loop h hW h0 hb (by intro p hp; simp only [List.mem_cons, List.not_mem_nil, or_false] at hp; rcases hp with rfl | rfl | rfl <;> rfl) fun A m cp hv hm i k' wi J hk0 hkm hi hx hend => ?_
  subst hv
  simp only [maxLen] at hm
  repeat' first
    | refine sm_seq ?_
    | refine sm_block ?_
    | refine sm_skip ?_
    | refine sm_inBlock ?_
    | refine sm_region ?_
    | refine m_move rfl (by decide) ?_
    | refine m_assign rfl (by decide) ?_
    | refine m_len rfl (kd_slice rfl) (by decide) ?_
    | refine m_lss rfl rfl (by decide) ?_
    | refine m_nil ?_
  refine sm_cond rfl (fun hc => ?_) (fun hc => ?_)
  · have hlt : i < m := by simpa using hc
    obtain ⟨b, o, l, rfl, hF0, hw0, hkb, hJ⟩ := hx hlt
    have hk0' := hk0
    obtain ⟨r1, m1, rfl, hm1, -, hn1⟩ := LvF.cell_step hF0
    have ha1 := hw0 _ List.mem_cons_self
    have hb1 := fun q hq => hw0 q (List.mem_cons_of_mem _ hq)
    simp only [List.length_cons] at hkb
    repeat' first
      | refine m_indexAddr rfl rfl (kd_slice rfl) (fun w => Lg.run_sizeOf (S.ok _ _ rfl) w) hlt (by decide) ?_
      | refine m_fieldAddr (S := S) rfl rfl rfl rfl rfl (by decide) (by decide) ?_
      | refine m_store (S := S) rfl rfl rfl rfl rfl ha1 hm1 ?_
      | refine m_add rfl rfl (by omega) (by decide) ?_
      | refine sm_seq ?_
      | refine sm_block ?_
      | refine sm_skip ?_
      | refine sm_inBlock ?_
      | refine sm_region ?_
      | refine m_move rfl (by decide) ?_
      | refine m_assign rfl (by decide) ?_
      | refine m_len rfl (kd_slice rfl) (by decide) ?_
      | refine m_lss rfl rfl (by decide) ?_
      | refine m_nil ?_
    obtain ⟨hF1, hw1⟩ := hn1 (k') ha1 hb1
    obtain ⟨r2, m2, rfl, hm2, -, hn2⟩ := LvF.cell_step hF1
    have ha2 := hw1 _ List.mem_cons_self
    have hb2 := fun q hq => hw1 q (List.mem_cons_of_mem _ hq)
    simp only [List.length_cons] at hkb
    repeat' first
      | refine m_indexAddr rfl rfl (kd_slice rfl) (fun w => Lg.run_sizeOf (S.ok _ _ rfl) w) hlt (by decide) ?_
      | refine m_fieldAddr (S := S) rfl rfl rfl rfl rfl (by decide) (by decide) ?_
      | refine m_store (S := S) rfl rfl rfl rfl rfl ha2 hm2 ?_
      | refine m_add rfl rfl (by omega) (by decide) ?_
      | refine sm_seq ?_
      | refine sm_block ?_
      | refine sm_skip ?_
      | refine sm_inBlock ?_
      | refine sm_region ?_
      | refine m_move rfl (by decide) ?_
      | refine m_assign rfl (by decide) ?_
      | refine m_len rfl (kd_slice rfl) (by decide) ?_
      | refine m_lss rfl rfl (by decide) ?_
      | refine m_nil ?_
    obtain ⟨hF2, hw2⟩ := hn2 (k' + 1) ha2 hb2
    obtain ⟨r3, m3, rfl, hm3, -, hn3⟩ := LvF.flag_step hF2
    have ha3 := hw2 _ List.mem_cons_self
    have hb3 := fun q hq => hw2 q (List.mem_cons_of_mem _ hq)
    simp only [List.length_cons] at hkb
    repeat' first
      | refine m_indexAddr rfl rfl (kd_slice rfl) (fun w => Lg.run_sizeOf (S.ok _ _ rfl) w) hlt (by decide) ?_
      | refine m_fieldAddr (S := S) rfl rfl rfl rfl rfl (by decide) (by decide) ?_
      | refine m_rem rfl rfl (by omega) (by omega) (by decide) ?_
      | refine m_eql rfl rfl (by decide) ?_
      | refine m_storeB (S := S) rfl rfl rfl rfl rfl rfl ha3 hm3 ?_
      | refine m_add rfl rfl (by omega) (by decide) ?_
      | refine sm_seq ?_
      | refine sm_block ?_
      | refine sm_skip ?_
      | refine sm_inBlock ?_
      | refine sm_region ?_
      | refine m_move rfl (by decide) ?_
      | refine m_assign rfl (by decide) ?_
      | refine m_len rfl (kd_slice rfl) (by decide) ?_
      | refine m_lss rfl rfl (by decide) ?_
      | refine m_nil ?_
    obtain ⟨hF3, hw3⟩ := hn3 (k' + 1 + 1) ha3 hb3
    obtain ⟨v4, l4, r4, rfl, hc4, hL4, -, hn4⟩ := LvF.sub_step hF3
    have ha4 := fun q hq => hw3 q (List.mem_append_left _ hq)
    have hb4 := fun q hq => hw3 q (List.mem_append_right _ hq)
    simp only [List.length_append] at hkb
    repeat' first
      | refine m_indexAddr rfl rfl (kd_slice rfl) (fun w => Lg.run_sizeOf (S.ok _ _ rfl) w) hlt (by decide) ?_
      | refine m_fieldAddr (S := S) rfl rfl rfl rfl rfl (by decide) (by decide) ?_
      | refine m_load (S := S) rfl rfl rfl rfl hc4 (by decide) ?_
      | refine sm_seq ?_
      | refine sm_block ?_
      | refine sm_skip ?_
      | refine sm_inBlock ?_
      | refine sm_region ?_
      | refine m_move rfl (by decide) ?_
      | refine m_assign rfl (by decide) ?_
      | refine m_len rfl (kd_slice rfl) (by decide) ?_
      | refine m_lss rfl rfl (by decide) ?_
      | refine m_nil ?_
    refine m_call markInt64S_mk.1 rfl rfl (markInt64S_mk.2 lim _ v4 l4 _ hL4 ha4 (by omega) (by omega)) (by decide) ?_
    rintro _ _ ⟨rfl, rfl⟩
    refine ⟨_, rfl, ?_⟩
    obtain ⟨hF4, hw4⟩ := hn4 (k' + 1 + 1 + 1) ha4 hb4
    obtain rfl := hF4.nil_step
    repeat' first
      | refine m_add rfl rfl (by omega) (by decide) ?_
      | refine sm_seq ?_
      | refine sm_block ?_
      | refine sm_skip ?_
      | refine sm_inBlock ?_
      | refine sm_region ?_
      | refine m_move rfl (by decide) ?_
      | refine m_assign rfl (by decide) ?_
      | refine m_len rfl (kd_slice rfl) (by decide) ?_
      | refine m_lss rfl rfl (by decide) ?_
      | refine m_nil ?_
    refine sm_loopEnd (Eq.mp (congrArg (J _) ?_) (hJ _ ?_))
    · first | rfl | (simp only [wrs_append, wrs, List.append_nil]; done) | (simp only [wrs_append, wrs, List.append_nil]; rfl)
    intro p hp
    simp only [List.mem_cons, List.not_mem_nil, or_false] at hp
    rcases hp with rfl | rfl | rfl
    · rfl
    · exact int_eq (by simp only [List.length_append, List.length_cons, List.length_nil]; omega)
    · rfl
  · have hlt : ¬ i < m := by simpa using hc
    obtain ⟨rfl, rfl⟩ := hend (by omega)
    refine sm_exit rfl ?_
    repeat' first
      | refine sm_seq ?_
      | refine sm_block ?_
      | refine sm_skip ?_
      | refine sm_inBlock ?_
      | refine sm_region ?_
      | refine m_move rfl (by decide) ?_
      | refine m_assign rfl (by decide) ?_
      | refine m_len rfl (kd_slice rfl) (by decide) ?_
      | refine m_lss rfl rfl (by decide) ?_
      | refine m_nil ?_
    exact sm_ret ⟨rfl, rfl⟩
theorem heldMoveS_mk : HDs S.P 63 shMoveS := by
  refine ⟨⟨_, Try.func63, by kernel_rfl, rfl⟩, fun lim w v qs k h hW h0 hb => ?_⟩
  refine calls_of_sm (vals := [v, Value.int .i64 k]) (t := 4) Try.func63 rfl (by simp [Try.f63]) rfl (R := fun E' w' => Lg.look E' 4 = some (Value.int .i64 (k + qs.length)) ∧ w' = w) ?_ (fun E' w' h => ⟨_, h.1, rfl, h.2⟩)
  simp only [Try.ntmps63, enumV]
  repeat' first
    | refine sm_seq ?_
    | refine sm_block ?_
    | refine sm_skip ?_
    | refine sm_inBlock ?_
    | refine sm_region ?_
    | refine m_move rfl (by decide) ?_
    | refine m_assign rfl (by decide) ?_
    | refine m_len rfl (kd_slice rfl) (by decide) ?_
    | refine m_lss rfl rfl (by decide) ?_
    | refine m_nil ?_
  refine sm_held_loop h hW h0 hb (by intro p hp; simp only [List.mem_cons, List.not_mem_nil, or_false] at hp; rcases hp with rfl | rfl | rfl <;> rfl) fun A m cp hv hm i k' J hk0 hkm hi hx hend => ?_
  subst hv
  simp only [maxLen] at hm
  repeat' first
    | refine sm_seq ?_
    | refine sm_block ?_
    | refine sm_skip ?_
    | refine sm_inBlock ?_
    | refine sm_region ?_
    | refine m_move rfl (by decide) ?_
    | refine m_assign rfl (by decide) ?_
    | refine m_len rfl (kd_slice rfl) (by decide) ?_
    | refine m_lss rfl rfl (by decide) ?_
    | refine m_nil ?_
  refine sm_cond rfl (fun hc => ?_) (fun hc => ?_)
  · have hlt : i < m := by simpa using hc
    obtain ⟨b, o, l, rfl, hF0, hw0, hkb, hJ⟩ := hx hlt
    obtain ⟨r1, m1, rfl, hm1, hF1, -⟩ := LvF.cell_step hF0
    have ha1 := (holds_head hw0).int hm1
    have hw1 := holds_tail hw0
    simp only [List.length_cons] at hkb
    repeat' first
      | refine m_indexAddr rfl rfl (kd_slice rfl) (fun w => Lg.run_sizeOf (S.ok _ _ rfl) w) hlt (by decide) ?_
      | refine m_fieldAddr (S := S) rfl rfl rfl rfl rfl (by decide) (by decide) ?_
      | refine m_load (S := S) rfl rfl rfl rfl ha1 (by decide) ?_
      | refine m_neq rfl rfl (by decide) ?_
      | refine sm_seq ?_
      | refine sm_block ?_
      | refine sm_skip ?_
      | refine sm_inBlock ?_
      | refine sm_region ?_
      | refine m_move rfl (by decide) ?_
      | refine m_assign rfl (by decide) ?_
      | refine m_len rfl (kd_slice rfl) (by decide) ?_
      | refine m_lss rfl rfl (by decide) ?_
      | refine m_nil ?_
    refine sm_cond rfl (fun hc => absurd hc (by simp)) (fun _ => ?_)
    repeat' first
      | refine m_add rfl rfl (by omega) (by decide) ?_
      | refine sm_seq ?_
      | refine sm_block ?_
      | refine sm_skip ?_
      | refine sm_inBlock ?_
      | refine sm_region ?_
      | refine m_move rfl (by decide) ?_
      | refine m_assign rfl (by decide) ?_
      | refine m_len rfl (kd_slice rfl) (by decide) ?_
      | refine m_lss rfl rfl (by decide) ?_
      | refine m_nil ?_
    obtain ⟨r2, m2, rfl, hm2, hF2, -⟩ := LvF.cell_step hF1
    have ha2 := (holds_head hw1).int hm2
    have hw2 := holds_tail hw1
    simp only [List.length_cons] at hkb
    repeat' first
      | refine m_indexAddr rfl rfl (kd_slice rfl) (fun w => Lg.run_sizeOf (S.ok _ _ rfl) w) hlt (by decide) ?_
      | refine m_fieldAddr (S := S) rfl rfl rfl rfl rfl (by decide) (by decide) ?_
      | refine m_load (S := S) rfl rfl rfl rfl ha2 (by decide) ?_
      | refine m_neq rfl rfl (by decide) ?_
      | refine sm_seq ?_
      | refine sm_block ?_
      | refine sm_skip ?_
      | refine sm_inBlock ?_
      | refine sm_region ?_
      | refine m_move rfl (by decide) ?_
      | refine m_assign rfl (by decide) ?_
      | refine m_len rfl (kd_slice rfl) (by decide) ?_
      | refine m_lss rfl rfl (by decide) ?_
      | refine m_nil ?_
    refine sm_cond rfl (fun hc => absurd hc (by simp)) (fun _ => ?_)
    repeat' first
      | refine m_add rfl rfl (by omega) (by decide) ?_
      | refine sm_seq ?_
      | refine sm_block ?_
      | refine sm_skip ?_
      | refine sm_inBlock ?_
      | refine sm_region ?_
      | refine m_move rfl (by decide) ?_
      | refine m_assign rfl (by decide) ?_
      | refine m_len rfl (kd_slice rfl) (by decide) ?_
      | refine m_lss rfl rfl (by decide) ?_
      | refine m_nil ?_
    obtain ⟨r3, m3, rfl, hm3, hF3, -⟩ := LvF.flag_step hF2
    have ha3 := (holds_head hw2).bool hm3
    have hw3 := holds_tail hw2
    simp only [List.length_cons] at hkb
    repeat' first
      | refine m_indexAddr rfl rfl (kd_slice rfl) (fun w => Lg.run_sizeOf (S.ok _ _ rfl) w) hlt (by decide) ?_
      | refine m_fieldAddr (S := S) rfl rfl rfl rfl rfl (by decide) (by decide) ?_
      | refine m_load (S := S) rfl rfl rfl rfl ha3 (by decide) ?_
      | refine m_rem rfl rfl (by omega) (by omega) (by decide) ?_
      | refine m_eql rfl rfl (by decide) ?_
      | refine m_neqB rfl rfl (kd_bool rfl) (by decide) ?_
      | refine sm_seq ?_
      | refine sm_block ?_
      | refine sm_skip ?_
      | refine sm_inBlock ?_
      | refine sm_region ?_
      | refine m_move rfl (by decide) ?_
      | refine m_assign rfl (by decide) ?_
      | refine m_len rfl (kd_slice rfl) (by decide) ?_
      | refine m_lss rfl rfl (by decide) ?_
      | refine m_nil ?_
    refine sm_cond rfl (fun hc => absurd hc (by simp)) (fun _ => ?_)
    repeat' first
      | refine m_add rfl rfl (by omega) (by decide) ?_
      | refine sm_seq ?_
      | refine sm_block ?_
      | refine sm_skip ?_
      | refine sm_inBlock ?_
      | refine sm_region ?_
      | refine m_move rfl (by decide) ?_
      | refine m_assign rfl (by decide) ?_
      | refine m_len rfl (kd_slice rfl) (by decide) ?_
      | refine m_lss rfl rfl (by decide) ?_
      | refine m_nil ?_
    obtain ⟨v4, l4, r4, rfl, hc4, hL4, hF4, -⟩ := LvF.sub_step hF3
    have ha4 := holds_left hw3
    have hw4 := holds_right hw3
    simp only [List.length_append] at hkb
    repeat' first
      | refine m_indexAddr rfl rfl (kd_slice rfl) (fun w => Lg.run_sizeOf (S.ok _ _ rfl) w) hlt (by decide) ?_
      | refine m_fieldAddr (S := S) rfl rfl rfl rfl rfl (by decide) (by decide) ?_
      | refine m_load (S := S) rfl rfl rfl rfl hc4 (by decide) ?_
      | refine sm_seq ?_
      | refine sm_block ?_
      | refine sm_skip ?_
      | refine sm_inBlock ?_
      | refine sm_region ?_
      | refine m_move rfl (by decide) ?_
      | refine m_assign rfl (by decide) ?_
      | refine m_len rfl (kd_slice rfl) (by decide) ?_
      | refine m_lss rfl rfl (by decide) ?_
      | refine m_nil ?_
    refine m_call heldInt64S_mk.1 rfl rfl (heldInt64S_mk.2 lim _ v4 l4 _ hL4 ha4 (by omega) (by omega)) (by decide) ?_
    rintro _ _ ⟨rfl, rfl⟩
    refine ⟨_, rfl, ?_⟩
    repeat' first
      | refine sm_seq ?_
      | refine sm_block ?_
      | refine sm_skip ?_
      | refine sm_inBlock ?_
      | refine sm_region ?_
      | refine m_move rfl (by decide) ?_
      | refine m_assign rfl (by decide) ?_
      | refine m_len rfl (kd_slice rfl) (by decide) ?_
      | refine m_lss rfl rfl (by decide) ?_
      | refine m_nil ?_
    refine sm_cond rfl (fun hc => absurd (of_decide_eq_true hc) (by omega)) (fun _ => ?_)
    obtain rfl := hF4.nil_step
    repeat' first
      | refine m_add rfl rfl (by omega) (by decide) ?_
      | refine sm_seq ?_
      | refine sm_block ?_
      | refine sm_skip ?_
      | refine sm_inBlock ?_
      | refine sm_region ?_
      | refine m_move rfl (by decide) ?_
      | refine m_assign rfl (by decide) ?_
      | refine m_len rfl (kd_slice rfl) (by decide) ?_
      | refine m_lss rfl rfl (by decide) ?_
      | refine m_nil ?_
    refine sm_loopEnd (hJ _ ?_)
    intro p hp
    simp only [List.mem_cons, List.not_mem_nil, or_false] at hp
    rcases hp with rfl | rfl | rfl
    · rfl
    · exact int_eq (by simp only [List.length_append, List.length_cons, List.length_nil]; omega)
    · rfl
  · have hlt : ¬ i < m := by simpa using hc
    obtain rfl := hend (by omega)
    refine sm_exit rfl ?_
    repeat' first
      | refine sm_seq ?_
      | refine sm_block ?_
      | refine sm_skip ?_
      | refine sm_inBlock ?_
      | refine sm_region ?_
      | refine m_move rfl (by decide) ?_
      | refine m_assign rfl (by decide) ?_
      | refine m_len rfl (kd_slice rfl) (by decide) ?_
      | refine m_lss rfl rfl (by decide) ?_
      | refine m_nil ?_
    exact sm_ret ⟨rfl, rfl⟩
theorem markChain_mk : MKa S.P 28 fsChain := by
  refine ⟨⟨_, Try.func28, by kernel_rfl, rfl⟩, fun lim w vs qs k hl h hW h0 hb => ?_⟩
  simp only [fsChain, Fs.len] at hl
  rcases vs with _ | ⟨v0, _ | ⟨v1, _ | ⟨_, _⟩⟩⟩ <;> simp at hl
  clear hl
  refine calls_of_sm (vals := [Value.agg [v0, v1].toArray, Value.int .i64 k]) (t := 4) Try.func28 rfl (by simp [Try.f28]) rfl (R := fun E' w' => Lg.look E' 4 = some (Value.int .i64 (k + qs.length)) ∧ Marked w qs k w') ?_ (fun E' w' h => ⟨_, h.1, rfl, h.2⟩)
  simp only [Try.ntmps28, enumV]
  repeat' first
    | refine m_box rfl (by decide) ?_
    | refine sm_seq ?_
    | refine sm_block ?_
    | refine sm_skip ?_
    | refine sm_inBlock ?_
    | refine sm_region ?_
    | refine m_move rfl (by decide) ?_
    | refine m_assign rfl (by decide) ?_
    | refine m_len rfl (kd_slice rfl) (by decide) ?_
    | refine m_lss rfl rfl (by decide) ?_
    | refine m_nil ?_
  have hx0 : ∀ q ∈ ([] : List (Nat × Nat)), MkC w q := by simp
  have hM0 : Marked w [] k (w.alloc (.cells [v0, v1].toArray 50)) := Marked.of_grown (Grown.alloc w _ _) k
  have hB0 : ∀ (j : Nat) u, [v0, v1][j]? = some u → cellAt (w.alloc (.cells [v0, v1].toArray 50)) w.heap.size j = some u := fun j u hj => by rw [cellAt_alloc]; simpa using hj
  have hA0 := h
  have hw0 := hW
  unfold fsChain at hA0
  obtain ⟨l1, r1, rfl, hL1, hA1⟩ := LvA.sub_step hA0
  simp only [List.length_append] at hb
  have hi1 : ∀ q ∈ l1, MkC w q := fun q hq => (Lv.ints _ _ _ hL1 q hq).2
  repeat' first
    | refine m_fieldAddr (S := S) rfl rfl rfl rfl rfl (by decide) (by decide) ?_
    | refine m_load (S := S) rfl rfl rfl rfl (hB0 0 _ rfl) (by decide) ?_
    | refine sm_seq ?_
    | refine sm_block ?_
    | refine sm_skip ?_
    | refine sm_inBlock ?_
    | refine sm_region ?_
    | refine m_move rfl (by decide) ?_
    | refine m_assign rfl (by decide) ?_
    | refine m_len rfl (kd_slice rfl) (by decide) ?_
    | refine m_lss rfl rfl (by decide) ?_
    | refine m_nil ?_
  have ha1 := fun q hq => hw0 q (List.mem_append_left _ hq)
  have hw1 := fun q hq => hw0 q (List.mem_append_right _ hq)
  have hI1 := hM0.intW lim hx0
  refine m_call markInt64S_mk.1 rfl rfl (markInt64S_mk.2 lim _ v0 l1 _ (Lv.mono hI1 _ _ _ hL1) (fun q hq => hM0.Wr (ha1 q hq)) (by omega) (by omega)) (by decide) ?_
  rintro _ w1 ⟨rfl, hm1'⟩
  refine ⟨_, rfl, ?_⟩
  have hm1 := Marked.of_wrs (k) (fun q (hq : q ∈ l1) => hM0.Wr (ha1 q hq)) (fun q hq => (Lv.ints _ _ _ (Lv.mono hI1 _ _ _ hL1) q hq).2)
  rw [← hm1'] at hm1
  have hB1 := box_stands hB0 hm1 ha1
  have hM1 := hM0.append (l2 := l1) (w'' := w1) (by simpa only [List.nil_append, List.length_append, List.length_nil, Int.natCast_add, Int.natCast_zero, Int.zero_add, Int.add_zero, Int.add_assoc] using hm1)
  have hx1 := fun q (hq : q ∈ _ ++ l1) => (List.mem_append.1 hq).elim (hx0 q) (hi1 q)
  repeat' first
    | refine sm_seq ?_
    | refine sm_block ?_
    | refine sm_skip ?_
    | refine sm_inBlock ?_
    | refine sm_region ?_
    | refine m_move rfl (by decide) ?_
    | refine m_assign rfl (by decide) ?_
    | refine m_len rfl (kd_slice rfl) (by decide) ?_
    | refine m_lss rfl rfl (by decide) ?_
    | refine m_nil ?_
  obtain ⟨l2, r2, rfl, hL2, hA2⟩ := LvA.sub_step hA1
  simp only [List.length_append] at hb
  have hi2 : ∀ q ∈ l2, MkC w q := fun q hq => (Lv.ints _ _ _ hL2 q hq).2
  repeat' first
    | refine m_fieldAddr (S := S) rfl rfl rfl rfl rfl (by decide) (by decide) ?_
    | refine m_load (S := S) rfl rfl rfl rfl (hB1 1 _ rfl) (by decide) ?_
    | refine sm_seq ?_
    | refine sm_block ?_
    | refine sm_skip ?_
    | refine sm_inBlock ?_
    | refine sm_region ?_
    | refine m_move rfl (by decide) ?_
    | refine m_assign rfl (by decide) ?_
    | refine m_len rfl (kd_slice rfl) (by decide) ?_
    | refine m_lss rfl rfl (by decide) ?_
    | refine m_nil ?_
  have ha2 := fun q hq => hw1 q (List.mem_append_left _ hq)
  have hw2 := fun q hq => hw1 q (List.mem_append_right _ hq)
  have hI2 := hM1.intW lim hx1
  refine m_call markMoveS_mk.1 rfl rfl (markMoveS_mk.2 lim _ v1 l2 _ (Lv.mono hI2 _ _ _ hL2) (fun q hq => hM1.Wr (ha2 q hq)) (by omega) (by omega)) (by decide) ?_
  rintro _ w2 ⟨rfl, hm2'⟩
  refine ⟨_, rfl, ?_⟩
  have hm2 := Marked.of_wrs (k + (l1.length : Int)) (fun q (hq : q ∈ l2) => hM1.Wr (ha2 q hq)) (fun q hq => (Lv.ints _ _ _ (Lv.mono hI2 _ _ _ hL2) q hq).2)
  rw [← hm2'] at hm2
  have hB2 := box_stands hB1 hm2 ha2
  have hM2 := hM1.append (l2 := l2) (w'' := w2) (by simpa only [List.nil_append, List.length_append, List.length_nil, Int.natCast_add, Int.natCast_zero, Int.zero_add, Int.add_zero, Int.add_assoc] using hm2)
  have hx2 := fun q (hq : q ∈ _ ++ l2) => (List.mem_append.1 hq).elim (hx1 q) (hi2 q)
  repeat' first
    | refine sm_seq ?_
    | refine sm_block ?_
    | refine sm_skip ?_
    | refine sm_inBlock ?_
    | refine sm_region ?_
    | refine m_move rfl (by decide) ?_
    | refine m_assign rfl (by decide) ?_
    | refine m_len rfl (kd_slice rfl) (by decide) ?_
    | refine m_lss rfl rfl (by decide) ?_
    | refine m_nil ?_
  obtain rfl := hA2.nil_step
  repeat' first
    | refine sm_seq ?_
    | refine sm_block ?_
    | refine sm_skip ?_
    | refine sm_inBlock ?_
    | refine sm_region ?_
    | refine m_move rfl (by decide) ?_
    | refine m_assign rfl (by decide) ?_
    | refine m_len rfl (kd_slice rfl) (by decide) ?_
    | refine m_lss rfl rfl (by decide) ?_
    | refine m_nil ?_
  refine sm_ret ⟨?_, ?_⟩
  · exact int_eq (by simp only [List.length_append, List.length_nil]; omega)
  · simpa only [List.nil_append, List.append_nil, List.append_assoc] using hM2
theorem heldChain_mk : HDa S.P 29 fsChain := by
  refine ⟨⟨_, Try.func29, by kernel_rfl, rfl⟩, fun lim w vs qs k hl h hW h0 hb => ?_⟩
  simp only [fsChain, Fs.len] at hl
  rcases vs with _ | ⟨v0, _ | ⟨v1, _ | ⟨_, _⟩⟩⟩ <;> simp at hl
  clear hl
  refine calls_of_sm (vals := [Value.agg [v0, v1].toArray, Value.int .i64 k]) (t := 4) Try.func29 rfl (by simp [Try.f29]) rfl (R := fun E' w' => Lg.look E' 4 = some (Value.int .i64 (k + qs.length)) ∧ Grown w w') ?_ (fun E' w' h => ⟨_, h.1, rfl, h.2⟩)
  simp only [Try.ntmps29, enumV]
  repeat' first
    | refine m_box rfl (by decide) ?_
    | refine sm_seq ?_
    | refine sm_block ?_
    | refine sm_skip ?_
    | refine sm_inBlock ?_
    | refine sm_region ?_
    | refine m_move rfl (by decide) ?_
    | refine m_assign rfl (by decide) ?_
    | refine m_len rfl (kd_slice rfl) (by decide) ?_
    | refine m_lss rfl rfl (by decide) ?_
    | refine m_nil ?_
  have hM0 := Grown.alloc w [v0, v1].toArray 50
  have hB0 : ∀ (j : Nat) u, [v0, v1][j]? = some u → cellAt (w.alloc (.cells [v0, v1].toArray 50)) w.heap.size j = some u := fun j u hj => by rw [cellAt_alloc]; simpa using hj
  have hA0 := h
  have hw0 := hW
  unfold fsChain at hA0
  obtain ⟨l1, r1, rfl, hL1, hA1⟩ := LvA.sub_step hA0
  simp only [List.length_append] at hb
  have hi1 : ∀ q ∈ l1, MkC w q := fun q hq => (Lv.ints _ _ _ hL1 q hq).2
  repeat' first
    | refine m_fieldAddr (S := S) rfl rfl rfl rfl rfl (by decide) (by decide) ?_
    | refine m_load (S := S) rfl rfl rfl rfl (hB0 0 _ rfl) (by decide) ?_
    | refine sm_seq ?_
    | refine sm_block ?_
    | refine sm_skip ?_
    | refine sm_inBlock ?_
    | refine sm_region ?_
    | refine m_move rfl (by decide) ?_
    | refine m_assign rfl (by decide) ?_
    | refine m_len rfl (kd_slice rfl) (by decide) ?_
    | refine m_lss rfl rfl (by decide) ?_
    | refine m_nil ?_
  have ha1 := holds_left hw0
  have hw1 := holds_right hw0
  refine m_call heldInt64S_mk.1 rfl rfl (heldInt64S_mk.2 lim _ v0 l1 _ (Lv.mono (hM0.intW lim) _ _ _ hL1) (fun j q hq => HvC.grown hM0 (ha1 j q hq)) (by omega) (by omega)) (by decide) ?_
  rintro _ w1 ⟨rfl, hm1'⟩
  have hm1 := Grown.of_eq hm1'
  refine ⟨_, rfl, ?_⟩
  have hB1 := fun j u hj => hm1.cellAt (hB0 j u hj)
  have hM1 := hM0.trans hm1
  repeat' first
    | refine sm_seq ?_
    | refine sm_block ?_
    | refine sm_skip ?_
    | refine sm_inBlock ?_
    | refine sm_region ?_
    | refine m_move rfl (by decide) ?_
    | refine m_assign rfl (by decide) ?_
    | refine m_len rfl (kd_slice rfl) (by decide) ?_
    | refine m_lss rfl rfl (by decide) ?_
    | refine m_nil ?_
  refine sm_cond rfl (fun hc => absurd (of_decide_eq_true hc) (by omega)) (fun _ => ?_)
  obtain ⟨l2, r2, rfl, hL2, hA2⟩ := LvA.sub_step hA1
  simp only [List.length_append] at hb
  have hi2 : ∀ q ∈ l2, MkC w q := fun q hq => (Lv.ints _ _ _ hL2 q hq).2
  repeat' first
    | refine m_fieldAddr (S := S) rfl rfl rfl rfl rfl (by decide) (by decide) ?_
    | refine m_load (S := S) rfl rfl rfl rfl (hB1 1 _ rfl) (by decide) ?_
    | refine sm_seq ?_
    | refine sm_block ?_
    | refine sm_skip ?_
    | refine sm_inBlock ?_
    | refine sm_region ?_
    | refine m_move rfl (by decide) ?_
    | refine m_assign rfl (by decide) ?_
    | refine m_len rfl (kd_slice rfl) (by decide) ?_
    | refine m_lss rfl rfl (by decide) ?_
    | refine m_nil ?_
  have ha2 := holds_left hw1
  have hw2 := holds_right hw1
  refine m_call heldMoveS_mk.1 rfl rfl (heldMoveS_mk.2 lim _ v1 l2 _ (Lv.mono (hM1.intW lim) _ _ _ hL2) (fun j q hq => HvC.grown hM1 (ha2 j q hq)) (by omega) (by omega)) (by decide) ?_
  rintro _ w2 ⟨rfl, hm2'⟩
  have hm2 := Grown.of_eq hm2'
  refine ⟨_, rfl, ?_⟩
  have hB2 := fun j u hj => hm2.cellAt (hB1 j u hj)
  have hM2 := hM1.trans hm2
  repeat' first
    | refine sm_seq ?_
    | refine sm_block ?_
    | refine sm_skip ?_
    | refine sm_inBlock ?_
    | refine sm_region ?_
    | refine m_move rfl (by decide) ?_
    | refine m_assign rfl (by decide) ?_
    | refine m_len rfl (kd_slice rfl) (by decide) ?_
    | refine m_lss rfl rfl (by decide) ?_
    | refine m_nil ?_
  refine sm_cond rfl (fun hc => absurd (of_decide_eq_true hc) (by omega)) (fun _ => ?_)
  obtain rfl := hA2.nil_step
  repeat' first
    | refine sm_seq ?_
    | refine sm_block ?_
    | refine sm_skip ?_
    | refine sm_inBlock ?_
    | refine sm_region ?_
    | refine m_move rfl (by decide) ?_
    | refine m_assign rfl (by decide) ?_
    | refine m_len rfl (kd_slice rfl) (by decide) ?_
    | refine m_lss rfl rfl (by decide) ?_
    | refine m_nil ?_
  refine sm_ret ⟨?_, ?_⟩
  · exact int_eq (by simp only [List.length_append, List.length_nil]; omega)
  · exact hM2
end Go.Proofs.Ytlcdahaihlflaaa
