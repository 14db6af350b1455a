/-
  What the marking and the checking functions do. Made by M.gen.
-/
import Derived.Test.YtldlochhiiogbaaSet
import Derived.Test.YtldlochhiiogbaaLTy
namespace Go.Proofs.Ytldlochhiiogbaa
open Go Go.Lg
set_option linter.unusedSimpArgs false
set_option linter.unusedVariables false
set_option maxHeartbeats 4000000
set_option maxRecDepth 20000
attribute [local irreducible] OpsM SM
theorem markInt64S_mk : MKs S.P 33 shInt64S := by
  refine ⟨⟨_, Try.func33, by kernel_rfl, rfl⟩, fun lim w v qs k h hW h0 hb => ?_⟩
  refine calls_of_sm (vals := [v, Value.int .i64 k]) (t := 4) Try.func33 rfl (by simp [Try.f33]) rfl (R := fun E' w' => Lg.look E' 4 = some (Value.int .i64 (k + qs.length)) ∧ w' = wrs w qs k) ?_ (fun E' w' h => ⟨_, h.1, rfl, h.2⟩)
  simp only [Try.ntmps33, enumV]
  repeat' first
    | refine sm_seq ?_
    | refine sm_block ?_
    | refine sm_skip ?_
    | refine sm_inBlock ?_
    | refine sm_region ?_
    | refine m_move rfl (by decide) ?_
    | refine m_assign rfl (by decide) ?_
    | refine m_len rfl (kd_slice rfl) (by decide) ?_
    | refine m_lss rfl rfl (by decide) ?_
    | refine m_nil ?_
  refine sm_mark_loop h hW h0 hb (by intro p hp; simp only [List.mem_cons, List.not_mem_nil, or_false] at hp; rcases hp with rfl | rfl | rfl <;> rfl) fun A m cp hv hm i k' wi J hk0 hkm hi hx hend => ?_
  subst hv
  simp only [maxLen] at hm
  repeat' first
    | refine sm_seq ?_
    | refine sm_block ?_
    | refine sm_skip ?_
    | refine sm_inBlock ?_
    | refine sm_region ?_
    | refine m_move rfl (by decide) ?_
    | refine m_assign rfl (by decide) ?_
    | refine m_len rfl (kd_slice rfl) (by decide) ?_
    | refine m_lss rfl rfl (by decide) ?_
    | refine m_nil ?_
  refine sm_cond rfl (fun hc => ?_) (fun hc => ?_)
  · have hlt : i < m := by simpa using hc
    obtain ⟨b, o, l, rfl, hF0, hw0, hkb, hJ⟩ := hx hlt
    have hk0' := hk0
    obtain ⟨r1, m1, rfl, hm1, -, hn1⟩ := LvF.cell_step hF0
    have ha1 := hw0 _ List.mem_cons_self
    have hb1 := fun q hq => hw0 q (List.mem_cons_of_mem _ hq)
    simp only [List.length_cons] at hkb
    repeat' first
      | refine m_indexAddr rfl rfl (kd_slice rfl) (fun w => Lg.run_sizeOf (S.ok _ _ rfl) w) hlt (by decide) ?_
      | refine m_fieldAddr (S := S) rfl rfl rfl rfl rfl (by decide) (by decide) ?_
      | refine m_store (S := S) rfl rfl rfl rfl rfl ha1 hm1 ?_
      | refine m_add rfl rfl (by omega) (by decide) ?_
      | refine sm_seq ?_
      | refine sm_block ?_
      | refine sm_skip ?_
      | refine sm_inBlock ?_
      | refine sm_region ?_
      | refine m_move rfl (by decide) ?_
      | refine m_assign rfl (by decide) ?_
      | refine m_len rfl (kd_slice rfl) (by decide) ?_
      | refine m_lss rfl rfl (by decide) ?_
      | refine m_nil ?_
    obtain ⟨hF1, hw1⟩ := hn1 (k') ha1 hb1
    obtain rfl := hF1.nil_step
    repeat' first
      | refine m_add rfl rfl (by omega) (by decide) ?_
      | refine sm_seq ?_
      | refine sm_block ?_
      | refine sm_skip ?_
      | refine sm_inBlock ?_
      | refine sm_region ?_
      | refine m_move rfl (by decide) ?_
      | refine m_assign rfl (by decide) ?_
      | refine m_len rfl (kd_slice rfl) (by decide) ?_
      | refine m_lss rfl rfl (by decide) ?_
      | refine m_nil ?_
    refine sm_loopEnd (Eq.mp (congrArg (J _) ?_) (hJ _ ?_))
    · first | rfl | (simp only [wrs_append, wrs, List.append_nil]; done) | (simp only [wrs_append, wrs, List.append_nil]; rfl)
    intro p hp
    simp only [List.mem_cons, List.not_mem_nil, or_false] at hp
    rcases hp with rfl | rfl | rfl
    · rfl
    · exact int_eq (by simp only [List.length_append, List.length_cons, List.length_nil]; omega)
    · rfl
  · have hlt : ¬ i < m := by simpa using hc
    obtain ⟨rfl, rfl⟩ := hend (by omega)
    refine sm_exit rfl ?_
    repeat' first
      | refine sm_seq ?_
      | refine sm_block ?_
      | refine sm_skip ?_
      | refine sm_inBlock ?_
      | refine sm_region ?_
      | refine m_move rfl (by decide) ?_
      | refine m_assign rfl (by decide) ?_
      | refine m_len rfl (kd_slice rfl) (by decide) ?_
      | refine m_lss rfl rfl (by decide) ?_
      | refine m_nil ?_
    exact sm_ret ⟨rfl, rfl⟩
theorem heldInt64S_mk : HDs S.P 34 shInt64S := by
  refine ⟨⟨_, Try.func34, by kernel_rfl, rfl⟩, fun lim w v qs k h hW h0 hb => ?_⟩
  refine calls_of_sm (vals := [v, Value.int .i64 k]) (t := 4) Try.func34 rfl (by simp [Try.f34]) rfl (R := fun E' w' => Lg.look E' 4 = some (Value.int .i64 (k + qs.length)) ∧ w' = w) ?_ (fun E' w' h => ⟨_, h.1, rfl, h.2⟩)
  simp only [Try.ntmps34, enumV]
  repeat' first
    | refine sm_seq ?_
    | refine sm_block ?_
    | refine sm_skip ?_
    | refine sm_inBlock ?_
    | refine sm_region ?_
    | refine m_move rfl (by decide) ?_
    | refine m_assign rfl (by decide) ?_
    | refine m_len rfl (kd_slice rfl) (by decide) ?_
    | refine m_lss rfl rfl (by decide) ?_
    | refine m_nil ?_
  refine sm_held_loop h hW h0 hb (by intro p hp; simp only [List.mem_cons, List.not_mem_nil, or_false] at hp; rcases hp with rfl | rfl | rfl <;> rfl) fun A m cp hv hm i k' J hk0 hkm hi hx hend => ?_
  subst hv
  simp only [maxLen] at hm
  repeat' first
    | refine sm_seq ?_
    | refine sm_block ?_
    | refine sm_skip ?_
    | refine sm_inBlock ?_
    | refine sm_region ?_
    | refine m_move rfl (by decide) ?_
    | refine m_assign rfl (by decide) ?_
    | refine m_len rfl (kd_slice rfl) (by decide) ?_
    | refine m_lss rfl rfl (by decide) ?_
    | refine m_nil ?_
  refine sm_cond rfl (fun hc => ?_) (fun hc => ?_)
  · have hlt : i < m := by simpa using hc
    obtain ⟨b, o, l, rfl, hF0, hw0, hkb, hJ⟩ := hx hlt
    obtain ⟨r1, m1, rfl, hm1, hF1, -⟩ := LvF.cell_step hF0
    have ha1 := (holds_head hw0).int hm1
    have hw1 := holds_tail hw0
    simp only [List.length_cons] at hkb
    repeat' first
      | refine m_indexAddr rfl rfl (kd_slice rfl) (fun w => Lg.run_sizeOf (S.ok _ _ rfl) w) hlt (by decide) ?_
      | refine m_fieldAddr (S := S) rfl rfl rfl rfl rfl (by decide) (by decide) ?_
      | refine m_load (S := S) rfl rfl rfl rfl ha1 (by decide) ?_
      | refine m_neq rfl rfl (by decide) ?_
      | refine sm_seq ?_
      | refine sm_block ?_
      | refine sm_skip ?_
      | refine sm_inBlock ?_
      | refine sm_region ?_
      | refine m_move rfl (by decide) ?_
      | refine m_assign rfl (by decide) ?_
      | refine m_len rfl (kd_slice rfl) (by decide) ?_
      | refine m_lss rfl rfl (by decide) ?_
      | refine m_nil ?_
    refine sm_cond rfl (fun hc => absurd hc (by simp)) (fun _ => ?_)
    repeat' first
      | refine m_add rfl rfl (by omega) (by decide) ?_
      | refine sm_seq ?_
      | refine sm_block ?_
      | refine sm_skip ?_
      | refine sm_inBlock ?_
      | refine sm_region ?_
      | refine m_move rfl (by decide) ?_
      | refine m_assign rfl (by decide) ?_
      | refine m_len rfl (kd_slice rfl) (by decide) ?_
      | refine m_lss rfl rfl (by decide) ?_
      | refine m_nil ?_
    obtain rfl := hF1.nil_step
    repeat' first
      | refine m_add rfl rfl (by omega) (by decide) ?_
      | refine sm_seq ?_
      | refine sm_block ?_
      | refine sm_skip ?_
      | refine sm_inBlock ?_
      | refine sm_region ?_
      | refine m_move rfl (by decide) ?_
      | refine m_assign rfl (by decide) ?_
      | refine m_len rfl (kd_slice rfl) (by decide) ?_
      | refine m_lss rfl rfl (by decide) ?_
      | refine m_nil ?_
    refine sm_loopEnd (hJ _ ?_)
    intro p hp
    simp only [List.mem_cons, List.not_mem_nil, or_false] at hp
    rcases hp with rfl | rfl | rfl
    · rfl
    · exact int_eq (by simp only [List.length_append, List.length_cons, List.length_nil]; omega)
    · rfl
  · have hlt : ¬ i < m := by simpa using hc
    obtain rfl := hend (by omega)
    refine sm_exit rfl ?_
    repeat' first
      | refine sm_seq ?_
      | refine sm_block ?_
      | refine sm_skip ?_
      | refine sm_inBlock ?_
      | refine sm_region ?_
      | refine m_move rfl (by decide) ?_
      | refine m_assign rfl (by decide) ?_
      | refine m_len rfl (kd_slice rfl) (by decide) ?_
      | refine m_lss rfl rfl (by decide) ?_
      | refine m_nil ?_
    exact sm_ret ⟨rfl, rfl⟩
theorem markInt64SS_mk : MKs S.P 12 shInt64SS := by
  refine ⟨⟨_, Try.func12, by kernel_rfl, rfl⟩, fun lim w v qs k h hW h0 hb => ?_⟩
  refine calls_of_sm (vals := [v, Value.int .i64 k]) (t := 4) Try.func12 rfl (by simp [Try.f12]) rfl (R := fun E' w' => Lg.look E' 4 = some (Value.int .i64 (k + qs.length)) ∧ w' = wrs w qs k) ?_ (fun E' w' h => ⟨_, h.1, rfl, h.2⟩)
  simp only [Try.ntmps12, enumV]
  repeat' first
    | refine sm_seq ?_
    | refine sm_block ?_
    | refine sm_skip ?_
    | refine sm_inBlock ?_
    | refine sm_region ?_
    | refine m_move rfl (by decide) ?_
    | refine m_assign rfl (by decide) ?_
    | refine m_len rfl (kd_slice rfl) (by decide) ?_
    | refine m_lss rfl rfl (by decide) ?_
    | refine m_nil ?_
  refine sm_mark_loop h hW h0 hb (by intro p hp; simp only [List.mem_cons, List.not_mem_nil, or_false] at hp; rcases hp with rfl | rfl | rfl <;> rfl) fun A m cp hv hm i k' wi J hk0 hkm hi hx hend => ?_
  subst hv
  simp only [maxLen] at hm
  repeat' first
    | refine sm_seq ?_
    | refine sm_block ?_
    | refine sm_skip ?_
    | refine sm_inBlock ?_
    | refine sm_region ?_
    | refine m_move rfl (by decide) ?_
    | refine m_assign rfl (by decide) ?_
    | refine m_len rfl (kd_slice rfl) (by decide) ?_
    | refine m_lss rfl rfl (by decide) ?_
    | refine m_nil ?_
  refine sm_cond rfl (fun hc => ?_) (fun hc => ?_)
  · have hlt : i < m := by simpa using hc
    obtain ⟨b, o, l, rfl, hF0, hw0, hkb, hJ⟩ := hx hlt
    have hk0' := hk0
    obtain ⟨v1, l1, r1, rfl, hc1, hL1, -, hn1⟩ := LvF.sub_step hF0
    have ha1 := fun q hq => hw0 q (List.mem_append_left _ hq)
    have hb1 := fun q hq => hw0 q (List.mem_append_right _ hq)
    simp only [List.length_append] at hkb
    repeat' first
      | refine m_indexAddr rfl rfl (kd_slice rfl) (fun w => Lg.run_sizeOf (S.ok _ _ rfl) w) hlt (by decide) ?_
      | refine m_fieldAddr (S := S) rfl rfl rfl rfl rfl (by decide) (by decide) ?_
      | refine m_load (S := S) rfl rfl rfl rfl hc1 (by decide) ?_
      | refine sm_seq ?_
      | refine sm_block ?_
      | refine sm_skip ?_
      | refine sm_inBlock ?_
      | refine sm_region ?_
      | refine m_move rfl (by decide) ?_
      | refine m_assign rfl (by decide) ?_
      | refine m_len rfl (kd_slice rfl) (by decide) ?_
      | refine m_lss rfl rfl (by decide) ?_
      | refine m_nil ?_
    refine m_call markInt64S_mk.1 rfl rfl (markInt64S_mk.2 lim _ v1 l1 _ hL1 ha1 (by omega) (by omega)) (by decide) ?_
    rintro _ _ ⟨rfl, rfl⟩
    refine ⟨_, rfl, ?_⟩
    obtain ⟨hF1, hw1⟩ := hn1 (k') ha1 hb1
    obtain rfl := hF1.nil_step
    repeat' first
      | refine m_add rfl rfl (by omega) (by decide) ?_
      | refine sm_seq ?_
      | refine sm_block ?_
      | refine sm_skip ?_
      | refine sm_inBlock ?_
      | refine sm_region ?_
      | refine m_move rfl (by decide) ?_
      | refine m_assign rfl (by decide) ?_
      | refine m_len rfl (kd_slice rfl) (by decide) ?_
      | refine m_lss rfl rfl (by decide) ?_
      | refine m_nil ?_
    refine sm_loopEnd (Eq.mp (congrArg (J _) ?_) (hJ _ ?_))
    · first | rfl | (simp only [wrs_append, wrs, List.append_nil]; done) | (simp only [wrs_append, wrs, List.append_nil]; rfl)
    intro p hp
    simp only [List.mem_cons, List.not_mem_nil, or_false] at hp
    rcases hp with rfl | rfl | rfl
    · rfl
    · exact int_eq (by simp only [List.length_append, List.length_cons, List.length_nil]; omega)
    · rfl
  · have hlt : ¬ i < m := by simpa using hc
    obtain ⟨rfl, rfl⟩ := hend (by omega)
    refine sm_exit rfl ?_
    repeat' first
      | refine sm_seq ?_
      | refine sm_block ?_
      | refine sm_skip ?_
      | refine sm_inBlock ?_
      | refine sm_region ?_
      | refine m_move rfl (by decide) ?_
      | refine m_assign rfl (by decide) ?_
      | refine m_len rfl (kd_slice rfl) (by decide) ?_
      | refine m_lss rfl rfl (by decide) ?_
      | refine m_nil ?_
    exact sm_ret ⟨rfl, rfl⟩
theorem heldInt64SS_mk : HDs S.P 13 shInt64SS := by
  refine ⟨⟨_, Try.func13, by kernel_rfl, rfl⟩, fun lim w v qs k h hW h0 hb => ?_⟩
  refine calls_of_sm (vals := [v, Value.int .i64 k]) (t := 4) Try.func13 rfl (by simp [Try.f13]) rfl (R := fun E' w' => Lg.look E' 4 = some (Value.int .i64 (k + qs.length)) ∧ w' = w) ?_ (fun E' w' h => ⟨_, h.1, rfl, h.2⟩)
  simp only [Try.ntmps13, enumV]
  repeat' first
    | refine sm_seq ?_
    | refine sm_block ?_
    | refine sm_skip ?_
    | refine sm_inBlock ?_
    | refine sm_region ?_
    | refine m_move rfl (by decide) ?_
    | refine m_assign rfl (by decide) ?_
    | refine m_len rfl (kd_slice rfl) (by decide) ?_
    | refine m_lss rfl rfl (by decide) ?_
    | refine m_nil ?_
  refine sm_held_loop h hW h0 hb (by intro p hp; simp only [List.mem_cons, List.not_mem_nil, or_false] at hp; rcases hp with rfl | rfl | rfl <;> rfl) fun A m cp hv hm i k' J hk0 hkm hi hx hend => ?_
  subst hv
  simp only [maxLen] at hm
  repeat' first
    | refine sm_seq ?_
    | refine sm_block ?_
    | refine sm_skip ?_
    | refine sm_inBlock ?_
    | refine sm_region ?_
    | refine m_move rfl (by decide) ?_
    | refine m_assign rfl (by decide) ?_
    | refine m_len rfl (kd_slice rfl) (by decide) ?_
    | refine m_lss rfl rfl (by decide) ?_
    | refine m_nil ?_
  refine sm_cond rfl (fun hc => ?_) (fun hc => ?_)
  · have hlt : i < m := by simpa using hc
    obtain ⟨b, o, l, rfl, hF0, hw0, hkb, hJ⟩ := hx hlt
    obtain ⟨v1, l1, r1, rfl, hc1, hL1, hF1, -⟩ := LvF.sub_step hF0
    have ha1 := holds_left hw0
    have hw1 := holds_right hw0
    simp only [List.length_append] at hkb
    repeat' first
      | refine m_indexAddr rfl rfl (kd_slice rfl) (fun w => Lg.run_sizeOf (S.ok _ _ rfl) w) hlt (by decide) ?_
      | refine m_fieldAddr (S := S) rfl rfl rfl rfl rfl (by decide) (by decide) ?_
      | refine m_load (S := S) rfl rfl rfl rfl hc1 (by decide) ?_
      | refine sm_seq ?_
      | refine sm_block ?_
      | refine sm_skip ?_
      | refine sm_inBlock ?_
      | refine sm_region ?_
      | refine m_move rfl (by decide) ?_
      | refine m_assign rfl (by decide) ?_
      | refine m_len rfl (kd_slice rfl) (by decide) ?_
      | refine m_lss rfl rfl (by decide) ?_
      | refine m_nil ?_
    refine m_call heldInt64S_mk.1 rfl rfl (heldInt64S_mk.2 lim _ v1 l1 _ hL1 ha1 (by omega) (by omega)) (by decide) ?_
    rintro _ _ ⟨rfl, rfl⟩
    refine ⟨_, rfl, ?_⟩
    repeat' first
      | refine sm_seq ?_
      | refine sm_block ?_
      | refine sm_skip ?_
      | refine sm_inBlock ?_
      | refine sm_region ?_
      | refine m_move rfl (by decide) ?_
      | refine m_assign rfl (by decide) ?_
      | refine m_len rfl (kd_slice rfl) (by decide) ?_
      | refine m_lss rfl rfl (by decide) ?_
      | refine m_nil ?_
    refine sm_cond rfl (fun hc => absurd (of_decide_eq_true hc) (by omega)) (fun _ => ?_)
    obtain rfl := hF1.nil_step
    repeat' first
      | refine m_add rfl rfl (by omega) (by decide) ?_
      | refine sm_seq ?_
      | refine sm_block ?_
      | refine sm_skip ?_
      | refine sm_inBlock ?_
      | refine sm_region ?_
      | refine m_move rfl (by decide) ?_
      | refine m_assign rfl (by decide) ?_
      | refine m_len rfl (kd_slice rfl) (by decide) ?_
      | refine m_lss rfl rfl (by decide) ?_
      | refine m_nil ?_
    refine sm_loopEnd (hJ _ ?_)
    intro p hp
    simp only [List.mem_cons, List.not_mem_nil, or_false] at hp
    rcases hp with rfl | rfl | rfl
    · rfl
    · exact int_eq (by simp only [List.length_append, List.length_cons, List.length_nil]; omega)
    · rfl
  · have hlt : ¬ i < m := by simpa using hc
    obtain rfl := hend (by omega)
    refine sm_exit rfl ?_
    repeat' first
      | refine sm_seq ?_
      | refine sm_block ?_
      | refine sm_skip ?_
      | refine sm_inBlock ?_
      | refine sm_region ?_
      | refine m_move rfl (by decide) ?_
      | refine m_assign rfl (by decide) ?_
      | refine m_len rfl (kd_slice rfl) (by decide) ?_
      | refine m_lss rfl rfl (by decide) ?_
      | refine m_nil ?_
    exact sm_ret ⟨rfl, rfl⟩
theorem markSig_mk : MKa S.P 11 fsSig := by
  refine ⟨⟨_, Try.func11, by kernel_rfl, rfl⟩, fun lim w vs qs k hl h hW h0 hb => ?_⟩
  simp only [fsSig, Fs.len] at hl
  rcases vs with _ | ⟨v0, _ | ⟨_, _⟩⟩ <;> simp at hl
  clear hl
  refine calls_of_sm (vals := [Value.agg [v0].toArray, Value.int .i64 k]) (t := 4) Try.func11 rfl (by simp [Try.f11]) rfl (R := fun E' w' => Lg.look E' 4 = some (Value.int .i64 (k + qs.length)) ∧ Marked w qs k w') ?_ (fun E' w' h => ⟨_, h.1, rfl, h.2⟩)
  simp only [Try.ntmps11, enumV]
  repeat' first
    | refine m_box rfl (by decide) ?_
    | refine sm_seq ?_
    | refine sm_block ?_
    | refine sm_skip ?_
    | refine sm_inBlock ?_
    | refine sm_region ?_
    | refine m_move rfl (by decide) ?_
    | refine m_assign rfl (by decide) ?_
    | refine m_len rfl (kd_slice rfl) (by decide) ?_
    | refine m_lss rfl rfl (by decide) ?_
    | refine m_nil ?_
  have hx0 : ∀ q ∈ ([] : List (Nat × Nat)), MkC w q := by simp
  have hM0 : Marked w [] k (w.alloc (.cells [v0].toArray 29)) := Marked.of_grown (Grown.alloc w _ _) k
  have hB0 : ∀ (j : Nat) u, [v0][j]? = some u → cellAt (w.alloc (.cells [v0].toArray 29)) w.heap.size j = some u := fun j u hj => by rw [cellAt_alloc]; simpa using hj
  have hA0 := h
  have hw0 := hW
  unfold fsSig at hA0
  obtain ⟨l1, r1, rfl, hL1, hA1⟩ := LvA.sub_step hA0
  simp only [List.length_append] at hb
  have hi1 : ∀ q ∈ l1, MkC w q := fun q hq => (Lv.ints _ _ _ hL1 q hq).2
  repeat' first
    | refine m_fieldAddr (S := S) rfl rfl rfl rfl rfl (by decide) (by decide) ?_
    | refine m_load (S := S) rfl rfl rfl rfl (hB0 0 _ rfl) (by decide) ?_
    | refine sm_seq ?_
    | refine sm_block ?_
    | refine sm_skip ?_
    | refine sm_inBlock ?_
    | refine sm_region ?_
    | refine m_move rfl (by decide) ?_
    | refine m_assign rfl (by decide) ?_
    | refine m_len rfl (kd_slice rfl) (by decide) ?_
    | refine m_lss rfl rfl (by decide) ?_
    | refine m_nil ?_
  have ha1 := fun q hq => hw0 q (List.mem_append_left _ hq)
  have hw1 := fun q hq => hw0 q (List.mem_append_right _ hq)
  have hI1 := hM0.intW lim hx0
  refine m_call markInt64S_mk.1 rfl rfl (markInt64S_mk.2 lim _ v0 l1 _ (Lv.mono hI1 _ _ _ hL1) (fun q hq => hM0.Wr (ha1 q hq)) (by omega) (by omega)) (by decide) ?_
  rintro _ w1 ⟨rfl, hm1'⟩
  refine ⟨_, rfl, ?_⟩
  have hm1 := Marked.of_wrs (k) (fun q (hq : q ∈ l1) => hM0.Wr (ha1 q hq)) (fun q hq => (Lv.ints _ _ _ (Lv.mono hI1 _ _ _ hL1) q hq).2)
  rw [← hm1'] at hm1
  have hB1 := box_stands hB0 hm1 ha1
  have hM1 := hM0.append (l2 := l1) (w'' := w1) (by simpa only [List.nil_append, List.length_append, List.length_nil, Int.natCast_add, Int.natCast_zero, Int.zero_add, Int.add_zero, Int.add_assoc] using hm1)
  have hx1 := fun q (hq : q ∈ _ ++ l1) => (List.mem_append.1 hq).elim (hx0 q) (hi1 q)
  repeat' first
    | refine sm_seq ?_
    | refine sm_block ?_
    | refine sm_skip ?_
    | refine sm_inBlock ?_
    | refine sm_region ?_
    | refine m_move rfl (by decide) ?_
    | refine m_assign rfl (by decide) ?_
    | refine m_len rfl (kd_slice rfl) (by decide) ?_
    | refine m_lss rfl rfl (by decide) ?_
    | refine m_nil ?_
  obtain rfl := hA1.nil_step
  repeat' first
    | refine sm_seq ?_
    | refine sm_block ?_
    | refine sm_skip ?_
    | refine sm_inBlock ?_
    | refine sm_region ?_
    | refine m_move rfl (by decide) ?_
    | refine m_assign rfl (by decide) ?_
    | refine m_len rfl (kd_slice rfl) (by decide) ?_
    | refine m_lss rfl rfl (by decide) ?_
    | refine m_nil ?_
  refine sm_ret ⟨?_, ?_⟩
  · exact int_eq (by simp only [List.length_append, List.length_nil]; omega)
  · simpa only [List.nil_append, List.append_nil, List.append_assoc] using hM1
theorem markRuleS_mk : MKs S.P 45 shRuleS := by
  refine ⟨⟨_, Try.func45, by kernel_rfl, rfl⟩, fun lim w v qs k h hW h0 hb => ?_⟩
  refine calls_of_sm (vals := [v, Value.int .i64 k]) (t := 4) Try.func45 rfl (by simp [Try.f45]) rfl (R := fun E' w' => Lg.look E' 4 = some (Value.int .i64 (k + qs.length)) ∧ w' = wrs w qs k) ?_ (fun E' w' h => ⟨_, h.1, rfl, h.2⟩)
  simp only [Try.ntmps45, enumV]
  repeat' first
    | refine sm_seq ?_
    | refine sm_block ?_
    | refine sm_skip ?_
    | refine sm_inBlock ?_
    | refine sm_region ?_
    | refine m_move rfl (by decide) ?_
    | refine m_assign rfl (by decide) ?_
    | refine m_len rfl (kd_slice rfl) (by decide) ?_
    | refine m_lss rfl rfl (by decide) ?_
    | refine m_nil ?_
  refine sm_mark_loop h hW h0 hb (by intro p hp; simp only [List.mem_cons, List.not_mem_nil, or_false] at hp; rcases hp with rfl | rfl | rfl <;> rfl) fun A m cp hv hm i k' wi J hk0 hkm hi hx hend => ?_
  subst hv
  simp only [maxLen] at hm
  repeat' first
    | refine sm_seq ?_
    | refine sm_block ?_
    | refine sm_skip ?_
    | refine sm_inBlock ?_
    | refine sm_region ?_
    | refine m_move rfl (by decide) ?_
    | refine m_assign rfl (by decide) ?_
    | refine m_len rfl (kd_slice rfl) (by decide) ?_
    | refine m_lss rfl rfl (by decide) ?_
    | refine m_nil ?_
  refine sm_cond rfl (fun hc => ?_) (fun hc => ?_)
  · have hlt : i < m := by simpa using hc
    obtain ⟨b, o, l, rfl, hF0, hw0, hkb, hJ⟩ := hx hlt
    have hk0' := hk0
    obtain ⟨v1, l1, r1, rfl, hc1, hL1, -, hn1⟩ := LvF.sub_step hF0
    have ha1 := fun q hq => hw0 q (List.mem_append_left _ hq)
    have hb1 := fun q hq => hw0 q (List.mem_append_right _ hq)
    simp only [List.length_append] at hkb
    repeat' first
      | refine m_indexAddr rfl rfl (kd_slice rfl) (fun w => Lg.run_sizeOf (S.ok _ _ rfl) w) hlt (by decide) ?_
      | refine m_fieldAddr (S := S) rfl rfl rfl rfl rfl (by decide) (by decide) ?_
      | refine m_load (S := S) rfl rfl rfl rfl hc1 (by decide) ?_
      | refine sm_seq ?_
      | refine sm_block ?_
      | refine sm_skip ?_
      | refine sm_inBlock ?_
      | refine sm_region ?_
      | refine m_move rfl (by decide) ?_
      | refine m_assign rfl (by decide) ?_
      | refine m_len rfl (kd_slice rfl) (by decide) ?_
      | refine m_lss rfl rfl (by decide) ?_
      | refine m_nil ?_
    refine m_call markInt64S_mk.1 rfl rfl (markInt64S_mk.2 lim _ v1 l1 _ hL1 ha1 (by omega) (by omega)) (by decide) ?_
    rintro _ _ ⟨rfl, rfl⟩
    refine ⟨_, rfl, ?_⟩
    obtain ⟨hF1, hw1⟩ := hn1 (k') ha1 hb1
    obtain ⟨v2, l2, r2, rfl, hc2, hL2, -, hn2⟩ := LvF.sub_step hF1
    have ha2 := fun q hq => hw1 q (List.mem_append_left _ hq)
    have hb2 := fun q hq => hw1 q (List.mem_append_right _ hq)
    simp only [List.length_append] at hkb
    repeat' first
      | refine m_indexAddr rfl rfl (kd_slice rfl) (fun w => Lg.run_sizeOf (S.ok _ _ rfl) w) hlt (by decide) ?_
      | refine m_fieldAddr (S := S) rfl rfl rfl rfl rfl (by decide) (by decide) ?_
      | refine m_load (S := S) rfl rfl rfl rfl hc2 (by decide) ?_
      | refine sm_seq ?_
      | refine sm_block ?_
      | refine sm_skip ?_
      | refine sm_inBlock ?_
      | refine sm_region ?_
      | refine m_move rfl (by decide) ?_
      | refine m_assign rfl (by decide) ?_
      | refine m_len rfl (kd_slice rfl) (by decide) ?_
      | refine m_lss rfl rfl (by decide) ?_
      | refine m_nil ?_
    refine m_call markInt64S_mk.1 rfl rfl (markInt64S_mk.2 lim _ v2 l2 _ hL2 ha2 (by omega) (by omega)) (by decide) ?_
    rintro _ _ ⟨rfl, rfl⟩
    refine ⟨_, rfl, ?_⟩
    obtain ⟨hF2, hw2⟩ := hn2 (k' + (l1.length : Int)) ha2 hb2
    obtain rfl := hF2.nil_step
    repeat' first
      | refine m_add rfl rfl (by omega) (by decide) ?_
      | refine sm_seq ?_
      | refine sm_block ?_
      | refine sm_skip ?_
      | refine sm_inBlock ?_
      | refine sm_region ?_
      | refine m_move rfl (by decide) ?_
      | refine m_assign rfl (by decide) ?_
      | refine m_len rfl (kd_slice rfl) (by decide) ?_
      | refine m_lss rfl rfl (by decide) ?_
      | refine m_nil ?_
    refine sm_loopEnd (Eq.mp (congrArg (J _) ?_) (hJ _ ?_))
    · first | rfl | (simp only [wrs_append, wrs, List.append_nil]; done) | (simp only [wrs_append, wrs, List.append_nil]; rfl)
    intro p hp
    simp only [List.mem_cons, List.not_mem_nil, or_false] at hp
    rcases hp with rfl | rfl | rfl
    · rfl
    · exact int_eq (by simp only [List.length_append, List.length_cons, List.length_nil]; omega)
    · rfl
  · have hlt : ¬ i < m := by simpa using hc
    obtain ⟨rfl, rfl⟩ := hend (by omega)
    refine sm_exit rfl ?_
    repeat' first
      | refine sm_seq ?_
      | refine sm_block ?_
      | refine sm_skip ?_
      | refine sm_inBlock ?_
      | refine sm_region ?_
      | refine m_move rfl (by decide) ?_
      | refine m_assign rfl (by decide) ?_
      | refine m_len rfl (kd_slice rfl) (by decide) ?_
      | refine m_lss rfl rfl (by decide) ?_
      | refine m_nil ?_
    exact sm_ret ⟨rfl, rfl⟩
theorem markSystem_mk : MKa S.P 19 fsSystem := by
  refine ⟨⟨_, Try.func19, by kernel_rfl, rfl⟩, fun lim w vs qs k hl h hW h0 hb => ?_⟩
  simp only [fsSystem, Fs.len] at hl
  rcases vs with _ | ⟨v0, _ | ⟨v1, _ | ⟨_, _⟩⟩⟩ <;> simp at hl
  clear hl
  refine calls_of_sm (vals := [Value.agg [v0, v1].toArray, Value.int .i64 k]) (t := 4) Try.func19 rfl (by simp [Try.f19]) rfl (R := fun E' w' => Lg.look E' 4 = some (Value.int .i64 (k + qs.length)) ∧ Marked w qs k w') ?_ (fun E' w' h => ⟨_, h.1, rfl, h.2⟩)
  simp only [Try.ntmps19, enumV]
  repeat' first
    | refine m_box rfl (by decide) ?_
    | refine sm_seq ?_
    | refine sm_block ?_
    | refine sm_skip ?_
    | refine sm_inBlock ?_
    | refine sm_region ?_
    | refine m_move rfl (by decide) ?_
    | refine m_assign rfl (by decide) ?_
    | refine m_len rfl (kd_slice rfl) (by decide) ?_
    | refine m_lss rfl rfl (by decide) ?_
    | refine m_nil ?_
  have hx0 : ∀ q ∈ ([] : List (Nat × Nat)), MkC w q := by simp
  have hM0 : Marked w [] k (w.alloc (.cells [v0, v1].toArray 43)) := Marked.of_grown (Grown.alloc w _ _) k
  have hB0 : ∀ (j : Nat) u, [v0, v1][j]? = some u → cellAt (w.alloc (.cells [v0, v1].toArray 43)) w.heap.size j = some u := fun j u hj => by rw [cellAt_alloc]; simpa using hj
  have hA0 := h
  have hw0 := hW
  unfold fsSystem at hA0
  obtain ⟨l1, r1, rfl, hL1, hA1⟩ := LvA.sub_step hA0
  simp only [List.length_append] at hb
  have hi1 : ∀ q ∈ l1, MkC w q := fun q hq => (Lv.ints _ _ _ hL1 q hq).2
  repeat' first
    | refine m_fieldAddr (S := S) rfl rfl rfl rfl rfl (by decide) (by decide) ?_
    | refine m_loadA (S := S) (vs := [v0]) rfl rfl rfl rfl rfl (fun i v hi => by rcases i with _ | i <;> simp at hi; subst hi; exact hB0 0 _ rfl) (by decide) ?_
    | refine sm_seq ?_
    | refine sm_block ?_
    | refine sm_skip ?_
    | refine sm_inBlock ?_
    | refine sm_region ?_
    | refine m_move rfl (by decide) ?_
    | refine m_assign rfl (by decide) ?_
    | refine m_len rfl (kd_slice rfl) (by decide) ?_
    | refine m_lss rfl rfl (by decide) ?_
    | refine m_nil ?_
  have ha1 := fun q hq => hw0 q (List.mem_append_left _ hq)
  have hw1 := fun q hq => hw0 q (List.mem_append_right _ hq)
  have hI1 := hM0.intW lim hx0
  refine m_call markSig_mk.1 rfl rfl (markSig_mk.2 lim _ [v0] l1 _ rfl (by unfold fsSig LvA LvA; exact ⟨v0, l1, [], by simp, rfl, (Lv.mono hI1 _ _ _ hL1), rfl⟩) (fun q hq => hM0.Wr (ha1 q hq)) (by omega) (by omega)) (by decide) ?_
  rintro _ w1 ⟨rfl, hm1⟩
  refine ⟨_, rfl, ?_⟩
  have hB1 := box_stands hB0 hm1 ha1
  have hM1 := hM0.append (l2 := l1) (w'' := w1) (by simpa only [List.nil_append, List.length_append, List.length_nil, Int.natCast_add, Int.natCast_zero, Int.zero_add, Int.add_zero, Int.add_assoc] using hm1)
  have hx1 := fun q (hq : q ∈ _ ++ l1) => (List.mem_append.1 hq).elim (hx0 q) (hi1 q)
  repeat' first
    | refine sm_seq ?_
    | refine sm_block ?_
    | refine sm_skip ?_
    | refine sm_inBlock ?_
    | refine sm_region ?_
    | refine m_move rfl (by decide) ?_
    | refine m_assign rfl (by decide) ?_
    | refine m_len rfl (kd_slice rfl) (by decide) ?_
    | refine m_lss rfl rfl (by decide) ?_
    | refine m_nil ?_
  obtain ⟨l2, r2, rfl, hL2, hA2⟩ := LvA.sub_step hA1
  simp only [List.length_append] at hb
  have hi2 : ∀ q ∈ l2, MkC w q := fun q hq => (Lv.ints _ _ _ hL2 q hq).2
  repeat' first
    | refine m_fieldAddr (S := S) rfl rfl rfl rfl rfl (by decide) (by decide) ?_
    | refine m_load (S := S) rfl rfl rfl rfl (hB1 1 _ rfl) (by decide) ?_
    | refine sm_seq ?_
    | refine sm_block ?_
    | refine sm_skip ?_
    | refine sm_inBlock ?_
    | refine sm_region ?_
    | refine m_move rfl (by decide) ?_
    | refine m_assign rfl (by decide) ?_
    | refine m_len rfl (kd_slice rfl) (by decide) ?_
    | refine m_lss rfl rfl (by decide) ?_
    | refine m_nil ?_
  have ha2 := fun q hq => hw1 q (List.mem_append_left _ hq)
  have hw2 := fun q hq => hw1 q (List.mem_append_right _ hq)
  have hI2 := hM1.intW lim hx1
  refine m_call markRuleS_mk.1 rfl rfl (markRuleS_mk.2 lim _ v1 l2 _ (Lv.mono hI2 _ _ _ hL2) (fun q hq => hM1.Wr (ha2 q hq)) (by omega) (by omega)) (by decide) ?_
  rintro _ w2 ⟨rfl, hm2'⟩
  refine ⟨_, rfl, ?_⟩
  have hm2 := Marked.of_wrs (k + (l1.length : Int)) (fun q (hq : q ∈ l2) => hM1.Wr (ha2 q hq)) (fun q hq => (Lv.ints _ _ _ (Lv.mono hI2 _ _ _ hL2) q hq).2)
  rw [← hm2'] at hm2
  have hB2 := box_stands hB1 hm2 ha2
  have hM2 := hM1.append (l2 := l2) (w'' := w2) (by simpa only [List.nil_append, List.length_append, List.length_nil, Int.natCast_add, Int.natCast_zero, Int.zero_add, Int.add_zero, Int.add_assoc] using hm2)
  have hx2 := fun q (hq : q ∈ _ ++ l2) => (List.mem_append.1 hq).elim (hx1 q) (hi2 q)
  repeat' first
    | refine sm_seq ?_
    | refine sm_block ?_
    | refine sm_skip ?_
    | refine sm_inBlock ?_
    | refine sm_region ?_
    | refine m_move rfl (by decide) ?_
    | refine m_assign rfl (by decide) ?_
    | refine m_len rfl (kd_slice rfl) (by decide) ?_
    | refine m_lss rfl rfl (by decide) ?_
    | refine m_nil ?_
  obtain rfl := hA2.nil_step
  repeat' first
    | refine sm_seq ?_
    | refine sm_block ?_
    | refine sm_skip ?_
    | refine sm_inBlock ?_
    | refine sm_region ?_
    | refine m_move rfl (by decide) ?_
    | refine m_assign rfl (by decide) ?_
    | refine m_len rfl (kd_slice rfl) (by decide) ?_
    | refine m_lss rfl rfl (by decide) ?_
    | refine m_nil ?_
  refine sm_ret ⟨?_, ?_⟩
  · exact int_eq (by simp only [List.length_append, List.length_nil]; omega)
  · simpa only [List.nil_append, List.append_nil, List.append_assoc] using hM2
end Go.Proofs.Ytldlochhiiogbaa
