/-
  What the marking and the checking functions do. Made by M.gen.
-/
import Derived.Test.YtenjmepbaajkjaaSet
import Derived.Test.YtenjmepbaajkjaaLTy
namespace Go.Proofs.Ytenjmepbaajkjaa
open Go Go.Lg
set_option linter.unusedSimpArgs false
set_option linter.unusedVariables false
set_option maxHeartbeats 4000000
set_option maxRecDepth 20000
attribute [local irreducible] OpsM SM
theorem markInt64S_mk : MKs S.P 33 shInt64S := by
  refine ⟨⟨_, Try.func33, by kernel_rfl, rfl⟩, fun lim w v qs k h hW h0 hb => ?_⟩
  refine calls_of_sm (vals := [v, Value.int .i64 k]) (t := 4) Try.func33 rfl (by simp [Try.f33]) rfl (R := fun E' w' => Lg.look E' 4 = some (Value.int .i64 (k + qs.length)) ∧ w' = wrs w qs k) ?_ (fun E' w' h => ⟨_, h.1, rfl, h.2⟩)
  simp only [Try.ntmps33, enumV]
  repeat' first
    | refine sm_seq ?_
    | refine sm_block ?_
    | refine sm_skip ?_
    | refine sm_inBlock ?_
    | refine sm_region ?_
    | refine m_move rfl (by decide) ?_
    | refine m_assign rfl (by decide) ?_
    | refine m_len rfl (kd_slice rfl) (by decide) ?_
    | refine m_lss rfl rfl (by decide) ?_
    | refine m_nil ?_
  refine sm_mark_loop h hW h0 hb (by intro p hp; simp only [List.mem_cons, List.not_mem_nil, or_false] at hp; rcases hp with rfl | rfl | rfl <;> rfl) fun A m cp hv hm i k' wi J hk0 hkm hi hx hend => ?_
  subst hv
  simp only [maxLen] at hm
  repeat' first
    | refine sm_seq ?_
    | refine sm_block ?_
    | refine sm_skip ?_
    | refine sm_inBlock ?_
    | refine sm_region ?_
    | refine m_move rfl (by decide) ?_
    | refine m_assign rfl (by decide) ?_
    | refine m_len rfl (kd_slice rfl) (by decide) ?_
    | refine m_lss rfl rfl (by decide) ?_
    | refine m_nil ?_
  refine sm_cond rfl (fun hc => ?_) (fun hc => ?_)
  · have hlt : i < m := by simpa using hc
    obtain ⟨b, o, l, rfl, hF0, hw0, hkb, hJ⟩ := hx hlt
    have hk0' := hk0
    obtain ⟨r1, m1, rfl, hm1, -, hn1⟩ := LvF.cell_step hF0
    have ha1 := hw0 _ List.mem_cons_self
    have hb1 := fun q hq => hw0 q (List.mem_cons_of_mem _ hq)
    simp only [List.length_cons] at hkb
    repeat' first
      | refine m_indexAddr rfl rfl (kd_slice rfl) (fun w => Lg.run_sizeOf (S.ok _ _ rfl) w) hlt (by decide) ?_
      | refine m_fieldAddr (S := S) rfl rfl rfl rfl rfl (by decide) (by decide) ?_
      | refine m_store (S := S) rfl rfl rfl rfl rfl ha1 hm1 ?_
      | refine m_add rfl rfl (by omega) (by decide) ?_
      | refine sm_seq ?_
      | refine sm_block ?_
      | refine sm_skip ?_
      | refine sm_inBlock ?_
      | refine sm_region ?_
      | refine m_move rfl (by decide) ?_
      | refine m_assign rfl (by decide) ?_
      | refine m_len rfl (kd_slice rfl) (by decide) ?_
      | refine m_lss rfl rfl (by decide) ?_
      | refine m_nil ?_
    obtain ⟨hF1, hw1⟩ := hn1 (k') ha1 hb1
    obtain rfl := hF1.nil_step
    repeat' first
      | refine m_add rfl rfl (by omega) (by decide) ?_
      | refine sm_seq ?_
      | refine sm_block ?_
      | refine sm_skip ?_
      | refine sm_inBlock ?_
      | refine sm_region ?_
      | refine m_move rfl (by decide) ?_
      | refine m_assign rfl (by decide) ?_
      | refine m_len rfl (kd_slice rfl) (by decide) ?_
      | refine m_lss rfl rfl (by decide) ?_
      | refine m_nil ?_
    refine sm_loopEnd (Eq.mp (congrArg (J _) ?_) (hJ _ ?_))
    · first | rfl | (simp only [wrs_append, wrs, List.append_nil]; done) | (simp only [wrs_append, wrs, List.append_nil]; rfl)
    intro p hp
    simp only [List.mem_cons, List.not_mem_nil, or_false] at hp
    rcases hp with rfl | rfl | rfl
    · rfl
    · exact int_eq (by simp only [List.length_append, List.length_cons, List.length_nil]; omega)
    · rfl
  · have hlt : ¬ i < m := by simpa using hc
    obtain ⟨rfl, rfl⟩ := hend (by omega)
    refine sm_exit rfl ?_
    repeat' first
      | refine sm_seq ?_
      | refine sm_block ?_
      | refine sm_skip ?_
      | refine sm_inBlock ?_
      | refine sm_region ?_
      | refine m_move rfl (by decide) ?_
      | refine m_assign rfl (by decide) ?_
      | refine m_len rfl (kd_slice rfl) (by decide) ?_
      | refine m_lss rfl rfl (by decide) ?_
      | refine m_nil ?_
    exact sm_ret ⟨rfl, rfl⟩
theorem heldInt64S_mk : HDs S.P 34 shInt64S := by
  refine ⟨⟨_, Try.func34, by kernel_rfl, rfl⟩, fun lim w v qs k h hW h0 hb => ?_⟩
  refine calls_of_sm (vals := [v, Value.int .i64 k]) (t := 4) Try.func34 rfl (by simp [Try.f34]) rfl (R := fun E' w' => Lg.look E' 4 = some (Value.int .i64 (k + qs.length)) ∧ w' = w) ?_ (fun E' w' h => ⟨_, h.1, rfl, h.2⟩)
  simp only [Try.ntmps34, enumV]
  repeat' first
    | refine sm_seq ?_
    | refine sm_block ?_
    | refine sm_skip ?_
    | refine sm_inBlock ?_
    | refine sm_region ?_
    | refine m_move rfl (by decide) ?_
    | refine m_assign rfl (by decide) ?_
    | refine m_len rfl (kd_slice rfl) (by decide) ?_
    | refine m_lss rfl rfl (by decide) ?_
    | refine m_nil ?_
  refine sm_held_loop h hW h0 hb (by intro p hp; simp only [List.mem_cons, List.not_mem_nil, or_false] at hp; rcases hp with rfl | rfl | rfl <;> rfl) fun A m cp hv hm i k' J hk0 hkm hi hx hend => ?_
  subst hv
  simp only [maxLen] at hm
  repeat' first
    | refine sm_seq ?_
    | refine sm_block ?_
    | refine sm_skip ?_
    | refine sm_inBlock ?_
    | refine sm_region ?_
    | refine m_move rfl (by decide) ?_
    | refine m_assign rfl (by decide) ?_
    | refine m_len rfl (kd_slice rfl) (by decide) ?_
    | refine m_lss rfl rfl (by decide) ?_
    | refine m_nil ?_
  refine sm_cond rfl (fun hc => ?_) (fun hc => ?_)
  · have hlt : i < m := by simpa using hc
    obtain ⟨b, o, l, rfl, hF0, hw0, hkb, hJ⟩ := hx hlt
    obtain ⟨r1, m1, rfl, hm1, hF1, -⟩ := LvF.cell_step hF0
    have ha1 := (holds_head hw0).int hm1
    have hw1 := holds_tail hw0
    simp only [List.length_cons] at hkb
    repeat' first
      | refine m_indexAddr rfl rfl (kd_slice rfl) (fun w => Lg.run_sizeOf (S.ok _ _ rfl) w) hlt (by decide) ?_
      | refine m_fieldAddr (S := S) rfl rfl rfl rfl rfl (by decide) (by decide) ?_
      | refine m_load (S := S) rfl rfl rfl rfl ha1 (by decide) ?_
      | refine m_neq rfl rfl (by decide) ?_
      | refine sm_seq ?_
      | refine sm_block ?_
      | refine sm_skip ?_
      | refine sm_inBlock ?_
      | refine sm_region ?_
      | refine m_move rfl (by decide) ?_
      | refine m_assign rfl (by decide) ?_
      | refine m_len rfl (kd_slice rfl) (by decide) ?_
      | refine m_lss rfl rfl (by decide) ?_
      | refine m_nil ?_
    refine sm_cond rfl (fun hc => absurd hc (by simp)) (fun _ => ?_)
    repeat' first
      | refine m_add rfl rfl (by omega) (by decide) ?_
      | refine sm_seq ?_
      | refine sm_block ?_
      | refine sm_skip ?_
      | refine sm_inBlock ?_
      | refine sm_region ?_
      | refine m_move rfl (by decide) ?_
      | refine m_assign rfl (by decide) ?_
      | refine m_len rfl (kd_slice rfl) (by decide) ?_
      | refine m_lss rfl rfl (by decide) ?_
      | refine m_nil ?_
    obtain rfl := hF1.nil_step
    repeat' first
      | refine m_add rfl rfl (by omega) (by decide) ?_
      | refine sm_seq ?_
      | refine sm_block ?_
      | refine sm_skip ?_
      | refine sm_inBlock ?_
      | refine sm_region ?_
      | refine m_move rfl (by decide) ?_
      | refine m_assign rfl (by decide) ?_
      | refine m_len rfl (kd_slice rfl) (by decide) ?_
      | refine m_lss rfl rfl (by decide) ?_
      | refine m_nil ?_
    refine sm_loopEnd (hJ _ ?_)
    intro p hp
    simp only [List.mem_cons, List.not_mem_nil, or_false] at hp
    rcases hp with rfl | rfl | rfl
    · rfl
    · exact int_eq (by simp only [List.length_append, List.length_cons, List.length_nil]; omega)
    · rfl
  · have hlt : ¬ i < m := by simpa using hc
    obtain rfl := hend (by omega)
    refine sm_exit rfl ?_
    repeat' first
      | refine sm_seq ?_
      | refine sm_block ?_
      | refine sm_skip ?_
      | refine sm_inBlock ?_
      | refine sm_region ?_
      | refine m_move rfl (by decide) ?_
      | refine m_assign rfl (by decide) ?_
      | refine m_len rfl (kd_slice rfl) (by decide) ?_
      | refine m_lss rfl rfl (by decide) ?_
      | refine m_nil ?_
    exact sm_ret ⟨rfl, rfl⟩
theorem markPolyS_mk : MKs S.P 129 shPolyS := by
  refine ⟨⟨_, Try.func129, by kernel_rfl, rfl⟩, fun lim w v qs k h hW h0 hb => ?_⟩
  refine calls_of_sm (vals := [v, Value.int .i64 k]) (t := 4) Try.func129 rfl (by simp [Try.f129]) rfl (R := fun E' w' => Lg.look E' 4 = some (Value.int .i64 (k + qs.length)) ∧ w' = wrs w qs k) ?_ (fun E' w' h => ⟨_, h.1, rfl, h.2⟩)
  simp only [Try.ntmps129, enumV]
  repeat' first
    | refine sm_seq ?_
    | refine sm_block ?_
    | refine sm_skip ?_
    | refine sm_inBlock ?_
    | refine sm_region ?_
    | refine m_move rfl (by decide) ?_
    | refine m_assign rfl (by decide) ?_
    | refine m_len rfl (kd_slice rfl) (by decide) ?_
    | refine m_lss rfl rfl (by decide) ?_
    | refine m_nil ?_
  refine sm_mark_loop h hW h0 hb (by intro p hp; simp only [List.mem_cons, List.not_mem_nil, or_false] at hp; rcases hp with rfl | rfl | rfl <;> rfl) fun A m cp hv hm i k' wi J hk0 hkm hi hx hend => ?_
  subst hv
  simp only [maxLen] at hm
  repeat' first
    | refine sm_seq ?_
    | refine sm_block ?_
    | refine sm_skip ?_
    | refine sm_inBlock ?_
    | refine sm_region ?_
    | refine m_move rfl (by decide) ?_
    | refine m_assign rfl (by decide) ?_
    | refine m_len rfl (kd_slice rfl) (by decide) ?_
    | refine m_lss rfl rfl (by decide) ?_
    | refine m_nil ?_
  refine sm_cond rfl (fun hc => ?_) (fun hc => ?_)
  · have hlt : i < m := by simpa using hc
    obtain ⟨b, o, l, rfl, hF0, hw0, hkb, hJ⟩ := hx hlt
    have hk0' := hk0
    obtain ⟨r1, m1, rfl, hm1, -, hn1⟩ := LvF.cell_step hF0
    have ha1 := hw0 _ List.mem_cons_self
    have hb1 := fun q hq => hw0 q (List.mem_cons_of_mem _ hq)
    simp only [List.length_cons] at hkb
    repeat' first
      | refine m_indexAddr rfl rfl (kd_slice rfl) (fun w => Lg.run_sizeOf (S.ok _ _ rfl) w) hlt (by decide) ?_
      | refine m_fieldAddr (S := S) rfl rfl rfl rfl rfl (by decide) (by decide) ?_
      | refine m_store (S := S) rfl rfl rfl rfl rfl ha1 hm1 ?_
      | refine m_add rfl rfl (by omega) (by decide) ?_
      | refine sm_seq ?_
      | refine sm_block ?_
      | refine sm_skip ?_
      | refine sm_inBlock ?_
      | refine sm_region ?_
      | refine m_move rfl (by decide) ?_
      | refine m_assign rfl (by decide) ?_
      | refine m_len rfl (kd_slice rfl) (by decide) ?_
      | refine m_lss rfl rfl (by decide) ?_
      | refine m_nil ?_
    obtain ⟨hF1, hw1⟩ := hn1 (k') ha1 hb1
    obtain ⟨v2, l2, r2, rfl, hc2, hL2, -, hn2⟩ := LvF.sub_step hF1
    have ha2 := fun q hq => hw1 q (List.mem_append_left _ hq)
    have hb2 := fun q hq => hw1 q (List.mem_append_right _ hq)
    simp only [List.length_append] at hkb
    repeat' first
      | refine m_indexAddr rfl rfl (kd_slice rfl) (fun w => Lg.run_sizeOf (S.ok _ _ rfl) w) hlt (by decide) ?_
      | refine m_fieldAddr (S := S) rfl rfl rfl rfl rfl (by decide) (by decide) ?_
      | refine m_load (S := S) rfl rfl rfl rfl hc2 (by decide) ?_
      | refine sm_seq ?_
      | refine sm_block ?_
      | refine sm_skip ?_
      | refine sm_inBlock ?_
      | refine sm_region ?_
      | refine m_move rfl (by decide) ?_
      | refine m_assign rfl (by decide) ?_
      | refine m_len rfl (kd_slice rfl) (by decide) ?_
      | refine m_lss rfl rfl (by decide) ?_
      | refine m_nil ?_
    refine m_call markInt64S_mk.1 rfl rfl (markInt64S_mk.2 lim _ v2 l2 _ hL2 ha2 (by omega) (by omega)) (by decide) ?_
    rintro _ _ ⟨rfl, rfl⟩
    refine ⟨_, rfl, ?_⟩
    obtain ⟨hF2, hw2⟩ := hn2 (k' + 1) ha2 hb2
    obtain rfl := hF2.nil_step
    repeat' first
      | refine m_add rfl rfl (by omega) (by decide) ?_
      | refine sm_seq ?_
      | refine sm_block ?_
      | refine sm_skip ?_
      | refine sm_inBlock ?_
      | refine sm_region ?_
      | refine m_move rfl (by decide) ?_
      | refine m_assign rfl (by decide) ?_
      | refine m_len rfl (kd_slice rfl) (by decide) ?_
      | refine m_lss rfl rfl (by decide) ?_
      | refine m_nil ?_
    refine sm_loopEnd (Eq.mp (congrArg (J _) ?_) (hJ _ ?_))
    · first | rfl | (simp only [wrs_append, wrs, List.append_nil]; done) | (simp only [wrs_append, wrs, List.append_nil]; rfl)
    intro p hp
    simp only [List.mem_cons, List.not_mem_nil, or_false] at hp
    rcases hp with rfl | rfl | rfl
    · rfl
    · exact int_eq (by simp only [List.length_append, List.length_cons, List.length_nil]; omega)
    · rfl
  · have hlt : ¬ i < m := by simpa using hc
    obtain ⟨rfl, rfl⟩ := hend (by omega)
    refine sm_exit rfl ?_
    repeat' first
      | refine sm_seq ?_
      | refine sm_block ?_
      | refine sm_skip ?_
      | refine sm_inBlock ?_
      | refine sm_region ?_
      | refine m_move rfl (by decide) ?_
      | refine m_assign rfl (by decide) ?_
      | refine m_len rfl (kd_slice rfl) (by decide) ?_
      | refine m_lss rfl rfl (by decide) ?_
      | refine m_nil ?_
    exact sm_ret ⟨rfl, rfl⟩
theorem heldPolyS_mk : HDs S.P 130 shPolyS := by
  refine ⟨⟨_, Try.func130, by kernel_rfl, rfl⟩, fun lim w v qs k h hW h0 hb => ?_⟩
  refine calls_of_sm (vals := [v, Value.int .i64 k]) (t := 4) Try.func130 rfl (by simp [Try.f130]) rfl (R := fun E' w' => Lg.look E' 4 = some (Value.int .i64 (k + qs.length)) ∧ w' = w) ?_ (fun E' w' h => ⟨_, h.1, rfl, h.2⟩)
  simp only [Try.ntmps130, enumV]
  repeat' first
    | refine sm_seq ?_
    | refine sm_block ?_
    | refine sm_skip ?_
    | refine sm_inBlock ?_
    | refine sm_region ?_
    | refine m_move rfl (by decide) ?_
    | refine m_assign rfl (by decide) ?_
    | refine m_len rfl (kd_slice rfl) (by decide) ?_
    | refine m_lss rfl rfl (by decide) ?_
    | refine m_nil ?_
  refine sm_held_loop h hW h0 hb (by intro p hp; simp only [List.mem_cons, List.not_mem_nil, or_false] at hp; rcases hp with rfl | rfl | rfl <;> rfl) fun A m cp hv hm i k' J hk0 hkm hi hx hend => ?_
  subst hv
  simp only [maxLen] at hm
  repeat' first
    | refine sm_seq ?_
    | refine sm_block ?_
    | refine sm_skip ?_
    | refine sm_inBlock ?_
    | refine sm_region ?_
    | refine m_move rfl (by decide) ?_
    | refine m_assign rfl (by decide) ?_
    | refine m_len rfl (kd_slice rfl) (by decide) ?_
    | refine m_lss rfl rfl (by decide) ?_
    | refine m_nil ?_
  refine sm_cond rfl (fun hc => ?_) (fun hc => ?_)
  · have hlt : i < m := by simpa using hc
    obtain ⟨b, o, l, rfl, hF0, hw0, hkb, hJ⟩ := hx hlt
    obtain ⟨r1, m1, rfl, hm1, hF1, -⟩ := LvF.cell_step hF0
    have ha1 := (holds_head hw0).int hm1
    have hw1 := holds_tail hw0
    simp only [List.length_cons] at hkb
    repeat' first
      | refine m_indexAddr rfl rfl (kd_slice rfl) (fun w => Lg.run_sizeOf (S.ok _ _ rfl) w) hlt (by decide) ?_
      | refine m_fieldAddr (S := S) rfl rfl rfl rfl rfl (by decide) (by decide) ?_
      | refine m_load (S := S) rfl rfl rfl rfl ha1 (by decide) ?_
      | refine m_neq rfl rfl (by decide) ?_
      | refine sm_seq ?_
      | refine sm_block ?_
      | refine sm_skip ?_
      | refine sm_inBlock ?_
      | refine sm_region ?_
      | refine m_move rfl (by decide) ?_
      | refine m_assign rfl (by decide) ?_
      | refine m_len rfl (kd_slice rfl) (by decide) ?_
      | refine m_lss rfl rfl (by decide) ?_
      | refine m_nil ?_
    refine sm_cond rfl (fun hc => absurd hc (by simp)) (fun _ => ?_)
    repeat' first
      | refine m_add rfl rfl (by omega) (by decide) ?_
      | refine sm_seq ?_
      | refine sm_block ?_
      | refine sm_skip ?_
      | refine sm_inBlock ?_
      | refine sm_region ?_
      | refine m_move rfl (by decide) ?_
      | refine m_assign rfl (by decide) ?_
      | refine m_len rfl (kd_slice rfl) (by decide) ?_
      | refine m_lss rfl rfl (by decide) ?_
      | refine m_nil ?_
    obtain ⟨v2, l2, r2, rfl, hc2, hL2, hF2, -⟩ := LvF.sub_step hF1
    have ha2 := holds_left hw1
    have hw2 := holds_right hw1
    simp only [List.length_append] at hkb
    repeat' first
      | refine m_indexAddr rfl rfl (kd_slice rfl) (fun w => Lg.run_sizeOf (S.ok _ _ rfl) w) hlt (by decide) ?_
      | refine m_fieldAddr (S := S) rfl rfl rfl rfl rfl (by decide) (by decide) ?_
      | refine m_load (S := S) rfl rfl rfl rfl hc2 (by decide) ?_
      | refine sm_seq ?_
      | refine sm_block ?_
      | refine sm_skip ?_
      | refine sm_inBlock ?_
      | refine sm_region ?_
      | refine m_move rfl (by decide) ?_
      | refine m_assign rfl (by decide) ?_
      | refine m_len rfl (kd_slice rfl) (by decide) ?_
      | refine m_lss rfl rfl (by decide) ?_
      | refine m_nil ?_
    refine m_call heldInt64S_mk.1 rfl rfl (heldInt64S_mk.2 lim _ v2 l2 _ hL2 ha2 (by omega) (by omega)) (by decide) ?_
    rintro _ _ ⟨rfl, rfl⟩
    refine ⟨_, rfl, ?_⟩
    repeat' first
      | refine sm_seq ?_
      | refine sm_block ?_
      | refine sm_skip ?_
      | refine sm_inBlock ?_
      | refine sm_region ?_
      | refine m_move rfl (by decide) ?_
      | refine m_assign rfl (by decide) ?_
      | refine m_len rfl (kd_slice rfl) (by decide) ?_
      | refine m_lss rfl rfl (by decide) ?_
      | refine m_nil ?_
    refine sm_cond rfl (fun hc => absurd (of_decide_eq_true hc) (by omega)) (fun _ => ?_)
    obtain rfl := hF2.nil_step
    repeat' first
      | refine m_add rfl rfl (by omega) (by decide) ?_
      | refine sm_seq ?_
      | refine sm_block ?_
      | refine sm_skip ?_
      | refine sm_inBlock ?_
      | refine sm_region ?_
      | refine m_move rfl (by decide) ?_
      | refine m_assign rfl (by decide) ?_
      | refine m_len rfl (kd_slice rfl) (by decide) ?_
      | refine m_lss rfl rfl (by decide) ?_
      | refine m_nil ?_
    refine sm_loopEnd (hJ _ ?_)
    intro p hp
    simp only [List.mem_cons, List.not_mem_nil, or_false] at hp
    rcases hp with rfl | rfl | rfl
    · rfl
    · exact int_eq (by simp only [List.length_append, List.length_cons, List.length_nil]; omega)
    · rfl
  · have hlt : ¬ i < m := by simpa using hc
    obtain rfl := hend (by omega)
    refine sm_exit rfl ?_
    repeat' first
      | refine sm_seq ?_
      | refine sm_block ?_
      | refine sm_skip ?_
      | refine sm_inBlock ?_
      | refine sm_region ?_
      | refine m_move rfl (by decide) ?_
      | refine m_assign rfl (by decide) ?_
      | refine m_len rfl (kd_slice rfl) (by decide) ?_
      | refine m_lss rfl rfl (by decide) ?_
      | refine m_nil ?_
    exact sm_ret ⟨rfl, rfl⟩
theorem markPairStepS_mk : MKs S.P 51 shPairStepS := by
  refine ⟨⟨_, Try.func51, by kernel_rfl, rfl⟩, fun lim w v qs k h hW h0 hb => ?_⟩
  refine calls_of_sm (vals := [v, Value.int .i64 k]) (t := 4) Try.func51 rfl (by simp [Try.f51]) rfl (R := fun E' w' => Lg.look E' 4 = some (Value.int .i64 (k + qs.length)) ∧ w' = wrs w qs k) ?_ (fun E' w' h => ⟨_, h.1, rfl, h.2⟩)
  simp only [Try.ntmps51, enumV]
  repeat' first
    | refine sm_seq ?_
    | refine sm_block ?_
    | refine sm_skip ?_
    | refine sm_inBlock ?_
    | refine sm_region ?_
    | refine m_move rfl (by decide) ?_
    | refine m_assign rfl (by decide) ?_
    | refine m_len rfl (kd_slice rfl) (by decide) ?_
    | refine m_lss rfl rfl (by decide) ?_
    | refine m_nil ?_
  refine sm_mark_loop h hW h0 hb (by intro p hp; simp only [List.mem_cons, List.not_mem_nil, or_false] at hp; rcases hp with rfl | rfl | rfl <;> rfl) fun A m cp hv hm i k' wi J hk0 hkm hi hx hend => ?_
  subst hv
  simp only [maxLen] at hm
  repeat' first
    | refine sm_seq ?_
    | refine sm_block ?_
    | refine sm_skip ?_
    | refine sm_inBlock ?_
    | refine sm_region ?_
    | refine m_move rfl (by decide) ?_
    | refine m_assign rfl (by decide) ?_
    | refine m_len rfl (kd_slice rfl) (by decide) ?_
    | refine m_lss rfl rfl (by decide) ?_
    | refine m_nil ?_
  refine sm_cond rfl (fun hc => ?_) (fun hc => ?_)
  · have hlt : i < m := by simpa using hc
    obtain ⟨b, o, l, rfl, hF0, hw0, hkb, hJ⟩ := hx hlt
    have hk0' := hk0
    obtain ⟨v1, l1, r1, rfl, hc1, hL1, -, hn1⟩ := LvF.sub_step hF0
    have ha1 := fun q hq => hw0 q (List.mem_append_left _ hq)
    have hb1 := fun q hq => hw0 q (List.mem_append_right _ hq)
    simp only [List.length_append] at hkb
    repeat' first
      | refine m_indexAddr rfl rfl (kd_slice rfl) (fun w => Lg.run_sizeOf (S.ok _ _ rfl) w) hlt (by decide) ?_
      | refine m_fieldAddr (S := S) rfl rfl rfl rfl rfl (by decide) (by decide) ?_
      | refine m_load (S := S) rfl rfl rfl rfl hc1 (by decide) ?_
      | refine sm_seq ?_
      | refine sm_block ?_
      | refine sm_skip ?_
      | refine sm_inBlock ?_
      | refine sm_region ?_
      | refine m_move rfl (by decide) ?_
      | refine m_assign rfl (by decide) ?_
      | refine m_len rfl (kd_slice rfl) (by decide) ?_
      | refine m_lss rfl rfl (by decide) ?_
      | refine m_nil ?_
    refine m_call markInt64S_mk.1 rfl rfl (markInt64S_mk.2 lim _ v1 l1 _ hL1 ha1 (by omega) (by omega)) (by decide) ?_
    rintro _ _ ⟨rfl, rfl⟩
    refine ⟨_, rfl, ?_⟩
    obtain ⟨hF1, hw1⟩ := hn1 (k') ha1 hb1
    obtain ⟨v2, l2, r2, rfl, hc2, hL2, -, hn2⟩ := LvF.sub_step hF1
    have ha2 := fun q hq => hw1 q (List.mem_append_left _ hq)
    have hb2 := fun q hq => hw1 q (List.mem_append_right _ hq)
    simp only [List.length_append] at hkb
    repeat' first
      | refine m_indexAddr rfl rfl (kd_slice rfl) (fun w => Lg.run_sizeOf (S.ok _ _ rfl) w) hlt (by decide) ?_
      | refine m_fieldAddr (S := S) rfl rfl rfl rfl rfl (by decide) (by decide) ?_
      | refine m_load (S := S) rfl rfl rfl rfl hc2 (by decide) ?_
      | refine sm_seq ?_
      | refine sm_block ?_
      | refine sm_skip ?_
      | refine sm_inBlock ?_
      | refine sm_region ?_
      | refine m_move rfl (by decide) ?_
      | refine m_assign rfl (by decide) ?_
      | refine m_len rfl (kd_slice rfl) (by decide) ?_
      | refine m_lss rfl rfl (by decide) ?_
      | refine m_nil ?_
    refine m_call markInt64S_mk.1 rfl rfl (markInt64S_mk.2 lim _ v2 l2 _ hL2 ha2 (by omega) (by omega)) (by decide) ?_
    rintro _ _ ⟨rfl, rfl⟩
    refine ⟨_, rfl, ?_⟩
    obtain ⟨hF2, hw2⟩ := hn2 (k' + (l1.length : Int)) ha2 hb2
    obtain ⟨v3, l3, r3, rfl, hc3, hL3, -, hn3⟩ := LvF.sub_step hF2
    have ha3 := fun q hq => hw2 q (List.mem_append_left _ hq)
    have hb3 := fun q hq => hw2 q (List.mem_append_right _ hq)
    simp only [List.length_append] at hkb
    repeat' first
      | refine m_indexAddr rfl rfl (kd_slice rfl) (fun w => Lg.run_sizeOf (S.ok _ _ rfl) w) hlt (by decide) ?_
      | refine m_fieldAddr (S := S) rfl rfl rfl rfl rfl (by decide) (by decide) ?_
      | refine m_load (S := S) rfl rfl rfl rfl hc3 (by decide) ?_
      | refine sm_seq ?_
      | refine sm_block ?_
      | refine sm_skip ?_
      | refine sm_inBlock ?_
      | refine sm_region ?_
      | refine m_move rfl (by decide) ?_
      | refine m_assign rfl (by decide) ?_
      | refine m_len rfl (kd_slice rfl) (by decide) ?_
      | refine m_lss rfl rfl (by decide) ?_
      | refine m_nil ?_
    refine m_call markPolyS_mk.1 rfl rfl (markPolyS_mk.2 lim _ v3 l3 _ hL3 ha3 (by omega) (by omega)) (by decide) ?_
    rintro _ _ ⟨rfl, rfl⟩
    refine ⟨_, rfl, ?_⟩
    obtain ⟨hF3, hw3⟩ := hn3 (k' + (l1.length : Int) + (l2.length : Int)) ha3 hb3
    obtain ⟨v4, l4, r4, rfl, hc4, hL4, -, hn4⟩ := LvF.sub_step hF3
    have ha4 := fun q hq => hw3 q (List.mem_append_left _ hq)
    have hb4 := fun q hq => hw3 q (List.mem_append_right _ hq)
    simp only [List.length_append] at hkb
    repeat' first
      | refine m_indexAddr rfl rfl (kd_slice rfl) (fun w => Lg.run_sizeOf (S.ok _ _ rfl) w) hlt (by decide) ?_
      | refine m_fieldAddr (S := S) rfl rfl rfl rfl rfl (by decide) (by decide) ?_
      | refine m_load (S := S) rfl rfl rfl rfl hc4 (by decide) ?_
      | refine sm_seq ?_
      | refine sm_block ?_
      | refine sm_skip ?_
      | refine sm_inBlock ?_
      | refine sm_region ?_
      | refine m_move rfl (by decide) ?_
      | refine m_assign rfl (by decide) ?_
      | refine m_len rfl (kd_slice rfl) (by decide) ?_
      | refine m_lss rfl rfl (by decide) ?_
      | refine m_nil ?_
    refine m_call markInt64S_mk.1 rfl rfl (markInt64S_mk.2 lim _ v4 l4 _ hL4 ha4 (by omega) (by omega)) (by decide) ?_
    rintro _ _ ⟨rfl, rfl⟩
    refine ⟨_, rfl, ?_⟩
    obtain ⟨hF4, hw4⟩ := hn4 (k' + (l1.length : Int) + (l2.length : Int) + (l3.length : Int)) ha4 hb4
    obtain rfl := hF4.nil_step
    repeat' first
      | refine m_add rfl rfl (by omega) (by decide) ?_
      | refine sm_seq ?_
      | refine sm_block ?_
      | refine sm_skip ?_
      | refine sm_inBlock ?_
      | refine sm_region ?_
      | refine m_move rfl (by decide) ?_
      | refine m_assign rfl (by decide) ?_
      | refine m_len rfl (kd_slice rfl) (by decide) ?_
      | refine m_lss rfl rfl (by decide) ?_
      | refine m_nil ?_
    refine sm_loopEnd (Eq.mp (congrArg (J _) ?_) (hJ _ ?_))
    · first | rfl | (simp only [wrs_append, wrs, List.append_nil]; done) | (simp only [wrs_append, wrs, List.append_nil]; rfl)
    intro p hp
    simp only [List.mem_cons, List.not_mem_nil, or_false] at hp
    rcases hp with rfl | rfl | rfl
    · rfl
    · exact int_eq (by simp only [List.length_append, List.length_cons, List.length_nil]; omega)
    · rfl
  · have hlt : ¬ i < m := by simpa using hc
    obtain ⟨rfl, rfl⟩ := hend (by omega)
    refine sm_exit rfl ?_
    repeat' first
      | refine sm_seq ?_
      | refine sm_block ?_
      | refine sm_skip ?_
      | refine sm_inBlock ?_
      | refine sm_region ?_
      | refine m_move rfl (by decide) ?_
      | refine m_assign rfl (by decide) ?_
      | refine m_len rfl (kd_slice rfl) (by decide) ?_
      | refine m_lss rfl rfl (by decide) ?_
      | refine m_nil ?_
    exact sm_ret ⟨rfl, rfl⟩
theorem heldPairStepS_mk : HDs S.P 52 shPairStepS := by
  refine ⟨⟨_, Try.func52, by kernel_rfl, rfl⟩, fun lim w v qs k h hW h0 hb => ?_⟩
  refine calls_of_sm (vals := [v, Value.int .i64 k]) (t := 4) Try.func52 rfl (by simp [Try.f52]) rfl (R := fun E' w' => Lg.look E' 4 = some (Value.int .i64 (k + qs.length)) ∧ w' = w) ?_ (fun E' w' h => ⟨_, h.1, rfl, h.2⟩)
  simp only [Try.ntmps52, enumV]
  repeat' first
    | refine sm_seq ?_
    | refine sm_block ?_
    | refine sm_skip ?_
    | refine sm_inBlock ?_
    | refine sm_region ?_
    | refine m_move rfl (by decide) ?_
    | refine m_assign rfl (by decide) ?_
    | refine m_len rfl (kd_slice rfl) (by decide) ?_
    | refine m_lss rfl rfl (by decide) ?_
    | refine m_nil ?_
  refine sm_held_loop h hW h0 hb (by intro p hp; simp only [List.mem_cons, List.not_mem_nil, or_false] at hp; rcases hp with rfl | rfl | rfl <;> rfl) fun A m cp hv hm i k' J hk0 hkm hi hx hend => ?_
  subst hv
  simp only [maxLen] at hm
  repeat' first
    | refine sm_seq ?_
    | refine sm_block ?_
    | refine sm_skip ?_
    | refine sm_inBlock ?_
    | refine sm_region ?_
    | refine m_move rfl (by decide) ?_
    | refine m_assign rfl (by decide) ?_
    | refine m_len rfl (kd_slice rfl) (by decide) ?_
    | refine m_lss rfl rfl (by decide) ?_
    | refine m_nil ?_
  refine sm_cond rfl (fun hc => ?_) (fun hc => ?_)
  · have hlt : i < m := by simpa using hc
    obtain ⟨b, o, l, rfl, hF0, hw0, hkb, hJ⟩ := hx hlt
    obtain ⟨v1, l1, r1, rfl, hc1, hL1, hF1, -⟩ := LvF.sub_step hF0
    have ha1 := holds_left hw0
    have hw1 := holds_right hw0
    simp only [List.length_append] at hkb
    repeat' first
      | refine m_indexAddr rfl rfl (kd_slice rfl) (fun w => Lg.run_sizeOf (S.ok _ _ rfl) w) hlt (by decide) ?_
      | refine m_fieldAddr (S := S) rfl rfl rfl rfl rfl (by decide) (by decide) ?_
      | refine m_load (S := S) rfl rfl rfl rfl hc1 (by decide) ?_
      | refine sm_seq ?_
      | refine sm_block ?_
      | refine sm_skip ?_
      | refine sm_inBlock ?_
      | refine sm_region ?_
      | refine m_move rfl (by decide) ?_
      | refine m_assign rfl (by decide) ?_
      | refine m_len rfl (kd_slice rfl) (by decide) ?_
      | refine m_lss rfl rfl (by decide) ?_
      | refine m_nil ?_
    refine m_call heldInt64S_mk.1 rfl rfl (heldInt64S_mk.2 lim _ v1 l1 _ hL1 ha1 (by omega) (by omega)) (by decide) ?_
    rintro _ _ ⟨rfl, rfl⟩
    refine ⟨_, rfl, ?_⟩
    repeat' first
      | refine sm_seq ?_
      | refine sm_block ?_
      | refine sm_skip ?_
      | refine sm_inBlock ?_
      | refine sm_region ?_
      | refine m_move rfl (by decide) ?_
      | refine m_assign rfl (by decide) ?_
      | refine m_len rfl (kd_slice rfl) (by decide) ?_
      | refine m_lss rfl rfl (by decide) ?_
      | refine m_nil ?_
    refine sm_cond rfl (fun hc => absurd (of_decide_eq_true hc) (by omega)) (fun _ => ?_)
    obtain ⟨v2, l2, r2, rfl, hc2, hL2, hF2, -⟩ := LvF.sub_step hF1
    have ha2 := holds_left hw1
    have hw2 := holds_right hw1
    simp only [List.length_append] at hkb
    repeat' first
      | refine m_indexAddr rfl rfl (kd_slice rfl) (fun w => Lg.run_sizeOf (S.ok _ _ rfl) w) hlt (by decide) ?_
      | refine m_fieldAddr (S := S) rfl rfl rfl rfl rfl (by decide) (by decide) ?_
      | refine m_load (S := S) rfl rfl rfl rfl hc2 (by decide) ?_
      | refine sm_seq ?_
      | refine sm_block ?_
      | refine sm_skip ?_
      | refine sm_inBlock ?_
      | refine sm_region ?_
      | refine m_move rfl (by decide) ?_
      | refine m_assign rfl (by decide) ?_
      | refine m_len rfl (kd_slice rfl) (by decide) ?_
      | refine m_lss rfl rfl (by decide) ?_
      | refine m_nil ?_
    refine m_call heldInt64S_mk.1 rfl rfl (heldInt64S_mk.2 lim _ v2 l2 _ hL2 ha2 (by omega) (by omega)) (by decide) ?_
    rintro _ _ ⟨rfl, rfl⟩
    refine ⟨_, rfl, ?_⟩
    repeat' first
      | refine sm_seq ?_
      | refine sm_block ?_
      | refine sm_skip ?_
      | refine sm_inBlock ?_
      | refine sm_region ?_
      | refine m_move rfl (by decide) ?_
      | refine m_assign rfl (by decide) ?_
      | refine m_len rfl (kd_slice rfl) (by decide) ?_
      | refine m_lss rfl rfl (by decide) ?_
      | refine m_nil ?_
    refine sm_cond rfl (fun hc => absurd (of_decide_eq_true hc) (by omega)) (fun _ => ?_)
    obtain ⟨v3, l3, r3, rfl, hc3, hL3, hF3, -⟩ := LvF.sub_step hF2
    have ha3 := holds_left hw2
    have hw3 := holds_right hw2
    simp only [List.length_append] at hkb
    repeat' first
      | refine m_indexAddr rfl rfl (kd_slice rfl) (fun w => Lg.run_sizeOf (S.ok _ _ rfl) w) hlt (by decide) ?_
      | refine m_fieldAddr (S := S) rfl rfl rfl rfl rfl (by decide) (by decide) ?_
      | refine m_load (S := S) rfl rfl rfl rfl hc3 (by decide) ?_
      | refine sm_seq ?_
      | refine sm_block ?_
      | refine sm_skip ?_
      | refine sm_inBlock ?_
      | refine sm_region ?_
      | refine m_move rfl (by decide) ?_
      | refine m_assign rfl (by decide) ?_
      | refine m_len rfl (kd_slice rfl) (by decide) ?_
      | refine m_lss rfl rfl (by decide) ?_
      | refine m_nil ?_
    refine m_call heldPolyS_mk.1 rfl rfl (heldPolyS_mk.2 lim _ v3 l3 _ hL3 ha3 (by omega) (by omega)) (by decide) ?_
    rintro _ _ ⟨rfl, rfl⟩
    refine ⟨_, rfl, ?_⟩
    repeat' first
      | refine sm_seq ?_
      | refine sm_block ?_
      | refine sm_skip ?_
      | refine sm_inBlock ?_
      | refine sm_region ?_
      | refine m_move rfl (by decide) ?_
      | refine m_assign rfl (by decide) ?_
      | refine m_len rfl (kd_slice rfl) (by decide) ?_
      | refine m_lss rfl rfl (by decide) ?_
      | refine m_nil ?_
    refine sm_cond rfl (fun hc => absurd (of_decide_eq_true hc) (by omega)) (fun _ => ?_)
    obtain ⟨v4, l4, r4, rfl, hc4, hL4, hF4, -⟩ := LvF.sub_step hF3
    have ha4 := holds_left hw3
    have hw4 := holds_right hw3
    simp only [List.length_append] at hkb
    repeat' first
      | refine m_indexAddr rfl rfl (kd_slice rfl) (fun w => Lg.run_sizeOf (S.ok _ _ rfl) w) hlt (by decide) ?_
      | refine m_fieldAddr (S := S) rfl rfl rfl rfl rfl (by decide) (by decide) ?_
      | refine m_load (S := S) rfl rfl rfl rfl hc4 (by decide) ?_
      | refine sm_seq ?_
      | refine sm_block ?_
      | refine sm_skip ?_
      | refine sm_inBlock ?_
      | refine sm_region ?_
      | refine m_move rfl (by decide) ?_
      | refine m_assign rfl (by decide) ?_
      | refine m_len rfl (kd_slice rfl) (by decide) ?_
      | refine m_lss rfl rfl (by decide) ?_
      | refine m_nil ?_
    refine m_call heldInt64S_mk.1 rfl rfl (heldInt64S_mk.2 lim _ v4 l4 _ hL4 ha4 (by omega) (by omega)) (by decide) ?_
    rintro _ _ ⟨rfl, rfl⟩
    refine ⟨_, rfl, ?_⟩
    repeat' first
      | refine sm_seq ?_
      | refine sm_block ?_
      | refine sm_skip ?_
      | refine sm_inBlock ?_
      | refine sm_region ?_
      | refine m_move rfl (by decide) ?_
      | refine m_assign rfl (by decide) ?_
      | refine m_len rfl (kd_slice rfl) (by decide) ?_
      | refine m_lss rfl rfl (by decide) ?_
      | refine m_nil ?_
    refine sm_cond rfl (fun hc => absurd (of_decide_eq_true hc) (by omega)) (fun _ => ?_)
    obtain rfl := hF4.nil_step
    repeat' first
      | refine m_add rfl rfl (by omega) (by decide) ?_
      | refine sm_seq ?_
      | refine sm_block ?_
      | refine sm_skip ?_
      | refine sm_inBlock ?_
      | refine sm_region ?_
      | refine m_move rfl (by decide) ?_
      | refine m_assign rfl (by decide) ?_
      | refine m_len rfl (kd_slice rfl) (by decide) ?_
      | refine m_lss rfl rfl (by decide) ?_
      | refine m_nil ?_
    refine sm_loopEnd (hJ _ ?_)
    intro p hp
    simp only [List.mem_cons, List.not_mem_nil, or_false] at hp
    rcases hp with rfl | rfl | rfl
    · rfl
    · exact int_eq (by simp only [List.length_append, List.length_cons, List.length_nil]; omega)
    · rfl
  · have hlt : ¬ i < m := by simpa using hc
    obtain rfl := hend (by omega)
    refine sm_exit rfl ?_
    repeat' first
      | refine sm_seq ?_
      | refine sm_block ?_
      | refine sm_skip ?_
      | refine sm_inBlock ?_
      | refine sm_region ?_
      | refine m_move rfl (by decide) ?_
      | refine m_assign rfl (by decide) ?_
      | refine m_len rfl (kd_slice rfl) (by decide) ?_
      | refine m_lss rfl rfl (by decide) ?_
      | refine m_nil ?_
    exact sm_ret ⟨rfl, rfl⟩
end Go.Proofs.Ytenjmepbaajkjaa
