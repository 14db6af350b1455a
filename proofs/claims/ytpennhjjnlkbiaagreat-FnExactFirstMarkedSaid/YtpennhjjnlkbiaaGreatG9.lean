/-
  MFnExactFirstMarked, LFnExactFirstMarked, one behind the other.
-/
import Derived.Test.YtpennhjjnlkbiaaGreatSet
import Derived.Test.YtpennhjjnlkbiaaGreatG2
import Derived.Test.YtpennhjjnlkbiaaGreatG0
section
namespace Go.Proofs.YtpennhjjnlkbiaaGreat
open Go Go.Lg
set_option linter.unusedSimpArgs false
set_option linter.unusedVariables false
set_option maxHeartbeats 4000000
set_option maxRecDepth 20000
attribute [local irreducible] OpsM SM
theorem markInt64S_mk:MKs S.P 15 shInt64S:=by
 refine⟨⟨_,Tryz.func15,by kernel_rfl,rfl⟩,fun lim w v qs k h hW h0 hb=>?_⟩
 refine calls_of_sm (vals:=[v,Value.int .i64 k]) (t:=4) Tryz.func15 rfl (by simp[Tryz.f15]) rfl (R:=fun E' w'=>Lg.look E' 4=some (Value.int .i64 (k+qs.length))∧w'=wrs w qs k) ?_ (fun E' w' h=>⟨_,h.1,rfl,h.2⟩)
 simp only[Tryz.ntmps15,enumV]
 repeat' first
  | refine sm_seq ?_
  | refine sm_block ?_
  | refine sm_skip ?_
  | refine sm_inBlock ?_
  | refine sm_region ?_
  | refine m_move rfl (by decide) ?_
  | refine m_assign rfl (by decide) ?_
  | refine m_len rfl (kd_slice rfl) (by decide) ?_
  | refine m_lss rfl rfl (by decide) ?_
  | refine m_nil ?_
 refine sm_mark_loop h hW h0 hb (by intro p hp;simp only[List.mem_cons,List.not_mem_nil,or_false] at hp;rcases hp with rfl|rfl|rfl<;>rfl) fun A m cp hv hm i k' wi J hk0 hkm hi hx hend=>?_
 subst hv
 simp only[maxLen] at hm
 repeat' first
  | refine sm_seq ?_
  | refine sm_block ?_
  | refine sm_skip ?_
  | refine sm_inBlock ?_
  | refine sm_region ?_
  | refine m_move rfl (by decide) ?_
  | refine m_assign rfl (by decide) ?_
  | refine m_len rfl (kd_slice rfl) (by decide) ?_
  | refine m_lss rfl rfl (by decide) ?_
  | refine m_nil ?_
 refine sm_cond rfl (fun hc=>?_) (fun hc=>?_)
 ·have hlt:i<m:=by simpa using hc
  obtain⟨b,o,l,rfl,hF0,hw0,hkb,hJ⟩:=hx hlt
  have hk0':=hk0
  obtain⟨r1,m1,rfl,hm1,-,hn1⟩:=LvF.cell_step hF0
  have ha1:=hw0 _ List.mem_cons_self
  have hb1:=fun q hq=>hw0 q (List.mem_cons_of_mem _ hq)
  simp only[List.length_cons] at hkb
  repeat' first
   | refine m_indexAddr rfl rfl (kd_slice rfl) (fun w=>Lg.run_sizeOf (S.ok _ _ rfl) w) hlt (by decide) ?_
   | refine m_fieldAddr (S:=S) rfl rfl rfl rfl rfl (by decide) (by decide) ?_
   | refine m_store (S:=S) rfl rfl rfl rfl rfl ha1 hm1 ?_
   | refine m_add rfl rfl (by omega) (by decide) ?_
   | refine sm_seq ?_
   | refine sm_block ?_
   | refine sm_skip ?_
   | refine sm_inBlock ?_
   | refine sm_region ?_
   | refine m_move rfl (by decide) ?_
   | refine m_assign rfl (by decide) ?_
   | refine m_len rfl (kd_slice rfl) (by decide) ?_
   | refine m_lss rfl rfl (by decide) ?_
   | refine m_nil ?_
  obtain⟨hF1,hw1⟩:=hn1 (k') ha1 hb1
  obtain rfl:=hF1.nil_step
  repeat' first
   | refine m_add rfl rfl (by omega) (by decide) ?_
   | refine sm_seq ?_
   | refine sm_block ?_
   | refine sm_skip ?_
   | refine sm_inBlock ?_
   | refine sm_region ?_
   | refine m_move rfl (by decide) ?_
   | refine m_assign rfl (by decide) ?_
   | refine m_len rfl (kd_slice rfl) (by decide) ?_
   | refine m_lss rfl rfl (by decide) ?_
   | refine m_nil ?_
  refine sm_loopEnd (Eq.mp (congrArg (J _) ?_) (hJ _ ?_))
  ·first|rfl|(simp only[wrs_append,wrs,List.append_nil];done)|(simp only[wrs_append,wrs,List.append_nil];rfl)
  intro p hp
  simp only[List.mem_cons,List.not_mem_nil,or_false] at hp
  rcases hp with rfl|rfl|rfl
  ·rfl
  ·exact int_eq (by simp only[List.length_append,List.length_cons,List.length_nil];omega)
  ·rfl
 ·have hlt:¬i<m:=by simpa using hc
  obtain⟨rfl,rfl⟩:=hend (by omega)
  refine sm_exit rfl ?_
  repeat' first
   | refine sm_seq ?_
   | refine sm_block ?_
   | refine sm_skip ?_
   | refine sm_inBlock ?_
   | refine sm_region ?_
   | refine m_move rfl (by decide) ?_
   | refine m_assign rfl (by decide) ?_
   | refine m_len rfl (kd_slice rfl) (by decide) ?_
   | refine m_lss rfl rfl (by decide) ?_
   | refine m_nil ?_
  exact sm_ret ⟨rfl,rfl⟩
theorem heldInt64S_mk:HDs S.P 46 shInt64S:=by
 refine⟨⟨_,Tryz.func46,by kernel_rfl,rfl⟩,fun lim w v qs k h hW h0 hb=>?_⟩
 refine calls_of_sm (vals:=[v,Value.int .i64 k]) (t:=4) Tryz.func46 rfl (by simp[Tryz.f46]) rfl (R:=fun E' w'=>Lg.look E' 4=some (Value.int .i64 (k+qs.length))∧w'=w) ?_ (fun E' w' h=>⟨_,h.1,rfl,h.2⟩)
 simp only[Tryz.ntmps46,enumV]
 repeat' first
  | refine sm_seq ?_
  | refine sm_block ?_
  | refine sm_skip ?_
  | refine sm_inBlock ?_
  | refine sm_region ?_
  | refine m_move rfl (by decide) ?_
  | refine m_assign rfl (by decide) ?_
  | refine m_len rfl (kd_slice rfl) (by decide) ?_
  | refine m_lss rfl rfl (by decide) ?_
  | refine m_nil ?_
 refine sm_held_loop h hW h0 hb (by intro p hp;simp only[List.mem_cons,List.not_mem_nil,or_false] at hp;rcases hp with rfl|rfl|rfl<;>rfl) fun A m cp hv hm i k' J hk0 hkm hi hx hend=>?_
 subst hv
 simp only[maxLen] at hm
 repeat' first
  | refine sm_seq ?_
  | refine sm_block ?_
  | refine sm_skip ?_
  | refine sm_inBlock ?_
  | refine sm_region ?_
  | refine m_move rfl (by decide) ?_
  | refine m_assign rfl (by decide) ?_
  | refine m_len rfl (kd_slice rfl) (by decide) ?_
  | refine m_lss rfl rfl (by decide) ?_
  | refine m_nil ?_
 refine sm_cond rfl (fun hc=>?_) (fun hc=>?_)
 ·have hlt:i<m:=by simpa using hc
  obtain⟨b,o,l,rfl,hF0,hw0,hkb,hJ⟩:=hx hlt
  obtain⟨r1,m1,rfl,hm1,hF1,-⟩:=LvF.cell_step hF0
  have ha1:=(holds_head hw0).int hm1
  have hw1:=holds_tail hw0
  simp only[List.length_cons] at hkb
  repeat' first
   | refine m_indexAddr rfl rfl (kd_slice rfl) (fun w=>Lg.run_sizeOf (S.ok _ _ rfl) w) hlt (by decide) ?_
   | refine m_fieldAddr (S:=S) rfl rfl rfl rfl rfl (by decide) (by decide) ?_
   | refine m_load (S:=S) rfl rfl rfl rfl ha1 (by decide) ?_
   | refine m_neq rfl rfl (by decide) ?_
   | refine sm_seq ?_
   | refine sm_block ?_
   | refine sm_skip ?_
   | refine sm_inBlock ?_
   | refine sm_region ?_
   | refine m_move rfl (by decide) ?_
   | refine m_assign rfl (by decide) ?_
   | refine m_len rfl (kd_slice rfl) (by decide) ?_
   | refine m_lss rfl rfl (by decide) ?_
   | refine m_nil ?_
  refine sm_cond rfl (fun hc=>absurd hc (by simp)) (fun _=>?_)
  repeat' first
   | refine m_add rfl rfl (by omega) (by decide) ?_
   | refine sm_seq ?_
   | refine sm_block ?_
   | refine sm_skip ?_
   | refine sm_inBlock ?_
   | refine sm_region ?_
   | refine m_move rfl (by decide) ?_
   | refine m_assign rfl (by decide) ?_
   | refine m_len rfl (kd_slice rfl) (by decide) ?_
   | refine m_lss rfl rfl (by decide) ?_
   | refine m_nil ?_
  obtain rfl:=hF1.nil_step
  repeat' first
   | refine m_add rfl rfl (by omega) (by decide) ?_
   | refine sm_seq ?_
   | refine sm_block ?_
   | refine sm_skip ?_
   | refine sm_inBlock ?_
   | refine sm_region ?_
   | refine m_move rfl (by decide) ?_
   | refine m_assign rfl (by decide) ?_
   | refine m_len rfl (kd_slice rfl) (by decide) ?_
   | refine m_lss rfl rfl (by decide) ?_
   | refine m_nil ?_
  refine sm_loopEnd (hJ _ ?_)
  intro p hp
  simp only[List.mem_cons,List.not_mem_nil,or_false] at hp
  rcases hp with rfl|rfl|rfl
  ·rfl
  ·exact int_eq (by simp only[List.length_append,List.length_cons,List.length_nil];omega)
  ·rfl
 ·have hlt:¬i<m:=by simpa using hc
  obtain rfl:=hend (by omega)
  refine sm_exit rfl ?_
  repeat' first
   | refine sm_seq ?_
   | refine sm_block ?_
   | refine sm_skip ?_
   | refine sm_inBlock ?_
   | refine sm_region ?_
   | refine m_move rfl (by decide) ?_
   | refine m_assign rfl (by decide) ?_
   | refine m_len rfl (kd_slice rfl) (by decide) ?_
   | refine m_lss rfl rfl (by decide) ?_
   | refine m_nil ?_
  exact sm_ret ⟨rfl,rfl⟩
theorem markSig_mk:MKa S.P 44 fsSig:=by
 refine⟨⟨_,Tryz.func44,by kernel_rfl,rfl⟩,fun lim w vs qs k hl h hW h0 hb=>?_⟩
 simp only[fsSig,Fs.len] at hl
 rcases vs with _|⟨v0,_|⟨_,_⟩⟩<;>simp at hl
 clear hl
 refine calls_of_sm (vals:=[Value.agg [v0].toArray,Value.int .i64 k]) (t:=4) Tryz.func44 rfl (by simp[Tryz.f44]) rfl (R:=fun E' w'=>Lg.look E' 4=some (Value.int .i64 (k+qs.length))∧Marked w qs k w') ?_ (fun E' w' h=>⟨_,h.1,rfl,h.2⟩)
 simp only[Tryz.ntmps44,enumV]
 repeat' first
  | refine m_box rfl (by decide) ?_
  | refine sm_seq ?_
  | refine sm_block ?_
  | refine sm_skip ?_
  | refine sm_inBlock ?_
  | refine sm_region ?_
  | refine m_move rfl (by decide) ?_
  | refine m_assign rfl (by decide) ?_
  | refine m_len rfl (kd_slice rfl) (by decide) ?_
  | refine m_lss rfl rfl (by decide) ?_
  | refine m_nil ?_
 have hx0:∀q∈([]:List (Nat×Nat)),MkC w q:=by simp
 have hM0:Marked w [] k (w.alloc (.cells [v0].toArray 32)):=Marked.of_grown (Grown.alloc w _ _) k
 have hB0:∀(j:Nat) u,[v0][j]?=some u→cellAt (w.alloc (.cells [v0].toArray 32)) w.heap.size j=some u:=fun j u hj=>by rw[cellAt_alloc];simpa using hj
 have hA0:=h
 have hw0:=hW
 unfold fsSig at hA0
 obtain⟨l1,r1,rfl,hL1,hA1⟩:=LvA.sub_step hA0
 simp only[List.length_append] at hb
 have hi1:∀q∈l1,MkC w q:=fun q hq=>(Lv.ints _ _ _ hL1 q hq).2
 repeat' first
  | refine m_fieldAddr (S:=S) rfl rfl rfl rfl rfl (by decide) (by decide) ?_
  | refine m_load (S:=S) rfl rfl rfl rfl (hB0 0 _ rfl) (by decide) ?_
  | refine sm_seq ?_
  | refine sm_block ?_
  | refine sm_skip ?_
  | refine sm_inBlock ?_
  | refine sm_region ?_
  | refine m_move rfl (by decide) ?_
  | refine m_assign rfl (by decide) ?_
  | refine m_len rfl (kd_slice rfl) (by decide) ?_
  | refine m_lss rfl rfl (by decide) ?_
  | refine m_nil ?_
 have ha1:=fun q hq=>hw0 q (List.mem_append_left _ hq)
 have hw1:=fun q hq=>hw0 q (List.mem_append_right _ hq)
 have hI1:=hM0.intW lim hx0
 refine m_call markInt64S_mk.1 rfl rfl (markInt64S_mk.2 lim _ v0 l1 _ (Lv.mono hI1 _ _ _ hL1) (fun q hq=>hM0.Wr (ha1 q hq)) (by omega) (by omega)) (by decide) ?_
 rintro _ w1 ⟨rfl,hm1'⟩
 refine⟨_,rfl,?_⟩
 have hm1:=Marked.of_wrs (k) (fun q (hq:q∈l1)=>hM0.Wr (ha1 q hq)) (fun q hq=>(Lv.ints _ _ _ (Lv.mono hI1 _ _ _ hL1) q hq).2)
 rw[←hm1'] at hm1
 have hB1:=box_stands hB0 hm1 ha1
 have hM1:=hM0.append (l2:=l1) (w'':=w1) (by simpa only[List.nil_append,List.length_append,List.length_nil,Int.natCast_add,Int.natCast_zero,Int.zero_add,Int.add_zero,Int.add_assoc] using hm1)
 have hx1:=fun q (hq:q∈_++l1)=>(List.mem_append.1 hq).elim (hx0 q) (hi1 q)
 repeat' first
  | refine sm_seq ?_
  | refine sm_block ?_
  | refine sm_skip ?_
  | refine sm_inBlock ?_
  | refine sm_region ?_
  | refine m_move rfl (by decide) ?_
  | refine m_assign rfl (by decide) ?_
  | refine m_len rfl (kd_slice rfl) (by decide) ?_
  | refine m_lss rfl rfl (by decide) ?_
  | refine m_nil ?_
 obtain rfl:=hA1.nil_step
 repeat' first
  | refine sm_seq ?_
  | refine sm_block ?_
  | refine sm_skip ?_
  | refine sm_inBlock ?_
  | refine sm_region ?_
  | refine m_move rfl (by decide) ?_
  | refine m_assign rfl (by decide) ?_
  | refine m_len rfl (kd_slice rfl) (by decide) ?_
  | refine m_lss rfl rfl (by decide) ?_
  | refine m_nil ?_
 refine sm_ret ⟨?_,?_⟩
 ·exact int_eq (by simp only[List.length_append,List.length_nil];omega)
 ·simpa only[List.nil_append,List.append_nil,List.append_assoc] using hM1
theorem markPolyS_mk:MKs S.P 16 shPolyS:=by
 refine⟨⟨_,Tryz.func16,by kernel_rfl,rfl⟩,fun lim w v qs k h hW h0 hb=>?_⟩
 refine calls_of_sm (vals:=[v,Value.int .i64 k]) (t:=4) Tryz.func16 rfl (by simp[Tryz.f16]) rfl (R:=fun E' w'=>Lg.look E' 4=some (Value.int .i64 (k+qs.length))∧w'=wrs w qs k) ?_ (fun E' w' h=>⟨_,h.1,rfl,h.2⟩)
 simp only[Tryz.ntmps16,enumV]
 repeat' first
  | refine sm_seq ?_
  | refine sm_block ?_
  | refine sm_skip ?_
  | refine sm_inBlock ?_
  | refine sm_region ?_
  | refine m_move rfl (by decide) ?_
  | refine m_assign rfl (by decide) ?_
  | refine m_len rfl (kd_slice rfl) (by decide) ?_
  | refine m_lss rfl rfl (by decide) ?_
  | refine m_nil ?_
 refine sm_mark_loop h hW h0 hb (by intro p hp;simp only[List.mem_cons,List.not_mem_nil,or_false] at hp;rcases hp with rfl|rfl|rfl<;>rfl) fun A m cp hv hm i k' wi J hk0 hkm hi hx hend=>?_
 subst hv
 simp only[maxLen] at hm
 repeat' first
  | refine sm_seq ?_
  | refine sm_block ?_
  | refine sm_skip ?_
  | refine sm_inBlock ?_
  | refine sm_region ?_
  | refine m_move rfl (by decide) ?_
  | refine m_assign rfl (by decide) ?_
  | refine m_len rfl (kd_slice rfl) (by decide) ?_
  | refine m_lss rfl rfl (by decide) ?_
  | refine m_nil ?_
 refine sm_cond rfl (fun hc=>?_) (fun hc=>?_)
 ·have hlt:i<m:=by simpa using hc
  obtain⟨b,o,l,rfl,hF0,hw0,hkb,hJ⟩:=hx hlt
  have hk0':=hk0
  obtain⟨r1,m1,rfl,hm1,-,hn1⟩:=LvF.cell_step hF0
  have ha1:=hw0 _ List.mem_cons_self
  have hb1:=fun q hq=>hw0 q (List.mem_cons_of_mem _ hq)
  simp only[List.length_cons] at hkb
  repeat' first
   | refine m_indexAddr rfl rfl (kd_slice rfl) (fun w=>Lg.run_sizeOf (S.ok _ _ rfl) w) hlt (by decide) ?_
   | refine m_fieldAddr (S:=S) rfl rfl rfl rfl rfl (by decide) (by decide) ?_
   | refine m_store (S:=S) rfl rfl rfl rfl rfl ha1 hm1 ?_
   | refine m_add rfl rfl (by omega) (by decide) ?_
   | refine sm_seq ?_
   | refine sm_block ?_
   | refine sm_skip ?_
   | refine sm_inBlock ?_
   | refine sm_region ?_
   | refine m_move rfl (by decide) ?_
   | refine m_assign rfl (by decide) ?_
   | refine m_len rfl (kd_slice rfl) (by decide) ?_
   | refine m_lss rfl rfl (by decide) ?_
   | refine m_nil ?_
  obtain⟨hF1,hw1⟩:=hn1 (k') ha1 hb1
  obtain⟨v2,l2,r2,rfl,hc2,hL2,-,hn2⟩:=LvF.sub_step hF1
  have ha2:=fun q hq=>hw1 q (List.mem_append_left _ hq)
  have hb2:=fun q hq=>hw1 q (List.mem_append_right _ hq)
  simp only[List.length_append] at hkb
  repeat' first
   | refine m_indexAddr rfl rfl (kd_slice rfl) (fun w=>Lg.run_sizeOf (S.ok _ _ rfl) w) hlt (by decide) ?_
   | refine m_fieldAddr (S:=S) rfl rfl rfl rfl rfl (by decide) (by decide) ?_
   | refine m_load (S:=S) rfl rfl rfl rfl hc2 (by decide) ?_
   | refine sm_seq ?_
   | refine sm_block ?_
   | refine sm_skip ?_
   | refine sm_inBlock ?_
   | refine sm_region ?_
   | refine m_move rfl (by decide) ?_
   | refine m_assign rfl (by decide) ?_
   | refine m_len rfl (kd_slice rfl) (by decide) ?_
   | refine m_lss rfl rfl (by decide) ?_
   | refine m_nil ?_
  refine m_call markInt64S_mk.1 rfl rfl (markInt64S_mk.2 lim _ v2 l2 _ hL2 ha2 (by omega) (by omega)) (by decide) ?_
  rintro _ _ ⟨rfl,rfl⟩
  refine⟨_,rfl,?_⟩
  obtain⟨hF2,hw2⟩:=hn2 (k'+1) ha2 hb2
  obtain rfl:=hF2.nil_step
  repeat' first
   | refine m_add rfl rfl (by omega) (by decide) ?_
   | refine sm_seq ?_
   | refine sm_block ?_
   | refine sm_skip ?_
   | refine sm_inBlock ?_
   | refine sm_region ?_
   | refine m_move rfl (by decide) ?_
   | refine m_assign rfl (by decide) ?_
   | refine m_len rfl (kd_slice rfl) (by decide) ?_
   | refine m_lss rfl rfl (by decide) ?_
   | refine m_nil ?_
  refine sm_loopEnd (Eq.mp (congrArg (J _) ?_) (hJ _ ?_))
  ·first|rfl|(simp only[wrs_append,wrs,List.append_nil];done)|(simp only[wrs_append,wrs,List.append_nil];rfl)
  intro p hp
  simp only[List.mem_cons,List.not_mem_nil,or_false] at hp
  rcases hp with rfl|rfl|rfl
  ·rfl
  ·exact int_eq (by simp only[List.length_append,List.length_cons,List.length_nil];omega)
  ·rfl
 ·have hlt:¬i<m:=by simpa using hc
  obtain⟨rfl,rfl⟩:=hend (by omega)
  refine sm_exit rfl ?_
  repeat' first
   | refine sm_seq ?_
   | refine sm_block ?_
   | refine sm_skip ?_
   | refine sm_inBlock ?_
   | refine sm_region ?_
   | refine m_move rfl (by decide) ?_
   | refine m_assign rfl (by decide) ?_
   | refine m_len rfl (kd_slice rfl) (by decide) ?_
   | refine m_lss rfl rfl (by decide) ?_
   | refine m_nil ?_
  exact sm_ret ⟨rfl,rfl⟩
theorem heldPolyS_mk:HDs S.P 17 shPolyS:=by
 refine⟨⟨_,Tryz.func17,by kernel_rfl,rfl⟩,fun lim w v qs k h hW h0 hb=>?_⟩
 refine calls_of_sm (vals:=[v,Value.int .i64 k]) (t:=4) Tryz.func17 rfl (by simp[Tryz.f17]) rfl (R:=fun E' w'=>Lg.look E' 4=some (Value.int .i64 (k+qs.length))∧w'=w) ?_ (fun E' w' h=>⟨_,h.1,rfl,h.2⟩)
 simp only[Tryz.ntmps17,enumV]
 repeat' first
  | refine sm_seq ?_
  | refine sm_block ?_
  | refine sm_skip ?_
  | refine sm_inBlock ?_
  | refine sm_region ?_
  | refine m_move rfl (by decide) ?_
  | refine m_assign rfl (by decide) ?_
  | refine m_len rfl (kd_slice rfl) (by decide) ?_
  | refine m_lss rfl rfl (by decide) ?_
  | refine m_nil ?_
 refine sm_held_loop h hW h0 hb (by intro p hp;simp only[List.mem_cons,List.not_mem_nil,or_false] at hp;rcases hp with rfl|rfl|rfl<;>rfl) fun A m cp hv hm i k' J hk0 hkm hi hx hend=>?_
 subst hv
 simp only[maxLen] at hm
 repeat' first
  | refine sm_seq ?_
  | refine sm_block ?_
  | refine sm_skip ?_
  | refine sm_inBlock ?_
  | refine sm_region ?_
  | refine m_move rfl (by decide) ?_
  | refine m_assign rfl (by decide) ?_
  | refine m_len rfl (kd_slice rfl) (by decide) ?_
  | refine m_lss rfl rfl (by decide) ?_
  | refine m_nil ?_
 refine sm_cond rfl (fun hc=>?_) (fun hc=>?_)
 ·have hlt:i<m:=by simpa using hc
  obtain⟨b,o,l,rfl,hF0,hw0,hkb,hJ⟩:=hx hlt
  obtain⟨r1,m1,rfl,hm1,hF1,-⟩:=LvF.cell_step hF0
  have ha1:=(holds_head hw0).int hm1
  have hw1:=holds_tail hw0
  simp only[List.length_cons] at hkb
  repeat' first
   | refine m_indexAddr rfl rfl (kd_slice rfl) (fun w=>Lg.run_sizeOf (S.ok _ _ rfl) w) hlt (by decide) ?_
   | refine m_fieldAddr (S:=S) rfl rfl rfl rfl rfl (by decide) (by decide) ?_
   | refine m_load (S:=S) rfl rfl rfl rfl ha1 (by decide) ?_
   | refine m_neq rfl rfl (by decide) ?_
   | refine sm_seq ?_
   | refine sm_block ?_
   | refine sm_skip ?_
   | refine sm_inBlock ?_
   | refine sm_region ?_
   | refine m_move rfl (by decide) ?_
   | refine m_assign rfl (by decide) ?_
   | refine m_len rfl (kd_slice rfl) (by decide) ?_
   | refine m_lss rfl rfl (by decide) ?_
   | refine m_nil ?_
  refine sm_cond rfl (fun hc=>absurd hc (by simp)) (fun _=>?_)
  repeat' first
   | refine m_add rfl rfl (by omega) (by decide) ?_
   | refine sm_seq ?_
   | refine sm_block ?_
   | refine sm_skip ?_
   | refine sm_inBlock ?_
   | refine sm_region ?_
   | refine m_move rfl (by decide) ?_
   | refine m_assign rfl (by decide) ?_
   | refine m_len rfl (kd_slice rfl) (by decide) ?_
   | refine m_lss rfl rfl (by decide) ?_
   | refine m_nil ?_
  obtain⟨v2,l2,r2,rfl,hc2,hL2,hF2,-⟩:=LvF.sub_step hF1
  have ha2:=holds_left hw1
  have hw2:=holds_right hw1
  simp only[List.length_append] at hkb
  repeat' first
   | refine m_indexAddr rfl rfl (kd_slice rfl) (fun w=>Lg.run_sizeOf (S.ok _ _ rfl) w) hlt (by decide) ?_
   | refine m_fieldAddr (S:=S) rfl rfl rfl rfl rfl (by decide) (by decide) ?_
   | refine m_load (S:=S) rfl rfl rfl rfl hc2 (by decide) ?_
   | refine sm_seq ?_
   | refine sm_block ?_
   | refine sm_skip ?_
   | refine sm_inBlock ?_
   | refine sm_region ?_
   | refine m_move rfl (by decide) ?_
   | refine m_assign rfl (by decide) ?_
   | refine m_len rfl (kd_slice rfl) (by decide) ?_
   | refine m_lss rfl rfl (by decide) ?_
   | refine m_nil ?_
  refine m_call heldInt64S_mk.1 rfl rfl (heldInt64S_mk.2 lim _ v2 l2 _ hL2 ha2 (by omega) (by omega)) (by decide) ?_
  rintro _ _ ⟨rfl,rfl⟩
  refine⟨_,rfl,?_⟩
  repeat' first
   | refine sm_seq ?_
   | refine sm_block ?_
   | refine sm_skip ?_
   | refine sm_inBlock ?_
   | refine sm_region ?_
   | refine m_move rfl (by decide) ?_
   | refine m_assign rfl (by decide) ?_
   | refine m_len rfl (kd_slice rfl) (by decide) ?_
   | refine m_lss rfl rfl (by decide) ?_
   | refine m_nil ?_
  refine sm_cond rfl (fun hc=>absurd (of_decide_eq_true hc) (by omega)) (fun _=>?_)
  obtain rfl:=hF2.nil_step
  repeat' first
   | refine m_add rfl rfl (by omega) (by decide) ?_
   | refine sm_seq ?_
   | refine sm_block ?_
   | refine sm_skip ?_
   | refine sm_inBlock ?_
   | refine sm_region ?_
   | refine m_move rfl (by decide) ?_
   | refine m_assign rfl (by decide) ?_
   | refine m_len rfl (kd_slice rfl) (by decide) ?_
   | refine m_lss rfl rfl (by decide) ?_
   | refine m_nil ?_
  refine sm_loopEnd (hJ _ ?_)
  intro p hp
  simp only[List.mem_cons,List.not_mem_nil,or_false] at hp
  rcases hp with rfl|rfl|rfl
  ·rfl
  ·exact int_eq (by simp only[List.length_append,List.length_cons,List.length_nil];omega)
  ·rfl
 ·have hlt:¬i<m:=by simpa using hc
  obtain rfl:=hend (by omega)
  refine sm_exit rfl ?_
  repeat' first
   | refine sm_seq ?_
   | refine sm_block ?_
   | refine sm_skip ?_
   | refine sm_inBlock ?_
   | refine sm_region ?_
   | refine m_move rfl (by decide) ?_
   | refine m_assign rfl (by decide) ?_
   | refine m_len rfl (kd_slice rfl) (by decide) ?_
   | refine m_lss rfl rfl (by decide) ?_
   | refine m_nil ?_
  exact sm_ret ⟨rfl,rfl⟩
theorem markRuleS_mk:MKs S.P 45 shRuleS:=by
 refine⟨⟨_,Tryz.func45,by kernel_rfl,rfl⟩,fun lim w v qs k h hW h0 hb=>?_⟩
 refine calls_of_sm (vals:=[v,Value.int .i64 k]) (t:=4) Tryz.func45 rfl (by simp[Tryz.f45]) rfl (R:=fun E' w'=>Lg.look E' 4=some (Value.int .i64 (k+qs.length))∧w'=wrs w qs k) ?_ (fun E' w' h=>⟨_,h.1,rfl,h.2⟩)
 simp only[Tryz.ntmps45,enumV]
 repeat' first
  | refine sm_seq ?_
  | refine sm_block ?_
  | refine sm_skip ?_
  | refine sm_inBlock ?_
  | refine sm_region ?_
  | refine m_move rfl (by decide) ?_
  | refine m_assign rfl (by decide) ?_
  | refine m_len rfl (kd_slice rfl) (by decide) ?_
  | refine m_lss rfl rfl (by decide) ?_
  | refine m_nil ?_
 refine sm_mark_loop h hW h0 hb (by intro p hp;simp only[List.mem_cons,List.not_mem_nil,or_false] at hp;rcases hp with rfl|rfl|rfl<;>rfl) fun A m cp hv hm i k' wi J hk0 hkm hi hx hend=>?_
 subst hv
 simp only[maxLen] at hm
 repeat' first
  | refine sm_seq ?_
  | refine sm_block ?_
  | refine sm_skip ?_
  | refine sm_inBlock ?_
  | refine sm_region ?_
  | refine m_move rfl (by decide) ?_
  | refine m_assign rfl (by decide) ?_
  | refine m_len rfl (kd_slice rfl) (by decide) ?_
  | refine m_lss rfl rfl (by decide) ?_
  | refine m_nil ?_
 refine sm_cond rfl (fun hc=>?_) (fun hc=>?_)
 ·have hlt:i<m:=by simpa using hc
  obtain⟨b,o,l,rfl,hF0,hw0,hkb,hJ⟩:=hx hlt
  have hk0':=hk0
  obtain⟨v1,l1,r1,rfl,hc1,hL1,-,hn1⟩:=LvF.sub_step hF0
  have ha1:=fun q hq=>hw0 q (List.mem_append_left _ hq)
  have hb1:=fun q hq=>hw0 q (List.mem_append_right _ hq)
  simp only[List.length_append] at hkb
  repeat' first
   | refine m_indexAddr rfl rfl (kd_slice rfl) (fun w=>Lg.run_sizeOf (S.ok _ _ rfl) w) hlt (by decide) ?_
   | refine m_fieldAddr (S:=S) rfl rfl rfl rfl rfl (by decide) (by decide) ?_
   | refine m_load (S:=S) rfl rfl rfl rfl hc1 (by decide) ?_
   | refine sm_seq ?_
   | refine sm_block ?_
   | refine sm_skip ?_
   | refine sm_inBlock ?_
   | refine sm_region ?_
   | refine m_move rfl (by decide) ?_
   | refine m_assign rfl (by decide) ?_
   | refine m_len rfl (kd_slice rfl) (by decide) ?_
   | refine m_lss rfl rfl (by decide) ?_
   | refine m_nil ?_
  refine m_call markInt64S_mk.1 rfl rfl (markInt64S_mk.2 lim _ v1 l1 _ hL1 ha1 (by omega) (by omega)) (by decide) ?_
  rintro _ _ ⟨rfl,rfl⟩
  refine⟨_,rfl,?_⟩
  obtain⟨hF1,hw1⟩:=hn1 (k') ha1 hb1
  obtain⟨v2,l2,r2,rfl,hc2,hL2,-,hn2⟩:=LvF.sub_step hF1
  have ha2:=fun q hq=>hw1 q (List.mem_append_left _ hq)
  have hb2:=fun q hq=>hw1 q (List.mem_append_right _ hq)
  simp only[List.length_append] at hkb
  repeat' first
   | refine m_indexAddr rfl rfl (kd_slice rfl) (fun w=>Lg.run_sizeOf (S.ok _ _ rfl) w) hlt (by decide) ?_
   | refine m_fieldAddr (S:=S) rfl rfl rfl rfl rfl (by decide) (by decide) ?_
   | refine m_load (S:=S) rfl rfl rfl rfl hc2 (by decide) ?_
   | refine sm_seq ?_
   | refine sm_block ?_
   | refine sm_skip ?_
   | refine sm_inBlock ?_
   | refine sm_region ?_
   | refine m_move rfl (by decide) ?_
   | refine m_assign rfl (by decide) ?_
   | refine m_len rfl (kd_slice rfl) (by decide) ?_
   | refine m_lss rfl rfl (by decide) ?_
   | refine m_nil ?_
  refine m_call markInt64S_mk.1 rfl rfl (markInt64S_mk.2 lim _ v2 l2 _ hL2 ha2 (by omega) (by omega)) (by decide) ?_
  rintro _ _ ⟨rfl,rfl⟩
  refine⟨_,rfl,?_⟩
  obtain⟨hF2,hw2⟩:=hn2 (k'+(l1.length:Int)) ha2 hb2
  obtain rfl:=hF2.nil_step
  repeat' first
   | refine m_add rfl rfl (by omega) (by decide) ?_
   | refine sm_seq ?_
   | refine sm_block ?_
   | refine sm_skip ?_
   | refine sm_inBlock ?_
   | refine sm_region ?_
   | refine m_move rfl (by decide) ?_
   | refine m_assign rfl (by decide) ?_
   | refine m_len rfl (kd_slice rfl) (by decide) ?_
   | refine m_lss rfl rfl (by decide) ?_
   | refine m_nil ?_
  refine sm_loopEnd (Eq.mp (congrArg (J _) ?_) (hJ _ ?_))
  ·first|rfl|(simp only[wrs_append,wrs,List.append_nil];done)|(simp only[wrs_append,wrs,List.append_nil];rfl)
  intro p hp
  simp only[List.mem_cons,List.not_mem_nil,or_false] at hp
  rcases hp with rfl|rfl|rfl
  ·rfl
  ·exact int_eq (by simp only[List.length_append,List.length_cons,List.length_nil];omega)
  ·rfl
 ·have hlt:¬i<m:=by simpa using hc
  obtain⟨rfl,rfl⟩:=hend (by omega)
  refine sm_exit rfl ?_
  repeat' first
   | refine sm_seq ?_
   | refine sm_block ?_
   | refine sm_skip ?_
   | refine sm_inBlock ?_
   | refine sm_region ?_
   | refine m_move rfl (by decide) ?_
   | refine m_assign rfl (by decide) ?_
   | refine m_len rfl (kd_slice rfl) (by decide) ?_
   | refine m_lss rfl rfl (by decide) ?_
   | refine m_nil ?_
  exact sm_ret ⟨rfl,rfl⟩
theorem markSystem_mk:MKa S.P 14 fsSystem:=by
 refine⟨⟨_,Tryz.func14,by kernel_rfl,rfl⟩,fun lim w vs qs k hl h hW h0 hb=>?_⟩
 simp only[fsSystem,Fs.len] at hl
 rcases vs with _|⟨v0,_|⟨v1,_|⟨_,_⟩⟩⟩<;>simp at hl
 clear hl
 refine calls_of_sm (vals:=[Value.agg [v0,v1].toArray,Value.int .i64 k]) (t:=4) Tryz.func14 rfl (by simp[Tryz.f14]) rfl (R:=fun E' w'=>Lg.look E' 4=some (Value.int .i64 (k+qs.length))∧Marked w qs k w') ?_ (fun E' w' h=>⟨_,h.1,rfl,h.2⟩)
 simp only[Tryz.ntmps14,enumV]
 repeat' first
  | refine m_box rfl (by decide) ?_
  | refine sm_seq ?_
  | refine sm_block ?_
  | refine sm_skip ?_
  | refine sm_inBlock ?_
  | refine sm_region ?_
  | refine m_move rfl (by decide) ?_
  | refine m_assign rfl (by decide) ?_
  | refine m_len rfl (kd_slice rfl) (by decide) ?_
  | refine m_lss rfl rfl (by decide) ?_
  | refine m_nil ?_
 have hx0:∀q∈([]:List (Nat×Nat)),MkC w q:=by simp
 have hM0:Marked w [] k (w.alloc (.cells [v0,v1].toArray 35)):=Marked.of_grown (Grown.alloc w _ _) k
 have hB0:∀(j:Nat) u,[v0,v1][j]?=some u→cellAt (w.alloc (.cells [v0,v1].toArray 35)) w.heap.size j=some u:=fun j u hj=>by rw[cellAt_alloc];simpa using hj
 have hA0:=h
 have hw0:=hW
 unfold fsSystem at hA0
 obtain⟨l1,r1,rfl,hL1,hA1⟩:=LvA.sub_step hA0
 simp only[List.length_append] at hb
 have hi1:∀q∈l1,MkC w q:=fun q hq=>(Lv.ints _ _ _ hL1 q hq).2
 repeat' first
  | refine m_fieldAddr (S:=S) rfl rfl rfl rfl rfl (by decide) (by decide) ?_
  | refine m_loadA (S:=S) (vs:=[v0]) rfl rfl rfl rfl rfl (fun i v hi=>by rcases i with _|i<;>simp at hi;subst hi;exact hB0 0 _ rfl) (by decide) ?_
  | refine sm_seq ?_
  | refine sm_block ?_
  | refine sm_skip ?_
  | refine sm_inBlock ?_
  | refine sm_region ?_
  | refine m_move rfl (by decide) ?_
  | refine m_assign rfl (by decide) ?_
  | refine m_len rfl (kd_slice rfl) (by decide) ?_
  | refine m_lss rfl rfl (by decide) ?_
  | refine m_nil ?_
 have ha1:=fun q hq=>hw0 q (List.mem_append_left _ hq)
 have hw1:=fun q hq=>hw0 q (List.mem_append_right _ hq)
 have hI1:=hM0.intW lim hx0
 refine m_call markSig_mk.1 rfl rfl (markSig_mk.2 lim _ [v0] l1 _ rfl (by unfold fsSig LvA LvA;exact⟨v0,l1,[],by simp,rfl,(Lv.mono hI1 _ _ _ hL1),rfl⟩) (fun q hq=>hM0.Wr (ha1 q hq)) (by omega) (by omega)) (by decide) ?_
 rintro _ w1 ⟨rfl,hm1⟩
 refine⟨_,rfl,?_⟩
 have hB1:=box_stands hB0 hm1 ha1
 have hM1:=hM0.append (l2:=l1) (w'':=w1) (by simpa only[List.nil_append,List.length_append,List.length_nil,Int.natCast_add,Int.natCast_zero,Int.zero_add,Int.add_zero,Int.add_assoc] using hm1)
 have hx1:=fun q (hq:q∈_++l1)=>(List.mem_append.1 hq).elim (hx0 q) (hi1 q)
 repeat' first
  | refine sm_seq ?_
  | refine sm_block ?_
  | refine sm_skip ?_
  | refine sm_inBlock ?_
  | refine sm_region ?_
  | refine m_move rfl (by decide) ?_
  | refine m_assign rfl (by decide) ?_
  | refine m_len rfl (kd_slice rfl) (by decide) ?_
  | refine m_lss rfl rfl (by decide) ?_
  | refine m_nil ?_
 obtain⟨l2,r2,rfl,hL2,hA2⟩:=LvA.sub_step hA1
 simp only[List.length_append] at hb
 have hi2:∀q∈l2,MkC w q:=fun q hq=>(Lv.ints _ _ _ hL2 q hq).2
 repeat' first
  | refine m_fieldAddr (S:=S) rfl rfl rfl rfl rfl (by decide) (by decide) ?_
  | refine m_load (S:=S) rfl rfl rfl rfl (hB1 1 _ rfl) (by decide) ?_
  | refine sm_seq ?_
  | refine sm_block ?_
  | refine sm_skip ?_
  | refine sm_inBlock ?_
  | refine sm_region ?_
  | refine m_move rfl (by decide) ?_
  | refine m_assign rfl (by decide) ?_
  | refine m_len rfl (kd_slice rfl) (by decide) ?_
  | refine m_lss rfl rfl (by decide) ?_
  | refine m_nil ?_
 have ha2:=fun q hq=>hw1 q (List.mem_append_left _ hq)
 have hw2:=fun q hq=>hw1 q (List.mem_append_right _ hq)
 have hI2:=hM1.intW lim hx1
 refine m_call markRuleS_mk.1 rfl rfl (markRuleS_mk.2 lim _ v1 l2 _ (Lv.mono hI2 _ _ _ hL2) (fun q hq=>hM1.Wr (ha2 q hq)) (by omega) (by omega)) (by decide) ?_
 rintro _ w2 ⟨rfl,hm2'⟩
 refine⟨_,rfl,?_⟩
 have hm2:=Marked.of_wrs (k+(l1.length:Int)) (fun q (hq:q∈l2)=>hM1.Wr (ha2 q hq)) (fun q hq=>(Lv.ints _ _ _ (Lv.mono hI2 _ _ _ hL2) q hq).2)
 rw[←hm2'] at hm2
 have hB2:=box_stands hB1 hm2 ha2
 have hM2:=hM1.append (l2:=l2) (w'':=w2) (by simpa only[List.nil_append,List.length_append,List.length_nil,Int.natCast_add,Int.natCast_zero,Int.zero_add,Int.add_zero,Int.add_assoc] using hm2)
 have hx2:=fun q (hq:q∈_++l2)=>(List.mem_append.1 hq).elim (hx1 q) (hi2 q)
 repeat' first
  | refine sm_seq ?_
  | refine sm_block ?_
  | refine sm_skip ?_
  | refine sm_inBlock ?_
  | refine sm_region ?_
  | refine m_move rfl (by decide) ?_
  | refine m_assign rfl (by decide) ?_
  | refine m_len rfl (kd_slice rfl) (by decide) ?_
  | refine m_lss rfl rfl (by decide) ?_
  | refine m_nil ?_
 obtain rfl:=hA2.nil_step
 repeat' first
  | refine sm_seq ?_
  | refine sm_block ?_
  | refine sm_skip ?_
  | refine sm_inBlock ?_
  | refine sm_region ?_
  | refine m_move rfl (by decide) ?_
  | refine m_assign rfl (by decide) ?_
  | refine m_len rfl (kd_slice rfl) (by decide) ?_
  | refine m_lss rfl rfl (by decide) ?_
  | refine m_nil ?_
 refine sm_ret ⟨?_,?_⟩
 ·exact int_eq (by simp only[List.length_append,List.length_nil];omega)
 ·simpa only[List.nil_append,List.append_nil,List.append_assoc] using hM2
end Go.Proofs.YtpennhjjnlkbiaaGreat
end
section
namespace Go.Proofs.YtpennhjjnlkbiaaGreat
open Go Go.Lg
set_option linter.unusedSimpArgs false
set_option linter.unusedVariables false
set_option maxHeartbeats 4000000
attribute [local irreducible] SW runL runQ runG runQG FC Ret Ret1
theorem toInt64SL_fc (p:List Nat) (hp:p≠[]) (tk:Tk) (xs:List Int) (hn:cntInt64S xs≤1048576):FC S 9 [] [] [] [.sl tk (xs.map (.int .i64))] (Int64SL p xs) [] []:=by
 have hl:xs.length≤1048576:=hn
 refine fc_body Tryz.func9 rfl (by kernel_rfl) (by simp[Tryz.f9]) fun B=>?_
 simp only[Tryz.ntmps9,enumD,lst0,Nat.reduceAdd]
 refine sw_bnd 0 rfl fun hb0=>?_
 simp only[D.bnd,List.length_map] at hb0
 repeat' first|refine sw_seq ?_|refine sw_block ?_|refine sw_inBlock ?_|refine sw_skip ?_|refine sw_go 0 kp9 fun K hK=>?_|refine fun (K:KT) (hK:KOk S 0 _ _ _ K)=>?_|((first|refine runL_go ?_|refine sw_ret (ret0 ?_)|refine sw_ret ?_);simp (disch:=(refine Om.mk ?_;omega)) only[go_sem,Tryz.results9])|(refine hK.nil ?_;clear hK K;simp only[go_sem])|((first|refine sw_cond rfl ?_ ?_)<;>intro h<;>try simp (disch:=(refine Om.mk ?_;omega)) only[go_sem] at h)|refine sw_exit rfl ?_|refine sw_loopEnd ?_|(with_reducible refine And.intro (by first|omega|(simp only[lens];omega)) ?_)|((with_reducible refine And.intro ?_ ?_);· first|(intro x hx;subst hx;rfl)|exact upR_mem fun _ _=>rfl|exact mapR_mem fun _ _=>rfl|(intro x;refine And.intro ?_ ?_<;>(intros;subst_vars;rfl)))|fail
 refine sw_loopU (ι:=Nat) (fun i=>[(4,.int .i64 i)]) (fun i=>[(7,fillL (fun j=>.int .i64 (xs.getD j default)) (.int .i64 0) i xs.length)]) (fun i=>i≤xs.length∧(True)) (fun i=>xs.length-i) 0 (by(refine covers_mk0 rfl rfl ?_ ?_ ?_ ?_<;>simp (disch:=(refine Om.mk ?_;omega)) only[go_sem]<;>(try omega));exact fillL_start _ _ _) ⟨by omega,?_⟩ (fun i ⟨hi,hj⟩=>?_)
 rotate_left
 simp only[go_sem]
 repeat' first|(refine sw_freezeLabAt 6 3 1 p (xs.map (.int .i64)) rfl rfl (by rw[show i=xs.length by omega];exact(fillL_done (.int .i64) _ xs).trans (flat_ones _ _ (fun _=>rfl)).symm) (by rw[List.length_map]) (cells_one fun _=>rfl) (fillL_memOk (fun _=>rfl) rfl) hp (by simp) ?_;simp only[go_sem])|refine sw_seq ?_|refine sw_block ?_|refine sw_inBlock ?_|refine sw_skip ?_|refine sw_go 0 kp9 fun K hK=>?_|refine fun (K:KT) (hK:KOk S 0 _ _ _ K)=>?_|((first|refine runL_go ?_|refine sw_ret (ret0 ?_)|refine sw_ret ?_);simp (disch:=(refine Om.mk ?_;omega)) only[go_sem,Tryz.results9])|(refine hK.nil ?_;clear hK K;simp only[go_sem])|((first|refine sw_cond rfl ?_ ?_)<;>intro h<;>try simp (disch:=(refine Om.mk ?_;omega)) only[go_sem] at h)|refine sw_exit rfl ?_|refine sw_loopEnd ?_|(with_reducible refine And.intro (by first|omega|(simp only[lens];omega)) ?_)|((with_reducible refine And.intro ?_ ?_);· first|(intro x hx;subst hx;rfl)|exact upR_mem fun _ _=>rfl|exact mapR_mem fun _ _=>rfl|(intro x;refine And.intro ?_ ?_<;>(intros;subst_vars;rfl)))|fail
 ·exact⟨i+1,(by(refine covers_mk0 rfl rfl ?_ ?_ ?_ ?_<;>simp (disch:=(refine Om.mk ?_;omega)) only[go_sem]<;>(try omega));exact fillL_set (fun j=>.int .i64 (xs.getD j default)) _ _ _),by omega,by omega⟩
 ·trivial
theorem toRuleL_fc (p:List Nat) (hp:p≠[]) (x:RuleT) (hn:cntRule x≤1048576):FC S 72 [] [] [] [RuleD x] (RuleL p x) [] []:=by
 have hn':=hn
 simp only[cntRule] at hn'
 refine fc_body Tryz.func72 rfl (by kernel_rfl) (by simp[Tryz.f72]) fun B=>?_
 simp only[Tryz.ntmps72,enumD,lst0,Nat.reduceAdd]
 repeat' first|refine sw_seq ?_|refine sw_skip ?_|refine sw_go 0 kp72 fun K hK=>?_|refine fun (K:KT) (hK:KOk S 0 _ _ _ K)=>?_|((first|refine runL_go ?_|refine sw_ret (ret0 ?_)|refine sw_ret ?_);simp (disch:=(refine Om.mk ?_;omega)) only[go_sem,Tryz.results72])|(refine hK.nil ?_;clear hK K;simp only[go_sem])|refine sw_loopEnd ?_|refine hK.c0 rfl rfl rfl (toInt64SL_fc (p++[0]) (by simp) _ (x.l) (by omega)) rfl rfl rfl ?_|refine hK.c0 rfl rfl rfl (toInt64SL_fc (p++[1]) (by simp) _ (x.r) (by omega)) rfl rfl rfl ?_|(with_reducible refine And.intro (by first|omega|(simp only[lens];omega)) ?_)|fail
 all_goals exact D.le.refl _
theorem toSigL_fc (p:List Nat) (hp:p≠[]) (x:List Int) (hn:cntSig x≤1048576):FC S 36 [] [] [] [SigD x] (SigL p x) [] []:=by
 have hn':=hn
 simp only[cntSig] at hn'
 refine fc_body Tryz.func36 rfl (by kernel_rfl) (by simp[Tryz.f36]) fun B=>?_
 simp only[Tryz.ntmps36,enumD,lst0,Nat.reduceAdd]
 repeat' first|refine sw_seq ?_|refine sw_skip ?_|refine sw_go 0 kp36 fun K hK=>?_|refine fun (K:KT) (hK:KOk S 0 _ _ _ K)=>?_|((first|refine runL_go ?_|refine sw_ret (ret0 ?_)|refine sw_ret ?_);simp (disch:=(refine Om.mk ?_;omega)) only[go_sem,Tryz.results36])|(refine hK.nil ?_;clear hK K;simp only[go_sem])|refine sw_loopEnd ?_|refine hK.c0 rfl rfl rfl (toInt64SL_fc (p++[0]) (by simp) _ (x) (by omega)) rfl rfl rfl ?_|(with_reducible refine And.intro (by first|omega|(simp only[lens];omega)) ?_)|fail
 all_goals exact D.le.refl _
theorem toRuleSL_fc (p:List Nat) (hp:p≠[]) (tk:Tk) (xs:List RuleT) (hn:cntRuleS xs≤1048576):FC S 37 [] [] [] [.sl tk (xs.map RuleD)] (RuleSL p xs) [] []:=by
 have hl:xs.length≤1048576:=by unfold cntRuleS at hn;omega
 have hq:∀i<xs.length,cntRule (xs.getD i default)≤1048576:=fun i hi=>by
  have:=f_le_sum cntRule xs i hi
  unfold cntRuleS at hn;omega
 refine fc_body Tryz.func37 rfl (by kernel_rfl) (by simp[Tryz.f37]) fun B=>?_
 simp only[Tryz.ntmps37,enumD,lst0,Nat.reduceAdd]
 refine sw_bnd 0 rfl fun hb0=>?_
 simp only[D.bnd,List.length_map] at hb0
 repeat' first|refine sw_seq ?_|refine sw_block ?_|refine sw_inBlock ?_|refine sw_skip ?_|refine sw_go 0 kp37 fun K hK=>?_|refine fun (K:KT) (hK:KOk S 0 _ _ _ K)=>?_|((first|refine runL_go ?_|refine sw_ret (ret0 ?_)|refine sw_ret ?_);simp (disch:=(refine Om.mk ?_;omega)) only[go_sem,Tryz.results37])|(refine hK.nil ?_;clear hK K;simp only[go_sem])|((first|refine sw_cond rfl ?_ ?_)<;>intro h<;>try simp (disch:=(refine Om.mk ?_;omega)) only[go_sem] at h)|refine sw_exit rfl ?_|refine sw_loopEnd ?_|(with_reducible refine And.intro (by first|omega|(simp only[lens];omega)) ?_)|((with_reducible refine And.intro ?_ ?_);· first|(intro x hx;subst hx;rfl)|exact upR_mem fun _ _=>rfl|exact mapR_mem fun _ _=>rfl|(intro x;refine And.intro ?_ ?_<;>(intros;subst_vars;rfl)))|fail
 refine sw_loopU (ι:=Nat) (fun i=>[(4,.int .i64 i)]) (fun i=>[(7,fillF (fun j=>[Int64SL ((p++[j])++[0]) (((xs.getD j default)).l),Int64SL ((p++[j])++[1]) (((xs.getD j default)).r)]) [.sl .nil [],.sl .nil []] i xs.length)]) (fun i=>i≤xs.length∧(True)) (fun i=>xs.length-i) 0 (by(refine covers_mk0 rfl rfl ?_ ?_ ?_ ?_<;>simp (disch:=(refine Om.mk ?_;omega)) only[go_sem]<;>(try omega));exact fillF_start _ _ _) ⟨by omega,?_⟩ (fun i ⟨hi,hj⟩=>?_)
 rotate_left
 simp only[go_sem]
 have hm:i*2+2≤2*xs.length∨xs.length≤i:=by omega
 repeat' first|(refine sw_freezeLabAt 6 3 2 p (mapR (fun i y=>RuleL (p++[i]) y) xs) rfl rfl (by rw[show i=xs.length by omega];exact fillF_doneR (fun i y=>RuleL (p++[i]) y) _ xs) (by rw[mapR_length]) (mapR_cells fun _ _=>rfl) (fillF_memOk (fun j d hd=>by revert d hd;simp[D.memOk]) (by simp[D.memOk])) hp (by simp) ?_;simp only[go_sem])|refine sw_seq ?_|refine sw_block ?_|refine sw_inBlock ?_|refine sw_skip ?_|refine sw_go 0 kp37 fun K hK=>?_|refine fun (K:KT) (hK:KOk S 0 _ _ _ K)=>?_|((first|refine runL_go ?_|refine sw_ret (ret0 ?_)|refine sw_ret ?_);simp (disch:=(refine Om.mk ?_;omega)) only[go_sem,Tryz.results37])|(refine hK.nil ?_;clear hK K;simp only[go_sem])|((first|refine sw_cond rfl ?_ ?_)<;>intro h<;>try simp (disch:=(refine Om.mk ?_;omega)) only[go_sem] at h)|refine sw_exit rfl ?_|refine sw_loopEnd ?_|refine hK.c0 rfl rfl rfl (toRuleL_fc (p++[i]) (by simp) (xs.getD i default) (by exact hq i (by omega))) rfl rfl rfl ?_|(with_reducible refine And.intro (by first|omega|(simp only[lens];omega)) ?_)|((with_reducible refine And.intro ?_ ?_);· first|(intro x hx;subst hx;rfl)|exact upR_mem fun _ _=>rfl|exact mapR_mem fun _ _=>rfl|(intro x;refine And.intro ?_ ?_<;>(intros;subst_vars;rfl)))|fail
 ·exact⟨i+1,(by(refine covers_mk0 rfl rfl ?_ ?_ ?_ ?_<;>simp (disch:=(refine Om.mk ?_;omega)) only[go_sem]<;>(try omega));exact fillF_put (f:=(fun j=>[Int64SL ((p++[j])++[0]) (((xs.getD j default)).l),Int64SL ((p++[j])++[1]) (((xs.getD j default)).r)])) (fun _=>rfl) rfl (by omega)),by omega,by omega⟩
 ·trivial
theorem toSystemL_fc (p:List Nat) (hp:p≠[]) (x:SystemT) (hn:cntSystem x≤1048576):FC S 8 [] [] [] [SystemD x] (SystemL p x) [] []:=by
 have hn':=hn
 simp only[cntSystem] at hn'
 refine fc_body Tryz.func8 rfl (by kernel_rfl) (by simp[Tryz.f8]) fun B=>?_
 simp only[Tryz.ntmps8,enumD,lst0,Nat.reduceAdd]
 repeat' first|refine sw_seq ?_|refine sw_skip ?_|refine sw_go 0 kp8 fun K hK=>?_|refine fun (K:KT) (hK:KOk S 0 _ _ _ K)=>?_|((first|refine runL_go ?_|refine sw_ret (ret0 ?_)|refine sw_ret ?_);simp (disch:=(refine Om.mk ?_;omega)) only[go_sem,Tryz.results8])|(refine hK.nil ?_;clear hK K;simp only[go_sem])|refine sw_loopEnd ?_|refine hK.c0 rfl rfl rfl (toSigL_fc p hp (x.sig) (by omega)) rfl rfl rfl ?_|refine hK.c0 rfl rfl rfl (toRuleSL_fc (p++[1]) (by simp) _ (x.rules) (by omega)) rfl rfl rfl ?_|(with_reducible refine And.intro (by first|omega|(simp only[lens];omega)) ?_)|fail
 all_goals exact D.le.refl _
end Go.Proofs.YtpennhjjnlkbiaaGreat
end
