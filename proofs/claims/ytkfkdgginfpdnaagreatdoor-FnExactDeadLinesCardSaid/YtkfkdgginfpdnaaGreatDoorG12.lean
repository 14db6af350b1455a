/-
  MFnExactDeadLines, LFnExactDeadLines, one behind the other.
-/
import Derived.Test.YtkfkdgginfpdnaaGreatDoorSet
import Derived.Test.YtkfkdgginfpdnaaGreatDoorG2
import Derived.Test.YtkfkdgginfpdnaaGreatDoorG0
namespace Go.Proofs.YtkfkdgginfpdnaaGreatDoor
open Go Go.Lg
set_option linter.unusedSimpArgs false
set_option linter.unusedVariables false
set_option maxHeartbeats 4000000
section
set_option maxRecDepth 20000
attribute [local irreducible] OpsM SM
attribute [go_sem] Tryz.results21 Tryz.ntmps21
theorem markInt64S_mk:MKs S.P 21 shInt64S:=by
 refine⟨⟨_,Tryz.func21,by kernel_rfl,rfl⟩,fun lim w v qs k h hW h0 hb=>?_⟩
 refine calls_of_sm (vals:=[v,Value.int .i64 k]) (t:=4) Tryz.func21 rfl (by simp[Tryz.f21]) rfl (R:=fun E' w'=>Lg.look E' 4=some (Value.int .i64 (k+qs.length))∧w'=wrs w qs k) ?_ (fun E' w' h=>⟨_,h.1,rfl,h.2⟩)
 simp only[Tryz.ntmps21,enumV]
 repeat' first
  | refine sm_seq ?_
  | refine sm_block ?_
  | refine sm_skip ?_
  | refine sm_inBlock ?_
  | refine sm_region ?_
  | refine m_move rfl (by decide) ?_
  | refine m_assign rfl (by decide) ?_
  | refine m_len rfl (kd_slice rfl) (by decide) ?_
  | refine m_lss rfl rfl (by decide) ?_
  | refine m_nil ?_
 refine sm_mark_loop h hW h0 hb (by intro p hp;simp only[List.mem_cons,List.not_mem_nil,or_false] at hp;rcases hp with rfl|rfl|rfl<;>rfl) fun A m cp hv hm i k' wi J hk0 hkm hi hx hend=>?_
 subst hv
 simp only[maxLen] at hm
 repeat' first
  | refine sm_seq ?_
  | refine sm_block ?_
  | refine sm_skip ?_
  | refine sm_inBlock ?_
  | refine sm_region ?_
  | refine m_move rfl (by decide) ?_
  | refine m_assign rfl (by decide) ?_
  | refine m_len rfl (kd_slice rfl) (by decide) ?_
  | refine m_lss rfl rfl (by decide) ?_
  | refine m_nil ?_
 refine sm_cond rfl (fun hc=>?_) (fun hc=>?_)
 ·have hlt:i<m:=by simpa using hc
  obtain⟨b,o,l,rfl,hF0,hw0,hkb,hJ⟩:=hx hlt
  have hk0':=hk0
  obtain⟨r1,m1,rfl,hm1,-,hn1⟩:=LvF.cell_step hF0
  have ha1:=hw0 _ List.mem_cons_self
  have hb1:=fun q hq=>hw0 q (List.mem_cons_of_mem _ hq)
  simp only[List.length_cons] at hkb
  repeat' first
   | refine m_indexAddr rfl rfl (kd_slice rfl) (fun w=>Lg.run_sizeOf (S.ok _ _ rfl) w) hlt (by decide) ?_
   | refine m_fieldAddr (S:=S) rfl rfl rfl rfl rfl (by decide) (by decide) ?_
   | refine m_store (S:=S) rfl rfl rfl rfl rfl ha1 hm1 ?_
   | refine m_add rfl rfl (by omega) (by decide) ?_
   | refine sm_seq ?_
   | refine sm_block ?_
   | refine sm_skip ?_
   | refine sm_inBlock ?_
   | refine sm_region ?_
   | refine m_move rfl (by decide) ?_
   | refine m_assign rfl (by decide) ?_
   | refine m_len rfl (kd_slice rfl) (by decide) ?_
   | refine m_lss rfl rfl (by decide) ?_
   | refine m_nil ?_
  obtain⟨hF1,hw1⟩:=hn1 (k') ha1 hb1
  obtain rfl:=hF1.nil_step
  repeat' first
   | refine m_add rfl rfl (by omega) (by decide) ?_
   | refine sm_seq ?_
   | refine sm_block ?_
   | refine sm_skip ?_
   | refine sm_inBlock ?_
   | refine sm_region ?_
   | refine m_move rfl (by decide) ?_
   | refine m_assign rfl (by decide) ?_
   | refine m_len rfl (kd_slice rfl) (by decide) ?_
   | refine m_lss rfl rfl (by decide) ?_
   | refine m_nil ?_
  refine sm_loopEnd (Eq.mp (congrArg (J _) ?_) (hJ _ ?_))
  ·first|rfl|(simp only[wrs_append,wrs,List.append_nil];done)|(simp only[wrs_append,wrs,List.append_nil];rfl)
  intro p hp
  simp only[List.mem_cons,List.not_mem_nil,or_false] at hp
  rcases hp with rfl|rfl|rfl
  ·rfl
  ·exact int_eq (by simp only[List.length_append,List.length_cons,List.length_nil];omega)
  ·rfl
 ·have hlt:¬i<m:=by simpa using hc
  obtain⟨rfl,rfl⟩:=hend (by omega)
  refine sm_exit rfl ?_
  repeat' first
   | refine sm_seq ?_
   | refine sm_block ?_
   | refine sm_skip ?_
   | refine sm_inBlock ?_
   | refine sm_region ?_
   | refine m_move rfl (by decide) ?_
   | refine m_assign rfl (by decide) ?_
   | refine m_len rfl (kd_slice rfl) (by decide) ?_
   | refine m_lss rfl rfl (by decide) ?_
   | refine m_nil ?_
  exact sm_ret ⟨rfl,rfl⟩
attribute [go_sem] Tryz.results22 Tryz.ntmps22
theorem heldInt64S_mk:HDs S.P 22 shInt64S:=by
 refine⟨⟨_,Tryz.func22,by kernel_rfl,rfl⟩,fun lim w v qs k h hW h0 hb=>?_⟩
 refine calls_of_sm (vals:=[v,Value.int .i64 k]) (t:=4) Tryz.func22 rfl (by simp[Tryz.f22]) rfl (R:=fun E' w'=>Lg.look E' 4=some (Value.int .i64 (k+qs.length))∧w'=w) ?_ (fun E' w' h=>⟨_,h.1,rfl,h.2⟩)
 simp only[Tryz.ntmps22,enumV]
 repeat' first
  | refine sm_seq ?_
  | refine sm_block ?_
  | refine sm_skip ?_
  | refine sm_inBlock ?_
  | refine sm_region ?_
  | refine m_move rfl (by decide) ?_
  | refine m_assign rfl (by decide) ?_
  | refine m_len rfl (kd_slice rfl) (by decide) ?_
  | refine m_lss rfl rfl (by decide) ?_
  | refine m_nil ?_
 refine sm_held_loop h hW h0 hb (by intro p hp;simp only[List.mem_cons,List.not_mem_nil,or_false] at hp;rcases hp with rfl|rfl|rfl<;>rfl) fun A m cp hv hm i k' J hk0 hkm hi hx hend=>?_
 subst hv
 simp only[maxLen] at hm
 repeat' first
  | refine sm_seq ?_
  | refine sm_block ?_
  | refine sm_skip ?_
  | refine sm_inBlock ?_
  | refine sm_region ?_
  | refine m_move rfl (by decide) ?_
  | refine m_assign rfl (by decide) ?_
  | refine m_len rfl (kd_slice rfl) (by decide) ?_
  | refine m_lss rfl rfl (by decide) ?_
  | refine m_nil ?_
 refine sm_cond rfl (fun hc=>?_) (fun hc=>?_)
 ·have hlt:i<m:=by simpa using hc
  obtain⟨b,o,l,rfl,hF0,hw0,hkb,hJ⟩:=hx hlt
  obtain⟨r1,m1,rfl,hm1,hF1,-⟩:=LvF.cell_step hF0
  have ha1:=(holds_head hw0).int hm1
  have hw1:=holds_tail hw0
  simp only[List.length_cons] at hkb
  repeat' first
   | refine m_indexAddr rfl rfl (kd_slice rfl) (fun w=>Lg.run_sizeOf (S.ok _ _ rfl) w) hlt (by decide) ?_
   | refine m_fieldAddr (S:=S) rfl rfl rfl rfl rfl (by decide) (by decide) ?_
   | refine m_load (S:=S) rfl rfl rfl rfl ha1 (by decide) ?_
   | refine m_neq rfl rfl (by decide) ?_
   | refine sm_seq ?_
   | refine sm_block ?_
   | refine sm_skip ?_
   | refine sm_inBlock ?_
   | refine sm_region ?_
   | refine m_move rfl (by decide) ?_
   | refine m_assign rfl (by decide) ?_
   | refine m_len rfl (kd_slice rfl) (by decide) ?_
   | refine m_lss rfl rfl (by decide) ?_
   | refine m_nil ?_
  refine sm_cond rfl (fun hc=>absurd hc (by simp)) (fun _=>?_)
  repeat' first
   | refine m_add rfl rfl (by omega) (by decide) ?_
   | refine sm_seq ?_
   | refine sm_block ?_
   | refine sm_skip ?_
   | refine sm_inBlock ?_
   | refine sm_region ?_
   | refine m_move rfl (by decide) ?_
   | refine m_assign rfl (by decide) ?_
   | refine m_len rfl (kd_slice rfl) (by decide) ?_
   | refine m_lss rfl rfl (by decide) ?_
   | refine m_nil ?_
  obtain rfl:=hF1.nil_step
  repeat' first
   | refine m_add rfl rfl (by omega) (by decide) ?_
   | refine sm_seq ?_
   | refine sm_block ?_
   | refine sm_skip ?_
   | refine sm_inBlock ?_
   | refine sm_region ?_
   | refine m_move rfl (by decide) ?_
   | refine m_assign rfl (by decide) ?_
   | refine m_len rfl (kd_slice rfl) (by decide) ?_
   | refine m_lss rfl rfl (by decide) ?_
   | refine m_nil ?_
  refine sm_loopEnd (hJ _ ?_)
  intro p hp
  simp only[List.mem_cons,List.not_mem_nil,or_false] at hp
  rcases hp with rfl|rfl|rfl
  ·rfl
  ·exact int_eq (by simp only[List.length_append,List.length_cons,List.length_nil];omega)
  ·rfl
 ·have hlt:¬i<m:=by simpa using hc
  obtain rfl:=hend (by omega)
  refine sm_exit rfl ?_
  repeat' first
   | refine sm_seq ?_
   | refine sm_block ?_
   | refine sm_skip ?_
   | refine sm_inBlock ?_
   | refine sm_region ?_
   | refine m_move rfl (by decide) ?_
   | refine m_assign rfl (by decide) ?_
   | refine m_len rfl (kd_slice rfl) (by decide) ?_
   | refine m_lss rfl rfl (by decide) ?_
   | refine m_nil ?_
  exact sm_ret ⟨rfl,rfl⟩
attribute [go_sem] Tryz.results113 Tryz.ntmps113
theorem markInt64SS_mk:MKs S.P 113 shInt64SS:=by
 refine⟨⟨_,Tryz.func113,by kernel_rfl,rfl⟩,fun lim w v qs k h hW h0 hb=>?_⟩
 refine calls_of_sm (vals:=[v,Value.int .i64 k]) (t:=4) Tryz.func113 rfl (by simp[Tryz.f113]) rfl (R:=fun E' w'=>Lg.look E' 4=some (Value.int .i64 (k+qs.length))∧w'=wrs w qs k) ?_ (fun E' w' h=>⟨_,h.1,rfl,h.2⟩)
 simp only[Tryz.ntmps113,enumV]
 repeat' first
  | refine sm_seq ?_
  | refine sm_block ?_
  | refine sm_skip ?_
  | refine sm_inBlock ?_
  | refine sm_region ?_
  | refine m_move rfl (by decide) ?_
  | refine m_assign rfl (by decide) ?_
  | refine m_len rfl (kd_slice rfl) (by decide) ?_
  | refine m_lss rfl rfl (by decide) ?_
  | refine m_nil ?_
 refine sm_mark_loop h hW h0 hb (by intro p hp;simp only[List.mem_cons,List.not_mem_nil,or_false] at hp;rcases hp with rfl|rfl|rfl<;>rfl) fun A m cp hv hm i k' wi J hk0 hkm hi hx hend=>?_
 subst hv
 simp only[maxLen] at hm
 repeat' first
  | refine sm_seq ?_
  | refine sm_block ?_
  | refine sm_skip ?_
  | refine sm_inBlock ?_
  | refine sm_region ?_
  | refine m_move rfl (by decide) ?_
  | refine m_assign rfl (by decide) ?_
  | refine m_len rfl (kd_slice rfl) (by decide) ?_
  | refine m_lss rfl rfl (by decide) ?_
  | refine m_nil ?_
 refine sm_cond rfl (fun hc=>?_) (fun hc=>?_)
 ·have hlt:i<m:=by simpa using hc
  obtain⟨b,o,l,rfl,hF0,hw0,hkb,hJ⟩:=hx hlt
  have hk0':=hk0
  obtain⟨v1,l1,r1,rfl,hc1,hL1,-,hn1⟩:=LvF.sub_step hF0
  have ha1:=fun q hq=>hw0 q (List.mem_append_left _ hq)
  have hb1:=fun q hq=>hw0 q (List.mem_append_right _ hq)
  simp only[List.length_append] at hkb
  repeat' first
   | refine m_indexAddr rfl rfl (kd_slice rfl) (fun w=>Lg.run_sizeOf (S.ok _ _ rfl) w) hlt (by decide) ?_
   | refine m_fieldAddr (S:=S) rfl rfl rfl rfl rfl (by decide) (by decide) ?_
   | refine m_load (S:=S) rfl rfl rfl rfl hc1 (by decide) ?_
   | refine sm_seq ?_
   | refine sm_block ?_
   | refine sm_skip ?_
   | refine sm_inBlock ?_
   | refine sm_region ?_
   | refine m_move rfl (by decide) ?_
   | refine m_assign rfl (by decide) ?_
   | refine m_len rfl (kd_slice rfl) (by decide) ?_
   | refine m_lss rfl rfl (by decide) ?_
   | refine m_nil ?_
  refine m_call markInt64S_mk.1 rfl rfl (markInt64S_mk.2 lim _ v1 l1 _ hL1 ha1 (by omega) (by omega)) (by decide) ?_
  rintro _ _ ⟨rfl,rfl⟩
  refine⟨_,rfl,?_⟩
  obtain⟨hF1,hw1⟩:=hn1 (k') ha1 hb1
  obtain rfl:=hF1.nil_step
  repeat' first
   | refine m_add rfl rfl (by omega) (by decide) ?_
   | refine sm_seq ?_
   | refine sm_block ?_
   | refine sm_skip ?_
   | refine sm_inBlock ?_
   | refine sm_region ?_
   | refine m_move rfl (by decide) ?_
   | refine m_assign rfl (by decide) ?_
   | refine m_len rfl (kd_slice rfl) (by decide) ?_
   | refine m_lss rfl rfl (by decide) ?_
   | refine m_nil ?_
  refine sm_loopEnd (Eq.mp (congrArg (J _) ?_) (hJ _ ?_))
  ·first|rfl|(simp only[wrs_append,wrs,List.append_nil];done)|(simp only[wrs_append,wrs,List.append_nil];rfl)
  intro p hp
  simp only[List.mem_cons,List.not_mem_nil,or_false] at hp
  rcases hp with rfl|rfl|rfl
  ·rfl
  ·exact int_eq (by simp only[List.length_append,List.length_cons,List.length_nil];omega)
  ·rfl
 ·have hlt:¬i<m:=by simpa using hc
  obtain⟨rfl,rfl⟩:=hend (by omega)
  refine sm_exit rfl ?_
  repeat' first
   | refine sm_seq ?_
   | refine sm_block ?_
   | refine sm_skip ?_
   | refine sm_inBlock ?_
   | refine sm_region ?_
   | refine m_move rfl (by decide) ?_
   | refine m_assign rfl (by decide) ?_
   | refine m_len rfl (kd_slice rfl) (by decide) ?_
   | refine m_lss rfl rfl (by decide) ?_
   | refine m_nil ?_
  exact sm_ret ⟨rfl,rfl⟩
attribute [go_sem] Tryz.results57 Tryz.ntmps57
theorem markSig_mk:MKa S.P 57 fsSig:=by
 refine⟨⟨_,Tryz.func57,by kernel_rfl,rfl⟩,fun lim w vs qs k hl h hW h0 hb=>?_⟩
 simp only[fsSig,Fs.len] at hl
 rcases vs with _|⟨v0,_|⟨_,_⟩⟩<;>simp at hl
 clear hl
 refine calls_of_sm (vals:=[Value.agg [v0].toArray,Value.int .i64 k]) (t:=4) Tryz.func57 rfl (by simp[Tryz.f57]) rfl (R:=fun E' w'=>Lg.look E' 4=some (Value.int .i64 (k+qs.length))∧Marked w qs k w') ?_ (fun E' w' h=>⟨_,h.1,rfl,h.2⟩)
 simp only[Tryz.ntmps57,enumV]
 repeat' first
  | refine m_box rfl (by decide) ?_
  | refine sm_seq ?_
  | refine sm_block ?_
  | refine sm_skip ?_
  | refine sm_inBlock ?_
  | refine sm_region ?_
  | refine m_move rfl (by decide) ?_
  | refine m_assign rfl (by decide) ?_
  | refine m_len rfl (kd_slice rfl) (by decide) ?_
  | refine m_lss rfl rfl (by decide) ?_
  | refine m_nil ?_
 have hx0:∀q∈([]:List (Nat×Nat)),MkC w q:=by simp
 have hM0:Marked w [] k (w.alloc (.cells [v0].toArray 30)):=Marked.of_grown (Grown.alloc w _ _) k
 have hB0:∀(j:Nat) u,[v0][j]?=some u→cellAt (w.alloc (.cells [v0].toArray 30)) w.heap.size j=some u:=fun j u hj=>by rw[cellAt_alloc];simpa using hj
 have hA0:=h
 have hw0:=hW
 unfold fsSig at hA0
 obtain⟨l1,r1,rfl,hL1,hA1⟩:=LvA.sub_step hA0
 simp only[List.length_append] at hb
 have hi1:∀q∈l1,MkC w q:=fun q hq=>(Lv.ints _ _ _ hL1 q hq).2
 repeat' first
  | refine m_fieldAddr (S:=S) rfl rfl rfl rfl rfl (by decide) (by decide) ?_
  | refine m_load (S:=S) rfl rfl rfl rfl (hB0 0 _ rfl) (by decide) ?_
  | refine sm_seq ?_
  | refine sm_block ?_
  | refine sm_skip ?_
  | refine sm_inBlock ?_
  | refine sm_region ?_
  | refine m_move rfl (by decide) ?_
  | refine m_assign rfl (by decide) ?_
  | refine m_len rfl (kd_slice rfl) (by decide) ?_
  | refine m_lss rfl rfl (by decide) ?_
  | refine m_nil ?_
 have ha1:=fun q hq=>hw0 q (List.mem_append_left _ hq)
 have hw1:=fun q hq=>hw0 q (List.mem_append_right _ hq)
 have hI1:=hM0.intW lim hx0
 refine m_call markInt64S_mk.1 rfl rfl (markInt64S_mk.2 lim _ v0 l1 _ (Lv.mono hI1 _ _ _ hL1) (fun q hq=>hM0.Wr (ha1 q hq)) (by omega) (by omega)) (by decide) ?_
 rintro _ w1 ⟨rfl,hm1'⟩
 refine⟨_,rfl,?_⟩
 have hm1:=Marked.of_wrs (k) (fun q (hq:q∈l1)=>hM0.Wr (ha1 q hq)) (fun q hq=>(Lv.ints _ _ _ (Lv.mono hI1 _ _ _ hL1) q hq).2)
 rw[←hm1'] at hm1
 have hB1:=box_stands hB0 hm1 ha1
 have hM1:=hM0.append (l2:=l1) (w'':=w1) (by simpa only[List.nil_append,List.length_append,List.length_nil,Int.natCast_add,Int.natCast_zero,Int.zero_add,Int.add_zero,Int.add_assoc] using hm1)
 have hx1:=fun q (hq:q∈_++l1)=>(List.mem_append.1 hq).elim (hx0 q) (hi1 q)
 repeat' first
  | refine sm_seq ?_
  | refine sm_block ?_
  | refine sm_skip ?_
  | refine sm_inBlock ?_
  | refine sm_region ?_
  | refine m_move rfl (by decide) ?_
  | refine m_assign rfl (by decide) ?_
  | refine m_len rfl (kd_slice rfl) (by decide) ?_
  | refine m_lss rfl rfl (by decide) ?_
  | refine m_nil ?_
 obtain rfl:=hA1.nil_step
 repeat' first
  | refine sm_seq ?_
  | refine sm_block ?_
  | refine sm_skip ?_
  | refine sm_inBlock ?_
  | refine sm_region ?_
  | refine m_move rfl (by decide) ?_
  | refine m_assign rfl (by decide) ?_
  | refine m_len rfl (kd_slice rfl) (by decide) ?_
  | refine m_lss rfl rfl (by decide) ?_
  | refine m_nil ?_
 refine sm_ret ⟨?_,?_⟩
 ·exact int_eq (by simp only[List.length_append,List.length_nil];omega)
 ·simpa only[List.nil_append,List.append_nil,List.append_assoc] using hM1
attribute [go_sem] Tryz.results58 Tryz.ntmps58
theorem markLineS_mk:MKs S.P 58 shLineS:=by
 refine⟨⟨_,Tryz.func58,by kernel_rfl,rfl⟩,fun lim w v qs k h hW h0 hb=>?_⟩
 refine calls_of_sm (vals:=[v,Value.int .i64 k]) (t:=4) Tryz.func58 rfl (by simp[Tryz.f58]) rfl (R:=fun E' w'=>Lg.look E' 4=some (Value.int .i64 (k+qs.length))∧w'=wrs w qs k) ?_ (fun E' w' h=>⟨_,h.1,rfl,h.2⟩)
 simp only[Tryz.ntmps58,enumV]
 repeat' first
  | refine sm_seq ?_
  | refine sm_block ?_
  | refine sm_skip ?_
  | refine sm_inBlock ?_
  | refine sm_region ?_
  | refine m_move rfl (by decide) ?_
  | refine m_assign rfl (by decide) ?_
  | refine m_len rfl (kd_slice rfl) (by decide) ?_
  | refine m_lss rfl rfl (by decide) ?_
  | refine m_nil ?_
 refine sm_mark_loop h hW h0 hb (by intro p hp;simp only[List.mem_cons,List.not_mem_nil,or_false] at hp;rcases hp with rfl|rfl|rfl<;>rfl) fun A m cp hv hm i k' wi J hk0 hkm hi hx hend=>?_
 subst hv
 simp only[maxLen] at hm
 repeat' first
  | refine sm_seq ?_
  | refine sm_block ?_
  | refine sm_skip ?_
  | refine sm_inBlock ?_
  | refine sm_region ?_
  | refine m_move rfl (by decide) ?_
  | refine m_assign rfl (by decide) ?_
  | refine m_len rfl (kd_slice rfl) (by decide) ?_
  | refine m_lss rfl rfl (by decide) ?_
  | refine m_nil ?_
 refine sm_cond rfl (fun hc=>?_) (fun hc=>?_)
 ·have hlt:i<m:=by simpa using hc
  obtain⟨b,o,l,rfl,hF0,hw0,hkb,hJ⟩:=hx hlt
  have hk0':=hk0
  obtain⟨r1,m1,rfl,hm1,-,hn1⟩:=LvF.cell_step hF0
  have ha1:=hw0 _ List.mem_cons_self
  have hb1:=fun q hq=>hw0 q (List.mem_cons_of_mem _ hq)
  simp only[List.length_cons] at hkb
  repeat' first
   | refine m_indexAddr rfl rfl (kd_slice rfl) (fun w=>Lg.run_sizeOf (S.ok _ _ rfl) w) hlt (by decide) ?_
   | refine m_fieldAddr (S:=S) rfl rfl rfl rfl rfl (by decide) (by decide) ?_
   | refine m_store (S:=S) rfl rfl rfl rfl rfl ha1 hm1 ?_
   | refine m_add rfl rfl (by omega) (by decide) ?_
   | refine sm_seq ?_
   | refine sm_block ?_
   | refine sm_skip ?_
   | refine sm_inBlock ?_
   | refine sm_region ?_
   | refine m_move rfl (by decide) ?_
   | refine m_assign rfl (by decide) ?_
   | refine m_len rfl (kd_slice rfl) (by decide) ?_
   | refine m_lss rfl rfl (by decide) ?_
   | refine m_nil ?_
  obtain⟨hF1,hw1⟩:=hn1 (k') ha1 hb1
  obtain⟨v2,l2,r2,rfl,hc2,hL2,-,hn2⟩:=LvF.sub_step hF1
  have ha2:=fun q hq=>hw1 q (List.mem_append_left _ hq)
  have hb2:=fun q hq=>hw1 q (List.mem_append_right _ hq)
  simp only[List.length_append] at hkb
  repeat' first
   | refine m_indexAddr rfl rfl (kd_slice rfl) (fun w=>Lg.run_sizeOf (S.ok _ _ rfl) w) hlt (by decide) ?_
   | refine m_fieldAddr (S:=S) rfl rfl rfl rfl rfl (by decide) (by decide) ?_
   | refine m_load (S:=S) rfl rfl rfl rfl hc2 (by decide) ?_
   | refine sm_seq ?_
   | refine sm_block ?_
   | refine sm_skip ?_
   | refine sm_inBlock ?_
   | refine sm_region ?_
   | refine m_move rfl (by decide) ?_
   | refine m_assign rfl (by decide) ?_
   | refine m_len rfl (kd_slice rfl) (by decide) ?_
   | refine m_lss rfl rfl (by decide) ?_
   | refine m_nil ?_
  refine m_call markInt64SS_mk.1 rfl rfl (markInt64SS_mk.2 lim _ v2 l2 _ hL2 ha2 (by omega) (by omega)) (by decide) ?_
  rintro _ _ ⟨rfl,rfl⟩
  refine⟨_,rfl,?_⟩
  obtain⟨hF2,hw2⟩:=hn2 (k'+1) ha2 hb2
  obtain⟨v3,l3,r3,rfl,hc3,hL3,-,hn3⟩:=LvF.sub_step hF2
  have ha3:=fun q hq=>hw2 q (List.mem_append_left _ hq)
  have hb3:=fun q hq=>hw2 q (List.mem_append_right _ hq)
  simp only[List.length_append] at hkb
  repeat' first
   | refine m_indexAddr rfl rfl (kd_slice rfl) (fun w=>Lg.run_sizeOf (S.ok _ _ rfl) w) hlt (by decide) ?_
   | refine m_fieldAddr (S:=S) rfl rfl rfl rfl rfl (by decide) (by decide) ?_
   | refine m_load (S:=S) rfl rfl rfl rfl hc3 (by decide) ?_
   | refine sm_seq ?_
   | refine sm_block ?_
   | refine sm_skip ?_
   | refine sm_inBlock ?_
   | refine sm_region ?_
   | refine m_move rfl (by decide) ?_
   | refine m_assign rfl (by decide) ?_
   | refine m_len rfl (kd_slice rfl) (by decide) ?_
   | refine m_lss rfl rfl (by decide) ?_
   | refine m_nil ?_
  refine m_call markInt64S_mk.1 rfl rfl (markInt64S_mk.2 lim _ v3 l3 _ hL3 ha3 (by omega) (by omega)) (by decide) ?_
  rintro _ _ ⟨rfl,rfl⟩
  refine⟨_,rfl,?_⟩
  obtain⟨hF3,hw3⟩:=hn3 (k'+1+(l2.length:Int)) ha3 hb3
  obtain rfl:=hF3.nil_step
  repeat' first
   | refine m_add rfl rfl (by omega) (by decide) ?_
   | refine sm_seq ?_
   | refine sm_block ?_
   | refine sm_skip ?_
   | refine sm_inBlock ?_
   | refine sm_region ?_
   | refine m_move rfl (by decide) ?_
   | refine m_assign rfl (by decide) ?_
   | refine m_len rfl (kd_slice rfl) (by decide) ?_
   | refine m_lss rfl rfl (by decide) ?_
   | refine m_nil ?_
  refine sm_loopEnd (Eq.mp (congrArg (J _) ?_) (hJ _ ?_))
  ·first|rfl|(simp only[wrs_append,wrs,List.append_nil];done)|(simp only[wrs_append,wrs,List.append_nil];rfl)
  intro p hp
  simp only[List.mem_cons,List.not_mem_nil,or_false] at hp
  rcases hp with rfl|rfl|rfl
  ·rfl
  ·exact int_eq (by simp only[List.length_append,List.length_cons,List.length_nil];omega)
  ·rfl
 ·have hlt:¬i<m:=by simpa using hc
  obtain⟨rfl,rfl⟩:=hend (by omega)
  refine sm_exit rfl ?_
  repeat' first
   | refine sm_seq ?_
   | refine sm_block ?_
   | refine sm_skip ?_
   | refine sm_inBlock ?_
   | refine sm_region ?_
   | refine m_move rfl (by decide) ?_
   | refine m_assign rfl (by decide) ?_
   | refine m_len rfl (kd_slice rfl) (by decide) ?_
   | refine m_lss rfl rfl (by decide) ?_
   | refine m_nil ?_
  exact sm_ret ⟨rfl,rfl⟩
attribute [go_sem] Tryz.results20 Tryz.ntmps20
theorem markFront_mk:MKa S.P 20 fsFront:=by
 refine⟨⟨_,Tryz.func20,by kernel_rfl,rfl⟩,fun lim w vs qs k hl h hW h0 hb=>?_⟩
 simp only[fsFront,Fs.len] at hl
 rcases vs with _|⟨v0,_|⟨v1,_|⟨v2,_|⟨_,_⟩⟩⟩⟩<;>simp at hl
 clear hl
 refine calls_of_sm (vals:=[Value.agg [v0,v1,v2].toArray,Value.int .i64 k]) (t:=4) Tryz.func20 rfl (by simp[Tryz.f20]) rfl (R:=fun E' w'=>Lg.look E' 4=some (Value.int .i64 (k+qs.length))∧Marked w qs k w') ?_ (fun E' w' h=>⟨_,h.1,rfl,h.2⟩)
 simp only[Tryz.ntmps20,enumV]
 repeat' first
  | refine m_box rfl (by decide) ?_
  | refine sm_seq ?_
  | refine sm_block ?_
  | refine sm_skip ?_
  | refine sm_inBlock ?_
  | refine sm_region ?_
  | refine m_move rfl (by decide) ?_
  | refine m_assign rfl (by decide) ?_
  | refine m_len rfl (kd_slice rfl) (by decide) ?_
  | refine m_lss rfl rfl (by decide) ?_
  | refine m_nil ?_
 have hx0:∀q∈([]:List (Nat×Nat)),MkC w q:=by simp
 have hM0:Marked w [] k (w.alloc (.cells [v0,v1,v2].toArray 48)):=Marked.of_grown (Grown.alloc w _ _) k
 have hB0:∀(j:Nat) u,[v0,v1,v2][j]?=some u→cellAt (w.alloc (.cells [v0,v1,v2].toArray 48)) w.heap.size j=some u:=fun j u hj=>by rw[cellAt_alloc];simpa using hj
 have hA0:=h
 have hw0:=hW
 unfold fsFront at hA0
 obtain⟨l1,r1,rfl,hL1,hA1⟩:=LvA.sub_step hA0
 simp only[List.length_append] at hb
 have hi1:∀q∈l1,MkC w q:=fun q hq=>(Lv.ints _ _ _ hL1 q hq).2
 repeat' first
  | refine m_fieldAddr (S:=S) rfl rfl rfl rfl rfl (by decide) (by decide) ?_
  | refine m_loadA (S:=S) (vs:=[v0]) rfl rfl rfl rfl rfl (fun i v hi=>by rcases i with _|i<;>simp at hi;subst hi;exact hB0 0 _ rfl) (by decide) ?_
  | refine sm_seq ?_
  | refine sm_block ?_
  | refine sm_skip ?_
  | refine sm_inBlock ?_
  | refine sm_region ?_
  | refine m_move rfl (by decide) ?_
  | refine m_assign rfl (by decide) ?_
  | refine m_len rfl (kd_slice rfl) (by decide) ?_
  | refine m_lss rfl rfl (by decide) ?_
  | refine m_nil ?_
 have ha1:=fun q hq=>hw0 q (List.mem_append_left _ hq)
 have hw1:=fun q hq=>hw0 q (List.mem_append_right _ hq)
 have hI1:=hM0.intW lim hx0
 refine m_call markSig_mk.1 rfl rfl (markSig_mk.2 lim _ [v0] l1 _ rfl (by unfold fsSig LvA LvA;exact⟨v0,l1,[],by simp,rfl,(Lv.mono hI1 _ _ _ hL1),rfl⟩) (fun q hq=>hM0.Wr (ha1 q hq)) (by omega) (by omega)) (by decide) ?_
 rintro _ w1 ⟨rfl,hm1⟩
 refine⟨_,rfl,?_⟩
 have hB1:=box_stands hB0 hm1 ha1
 have hM1:=hM0.append (l2:=l1) (w'':=w1) (by simpa only[List.nil_append,List.length_append,List.length_nil,Int.natCast_add,Int.natCast_zero,Int.zero_add,Int.add_zero,Int.add_assoc] using hm1)
 have hx1:=fun q (hq:q∈_++l1)=>(List.mem_append.1 hq).elim (hx0 q) (hi1 q)
 repeat' first
  | refine sm_seq ?_
  | refine sm_block ?_
  | refine sm_skip ?_
  | refine sm_inBlock ?_
  | refine sm_region ?_
  | refine m_move rfl (by decide) ?_
  | refine m_assign rfl (by decide) ?_
  | refine m_len rfl (kd_slice rfl) (by decide) ?_
  | refine m_lss rfl rfl (by decide) ?_
  | refine m_nil ?_
 obtain⟨l2,r2,rfl,hL2,hA2⟩:=LvA.sub_step hA1
 simp only[List.length_append] at hb
 have hi2:∀q∈l2,MkC w q:=fun q hq=>(Lv.ints _ _ _ hL2 q hq).2
 repeat' first
  | refine m_fieldAddr (S:=S) rfl rfl rfl rfl rfl (by decide) (by decide) ?_
  | refine m_load (S:=S) rfl rfl rfl rfl (hB1 1 _ rfl) (by decide) ?_
  | refine sm_seq ?_
  | refine sm_block ?_
  | refine sm_skip ?_
  | refine sm_inBlock ?_
  | refine sm_region ?_
  | refine m_move rfl (by decide) ?_
  | refine m_assign rfl (by decide) ?_
  | refine m_len rfl (kd_slice rfl) (by decide) ?_
  | refine m_lss rfl rfl (by decide) ?_
  | refine m_nil ?_
 have ha2:=fun q hq=>hw1 q (List.mem_append_left _ hq)
 have hw2:=fun q hq=>hw1 q (List.mem_append_right _ hq)
 have hI2:=hM1.intW lim hx1
 refine m_call markInt64S_mk.1 rfl rfl (markInt64S_mk.2 lim _ v1 l2 _ (Lv.mono hI2 _ _ _ hL2) (fun q hq=>hM1.Wr (ha2 q hq)) (by omega) (by omega)) (by decide) ?_
 rintro _ w2 ⟨rfl,hm2'⟩
 refine⟨_,rfl,?_⟩
 have hm2:=Marked.of_wrs (k+(l1.length:Int)) (fun q (hq:q∈l2)=>hM1.Wr (ha2 q hq)) (fun q hq=>(Lv.ints _ _ _ (Lv.mono hI2 _ _ _ hL2) q hq).2)
 rw[←hm2'] at hm2
 have hB2:=box_stands hB1 hm2 ha2
 have hM2:=hM1.append (l2:=l2) (w'':=w2) (by simpa only[List.nil_append,List.length_append,List.length_nil,Int.natCast_add,Int.natCast_zero,Int.zero_add,Int.add_zero,Int.add_assoc] using hm2)
 have hx2:=fun q (hq:q∈_++l2)=>(List.mem_append.1 hq).elim (hx1 q) (hi2 q)
 repeat' first
  | refine sm_seq ?_
  | refine sm_block ?_
  | refine sm_skip ?_
  | refine sm_inBlock ?_
  | refine sm_region ?_
  | refine m_move rfl (by decide) ?_
  | refine m_assign rfl (by decide) ?_
  | refine m_len rfl (kd_slice rfl) (by decide) ?_
  | refine m_lss rfl rfl (by decide) ?_
  | refine m_nil ?_
 obtain⟨l3,r3,rfl,hL3,hA3⟩:=LvA.sub_step hA2
 simp only[List.length_append] at hb
 have hi3:∀q∈l3,MkC w q:=fun q hq=>(Lv.ints _ _ _ hL3 q hq).2
 repeat' first
  | refine m_fieldAddr (S:=S) rfl rfl rfl rfl rfl (by decide) (by decide) ?_
  | refine m_load (S:=S) rfl rfl rfl rfl (hB2 2 _ rfl) (by decide) ?_
  | refine sm_seq ?_
  | refine sm_block ?_
  | refine sm_skip ?_
  | refine sm_inBlock ?_
  | refine sm_region ?_
  | refine m_move rfl (by decide) ?_
  | refine m_assign rfl (by decide) ?_
  | refine m_len rfl (kd_slice rfl) (by decide) ?_
  | refine m_lss rfl rfl (by decide) ?_
  | refine m_nil ?_
 have ha3:=fun q hq=>hw2 q (List.mem_append_left _ hq)
 have hw3:=fun q hq=>hw2 q (List.mem_append_right _ hq)
 have hI3:=hM2.intW lim hx2
 refine m_call markLineS_mk.1 rfl rfl (markLineS_mk.2 lim _ v2 l3 _ (Lv.mono hI3 _ _ _ hL3) (fun q hq=>hM2.Wr (ha3 q hq)) (by omega) (by omega)) (by decide) ?_
 rintro _ w3 ⟨rfl,hm3'⟩
 refine⟨_,rfl,?_⟩
 have hm3:=Marked.of_wrs (k+(l1.length:Int)+(l2.length:Int)) (fun q (hq:q∈l3)=>hM2.Wr (ha3 q hq)) (fun q hq=>(Lv.ints _ _ _ (Lv.mono hI3 _ _ _ hL3) q hq).2)
 rw[←hm3'] at hm3
 have hB3:=box_stands hB2 hm3 ha3
 have hM3:=hM2.append (l2:=l3) (w'':=w3) (by simpa only[List.nil_append,List.length_append,List.length_nil,Int.natCast_add,Int.natCast_zero,Int.zero_add,Int.add_zero,Int.add_assoc] using hm3)
 have hx3:=fun q (hq:q∈_++l3)=>(List.mem_append.1 hq).elim (hx2 q) (hi3 q)
 repeat' first
  | refine sm_seq ?_
  | refine sm_block ?_
  | refine sm_skip ?_
  | refine sm_inBlock ?_
  | refine sm_region ?_
  | refine m_move rfl (by decide) ?_
  | refine m_assign rfl (by decide) ?_
  | refine m_len rfl (kd_slice rfl) (by decide) ?_
  | refine m_lss rfl rfl (by decide) ?_
  | refine m_nil ?_
 obtain rfl:=hA3.nil_step
 repeat' first
  | refine sm_seq ?_
  | refine sm_block ?_
  | refine sm_skip ?_
  | refine sm_inBlock ?_
  | refine sm_region ?_
  | refine m_move rfl (by decide) ?_
  | refine m_assign rfl (by decide) ?_
  | refine m_len rfl (kd_slice rfl) (by decide) ?_
  | refine m_lss rfl rfl (by decide) ?_
  | refine m_nil ?_
 refine sm_ret ⟨?_,?_⟩
 ·exact int_eq (by simp only[List.length_append,List.length_nil];omega)
 ·simpa only[List.nil_append,List.append_nil,List.append_assoc] using hM3
end
section
attribute [local irreducible] SW runL runQ runG runQG FC Ret Ret1
theorem toInt64SL_fc (p:List Nat) (hp:p≠[]) (tk:Tk) (xs:List Int) (hn:cntInt64S xs≤1048576):FC S 12 [] [] [] [.sl tk (xs.map (.int .i64))] (Int64SL p xs) [] []:=by
 have hl:xs.length≤1048576:=hn
 refine fcb Tryz.func12 fun B=>?_
 refine sw_bndg 0 fun hb0=>?_
 repeat' first|exact h.elim|refine sw_n ?_|refine sw_go 0 kp12 fun K hK=>?_|refine fun (K:KT) (hK:KOk S 0 _ _ _ K)=>?_|refine runL_g ?_|refine sw_retg0 ?_|refine sw_retg ?_|(refine hK.n0 ?_;clear hK K)|refine sw_condg rfl (fun h=>?_) fun h=>?_|refine sw_exit rfl ?_|refine sw_loopEnd ?_|with_reducible refine and_o ?_|((with_reducible refine And.intro ?_ ?_);· first|(intro x hx;subst hx;rfl)|exact upR_mem fun _ _=>rfl|exact mapR_mem fun _ _=>rfl|(intro x;refine And.intro ?_ ?_<;>(intros;subst_vars;rfl)))|apply tTT
 refine sw_loopU (ι:=Nat) (fun i=>[(4,.int .i64 i)]) (fun i=>[(7,fillL (fun j=>.int .i64 (xs.getD j default)) (.int .i64 0) i xs.length)]) (fun i=>i≤xs.length∧(True)) (fun i=>xs.length-i) 0 (by(refine covers_mk0 rfl rfl ?_ ?_ ?_ ?_<;>simp (disch:=(refine Om.mk ?_;omega)) only[go_sem]<;>(try omega));exact fillL_start _ _ _) ⟨by omega,?_⟩ (fun i ⟨hi,hj⟩=>?_)
 rotate_left
 simp only[go_sem]
 repeat' first|exact h.elim|(refine sw_freezeLabAt 6 3 1 p (xs.map (.int .i64)) rfl rfl (by rw[show i=xs.length by omega];exact(fillL_done (.int .i64) _ xs).trans (flat_ones _ _ (fun _=>rfl)).symm) (by rw[List.length_map]) (cells_one fun _=>rfl) (fillL_memOk (fun _=>rfl) rfl) hp (by simp) ?_;simp only[go_sem])|refine sw_n ?_|refine sw_go 0 kp12 fun K hK=>?_|refine fun (K:KT) (hK:KOk S 0 _ _ _ K)=>?_|refine runL_g ?_|refine sw_retg0 ?_|refine sw_retg ?_|(refine hK.n0 ?_;clear hK K)|refine sw_condg rfl (fun h=>?_) fun h=>?_|refine sw_exit rfl ?_|refine sw_loopEnd ?_|with_reducible refine and_o ?_|((with_reducible refine And.intro ?_ ?_);· first|(intro x hx;subst hx;rfl)|exact upR_mem fun _ _=>rfl|exact mapR_mem fun _ _=>rfl|(intro x;refine And.intro ?_ ?_<;>(intros;subst_vars;rfl)))|apply tTT
 ·exact⟨i+1,(by(refine covers_mk0 rfl rfl ?_ ?_ ?_ ?_<;>simp (disch:=(refine Om.mk ?_;omega)) only[go_sem]<;>(try omega));exact fillL_set (fun j=>.int .i64 (xs.getD j default)) _ _ _),by omega,by omega⟩
 all_goals trivial
theorem toInt64SSL_fc (p:List Nat) (hp:p≠[]) (tk:Tk) (xs:List (List Int)) (hn:cntInt64SS xs≤1048576):FC S 139 [] [] [] [.sl tk (xs.map IntsD)] (Int64SSL p xs) [] []:=by
 have hl:xs.length≤1048576:=by unfold cntInt64SS at hn;omega
 have hq:∀i<xs.length,cntInt64S (xs.getD i default)≤1048576:=fun i hi=>by
  have:=f_le_sum cntInt64S xs i hi
  unfold cntInt64SS at hn;omega
 refine fcb Tryz.func139 fun B=>?_
 refine sw_bndg 0 fun hb0=>?_
 repeat' first|exact h.elim|refine sw_n ?_|refine sw_go 0 kp139 fun K hK=>?_|refine fun (K:KT) (hK:KOk S 0 _ _ _ K)=>?_|refine runL_g ?_|refine sw_retg0 ?_|refine sw_retg ?_|(refine hK.n0 ?_;clear hK K)|refine sw_condg rfl (fun h=>?_) fun h=>?_|refine sw_exit rfl ?_|refine sw_loopEnd ?_|with_reducible refine and_o ?_|((with_reducible refine And.intro ?_ ?_);· first|(intro x hx;subst hx;rfl)|exact upR_mem fun _ _=>rfl|exact mapR_mem fun _ _=>rfl|(intro x;refine And.intro ?_ ?_<;>(intros;subst_vars;rfl)))|apply tTT
 refine sw_loopU (ι:=Nat) (fun i=>[(4,.int .i64 i)]) (fun i=>[(7,fillL (fun j=>Int64SL (p++[j]++[0]) ((xs.getD j default))) (.sl .nil []) i xs.length)]) (fun i=>i≤xs.length∧(True)) (fun i=>xs.length-i) 0 (by(refine covers_mk0 rfl rfl ?_ ?_ ?_ ?_<;>simp (disch:=(refine Om.mk ?_;omega)) only[go_sem]<;>(try omega));exact fillL_start _ _ _) ⟨by omega,?_⟩ (fun i ⟨hi,hj⟩=>?_)
 rotate_left
 simp only[go_sem]
 repeat' first|exact h.elim|(refine sw_freezeLabAt 6 3 1 p (mapR (fun i y=>Int64SL (p++[i]++[0]) y) xs) rfl rfl (by rw[show i=xs.length by omega,fillL_eqF];exact fillF_doneR (fun i y=>Int64SL (p++[i]++[0]) y) _ xs) (by rw[mapR_length]) (mapR_cells fun _ _=>rfl) (fillL_memOk (fun _=>rfl) rfl) hp (by simp) ?_;simp only[go_sem])|refine sw_n ?_|refine sw_go 0 kp139 fun K hK=>?_|refine fun (K:KT) (hK:KOk S 0 _ _ _ K)=>?_|refine runL_g ?_|refine sw_retg0 ?_|refine sw_retg ?_|(refine hK.n0 ?_;clear hK K)|refine sw_condg rfl (fun h=>?_) fun h=>?_|refine sw_exit rfl ?_|refine sw_loopEnd ?_|refine hK.c1 rfl rfl rfl (toInt64SL_fc (p++[i]++[0]) (by simp) _ (xs.getD i default) (by exact hq i (by omega))) ?_|with_reducible refine and_o ?_|((with_reducible refine And.intro ?_ ?_);· first|(intro x hx;subst hx;rfl)|exact upR_mem fun _ _=>rfl|exact mapR_mem fun _ _=>rfl|(intro x;refine And.intro ?_ ?_<;>(intros;subst_vars;rfl)))|apply tTT
 ·exact⟨i+1,(by(refine covers_mk0 rfl rfl ?_ ?_ ?_ ?_<;>simp (disch:=(refine Om.mk ?_;omega)) only[go_sem]<;>(try omega));exact fillL_set (fun j=>Int64SL (p++[j]++[0]) ((xs.getD j default))) _ _ _),by omega,by omega⟩
 all_goals trivial
theorem toSigL_fc (p:List Nat) (hp:p≠[]) (x:List Int) (hn:cntSig x≤1048576):FC S 29 [] [] [] [SigD x] (SigL p x) [] []:=by
 have hn':=hn
 simp only[cntSig] at hn'
 refine fcb Tryz.func29 fun B=>?_
 repeat' first|refine sw_n ?_|refine sw_go 0 kp29 fun K hK=>?_|refine fun (K:KT) (hK:KOk S 0 _ _ _ K)=>?_|refine runL_g ?_|refine sw_retg0 ?_|refine sw_retg ?_|(refine hK.n0 ?_;clear hK K)|refine sw_loopEnd ?_|refine hK.c1 rfl rfl rfl (toInt64SL_fc (p++[0]) (by simp) _ (x) (by omega)) ?_|with_reducible refine and_o ?_|apply tTT
 all_goals exact D.le.refl _
theorem toLineL_fc (p:List Nat) (hp:p≠[]) (x:LineT) (hn:cntLine x≤1048576):FC S 97 [] [] [] [LineD x] (LineL p x) [] []:=by
 have hn':=hn
 simp only[cntLine] at hn'
 refine fcb Tryz.func97 fun B=>?_
 repeat' first|refine sw_n ?_|refine sw_go 0 kp97 fun K hK=>?_|refine fun (K:KT) (hK:KOk S 0 _ _ _ K)=>?_|refine runL_g ?_|refine sw_retg0 ?_|refine sw_retg ?_|(refine hK.n0 ?_;clear hK K)|refine sw_loopEnd ?_|refine hK.c1 rfl rfl rfl (toInt64SSL_fc (p++[1]) (by simp) _ (x.pats) (by omega)) ?_|refine hK.c1 rfl rfl rfl (toInt64SL_fc (p++[2]) (by simp) _ (x.body) (by omega)) ?_|with_reducible refine and_o ?_|apply tTT
 all_goals exact D.le.refl _
theorem toLineSL_fc (p:List Nat) (hp:p≠[]) (tk:Tk) (xs:List LineT) (hn:cntLineS xs≤1048576):FC S 50 [] [] [] [.sl tk (xs.map LineD)] (LineSL p xs) [] []:=by
 have hl:xs.length≤1048576:=by unfold cntLineS at hn;omega
 have hq:∀i<xs.length,cntLine (xs.getD i default)≤1048576:=fun i hi=>by
  have:=f_le_sum cntLine xs i hi
  unfold cntLineS at hn;omega
 refine fcb Tryz.func50 fun B=>?_
 refine sw_bndg 0 fun hb0=>?_
 repeat' first|exact h.elim|refine sw_n ?_|refine sw_go 0 kp50 fun K hK=>?_|refine fun (K:KT) (hK:KOk S 0 _ _ _ K)=>?_|refine runL_g ?_|refine sw_retg0 ?_|refine sw_retg ?_|(refine hK.n0 ?_;clear hK K)|refine sw_condg rfl (fun h=>?_) fun h=>?_|refine sw_exit rfl ?_|refine sw_loopEnd ?_|with_reducible refine and_o ?_|((with_reducible refine And.intro ?_ ?_);· first|(intro x hx;subst hx;rfl)|exact upR_mem fun _ _=>rfl|exact mapR_mem fun _ _=>rfl|(intro x;refine And.intro ?_ ?_<;>(intros;subst_vars;rfl)))|apply tTT
 refine sw_loopU (ι:=Nat) (fun i=>[(4,.int .i64 i)]) (fun i=>[(7,fillF (fun j=>[.int .i64 ((xs.getD j default)).fun_,Int64SSL ((p++[j])++[1]) (((xs.getD j default)).pats),Int64SL ((p++[j])++[2]) (((xs.getD j default)).body)]) [.int .i64 0,.sl .nil [],.sl .nil []] i xs.length)]) (fun i=>i≤xs.length∧(True)) (fun i=>xs.length-i) 0 (by(refine covers_mk0 rfl rfl ?_ ?_ ?_ ?_<;>simp (disch:=(refine Om.mk ?_;omega)) only[go_sem]<;>(try omega));exact fillF_start _ _ _) ⟨by omega,?_⟩ (fun i ⟨hi,hj⟩=>?_)
 rotate_left
 simp only[go_sem]
 have hm:i*3+3≤3*xs.length∨xs.length≤i:=by omega
 repeat' first|exact h.elim|(refine sw_freezeLabAt 6 3 3 p (mapR (fun i y=>LineL (p++[i]) y) xs) rfl rfl (by rw[show i=xs.length by omega];exact fillF_doneR (fun i y=>LineL (p++[i]) y) _ xs) (by rw[mapR_length]) (mapR_cells fun _ _=>rfl) (fillF_memOk (fun j d hd=>by revert d hd;simp[D.memOk]) (by simp[D.memOk])) hp (by simp) ?_;simp only[go_sem])|refine sw_n ?_|refine sw_go 0 kp50 fun K hK=>?_|refine fun (K:KT) (hK:KOk S 0 _ _ _ K)=>?_|refine runL_g ?_|refine sw_retg0 ?_|refine sw_retg ?_|(refine hK.n0 ?_;clear hK K)|refine sw_condg rfl (fun h=>?_) fun h=>?_|refine sw_exit rfl ?_|refine sw_loopEnd ?_|refine hK.c1 rfl rfl rfl (toLineL_fc (p++[i]) (by simp) (xs.getD i default) (by exact hq i (by omega))) ?_|with_reducible refine and_o ?_|((with_reducible refine And.intro ?_ ?_);· first|(intro x hx;subst hx;rfl)|exact upR_mem fun _ _=>rfl|exact mapR_mem fun _ _=>rfl|(intro x;refine And.intro ?_ ?_<;>(intros;subst_vars;rfl)))|apply tTT
 ·exact⟨i+1,(by(refine covers_mk0 rfl rfl ?_ ?_ ?_ ?_<;>simp (disch:=(refine Om.mk ?_;omega)) only[go_sem]<;>(try omega));exact fillF_put (f:=(fun j=>[.int .i64 ((xs.getD j default)).fun_,Int64SSL ((p++[j])++[1]) (((xs.getD j default)).pats),Int64SL ((p++[j])++[2]) (((xs.getD j default)).body)])) (fun _=>rfl) rfl (by omega)),by omega,by omega⟩
 all_goals trivial
theorem toFrontL_fc (p:List Nat) (hp:p≠[]) (x:FrontT) (hn:cntFront x≤1048576):FC S 17 [] [] [] [FrontD x] (FrontL p x) [] []:=by
 have hn':=hn
 simp only[cntFront] at hn'
 refine fcb Tryz.func17 fun B=>?_
 repeat' first|refine sw_n ?_|refine sw_go 0 kp17 fun K hK=>?_|refine fun (K:KT) (hK:KOk S 0 _ _ _ K)=>?_|refine runL_g ?_|refine sw_retg0 ?_|refine sw_retg ?_|(refine hK.n0 ?_;clear hK K)|refine sw_loopEnd ?_|refine hK.c1 rfl rfl rfl (toSigL_fc p hp (x.sig) (by omega)) ?_|refine hK.c1 rfl rfl rfl (toInt64SL_fc (p++[1]) (by simp) _ (x.funs) (by omega)) ?_|refine hK.c1 rfl rfl rfl (toLineSL_fc (p++[2]) (by simp) _ (x.lines) (by omega)) ?_|with_reducible refine and_o ?_|apply tTT
 all_goals exact D.le.refl _
end
end Go.Proofs.YtkfkdgginfpdnaaGreatDoor
