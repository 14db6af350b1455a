/-
  E02, E03, one behind the other.
-/
import Derived.Test.YtmogobaaophknaaG9
import Derived.Test.YtmogobaaophknaaG8
section
namespace Go.Proofs.Ytmogobaaophknaa
open Go Go.Lg
set_option linter.unusedSimpArgs false
set_option linter.unusedVariables false
set_option maxHeartbeats 4000000
attribute [local irreducible] SW runL runQ runG runQG FC Ret1 toF redoL
theorem ret1_ownB {S : Setup} {L : LS} {t k : Nat} {e : TypeId} {z : Nat} {xs : List D} {id : Nat} {cs : List D} (h : Lg.look L.env t = some (.sl (.own k e z) xs)) (hk : k ∈ L.toks) (hb : Lg.look L.boxes id = some cs) (h0 : 0 ∉ D.tksL cs) : Ret1 S [.tmp t] (.sl (.own 0 e z) xs) [(id, cs)] L := by
 unfold Ret1
 simp only [resY, resYs, resY1, LS.get, h, someK]
 exact ⟨k, _, .refl _, hk, fun k' hk' => by simpa [tupD, D.tks] using hk', rfl, by simpa using hb, by simpa using h0⟩
def StpE (p : Prop) : Prop := p
theorem stop_atE {S : Setup} {B : Base} {R : LS → Prop} {k : List VItem} {L : LS} (id : Nat) {ops : Array Oper} {dr : Bool} (h : StpE (SW S B R (.code (.region id ops dr) :: k) L)) : SW S B R (.code (.region id ops dr) :: k) L := h
theorem dC_i {bs : List Int} {c : Dc} (h : c.i ≤ bs.length) : (dC bs c).i ≤ bs.length := by
 unfold dC
 show (if c.i < bs.length then c.i + 1 else c.i) ≤ bs.length
 split <;> omega
def goT (T : Dc → List Int × Dc) (f : Int) (c : Dc) : Nat → List Int × Dc
 | 0 => ([f], c)
 | k + 1 => ((goT T f c k).1 ++ (T (goT T f c k).2).1, (T (goT T f c k).2).2)
def w9T (bs : List Int) : Nat → Dc → List Int × Dc
 | 0, c => ([2], c)
 | d + 1, c => if bel bs c 3 = 0 then ([-1 - bel bs (dC bs c) 2], dC bs (dC bs c)) else
   goT (w9T bs d) (if d = 0 then 2 else bel bs (dC bs c) 3) (dC bs (dC bs c)) (2 - (if d = 0 then 2 else bel bs (dC bs c) 3)).toNat
theorem w9T_var {bs : List Int} {d : Nat} {c : Dc} (h : bel bs c 3 = 0) : w9T bs (d + 1) c = ([-1 - bel bs (dC bs c) 2], dC bs (dC bs c)) := if_pos h
theorem w9T_app {bs : List Int} {d : Nat} {c : Dc} (h : ¬ bel bs c 3 = 0) : w9T bs (d + 1) c = goT (w9T bs d) (if d = 0 then 2 else bel bs (dC bs c) 3) (dC bs (dC bs c)) (2 - (if d = 0 then 2 else bel bs (dC bs c) 3)).toNat := if_neg h
theorem goT_z (T : Dc → List Int × Dc) (f : Int) (c : Dc) : goT T f c 0 = ([f], c) := rfl
theorem goT_s1 (T : Dc → List Int × Dc) (f : Int) (c : Dc) (k : Nat) : (goT T f c (k + 1)).1 = (goT T f c k).1 ++ (T (goT T f c k).2).1 := rfl
theorem goT_s2 (T : Dc → List Int × Dc) (f : Int) (c : Dc) (k : Nat) : (goT T f c (k + 1)).2 = (T (goT T f c k).2).2 := rfl
theorem goT_len {T : Dc → List Int × Dc} {n : Nat} (hT : ∀ c, 1 ≤ (T c).1.length ∧ (T c).1.length ≤ n) (f : Int) (c : Dc) : ∀ k, 1 ≤ (goT T f c k).1.length ∧ (goT T f c k).1.length ≤ 1 + k * n
 | 0 => by simp [goT]
 | k + 1 => by
  have ih := goT_len hT f c k
  have := hT (goT T f c k).2
  simp only [goT, List.length_append, Nat.succ_mul]; omega
theorem goT_i {T : Dc → List Int × Dc} {m : Nat} (hT : ∀ c : Dc, c.i ≤ m → (T c).2.i ≤ m) (f : Int) (c : Dc) (hc : c.i ≤ m) : ∀ k, (goT T f c k).2.i ≤ m
 | 0 => hc
 | k + 1 => hT _ (goT_i hT f c hc k)
theorem w9T_len {bs : List Int} (hb : BytesP bs) : ∀ d c, 1 ≤ (w9T bs d c).1.length ∧ (w9T bs d c).1.length ≤ 4 ^ d
 | 0, c => by simp [w9T]
 | d + 1, c => by
  have hp : 0 < 4 ^ d := Nat.pow_pos (by decide)
  rcases Classical.em (bel bs c 3 = 0) with h | h
  ·rw [w9T_var h, Nat.pow_succ]
   simp only [List.length_singleton]; omega
  ·rw [w9T_app h]
   have hv := bel_lt hb (dC bs c) (show (0 : Int) < 3 by omega)
   have h1 := goT_len (w9T_len hb d) (if d = 0 then 2 else bel bs (dC bs c) 3) (dC bs (dC bs c)) (2 - (if d = 0 then 2 else bel bs (dC bs c) 3)).toNat
   have h2 : (2 - (if d = 0 then (2 : Int) else bel bs (dC bs c) 3)).toNat ≤ 2 := by split <;> omega
   have h3 := Nat.mul_le_mul_right (4 ^ d) h2
   rw [Nat.pow_succ]; omega
theorem w9T_i {bs : List Int} : ∀ d (c : Dc), c.i ≤ bs.length → (w9T bs d c).2.i ≤ bs.length
 | 0, c, h => h
 | d + 1, c, h => by
  rcases Classical.em (bel bs c 3 = 0) with h0 | h0
  ·rw [w9T_var h0]; exact dC_i (dC_i h)
  ·rw [w9T_app h0]
   exact goT_i (fun c hc => w9T_i d c hc) _ _ (dC_i (dC_i h)) _
attribute [local irreducible] goT bel dC StpE
def kp20 : List (Nat × List Nat) := [(0, [0, 1, 2]), (1, [0, 1, 2, 16]), (2, [6]), (3, [0, 1, 2, 7]), (4, [0, 1, 2, 7, 25]), (5, [0, 1, 2, 7]), (6, [0, 1, 2, 7, 8]), (7, [0, 1, 2, 8, 9]), (8, [0, 1, 2, 8, 9, 30]), (10, [0, 1, 2, 8, 9]), (9, [0, 1, 2, 8, 9]), (11, [6])]
attribute [go_sem] kp20
theorem w9Term_fc (bs : List Int) (hb : BytesP bs) (id : Nat) : ∀ (d : Nat), d ≤ 2 → ∀ c : Dc, c.i ≤ bs.length → FC S 20 [] [(id + 1000, [.sl .any (bs.map (.int .u8)), .int .i64 (c).i, .int .u64 (c).h])] [] [.box (id + 1000) 0, .int .i64 ((d : Int) + 1), .int .i64 2] (.sl (.own 0 2 1) ((w9T bs (d + 1) c).1.map (.int .i64))) [(id + 1000, [.sl .any (bs.map (.int .u8)), .int .i64 ((w9T bs (d + 1) c).2).i, .int .u64 ((w9T bs (d + 1) c).2).h])] [0] := by
 intro d
 induction d with
 | zero =>
  intro _ c hc
  have c1 := below_fc (id + 1000) bs hb c hc 3 (by omega)
  have b1 := bel_lt hb c (show (0 : Int) < 3 by omega)
  rcases Classical.em (bel bs c 3 = 0) with h0 | h0
  ·rw [w9T_var h0]
   have c2 := below_fc (id + 1000) bs hb (dC bs c) (dC_i hc) 2 (by omega)
   have b2 := bel_lt hb (dC bs c) (show (0 : Int) < 2 by omega)
   refine fc_body1 Try.func20 rfl (by kernel_rfl) (by simp [Try.f20]) fun B => ?_
   simp only [Try.ntmps20, enumD, lst0, Nat.reduceAdd]
   repeat' first | ((exfalso; omega)) | ((refine sw_goB (id := 2) 0 kp20 4 22000 rfl fun K hK => ?_)) | ((refine ⟨_, _, _, rfl, rfl, rfl, ⟨⟨by simp only [Nat.reduceLT], by decide, by decide, by decide⟩, rfl, by simp [D.strip, strip1, D.cells, D.memOk, TyI.size]⟩, rfl, by simp only [Nat.reduceLT], ?_⟩; simp only [go_sem])) | refine sw_seq ?_ | refine sw_block ?_ | refine sw_inBlock ?_ | refine sw_skip ?_ | refine sw_go 0 kp20 fun K hK => ?_ | refine fun (K : KT) (hK : KOk S 0 _ _ _ K) => ?_ | ((first | refine runL_go ?_ | refine sw_ret (ret0 ?_) | refine sw_ret ?_); simp (disch := (refine Om.mk ?_; omega)) only [go_sem, Try.results20]) | (refine hK.nil ?_; clear hK K; simp only [go_sem]) | ((first | refine runG_fork rfl rfl rfl rfl rfl ?_ ?_ | refine sw_cond rfl ?_ ?_) <;> intro h <;> try simp (disch := (refine Om.mk ?_; omega)) only [go_sem] at h) | refine hK.skp rfl rfl ?_ | refine sw_exit rfl ?_ | refine sw_loopEnd ?_ | (refine hK.callB rfl rfl rfl (c1) ⟨⟨by simp only [Nat.reduceLT], (by first | (simp; all_goals fail) | (simp [LS.getBox, Lg.look]; all_goals fail)), by (simp [Lg.look]; all_goals fail), by (simp; all_goals fail), by (simp; all_goals fail)⟩, ⟨by (simp [D.ids, D.idsL]; all_goals fail), by (simp [D.ids, D.idsL]; all_goals fail), by (simp [D.tks, D.tksL]; all_goals fail), by (simp [D.tks, D.tksL]; all_goals fail), by (simp; all_goals fail)⟩, rfl⟩ ?_; simp (disch := (refine Om.mk ?_; omega)) only [go_sem]) | (refine hK.callB rfl rfl rfl (c2) ⟨⟨by simp only [Nat.reduceLT], (by first | (simp; all_goals fail) | (simp [LS.getBox, Lg.look]; all_goals fail)), by (simp [Lg.look]; all_goals fail), by (simp; all_goals fail), by (simp; all_goals fail)⟩, ⟨by (simp [D.ids, D.idsL]; all_goals fail), by (simp [D.ids, D.idsL]; all_goals fail), by (simp [D.tks, D.tksL]; all_goals fail), by (simp [D.tks, D.tksL]; all_goals fail), by (simp; all_goals fail)⟩, rfl⟩ ?_; simp (disch := (refine Om.mk ?_; omega)) only [go_sem]) | (refine hK.fork rfl rfl rfl ?_ ?_ <;> intro h <;> try simp (disch := (refine Om.mk ?_; omega)) only [go_sem] at h) | (with_reducible refine And.intro (by first | omega | (simp only [lens]; omega)) ?_) | ((with_reducible refine And.intro ?_ ?_); · first | (intro x hx; subst hx; rfl) | (intro x; refine And.intro ?_ ?_ <;> (intros; subst_vars; rfl))) | fail
   all_goals exact ret1_ownB rfl (by simp) (by simp [Lg.look]) (by simp [D.tksL, D.tks])
  ·rw [w9T_app h0, if_pos rfl]
   have c3 := below_fc (id + 1000) bs hb (dC bs c) (dC_i hc) 3 (by omega)
   refine fc_body1 Try.func20 rfl (by kernel_rfl) (by simp [Try.f20]) fun B => ?_
   simp only [Try.ntmps20, enumD, lst0, Nat.reduceAdd]
   repeat' first | ((exfalso; omega)) | ((refine stop_atE 3 ?_)) | refine sw_seq ?_ | refine sw_block ?_ | refine sw_inBlock ?_ | refine sw_skip ?_ | refine sw_go 0 kp20 fun K hK => ?_ | refine fun (K : KT) (hK : KOk S 0 _ _ _ K) => ?_ | ((first | refine runL_go ?_ | refine sw_ret (ret0 ?_) | refine sw_ret ?_); simp (disch := (refine Om.mk ?_; omega)) only [go_sem, Try.results20]) | (refine hK.nil ?_; clear hK K; simp only [go_sem]) | ((first | refine runG_fork rfl rfl rfl rfl rfl ?_ ?_ | refine sw_cond rfl ?_ ?_) <;> intro h <;> try simp (disch := (refine Om.mk ?_; omega)) only [go_sem] at h) | refine hK.skp rfl rfl ?_ | refine sw_exit rfl ?_ | refine sw_loopEnd ?_ | (refine hK.callB rfl rfl rfl (c1) ⟨⟨by simp only [Nat.reduceLT], (by first | (simp; all_goals fail) | (simp [LS.getBox, Lg.look]; all_goals fail)), by (simp [Lg.look]; all_goals fail), by (simp; all_goals fail), by (simp; all_goals fail)⟩, ⟨by (simp [D.ids, D.idsL]; all_goals fail), by (simp [D.ids, D.idsL]; all_goals fail), by (simp [D.tks, D.tksL]; all_goals fail), by (simp [D.tks, D.tksL]; all_goals fail), by (simp; all_goals fail)⟩, rfl⟩ ?_; simp (disch := (refine Om.mk ?_; omega)) only [go_sem]) | (refine hK.fork rfl rfl rfl ?_ ?_ <;> intro h <;> try simp (disch := (refine Om.mk ?_; omega)) only [go_sem] at h) | (with_reducible refine And.intro (by first | omega | (simp only [lens]; omega)) ?_) | ((with_reducible refine And.intro ?_ ?_); · first | (intro x hx; subst hx; rfl) | (intro x; refine And.intro ?_ ?_ <;> (intros; subst_vars; rfl))) | fail
   unfold StpE
   repeat' first | ((exfalso; omega)) | ((refine sw_goB (id := 6) 0 kp20 1 40000 rfl fun K hK => ?_)) | ((refine ⟨_, _, _, rfl, rfl, rfl, ⟨⟨by simp only [Nat.reduceLT], by decide, by decide, by decide⟩, rfl, by simp [D.strip, strip1, D.cells, D.memOk, TyI.size]⟩, rfl, by simp only [Nat.reduceLT], ?_⟩; simp only [go_sem])) | refine sw_seq ?_ | refine sw_block ?_ | refine sw_inBlock ?_ | refine sw_skip ?_ | refine sw_go 0 kp20 fun K hK => ?_ | refine fun (K : KT) (hK : KOk S 0 _ _ _ K) => ?_ | ((first | refine runL_go ?_ | refine sw_ret (ret0 ?_) | refine sw_ret ?_); simp (disch := (refine Om.mk ?_; omega)) only [go_sem, Try.results20]) | (refine hK.nil ?_; clear hK K; simp only [go_sem]) | ((first | refine runG_fork rfl rfl rfl rfl rfl ?_ ?_ | refine sw_cond rfl ?_ ?_) <;> intro h <;> try simp (disch := (refine Om.mk ?_; omega)) only [go_sem] at h) | refine hK.skp rfl rfl ?_ | refine sw_exit rfl ?_ | refine sw_loopEnd ?_ | (refine hK.callB rfl rfl rfl (c3) ⟨⟨by simp only [Nat.reduceLT], (by first | (simp; all_goals fail) | (simp [LS.getBox, Lg.look]; all_goals fail)), by (simp [Lg.look]; all_goals fail), by (simp; all_goals fail), by (simp; all_goals fail)⟩, ⟨by (simp [D.ids, D.idsL]; all_goals fail), by (simp [D.ids, D.idsL]; all_goals fail), by (simp [D.tks, D.tksL]; all_goals fail), by (simp [D.tks, D.tksL]; all_goals fail), by (simp; all_goals fail)⟩, rfl⟩ ?_; simp (disch := (refine Om.mk ?_; omega)) only [go_sem]) | (refine hK.fork rfl rfl rfl ?_ ?_ <;> intro h <;> try simp (disch := (refine Om.mk ?_; omega)) only [go_sem] at h) | (with_reducible refine And.intro (by first | omega | (simp only [lens]; omega)) ?_) | ((with_reducible refine And.intro ?_ ?_); · first | (intro x hx; subst hx; rfl) | (intro x; refine And.intro ?_ ?_ <;> (intros; subst_vars; rfl))) | fail
   rw [show ((2 : Int) - 2).toNat = 0 from rfl, goT_z]
   refine sw_loopT (ι := Nat) (fun _ => []) (fun _ => []) (fun _ => [40000]) (fun _ => True) (fun _ => 0) 0 (by (refine covers_mk0 rfl rfl ?_ ?_ ?_ ?_ <;> simp (disch := (refine Om.mk ?_; omega)) only [go_sem] <;> (try omega))) trivial (fun k hk => ?_)
   simp only [go_sem]
   repeat' first | ((exfalso; omega)) | refine sw_seq ?_ | refine sw_block ?_ | refine sw_inBlock ?_ | refine sw_skip ?_ | refine sw_go 0 kp20 fun K hK => ?_ | refine fun (K : KT) (hK : KOk S 0 _ _ _ K) => ?_ | ((first | refine runL_go ?_ | refine sw_ret (ret0 ?_) | refine sw_ret ?_); simp (disch := (refine Om.mk ?_; omega)) only [go_sem, Try.results20]) | (refine hK.nil ?_; clear hK K; simp only [go_sem]) | ((first | refine runG_fork rfl rfl rfl rfl rfl ?_ ?_ | refine sw_cond rfl ?_ ?_) <;> intro h <;> try simp (disch := (refine Om.mk ?_; omega)) only [go_sem] at h) | refine hK.skp rfl rfl ?_ | refine sw_exit rfl ?_ | refine sw_loopEnd ?_ | (refine hK.fork rfl rfl rfl ?_ ?_ <;> intro h <;> try simp (disch := (refine Om.mk ?_; omega)) only [go_sem] at h) | (with_reducible refine And.intro (by first | omega | (simp only [lens]; omega)) ?_) | ((with_reducible refine And.intro ?_ ?_); · first | (intro x hx; subst hx; rfl) | (intro x; refine And.intro ?_ ?_ <;> (intros; subst_vars; rfl))) | fail
   all_goals exact ret1_ownB rfl (by simp) (by simp [Lg.look]) (by simp [D.tksL, D.tks])
 | succ d ih =>
  intro hd c hc
  have c1 := below_fc (id + 1000) bs hb c hc 3 (by omega)
  have b1 := bel_lt hb c (show (0 : Int) < 3 by omega)
  rcases Classical.em (bel bs c 3 = 0) with h0 | h0
  ·rw [w9T_var h0]
   have c2 := below_fc (id + 1000) bs hb (dC bs c) (dC_i hc) 2 (by omega)
   have b2 := bel_lt hb (dC bs c) (show (0 : Int) < 2 by omega)
   refine fc_body1 Try.func20 rfl (by kernel_rfl) (by simp [Try.f20]) fun B => ?_
   simp only [Try.ntmps20, enumD, lst0, Nat.reduceAdd]
   repeat' first | ((exfalso; omega)) | ((refine sw_goB (id := 2) 0 kp20 4 22000 rfl fun K hK => ?_)) | ((refine ⟨_, _, _, rfl, rfl, rfl, ⟨⟨by simp only [Nat.reduceLT], by decide, by decide, by decide⟩, rfl, by simp [D.strip, strip1, D.cells, D.memOk, TyI.size]⟩, rfl, by simp only [Nat.reduceLT], ?_⟩; simp only [go_sem])) | refine sw_seq ?_ | refine sw_block ?_ | refine sw_inBlock ?_ | refine sw_skip ?_ | refine sw_go 0 kp20 fun K hK => ?_ | refine fun (K : KT) (hK : KOk S 0 _ _ _ K) => ?_ | ((first | refine runL_go ?_ | refine sw_ret (ret0 ?_) | refine sw_ret ?_); simp (disch := (refine Om.mk ?_; omega)) only [go_sem, Try.results20]) | (refine hK.nil ?_; clear hK K; simp only [go_sem]) | ((first | refine runG_fork rfl rfl rfl rfl rfl ?_ ?_ | refine sw_cond rfl ?_ ?_) <;> intro h <;> try simp (disch := (refine Om.mk ?_; omega)) only [go_sem] at h) | refine hK.skp rfl rfl ?_ | refine sw_exit rfl ?_ | refine sw_loopEnd ?_ | (refine hK.callB rfl rfl rfl (c1) ⟨⟨by simp only [Nat.reduceLT], (by first | (simp; all_goals fail) | (simp [LS.getBox, Lg.look]; all_goals fail)), by (simp [Lg.look]; all_goals fail), by (simp; all_goals fail), by (simp; all_goals fail)⟩, ⟨by (simp [D.ids, D.idsL]; all_goals fail), by (simp [D.ids, D.idsL]; all_goals fail), by (simp [D.tks, D.tksL]; all_goals fail), by (simp [D.tks, D.tksL]; all_goals fail), by (simp; all_goals fail)⟩, rfl⟩ ?_; simp (disch := (refine Om.mk ?_; omega)) only [go_sem]) | (refine hK.callB rfl rfl rfl (c2) ⟨⟨by simp only [Nat.reduceLT], (by first | (simp; all_goals fail) | (simp [LS.getBox, Lg.look]; all_goals fail)), by (simp [Lg.look]; all_goals fail), by (simp; all_goals fail), by (simp; all_goals fail)⟩, ⟨by (simp [D.ids, D.idsL]; all_goals fail), by (simp [D.ids, D.idsL]; all_goals fail), by (simp [D.tks, D.tksL]; all_goals fail), by (simp [D.tks, D.tksL]; all_goals fail), by (simp; all_goals fail)⟩, rfl⟩ ?_; simp (disch := (refine Om.mk ?_; omega)) only [go_sem]) | (refine hK.fork rfl rfl rfl ?_ ?_ <;> intro h <;> try simp (disch := (refine Om.mk ?_; omega)) only [go_sem] at h) | (with_reducible refine And.intro (by first | omega | (simp only [lens]; omega)) ?_) | ((with_reducible refine And.intro ?_ ?_); · first | (intro x hx; subst hx; rfl) | (intro x; refine And.intro ?_ ?_ <;> (intros; subst_vars; rfl))) | fail
   all_goals exact ret1_ownB rfl (by simp) (by simp [Lg.look]) (by simp [D.tksL, D.tks])
  ·rw [w9T_app h0, if_neg (by omega)]
   have c3 := below_fc (id + 1000) bs hb (dC bs c) (dC_i hc) 3 (by omega)
   have b3 := bel_lt hb (dC bs c) (show (0 : Int) < 3 by omega)
   have hic := dC_i (dC_i hc)
   refine fc_body1 Try.func20 rfl (by kernel_rfl) (by simp [Try.f20]) fun B => ?_
   simp only [Try.ntmps20, enumD, lst0, Nat.reduceAdd]
   repeat' first | ((exfalso; omega)) | ((refine stop_atE 3 ?_)) | refine sw_seq ?_ | refine sw_block ?_ | refine sw_inBlock ?_ | refine sw_skip ?_ | refine sw_go 0 kp20 fun K hK => ?_ | refine fun (K : KT) (hK : KOk S 0 _ _ _ K) => ?_ | ((first | refine runL_go ?_ | refine sw_ret (ret0 ?_) | refine sw_ret ?_); simp (disch := (refine Om.mk ?_; omega)) only [go_sem, Try.results20]) | (refine hK.nil ?_; clear hK K; simp only [go_sem]) | ((first | refine runG_fork rfl rfl rfl rfl rfl ?_ ?_ | refine sw_cond rfl ?_ ?_) <;> intro h <;> try simp (disch := (refine Om.mk ?_; omega)) only [go_sem] at h) | refine hK.skp rfl rfl ?_ | refine sw_exit rfl ?_ | refine sw_loopEnd ?_ | (refine hK.callB rfl rfl rfl (c1) ⟨⟨by simp only [Nat.reduceLT], (by first | (simp; all_goals fail) | (simp [LS.getBox, Lg.look]; all_goals fail)), by (simp [Lg.look]; all_goals fail), by (simp; all_goals fail), by (simp; all_goals fail)⟩, ⟨by (simp [D.ids, D.idsL]; all_goals fail), by (simp [D.ids, D.idsL]; all_goals fail), by (simp [D.tks, D.tksL]; all_goals fail), by (simp [D.tks, D.tksL]; all_goals fail), by (simp; all_goals fail)⟩, rfl⟩ ?_; simp (disch := (refine Om.mk ?_; omega)) only [go_sem]) | (refine hK.fork rfl rfl rfl ?_ ?_ <;> intro h <;> try simp (disch := (refine Om.mk ?_; omega)) only [go_sem] at h) | (with_reducible refine And.intro (by first | omega | (simp only [lens]; omega)) ?_) | ((with_reducible refine And.intro ?_ ?_); · first | (intro x hx; subst hx; rfl) | (intro x; refine And.intro ?_ ?_ <;> (intros; subst_vars; rfl))) | fail
   unfold StpE
   repeat' first | ((exfalso; omega)) | ((refine sw_goB (id := 6) 0 kp20 1 40000 rfl fun K hK => ?_)) | ((refine ⟨_, _, _, rfl, rfl, rfl, ⟨⟨by simp only [Nat.reduceLT], by decide, by decide, by decide⟩, rfl, by simp [D.strip, strip1, D.cells, D.memOk, TyI.size]⟩, rfl, by simp only [Nat.reduceLT], ?_⟩; simp only [go_sem])) | refine sw_seq ?_ | refine sw_block ?_ | refine sw_inBlock ?_ | refine sw_skip ?_ | refine sw_go 0 kp20 fun K hK => ?_ | refine fun (K : KT) (hK : KOk S 0 _ _ _ K) => ?_ | ((first | refine runL_go ?_ | refine sw_ret (ret0 ?_) | refine sw_ret ?_); simp (disch := (refine Om.mk ?_; omega)) only [go_sem, Try.results20]) | (refine hK.nil ?_; clear hK K; simp only [go_sem]) | ((first | refine runG_fork rfl rfl rfl rfl rfl ?_ ?_ | refine sw_cond rfl ?_ ?_) <;> intro h <;> try simp (disch := (refine Om.mk ?_; omega)) only [go_sem] at h) | refine hK.skp rfl rfl ?_ | refine sw_exit rfl ?_ | refine sw_loopEnd ?_ | (refine hK.callB rfl rfl rfl (c3) ⟨⟨by simp only [Nat.reduceLT], (by first | (simp; all_goals fail) | (simp [LS.getBox, Lg.look]; all_goals fail)), by (simp [Lg.look]; all_goals fail), by (simp; all_goals fail), by (simp; all_goals fail)⟩, ⟨by (simp [D.ids, D.idsL]; all_goals fail), by (simp [D.ids, D.idsL]; all_goals fail), by (simp [D.tks, D.tksL]; all_goals fail), by (simp [D.tks, D.tksL]; all_goals fail), by (simp; all_goals fail)⟩, rfl⟩ ?_; simp (disch := (refine Om.mk ?_; omega)) only [go_sem]) | (refine hK.fork rfl rfl rfl ?_ ?_ <;> intro h <;> try simp (disch := (refine Om.mk ?_; omega)) only [go_sem] at h) | (with_reducible refine And.intro (by first | omega | (simp only [lens]; omega)) ?_) | ((with_reducible refine And.intro ?_ ?_); · first | (intro x hx; subst hx; rfl) | (intro x; refine And.intro ?_ ?_ <;> (intros; subst_vars; rfl))) | fail
   generalize bel bs (dC bs c) 3 = f at *
   generalize dC bs (dC bs c) = c4 at *
   refine sw_loopT (ι := Nat) (fun k => [(9, .int .i64 (f + k)), (8, .sl (.own 40000 2 1) ((goT (w9T bs (d + 1)) f c4 k).1.map (.int .i64)))]) (fun k => [(id + 1000, [.sl .any (bs.map (.int .u8)), .int .i64 ((goT (w9T bs (d + 1)) f c4 k).2).i, .int .u64 ((goT (w9T bs (d + 1)) f c4 k).2).h])]) (fun _ => [40000]) (fun k => (k : Int) ≤ 2 - f) (fun k => (2 - f).toNat - k) 0 (by rw [goT_z]; (refine covers_mk0 rfl rfl ?_ ?_ ?_ ?_ <;> simp (disch := (refine Om.mk ?_; omega)) only [go_sem] <;> (try omega)); all_goals first | rfl | exact ⟨rfl, rfl⟩ | omega | trace_state) (by omega) (fun k hk => ?_)
   simp only [go_sem]
   have hl1 := goT_len (w9T_len hb (d + 1)) f c4 k
   have hl2 := w9T_len hb (d + 1) (goT (w9T bs (d + 1)) f c4 k).2
   have hp : 4 ^ (d + 1) ≤ 4 ^ 2 := Nat.pow_le_pow_right (by decide) (by omega)
   have hk2 := Nat.mul_le_mul_right (4 ^ (d + 1)) (show k ≤ 2 by omega)
   rw [show (4 : Nat) ^ 2 = 16 by rfl] at hp
   have hs1 := goT_s1 (w9T bs (d + 1)) f c4 k
   have hs2 := goT_s2 (w9T bs (d + 1)) f c4 k
   have ih' := ih (by omega) (goT (w9T bs (d + 1)) f c4 k).2 (goT_i (fun c hc => w9T_i (d + 1) c hc) f c4 hic k)
   rw [show ((d : Int) + 1) = ((d + 1 : Nat) : Int) by omega] at ih'
   by_cases hkf : (k : Int) < 2 - f
   ·generalize goT (w9T bs (d + 1)) f c4 k = p at *
    repeat' first | ((exfalso; omega)) | ((refine ⟨(by simp), by omega, by omega, ?_⟩)) | refine sw_seq ?_ | refine sw_block ?_ | refine sw_inBlock ?_ | refine sw_skip ?_ | refine sw_go 0 kp20 fun K hK => ?_ | refine fun (K : KT) (hK : KOk S 0 _ _ _ K) => ?_ | ((first | refine runL_go ?_ | refine sw_ret (ret0 ?_) | refine sw_ret ?_); simp (disch := (refine Om.mk ?_; omega)) only [go_sem, Try.results20]) | (refine hK.nil ?_; clear hK K; simp only [go_sem]) | ((first | refine runG_fork rfl rfl rfl rfl rfl ?_ ?_ | refine sw_cond rfl ?_ ?_) <;> intro h <;> try simp (disch := (refine Om.mk ?_; omega)) only [go_sem] at h) | refine hK.skp rfl rfl ?_ | refine sw_exit rfl ?_ | refine sw_loopEnd ?_ | (refine hK.callB rfl rfl rfl (ih') ⟨⟨by simp only [Nat.reduceLT], (by first | (simp; all_goals fail) | (simp [LS.getBox, Lg.look]; all_goals fail)), by (simp [Lg.look]; all_goals fail), by (simp; all_goals fail), by (simp; all_goals fail)⟩, ⟨by (simp [D.ids, D.idsL]; all_goals fail), by (simp [D.ids, D.idsL]; all_goals fail), by (simp [D.tks, D.tksL]; all_goals fail), by (simp [D.tks, D.tksL]; all_goals fail), by (simp; all_goals fail)⟩, rfl⟩ ?_; simp (disch := (refine Om.mk ?_; omega)) only [go_sem]) | (refine hK.fork rfl rfl rfl ?_ ?_ <;> intro h <;> try simp (disch := (refine Om.mk ?_; omega)) only [go_sem] at h) | (with_reducible refine And.intro (by first | omega | (simp only [lens]; omega)) ?_) | ((with_reducible refine And.intro ?_ ?_); · first | (intro x hx; subst hx; rfl) | (intro x; refine And.intro ?_ ?_ <;> (intros; subst_vars; rfl))) | fail
    all_goals (refine ⟨k + 1, ?_, by omega, by omega⟩; rw [hs1, hs2]; exact (by (refine covers_mk0 rfl rfl ?_ ?_ ?_ ?_ <;> simp (disch := (refine Om.mk ?_; omega)) only [go_sem] <;> (try omega)); all_goals first | rfl | exact ⟨rfl, rfl⟩ | exact ⟨by omega, rfl⟩ | exact ⟨rfl, by omega⟩ | omega | trace_state))
   ·obtain e : k = (2 - f).toNat := by omega
    rw [← e]
    repeat' first | ((exfalso; omega)) | refine sw_seq ?_ | refine sw_block ?_ | refine sw_inBlock ?_ | refine sw_skip ?_ | refine sw_go 0 kp20 fun K hK => ?_ | refine fun (K : KT) (hK : KOk S 0 _ _ _ K) => ?_ | ((first | refine runL_go ?_ | refine sw_ret (ret0 ?_) | refine sw_ret ?_); simp (disch := (refine Om.mk ?_; omega)) only [go_sem, Try.results20]) | (refine hK.nil ?_; clear hK K; simp only [go_sem]) | ((first | refine runG_fork rfl rfl rfl rfl rfl ?_ ?_ | refine sw_cond rfl ?_ ?_) <;> intro h <;> try simp (disch := (refine Om.mk ?_; omega)) only [go_sem] at h) | refine hK.skp rfl rfl ?_ | refine sw_exit rfl ?_ | refine sw_loopEnd ?_ | (refine hK.fork rfl rfl rfl ?_ ?_ <;> intro h <;> try simp (disch := (refine Om.mk ?_; omega)) only [go_sem] at h) | (with_reducible refine And.intro (by first | omega | (simp only [lens]; omega)) ?_) | ((with_reducible refine And.intro ?_ ?_); · first | (intro x hx; subst hx; rfl) | (intro x; refine And.intro ?_ ?_ <;> (intros; subst_vars; rfl))) | fail
    all_goals exact ret1_ownB rfl (by simp) (by simp [Lg.look]) (by simp [D.tksL, D.tks])
end Go.Proofs.Ytmogobaaophknaa
end
section
namespace Go.Proofs.Ytmogobaaophknaa
open Go Go.Lg
set_option linter.unusedSimpArgs false
set_option linter.unusedVariables false
set_option maxHeartbeats 4000000
attribute [local irreducible] SW runL runQ runG runQG FC Ret1 toF redoL
theorem negV_rng {t : List Int} (h : ∀ x ∈ t, -24 ≤ x) : ∀ i ≤ t.length, ∀ v ∈ negV t i, 0 ≤ v ∧ v ≤ 23
 | 0, _, v, hv => by simp [negV] at hv
 | i + 1, hi, v, hv => by
  have ih := negV_rng h i (by omega)
  have hg := h _ (getD_mem t i (by omega))
  rw [negV_succ t i (by omega)] at hv
  split at hv
  ·rcases (mem_intoL v _ _).1 hv with hv | rfl
   ·exact ih v hv
   ·omega
  ·exact ih v hv
theorem l1IntoO_fc (xs : List Int) (n : Int) (hl : xs.length ≤ 1099511627776) : FC S 36 [] [] [500] [.sl (.own 500 2 1) (xs.map (.int .i64)), .int .i64 n] (.sl (.own 0 2 1) ((intoL xs n).map (.int .i64))) [] [0] := by
 refine fc_body1 Try.func36 rfl (by kernel_rfl) (by simp [Try.f36]) fun B => ?_
 simp only [Try.ntmps36, enumD, lst0, Nat.reduceAdd]
 refine sw_bnd 0 rfl fun hb0 => ?_
 simp only [D.bnd, List.length_map] at hb0
 repeat' first | refine sw_seq ?_ | refine sw_block ?_ | refine sw_inBlock ?_ | refine sw_skip ?_ | refine sw_go 0 kp36 fun K hK => ?_ | refine fun (K : KT) (hK : KOk S 0 _ _ _ K) => ?_ | ((first | refine runL_go ?_ | refine sw_ret (ret0 ?_) | refine sw_ret ?_); simp (disch := (refine Om.mk ?_; omega)) only [go_sem, Try.results36]) | (refine hK.nil ?_; clear hK K; simp only [go_sem]) | ((first | refine runG_fork rfl rfl rfl rfl rfl ?_ ?_ | refine sw_cond rfl ?_ ?_) <;> intro h <;> try simp (disch := (refine Om.mk ?_; omega)) only [go_sem] at h) | refine hK.skp rfl rfl ?_ | refine sw_exit rfl ?_ | refine sw_loopEnd ?_ | (refine hK.fork rfl rfl rfl ?_ ?_ <;> intro h <;> try simp (disch := (refine Om.mk ?_; omega)) only [go_sem] at h) | (with_reducible refine And.intro (by first | omega | (simp only [lens]; omega)) ?_) | ((with_reducible refine And.intro ?_ ?_); · first | (intro x hx; subst hx; rfl) | (intro x; refine And.intro ?_ ?_ <;> (intros; subst_vars; rfl))) | fail
 refine sw_loopU (ι := Nat) (fun i => [(5, .int .i64 i)]) (fun _ => []) (fun i => i ≤ xs.length ∧ (∀ j < i, xs.getD j default < n)) (fun i => xs.length - i) 0 (by (refine covers_mk0 rfl rfl ?_ ?_ ?_ ?_ <;> simp (disch := (refine Om.mk ?_; omega)) only [go_sem] <;> (try omega))) ⟨by omega, ?_⟩ (fun i ⟨hi, hj⟩ => ?_)
 rotate_left
 simp only [go_sem]
 have key := intoL_at n xs i hi hj
 have hd : i < xs.length → xs.drop i = _ := drop_cons
 have hlt : (xs.take i).length ≤ 1099511627776 := by simp; omega
 have e1 : i < xs.length → xs.getD i default = n → intoL xs n = xs := fun h1 h2 => by rw [key, hd h1, intoL, if_neg (by omega), if_pos h2, ← hd h1, List.take_append_drop]
 have e2 : i < xs.length → n ≤ xs.getD i default → ¬ xs.getD i default = n → intoL xs n = xs.take i ++ [n] ++ xs.drop i := fun h1 h2 h3 => by rw [key, hd h1, intoL, if_neg (by omega), if_neg h3, List.append_assoc]; rfl
 have e3 : xs.length ≤ i → intoL xs n = xs.take i ++ [n] ++ xs.drop i := fun h1 => by rw [key, List.drop_of_length_le h1, intoL, List.append_nil]
 repeat' first | refine sw_seq ?_ | refine sw_block ?_ | refine sw_inBlock ?_ | refine sw_skip ?_ | refine sw_go 0 kp36 fun K hK => ?_ | refine fun (K : KT) (hK : KOk S 0 _ _ _ K) => ?_ | ((first | refine runL_go ?_ | refine sw_ret (ret0 ?_) | refine sw_ret ?_); simp (disch := (refine Om.mk ?_; omega)) only [go_sem, Try.results36]) | (refine hK.nil ?_; clear hK K; simp only [go_sem]) | ((first | refine runG_fork rfl rfl rfl rfl rfl ?_ ?_ | refine sw_cond rfl ?_ ?_) <;> intro h <;> try simp (disch := (refine Om.mk ?_; omega)) only [go_sem] at h) | refine hK.skp rfl rfl ?_ | refine sw_exit rfl ?_ | refine sw_loopEnd ?_ | (refine hK.callB rfl rfl rfl (l1Copy_fc .any (xs.take i) (by omega)) ⟨⟨by simp only [Nat.reduceLT], (by first | (simp; all_goals fail) | (simp [LS.getBox, Lg.look]; all_goals fail)), by (simp [Lg.look]; all_goals fail), by (simp; all_goals fail), by (simp; all_goals fail)⟩, ⟨by (simp [D.ids, D.idsL]; all_goals fail), by (simp [D.ids, D.idsL]; all_goals fail), by (simp [D.tks, D.tksL]; all_goals fail), by (simp [D.tks, D.tksL]; all_goals fail), by (simp; all_goals fail)⟩, rfl⟩ ?_; simp (disch := (refine Om.mk ?_; omega)) only [go_sem]) | (refine hK.fork rfl rfl rfl ?_ ?_ <;> intro h <;> try simp (disch := (refine Om.mk ?_; omega)) only [go_sem] at h) | (with_reducible refine And.intro (by first | omega | (simp only [lens]; omega)) ?_) | ((with_reducible refine And.intro ?_ ?_); · first | (intro x hx; subst hx; rfl) | (intro x; refine And.intro ?_ ?_ <;> (intros; subst_vars; rfl))) | fail
 all_goals first
  | (intro j hj'; omega)
  | exact ⟨i + 1, by (refine covers_mk0 rfl rfl ?_ ?_ ?_ ?_ <;> simp (disch := (refine Om.mk ?_; omega)) only [go_sem] <;> (try omega)), ⟨by omega, upto_succ hj (by assumption)⟩, by omega⟩
  | (rw [e1 (by omega) (by assumption)]; exact ret1_own rfl (by simp))
  | (rw [e2 (by omega) (by omega) (by assumption)]; exact ret1_own rfl (by simp))
  | (rw [e3 (by omega)]; exact ret1_own rfl (by simp))
  | (exfalso; omega)
theorem l2VarsO_fc (t : List Int) (ht : t.length ≤ 1000) (hlo : ∀ x ∈ t, -1000 ≤ x) : FC S 34 [] [] [] [.sl .any (t.map (.int .i64))] (.sl (.own 0 2 1) ((negV t t.length).map (.int .i64))) [] [0] := by
 refine fc_body1 Try.func34 rfl (by kernel_rfl) (by simp [Try.f34]) fun B => ?_
 simp only [Try.ntmps34, enumD, lst0, Nat.reduceAdd]
 refine sw_bnd 0 rfl fun hb0 => ?_
 simp only [D.bnd, List.length_map] at hb0
 repeat' first | ((refine sw_tok 3 500 2 1 rfl (.inr rfl) rfl ?_; simp only [go_sem])) | refine sw_seq ?_ | refine sw_block ?_ | refine sw_inBlock ?_ | refine sw_skip ?_ | refine sw_go 0 kp34 fun K hK => ?_ | refine fun (K : KT) (hK : KOk S 0 _ _ _ K) => ?_ | ((first | refine runL_go ?_ | refine sw_ret (ret0 ?_) | refine sw_ret ?_); simp (disch := (refine Om.mk ?_; omega)) only [go_sem, Try.results34]) | (refine hK.nil ?_; clear hK K; simp only [go_sem]) | ((first | refine sw_cond rfl ?_ ?_) <;> intro h <;> try simp (disch := (refine Om.mk ?_; omega)) only [go_sem] at h) | refine sw_exit rfl ?_ | refine sw_loopEnd ?_ | (with_reducible refine And.intro (by first | omega | (simp only [lens]; omega)) ?_) | ((with_reducible refine And.intro ?_ ?_); · first | (intro x hx; subst hx; rfl) | (intro x; refine And.intro ?_ ?_ <;> (intros; subst_vars; rfl))) | fail
 refine sw_loopT (ι := Nat) (fun p => [(4, .int .i64 p), (3, .sl (.own 500 2 1) ((negV t p).map (.int .i64)))]) (fun _ => []) (fun _ => [500]) (fun p => p ≤ t.length) (fun p => t.length - p) 0 (by (refine covers_mk0 rfl rfl ?_ ?_ ?_ ?_ <;> simp (disch := (refine Om.mk ?_; omega)) only [go_sem] <;> (try omega)); all_goals exact ⟨rfl, rfl⟩) (by omega) (fun p hp => ?_)
 simp only [go_sem]
 have hl := negV_len t p hp
 have hs := negV_succ t p
 have hg : p < t.length → -1000 ≤ t.getD p default := fun h => hlo _ (getD_mem t p h)
 repeat' first | ((refine sw_renC 24000 500 rfl rfl ?_; simp only [go_sem])) | refine sw_seq ?_ | refine sw_block ?_ | refine sw_inBlock ?_ | refine sw_skip ?_ | refine sw_go 0 kp34 fun K hK => ?_ | refine fun (K : KT) (hK : KOk S 0 _ _ _ K) => ?_ | ((first | refine runL_go ?_ | refine sw_ret (ret0 ?_) | refine sw_ret ?_); simp (disch := (refine Om.mk ?_; omega)) only [go_sem, Try.results34]) | (refine hK.nil ?_; clear hK K; simp only [go_sem]) | ((first | refine sw_cond rfl ?_ ?_) <;> intro h <;> try simp (disch := (refine Om.mk ?_; omega)) only [go_sem] at h) | refine sw_exit rfl ?_ | refine sw_loopEnd ?_ | (refine hK.callB rfl rfl rfl (l1IntoO_fc (negV t p) (-1 - t.getD p default) (by omega)) ⟨⟨by simp only [Nat.reduceLT], (by first | (simp; all_goals fail) | (simp [LS.getBox, Lg.look]; all_goals fail)), by (simp [Lg.look]; all_goals fail), by (simp; all_goals fail), by (simp; all_goals fail)⟩, ⟨by (simp [D.ids, D.idsL]; all_goals fail), by (simp [D.ids, D.idsL]; all_goals fail), by (simp [D.tks, D.tksL]; all_goals fail), by (simp [D.tks, D.tksL]; all_goals fail), by (simp; all_goals fail)⟩, rfl⟩ ?_; simp (disch := (refine Om.mk ?_; omega)) only [go_sem]) | (with_reducible refine And.intro (by first | omega | (simp only [lens]; omega)) ?_) | ((with_reducible refine And.intro ?_ ?_); · first | (intro x hx; subst hx; rfl) | (intro x; refine And.intro ?_ ?_ <;> (intros; subst_vars; rfl))) | fail
 all_goals first
  | exact ⟨p + 1, (by rw [hs (by omega), if_pos (by omega)]; (refine covers_mk0 rfl rfl ?_ ?_ ?_ ?_ <;> simp (disch := (refine Om.mk ?_; omega)) only [go_sem] <;> (try omega)); all_goals first | exact ⟨rfl, by omega⟩ | (simp; done)), by omega, by omega⟩
  | exact ⟨p + 1, (by rw [hs (by omega), if_neg (by omega)]; (refine covers_mk0 rfl rfl ?_ ?_ ?_ ?_ <;> simp (disch := (refine Om.mk ?_; omega)) only [go_sem] <;> (try omega)); all_goals first | exact ⟨rfl, by omega⟩ | (simp; done)), by omega, by omega⟩
  | (rw [show t.length = p by omega]; exact ret1_own rfl (by simp))
  | (exfalso; omega)
def kp21 : List (Nat × List Nat) := [(0, [1, 2]), (1, [1, 8]), (2, [4]), (3, [4])]
attribute [go_sem] kp21
theorem varsOfO_fc (tk : Tk) (rs t : List Int) (ht : t.length ≤ 1000) : ∃ V : List Int, V.length ≤ 1000 ∧ (∀ v ∈ V, 0 ≤ v ∧ v ≤ 23) ∧ FC S 21 [] [] [] [.agg [.sl .any (rs.map (.int .i64))], .sl tk (t.map (.int .i64))] (.sl (.own 0 2 1) (V.map (.int .i64))) [] [0] := by
 rcases Classical.em (TermOkP rs t) with hT | hT
 ·refine ⟨negV t t.length, (by have := negV_len t t.length (Nat.le_refl _); omega), negV_rng hT.ge _ (Nat.le_refl _), ?_⟩
  have cV := l2VarsO_fc t ht (fun x hx => by have := hT.ge x hx; omega)
  generalize negV t t.length = V at *
  refine FC.args (args' := [.agg [.sl .any (rs.map (.int .i64))], .sl .any (t.map (.int .i64))]) ?_ (by simp only [go_sem])
  refine fc_body1 Try.func21 rfl (by kernel_rfl) (by simp [Try.f21]) fun B => ?_
  simp only [Try.ntmps21, enumD, lst0, Nat.reduceAdd]
  repeat' first | ((exact absurd hT (by assumption))) | refine sw_seq ?_ | refine sw_skip ?_ | refine sw_go 0 kp21 fun K hK => ?_ | refine fun (K : KT) (hK : KOk S 0 _ _ _ K) => ?_ | ((first | refine runL_go ?_ | refine sw_ret (ret0 ?_) | refine sw_ret ?_); simp (disch := (refine Om.mk ?_; omega)) only [go_sem, Try.results21]) | (refine hK.nil ?_; clear hK K; simp only [go_sem]) | ((first | refine sw_cond rfl ?_ ?_) <;> intro h <;> try simp (disch := (refine Om.mk ?_; omega)) only [go_sem] at h) | refine sw_loopEnd ?_ | refine hK.c0 rfl rfl rfl (specTermOk_fc _ _ _ _) rfl rfl rfl ?_ | (refine hK.callB rfl rfl rfl (cV) ⟨⟨by simp only [Nat.reduceLT], (by first | (simp; all_goals fail) | (simp [LS.getBox, Lg.look]; all_goals fail)), by (simp [Lg.look]; all_goals fail), by (simp; all_goals fail), by (simp; all_goals fail)⟩, ⟨by (simp [D.ids, D.idsL]; all_goals fail), by (simp [D.ids, D.idsL]; all_goals fail), by (simp [D.tks, D.tksL]; all_goals fail), by (simp [D.tks, D.tksL]; all_goals fail), by (simp; all_goals fail)⟩, rfl⟩ ?_; simp (disch := (refine Om.mk ?_; omega)) only [go_sem]) | (with_reducible refine And.intro (by first | omega | (simp only [lens]; omega)) ?_) | ((with_reducible refine And.intro ?_ ?_); · first | (intro x hx; subst hx; rfl) | (intro x; refine And.intro ?_ ?_ <;> (intros; subst_vars; rfl))) | fail
  all_goals exact ret1_own rfl (by simp)
 ·refine ⟨[], by simp, by simp, ?_⟩
  refine FC.args (args' := [.agg [.sl .any (rs.map (.int .i64))], .sl .any (t.map (.int .i64))]) ?_ (by simp only [go_sem])
  refine fc_body1 Try.func21 rfl (by kernel_rfl) (by simp [Try.f21]) fun B => ?_
  simp only [Try.ntmps21, enumD, lst0, Nat.reduceAdd]
  repeat' first | ((exact absurd (by assumption) hT)) | ((refine sw_tok 4 500 2 1 rfl (.inr rfl) rfl ?_; simp only [go_sem])) | refine sw_seq ?_ | refine sw_skip ?_ | refine sw_go 0 kp21 fun K hK => ?_ | refine fun (K : KT) (hK : KOk S 0 _ _ _ K) => ?_ | ((first | refine runL_go ?_ | refine sw_ret (ret0 ?_) | refine sw_ret ?_); simp (disch := (refine Om.mk ?_; omega)) only [go_sem, Try.results21]) | (refine hK.nil ?_; clear hK K; simp only [go_sem]) | ((first | refine sw_cond rfl ?_ ?_) <;> intro h <;> try simp (disch := (refine Om.mk ?_; omega)) only [go_sem] at h) | refine sw_loopEnd ?_ | refine hK.c0 rfl rfl rfl (specTermOk_fc _ _ _ _) rfl rfl rfl ?_ | (with_reducible refine And.intro (by first | omega | (simp only [lens]; omega)) ?_) | ((with_reducible refine And.intro ?_ ?_); · first | (intro x hx; subst hx; rfl) | (intro x; refine And.intro ?_ ?_ <;> (intros; subst_vars; rfl))) | fail
  all_goals exact ret1_own rfl (by simp)
end Go.Proofs.Ytmogobaaophknaa
end
