/-
  Defined symbols and constructors, both sides.
-/
import Derived.Test.YtfokjjlbdaabaaaA06e
import Derived.Test.YtfokjjlbdaabaaaA01s
import Derived.Test.YtfokjjlbdaabaaaA06f
namespace Go.Proofs.Ytfokjjlbdaabaaa
open Go Go.Lg
set_option linter.unusedSimpArgs false
set_option linter.unusedVariables false
set_option maxHeartbeats 4000000
theorem map_mk_freezeLab {B : Base} {R : LS → Prop} {k : List VItem} {L : LS} (t s : Nat) (l : List Nat) {id n : Nat} {cs : List D} (xs : List D) (ht : Lg.look L.env t = some (.ms id n)) (hb : Lg.look L.boxes id = some cs) (hx : cs = flat xs) (hn : n = xs.length)
    (hu : ∀ x ∈ xs, x.cells.length = s) (hk : ∀ d ∈ cs, d.memOk = true) (hl : l ≠ []) (hfix : id ∉ L.fix) (hh : SW S B R k { L.forget id with env := setA (L.forget id).env t (.sl (.lab l) xs) }) : SW S B R k L := fun G a w hs => by
  obtain ⟨G', h'⟩ := freezeLab_sim hs ht hb hx hn hu hk hl hfix
  exact hh G' a w h'
theorem setA_setA {α : Type} (k : Nat) (x y : α) : ∀ l : List (Nat × α), setA (setA l k x) k y = setA l k y
  | [] => by simp [setA]
  | (j, z) :: r => by
    by_cases h : j = k
    · simp [setA, h]
    · simp [setA, h, setA_setA k x y r]
theorem sw_clearR {B : Base} {R : LS → Prop} {kk : List VItem} {L : LS} (kp : List (Nat × List Nat)) {rid a b c x y : Nat} {T e : TypeId} {zb : Nat} {ty1 ty2 ty3 ty4 : TypeId} {p1 p2 p3 p4 : String} {a1 a2 a3 a4 : Array Edge} {id n i : Nat} {cs : List D}
    (hx : Lg.look L.env x = some (.ms id n)) (hy : Lg.look (setA L.env a (.ms id n)) y = some (.int .i64 i)) (hin : i ≤ n) (hcs : Lg.look L.boxes id = some cs) (hl : cs.length = n)
    (hk : S.kd T = some (.slice e)) (hi : S.tab e = some ⟨.int .i64, zb, [.int .i64]⟩) (hside : a < L.n ∧ b < L.n ∧ c < L.n ∧ a ≠ b)
    (h : SW S B R kk (LS.keepAt { ((L.put a (.ms id n)).put b (.int .i64 i)) with env := eraseK c ((L.put a (.ms id n)).put b (.int .i64 i)).env, boxes := setA L.boxes id (cs.take i) } kp rid)) :
    SW S B R (.code (.region rid [⟨some a, .move (.tmp x), ty1, p1, a1, none⟩, ⟨some b, .move (.tmp y), ty2, p2, a2, none⟩, ⟨some c, .slice T (.tmp a) (some (.tmp b)) none none, ty3, p3, a3, none⟩, ⟨none, .call ⟨.builtin .clear, #[.tmp c], #[T]⟩, ty4, p4, a4, none⟩].toArray false) :: kk) L := by
  obtain ⟨s1, s2, s3, s4⟩ := hside
  refine sw_region (LopsW.step (base := 0) rfl ?_)
  have hx' : evalO L (.tmp x) = some (.ms id n) := hx
  simp only [stepY, opY, hx', someK]
  refine ⟨s1, LopsW.step (base := 0) rfl ?_⟩
  have hy' : evalO (L.putO (some a) (.ms id n)) (.tmp y) = some (.int .i64 i) := hy
  simp only [stepY, opY, hy', someK]
  refine ⟨s2, LopsW.clear (id := id) (n := n) (i := i) (cs := cs) (e := e) (zb := zb) ?_ ?_ hin hcs hl hk hi s3 rfl (LopsW.nil (sw_trunc id i (cs := cs.take i ++ List.replicate (n - i) (.int .i64 0)) (by simp [look_setA]) ?_))⟩
  · simp [evalO, LS.get, LS.putO, LS.put, look_setA, Ne.symm s4]
  · simp [evalO, LS.get, LS.putO, LS.put, look_setA]
  · have e : (cs.take i ++ List.replicate (n - i) (D.int .i64 0)).take i = cs.take i := by
      rw [List.take_append_of_le_length (by rw [List.length_take]; omega), List.take_take, Nat.min_self]
    rw [e]
    simp only [setA_setA]
    exact sw_keepAt kp rid h
attribute [local irreducible] SW runL runQ runG runQG FC Ret1
noncomputable def notP (p : Int → Prop) (xs : List Int) : List Int := xs.filter fun x => !(tst (p x))
noncomputable def delS (p : Int → Prop) (xs : List Int) (j : Nat) : List Int := notP p (xs.take j) ++ xs.drop (notP p (xs.take j)).length
theorem notP_len (p : Int → Prop) (xs : List Int) : (notP p xs).length ≤ xs.length := List.length_filter_le _ _
theorem notP_snoc (p : Int → Prop) (xs : List Int) (j : Nat) (h : j < xs.length) : (p (xs.getD j default) → notP p (xs.take (j + 1)) = notP p (xs.take j)) ∧ (¬ p (xs.getD j default) → notP p (xs.take (j + 1)) = notP p (xs.take j) ++ [xs.getD j default]) := by
  unfold notP
  rw [take_snoc xs j h, List.filter_append]
  constructor <;> intro hp
  · simp only [List.filter_cons, List.filter_nil, tst_true hp]; simp
  · simp only [List.filter_cons, List.filter_nil, tst_false hp]; simp
theorem delS_len (p : Int → Prop) (xs : List Int) (j : Nat) : (delS p xs j).length = xs.length := by
  have := notP_len p (xs.take j)
  rw [List.length_take] at this
  unfold delS
  rw [List.length_append, List.length_drop]; omega
theorem delS_get (p : Int → Prop) (xs : List Int) (j : Nat) (h : j < xs.length) : (delS p xs j).getD j default = xs.getD j default := by
  have := notP_len p (xs.take j)
  rw [List.length_take] at this
  unfold delS
  simp only [List.getD, List.getElem?_append]
  rw [if_neg (by omega), List.getElem?_drop]
  congr 2; omega
theorem set_mid (a b : List Int) (v : Int) (h : b ≠ []) : (a ++ b).set a.length v = a ++ v :: b.drop 1 := by
  induction a with
  | nil => cases b with
    | nil => exact absurd rfl h
    | cons c b => rfl
  | cons c a ih => simp [ih]
theorem delS_set (p : Int → Prop) (xs : List Int) (j : Nat) (h : j < xs.length) (hp : ¬ p (xs.getD j default)) : (delS p xs j).set (notP p (xs.take j)).length (xs.getD j default) = delS p xs (j + 1) := by
  have hl := notP_len p (xs.take j)
  rw [List.length_take] at hl
  unfold delS
  rw [set_mid _ _ _ (by intro e; have := congrArg List.length e; simp at this; omega), (notP_snoc p xs j h).2 hp, List.drop_drop]
  simp [Nat.add_comm]
theorem delS_same (p : Int → Prop) (xs : List Int) (j : Nat) (h : j < xs.length) (hp : p (xs.getD j default)) : delS p xs (j + 1) = delS p xs j := by
  unfold delS
  rw [(notP_snoc p xs j h).1 hp]
theorem notP_none (p : Int → Prop) : ∀ xs : List Int, (∀ x ∈ xs, ¬ p x) → notP p xs = xs := fun xs h => by
  unfold notP
  exact List.filter_eq_self.2 fun x hx => by rw [tst_false (h x hx)]; rfl
theorem indexFuncM_fc (id : Nat) (xs : List Int) (hb : xs.length ≤ 9223372036854775807) (p : Int → Prop) (f : Nat) (cap : List D) (ro : List (Nat × List D)) (hro : ∀ q ∈ ro, Lg.look ro q.1 = some q.2) (hne : ∀ q ∈ ro, id ≠ q.1) (hf : ∀ x ∈ xs, FC S f ro [] [] ([.int .i64 x] ++ cap) (.bool (tst (p x))) [] []) : FC S 89 ((id, xs.map (.int .i64)) :: ro) [] [] [.ms id xs.length, .fn f cap] (.int .i64 (fidx p xs)) [] [] := by
  have hro1 : ∀ q ∈ ro, Lg.look ((id, xs.map (D.int .i64)) :: ro) q.1 = some q.2 := fun q hq => by simp only [Lg.look]; rw [if_neg (hne q hq)]; exact hro q hq
  have hro2 : ∀ q ∈ ((id, xs.map (D.int .i64)) :: ro), Lg.look ((id, xs.map (D.int .i64)) :: ro) q.1 = some q.2 := fun q hq => by
    rcases List.mem_cons.1 hq with rfl | hq
    · simp [Lg.look]
    · exact hro1 q hq
  refine fc_body Try.func89 rfl (by kernel_rfl) (by simp [Try.f89]) fun B => ?_
  simp only [Try.ntmps89, enumD, List.map_nil, List.map_cons, List.length_map, Nat.zero_add, Nat.reduceAdd]
  repeat' first
    | exact Bool.noConfusion h
    | refine sw_seq ?_
    | refine sw_block ?_
    | refine sw_skip ?_
    | refine sw_inBlock ?_
    | refine sw_go 0 kp89 fun K hK => ?_
    | refine fun (K : List Oper → LS → Prop) (hK : KOk S 0 _ _ _ K) => ?_
    | ((first | refine runL_go ?_ | refine runQ_go ?_); simp (disch := (refine Om.mk ?_; omega)) only [go_sem])
    | (refine hK.nil ?_; clear hK K; simp only [go_sem])
    | (refine sw_cond rfl (fun h => ?_) (fun h => ?_) <;> (try simp (disch := (refine Om.mk ?_; omega)) only [go_sem] at h))
    | (refine sw_exit rfl ?_)
    | (refine sw_loopEnd ?_)
    | ((first | refine sw_ret (ret0 ?_) | refine sw_ret ?_); simp (disch := (refine Om.mk ?_; omega)) only [go_sem, Try.results89])
    | (with_reducible refine And.intro (by first | omega | (simp only [List.length_append, List.length_take, List.length_drop, List.length_cons, List.length_nil, List.length_map]; omega)) ?_)
    | ((with_reducible refine And.intro ?_ ?_); · first | (intro x hx; subst hx; rfl) | exact upR_mem fun _ _ => rfl | exact mapR_mem fun _ _ => rfl | (intro x; refine And.intro ?_ ?_ <;> (intros; subst_vars; rfl)))
    | fail
  refine sw_loopU (ι := Nat) (fun i => [(8, .int .i64 i)]) (fun _ => []) (fun i => i ≤ xs.length ∧ (∀ j < i, ¬ p (xs.getD j default))) (fun i => xs.length - i) 0 (by (refine covers_mk0 rfl rfl ?_ ?_ ?_ ?_ <;> simp (disch := (refine Om.mk ?_; omega)) only [go_sem] <;> (try omega)); exact boxLe_mk hro1) ⟨by omega, ?_⟩ (fun i ⟨hi, hj⟩ => ?_)
  rotate_left
  simp only [go_sem]
  repeat' first
    | exact Bool.noConfusion h
    | refine sw_seq ?_
    | refine sw_block ?_
    | refine sw_skip ?_
    | refine sw_inBlock ?_
    | refine sw_go 0 kp89 fun K hK => ?_
    | refine fun (K : List Oper → LS → Prop) (hK : KOk S 0 _ _ _ K) => ?_
    | ((first | refine runL_go ?_ | refine runQ_go ?_); simp (disch := (refine Om.mk ?_; omega)) only [go_sem])
    | (refine hK.nil ?_; clear hK K; simp only [go_sem])
    | (refine sw_cond rfl (fun h => ?_) (fun h => ?_) <;> (try simp (disch := (refine Om.mk ?_; omega)) only [go_sem] at h))
    | (refine sw_exit rfl ?_)
    | (refine sw_loopEnd ?_)
    | ((first | refine sw_ret (ret0 ?_) | refine sw_ret ?_); simp (disch := (refine Om.mk ?_; omega)) only [go_sem, Try.results89])
    | (with_reducible refine And.intro (by first | omega | (simp only [List.length_append, List.length_take, List.length_drop, List.length_cons, List.length_nil, List.length_map]; omega)) ?_)
    | ((with_reducible refine And.intro ?_ ?_); · first | (intro x hx; subst hx; rfl) | exact upR_mem fun _ _ => rfl | exact mapR_mem fun _ _ => rfl | (intro x; refine And.intro ?_ ?_ <;> (intros; subst_vars; rfl)))
    | fail
  · refine hK.call rfl rfl rfl (hf (xs.getD i default) (getD_mem _ _ (by omega))) ⟨hro1, rfl, rfl, (by simp only [dstOk, Nat.reduceLT])⟩ ?_
    repeat' first
      | exact Bool.noConfusion h
      | refine sw_seq ?_
      | refine sw_block ?_
      | refine sw_skip ?_
      | refine sw_inBlock ?_
      | refine sw_go 0 kp89 fun K hK => ?_
      | refine fun (K : List Oper → LS → Prop) (hK : KOk S 0 _ _ _ K) => ?_
      | ((first | refine runL_go ?_ | refine runQ_go ?_); simp (disch := (refine Om.mk ?_; omega)) only [go_sem])
      | (refine hK.nil ?_; clear hK K; simp only [go_sem])
      | (refine sw_cond rfl (fun h => ?_) (fun h => ?_) <;> (try simp (disch := (refine Om.mk ?_; omega)) only [go_sem] at h))
      | (refine sw_exit rfl ?_)
      | (refine sw_loopEnd ?_)
      | ((first | refine sw_ret (ret0 ?_) | refine sw_ret ?_); simp (disch := (refine Om.mk ?_; omega)) only [go_sem, Try.results89])
      | (with_reducible refine And.intro (by first | omega | (simp only [List.length_append, List.length_take, List.length_drop, List.length_cons, List.length_nil, List.length_map]; omega)) ?_)
      | ((with_reducible refine And.intro ?_ ?_); · first | (intro x hx; subst hx; rfl) | exact upR_mem fun _ _ => rfl | exact mapR_mem fun _ _ => rfl | (intro x; refine And.intro ?_ ?_ <;> (intros; subst_vars; rfl)))
      | fail
    · exact (fidx_at hj (by omega) h).symm
    · exact ⟨i + 1, (by (refine covers_mk0 rfl rfl ?_ ?_ ?_ ?_ <;> simp (disch := (refine Om.mk ?_; omega)) only [go_sem] <;> (try omega)); exact boxLe_mk hro1), ⟨by omega, upto_succ hj h⟩, by omega⟩
  · exact (fidx_none fun j hj' => hj j (by omega)).symm
  · intro j hj'; omega
theorem getBox1 {L : LS} {id : Nat} {cs : List D} {ro : List (Nat × List D)} (h1 : L.boxes = [(id, cs)]) (h2 : L.ro = ro) (hro : ∀ q ∈ ro, Lg.look ro q.1 = some q.2) (hne : ∀ q ∈ ro, id ≠ q.1) : L.getBox id = some cs ∧ ∀ q ∈ ro, L.getBox q.1 = some q.2 := by
  constructor
  · simp [LS.getBox, h1, Lg.look]
  · intro q hq
    simp only [LS.getBox, h1, h2, Lg.look]
    rw [if_neg (hne q hq)]
    exact hro q hq
theorem fidx_spec {p : Int → Prop} {xs : List Int} (h : fidx p xs ≠ -1) : ∃ i : Nat, fidx p xs = (i : Int) ∧ i < xs.length ∧ p (xs.getD i default) ∧ ∀ j < i, ¬ p (xs.getD j default) := by
  unfold fidx at h ⊢
  cases hf : xs.findIdx? (fun x => tst (p x)) with
  | none => rw [hf] at h; exact absurd rfl h
  | some i =>
    rw [List.findIdx?_eq_some_iff_getElem] at hf
    obtain ⟨hlt, h1, h2⟩ := hf
    refine ⟨i, rfl, hlt, ?_, fun j hj hp => ?_⟩
    · have := tst_iff.1 h1
      simpa [List.getD, List.getElem?_eq_getElem hlt] using this
    · have hjl : j < xs.length := by omega
      have := h2 j hj
      rw [show xs.getD j default = xs[j] by simp [List.getD, List.getElem?_eq_getElem hjl]] at hp
      rw [tst_true hp] at this
      exact this rfl
def kp55 : List (Nat × List Nat) := [(0, [0, 1]), (1, [0, 1, 5]), (2, [0, 1, 5, 12]), (3, [4]), (4, [0, 1, 5, 6]), (5, [0, 1, 5, 6, 19]), (7, [0, 1, 5, 6, 7]), (8, [0, 1, 5, 6, 7, 29]), (9, [0, 1, 5, 6]), (10, [0, 1, 5, 6]), (6, [0, 1, 5, 6]), (11, [0, 5]), (12, [4])]
attribute [go_sem] kp55
theorem deleteFunc_fc (id : Nat) (xs : List Int) (hb : xs.length ≤ 1000) (pr : Int → Prop) (f : Nat) (cap : List D) (ro : List (Nat × List D)) (hro : ∀ q ∈ ro, Lg.look ro q.1 = some q.2) (hne : ∀ q ∈ ro, id ≠ q.1) (hf : ∀ x ∈ xs, FC S f ro [] [] ([.int .i64 x] ++ cap) (.bool (tst (pr x))) [] []) : FC S 55 ro [(id, xs.map (.int .i64))] [] [.ms id xs.length, .fn f cap] (.ms id (notP pr xs).length) [(id, (notP pr xs).map (.int .i64))] [] := by
  have call : ∀ {L : LS}, L.boxes = [(id, xs.map (D.int .i64))] → L.ro = ro → ∀ q ∈ ((id, xs.map (D.int .i64)) :: ro), L.getBox q.1 = some q.2 := fun h1 h2 q hq => by
    rcases List.mem_cons.1 hq with rfl | hq
    · exact (getBox1 h1 h2 hro hne).1
    · exact (getBox1 h1 h2 hro hne).2 q hq
  have call2 : ∀ {L : LS} {cs : List D}, L.boxes = [(id, cs)] → L.ro = ro → ∀ q ∈ ro, L.getBox q.1 = some q.2 := fun h1 h2 => (getBox1 h1 h2 hro hne).2
  rcases Classical.em (fidx pr xs = -1) with hn | hy
  · have hnone : ∀ x ∈ xs, ¬ pr x := fun x hx hp => by
      have := (fidx_ge (p := pr) (xs := xs)).2 ⟨x, hx, hp⟩
      omega
    rw [notP_none pr xs hnone]
    refine fc_body Try.func55 rfl (by kernel_rfl) (by simp [Try.f55]) fun B => ?_
    simp only [Try.ntmps55, enumD, List.map_nil, List.map_cons, List.length_map, Nat.zero_add, Nat.reduceAdd]
    repeat' first
      | exact Bool.noConfusion h
      | refine sw_seq ?_
      | refine sw_block ?_
      | refine sw_skip ?_
      | refine sw_inBlock ?_
      | refine sw_go 0 kp55 fun K hK => ?_
      | refine fun (K : List Oper → LS → Prop) (hK : KOk S 0 _ _ _ K) => ?_
      | ((first | refine runL_go ?_ | refine runQ_go ?_); simp (disch := (refine Om.mk ?_; omega)) only [go_sem])
      | (refine hK.nil ?_; clear hK K; simp only [go_sem])
      | (refine sw_cond rfl (fun h => ?_) (fun h => ?_) <;> (try simp (disch := (refine Om.mk ?_; omega)) only [go_sem] at h))
      | (refine sw_exit rfl ?_)
      | (refine sw_loopEnd ?_)
      | ((first | refine sw_ret (ret0 ?_) | refine sw_ret ?_); simp (disch := (refine Om.mk ?_; omega)) only [go_sem, Try.results55])
      | (with_reducible refine And.intro (by first | omega | (simp only [List.length_append, List.length_take, List.length_drop, List.length_cons, List.length_nil, List.length_map]; omega)) ?_)
      | ((with_reducible refine And.intro ?_ ?_); · first | (intro x hx; subst hx; rfl) | exact upR_mem fun _ _ => rfl | exact mapR_mem fun _ _ => rfl | (intro x; refine And.intro ?_ ?_ <;> (intros; subst_vars; rfl)))
      | fail
    refine hK.call rfl rfl rfl (indexFuncM_fc id xs (by omega) pr f cap ro hro hne hf) ⟨call rfl rfl, rfl, rfl, (by simp only [dstOk, Nat.reduceLT])⟩ ?_
    rw [hn]
    repeat' first
      | exact Bool.noConfusion h
      | refine sw_seq ?_
      | refine sw_block ?_
      | refine sw_skip ?_
      | refine sw_inBlock ?_
      | refine sw_go 0 kp55 fun K hK => ?_
      | refine fun (K : List Oper → LS → Prop) (hK : KOk S 0 _ _ _ K) => ?_
      | ((first | refine runL_go ?_ | refine runQ_go ?_); simp (disch := (refine Om.mk ?_; omega)) only [go_sem])
      | (refine hK.nil ?_; clear hK K; simp only [go_sem])
      | (refine sw_cond rfl (fun h => ?_) (fun h => ?_) <;> (try simp (disch := (refine Om.mk ?_; omega)) only [go_sem] at h))
      | (refine sw_exit rfl ?_)
      | (refine sw_loopEnd ?_)
      | ((first | refine sw_ret (ret0 ?_) | refine sw_ret ?_); simp (disch := (refine Om.mk ?_; omega)) only [go_sem, Try.results55])
      | (with_reducible refine And.intro (by first | omega | (simp only [List.length_append, List.length_take, List.length_drop, List.length_cons, List.length_nil, List.length_map]; omega)) ?_)
      | ((with_reducible refine And.intro ?_ ?_); · first | (intro x hx; subst hx; rfl) | exact upR_mem fun _ _ => rfl | exact mapR_mem fun _ _ => rfl | (intro x; refine And.intro ?_ ?_ <;> (intros; subst_vars; rfl)))
      | fail
  · obtain ⟨i0, hi0, hlt, hp0, hmin⟩ := fidx_spec hy
    have hst0 : notP pr (xs.take (i0 + 1)) = xs.take i0 := by
      rw [(notP_snoc pr xs i0 hlt).1 hp0]
      exact notP_none _ _ fun x hx => by
        obtain ⟨j, hj, rfl⟩ := List.getElem_of_mem hx
        rw [List.length_take] at hj
        have := hmin j (by omega)
        rwa [show xs.getD j default = (xs.take i0)[j] by simp [List.getD, List.getElem?_eq_getElem (show j < xs.length by omega)]] at this
    have hl0 : (xs.take i0).length = i0 := by rw [List.length_take]; omega
    have hd0 : delS pr xs (i0 + 1) = xs := by unfold delS; rw [hst0, hl0, List.take_append_drop]
    refine fc_body Try.func55 rfl (by kernel_rfl) (by simp [Try.f55]) fun B => ?_
    simp only [Try.ntmps55, enumD, List.map_nil, List.map_cons, List.length_map, Nat.zero_add, Nat.reduceAdd]
    repeat' first
      | exact Bool.noConfusion h
      | refine sw_seq ?_
      | refine sw_block ?_
      | refine sw_skip ?_
      | refine sw_inBlock ?_
      | refine sw_go 0 kp55 fun K hK => ?_
      | refine fun (K : List Oper → LS → Prop) (hK : KOk S 0 _ _ _ K) => ?_
      | ((first | refine runL_go ?_ | refine runQ_go ?_); simp (disch := (refine Om.mk ?_; omega)) only [go_sem])
      | (refine hK.nil ?_; clear hK K; simp only [go_sem])
      | (refine sw_cond rfl (fun h => ?_) (fun h => ?_) <;> (try simp (disch := (refine Om.mk ?_; omega)) only [go_sem] at h))
      | (refine sw_exit rfl ?_)
      | (refine sw_loopEnd ?_)
      | ((first | refine sw_ret (ret0 ?_) | refine sw_ret ?_); simp (disch := (refine Om.mk ?_; omega)) only [go_sem, Try.results55])
      | (with_reducible refine And.intro (by first | omega | (simp only [List.length_append, List.length_take, List.length_drop, List.length_cons, List.length_nil, List.length_map]; omega)) ?_)
      | ((with_reducible refine And.intro ?_ ?_); · first | (intro x hx; subst hx; rfl) | exact upR_mem fun _ _ => rfl | exact mapR_mem fun _ _ => rfl | (intro x; refine And.intro ?_ ?_ <;> (intros; subst_vars; rfl)))
      | fail
    refine hK.call rfl rfl rfl (indexFuncM_fc id xs (by omega) pr f cap ro hro hne hf) ⟨call rfl rfl, rfl, rfl, (by simp only [dstOk, Nat.reduceLT])⟩ ?_
    rw [hi0]
    repeat' first
      | exact Bool.noConfusion h
      | refine sw_seq ?_
      | refine sw_block ?_
      | refine sw_skip ?_
      | refine sw_inBlock ?_
      | refine sw_go 0 kp55 fun K hK => ?_
      | refine fun (K : List Oper → LS → Prop) (hK : KOk S 0 _ _ _ K) => ?_
      | ((first | refine runL_go ?_ | refine runQ_go ?_); simp (disch := (refine Om.mk ?_; omega)) only [go_sem])
      | (refine hK.nil ?_; clear hK K; simp only [go_sem])
      | (refine sw_cond rfl (fun h => ?_) (fun h => ?_) <;> (try simp (disch := (refine Om.mk ?_; omega)) only [go_sem] at h))
      | (refine sw_exit rfl ?_)
      | (refine sw_loopEnd ?_)
      | ((first | refine sw_ret (ret0 ?_) | refine sw_ret ?_); simp (disch := (refine Om.mk ?_; omega)) only [go_sem, Try.results55])
      | (with_reducible refine And.intro (by first | omega | (simp only [List.length_append, List.length_take, List.length_drop, List.length_cons, List.length_nil, List.length_map]; omega)) ?_)
      | ((with_reducible refine And.intro ?_ ?_); · first | (intro x hx; subst hx; rfl) | exact upR_mem fun _ _ => rfl | exact mapR_mem fun _ _ => rfl | (intro x; refine And.intro ?_ ?_ <;> (intros; subst_vars; rfl)))
      | fail
    refine sw_loopU (ι := Nat) (fun p => [(6, .int .i64 p), (5, .int .i64 (notP pr (xs.take p)).length)]) (fun p => [(id, (delS pr xs p).map (.int .i64))]) (fun p => p ≤ xs.length) (fun p => xs.length - p) (i0 + 1) (by (refine covers_mk0 rfl rfl ?_ ?_ ?_ ?_ <;> simp (disch := (refine Om.mk ?_; omega)) only [go_sem] <;> (try omega)); all_goals first | exact boxLe_mk hro | exact hd0.symm | simp [hst0, hl0]) ?_ (fun p hp => ?_)
    rotate_left
    simp only [go_sem]
    have hdl := delS_len pr xs p
    have hdg := delS_get pr xs p
    have hds := delS_set pr xs p
    have hdm := delS_same pr xs p
    have hnl := notP_len pr (xs.take p)
    have hsn := notP_snoc pr xs p
    rw [List.length_take] at hnl
    repeat' first
      | (refine sw_clearR kp55 (id := id) (n := xs.length) (i := (notP pr (xs.take p)).length) (cs := (delS pr xs p).map (.int .i64)) rfl rfl (by omega) (by simp [Lg.look]) (by rw [List.length_map, hdl]) rfl rfl (by simp) ?_; simp only [go_sem])
      | exact Bool.noConfusion h
      | refine sw_seq ?_
      | refine sw_block ?_
      | refine sw_skip ?_
      | refine sw_inBlock ?_
      | refine sw_go 0 kp55 fun K hK => ?_
      | refine fun (K : List Oper → LS → Prop) (hK : KOk S 0 _ _ _ K) => ?_
      | ((first | refine runL_go ?_ | refine runQ_go ?_); simp (disch := (refine Om.mk ?_; omega)) only [go_sem])
      | (refine hK.nil ?_; clear hK K; simp only [go_sem])
      | (refine sw_cond rfl (fun h => ?_) (fun h => ?_) <;> (try simp (disch := (refine Om.mk ?_; omega)) only [go_sem] at h))
      | (refine sw_exit rfl ?_)
      | (refine sw_loopEnd ?_)
      | ((first | refine sw_ret (ret0 ?_) | refine sw_ret ?_); simp (disch := (refine Om.mk ?_; omega)) only [go_sem, Try.results55])
      | (with_reducible refine And.intro (by first | omega | (simp only [List.length_append, List.length_take, List.length_drop, List.length_cons, List.length_nil, List.length_map]; omega)) ?_)
      | ((with_reducible refine And.intro ?_ ?_); · first | (intro x hx; subst hx; rfl) | exact upR_mem fun _ _ => rfl | exact mapR_mem fun _ _ => rfl | (intro x; refine And.intro ?_ ?_ <;> (intros; subst_vars; rfl)))
      | fail
    · rw [hdg (by omega)]
      refine hK.call rfl rfl rfl (hf (xs.getD p default) (getD_mem _ _ (by omega))) ⟨call2 rfl rfl, rfl, rfl, (by simp only [dstOk, Nat.reduceLT])⟩ ?_
      repeat' first
        | exact Bool.noConfusion h
        | refine sw_seq ?_
        | refine sw_block ?_
        | refine sw_skip ?_
        | refine sw_inBlock ?_
        | refine sw_go 0 kp55 fun K hK => ?_
        | refine fun (K : List Oper → LS → Prop) (hK : KOk S 0 _ _ _ K) => ?_
        | ((first | refine runL_go ?_ | refine runQ_go ?_); simp (disch := (refine Om.mk ?_; omega)) only [go_sem])
        | (refine hK.nil ?_; clear hK K; simp only [go_sem])
        | (refine sw_cond rfl (fun h => ?_) (fun h => ?_) <;> (try simp (disch := (refine Om.mk ?_; omega)) only [go_sem] at h))
        | (refine sw_exit rfl ?_)
        | (refine sw_loopEnd ?_)
        | ((first | refine sw_ret (ret0 ?_) | refine sw_ret ?_); simp (disch := (refine Om.mk ?_; omega)) only [go_sem, Try.results55])
        | (with_reducible refine And.intro (by first | omega | (simp only [List.length_append, List.length_take, List.length_drop, List.length_cons, List.length_nil, List.length_map]; omega)) ?_)
        | ((with_reducible refine And.intro ?_ ?_); · first | (intro x hx; subst hx; rfl) | exact upR_mem fun _ _ => rfl | exact mapR_mem fun _ _ => rfl | (intro x; refine And.intro ?_ ?_ <;> (intros; subst_vars; rfl)))
        | fail
      · have h1 := hds (by omega) h
        have h2 := (hsn (by omega)).2 h
        refine ⟨p + 1, (by (refine covers_mk0 rfl rfl ?_ ?_ ?_ ?_ <;> simp (disch := (refine Om.mk ?_; omega)) only [go_sem] <;> (try omega)); all_goals first | exact boxLe_mk hro | (rw [h1]; done) | (rw [h2, List.length_append]; exact ⟨by simp, by omega⟩)), by omega, by omega⟩
      · have h1 := hdm (by omega) h
        have h2 := (hsn (by omega)).1 h
        refine ⟨p + 1, (by (refine covers_mk0 rfl rfl ?_ ?_ ?_ ?_ <;> simp (disch := (refine Om.mk ?_; omega)) only [go_sem] <;> (try omega)); all_goals first | exact boxLe_mk hro | (rw [h1]; done) | (rw [h2]; exact ⟨rfl, by omega⟩)), by omega, by omega⟩
    · have e : xs.take p = xs := List.take_of_length_le (by omega)
      have e2 : (delS pr xs p).take (notP pr xs).length = notP pr xs := by unfold delS; rw [e, List.take_left]
      rw [e] at *
      exact ⟨le0_refl _, e2⟩
    · omega
def kp59 : List (Nat × List Nat) := [(0, [1, 2]), (1, [3])]
attribute [go_sem] kp59
theorem symbols11_fc (f : Int) (r : RuleT) (h : 1 ≤ r.l.length) : FC S 59 [(103, [.int .i64 f])] [] [] ([RuleD r] ++ [.box 103 0]) (.bool (tst (r.l.getD 0 default = f))) [] [] := by
  refine fc_body Try.func59 rfl (by kernel_rfl) (by simp [Try.f59]) fun B => ?_
  simp only [Try.ntmps59, enumD, List.map_nil, List.map_cons, List.length_map, Nat.zero_add, Nat.reduceAdd]
  repeat' first
    | exact Bool.noConfusion h
    | refine sw_seq ?_
    | refine sw_block ?_
    | refine sw_skip ?_
    | refine sw_inBlock ?_
    | refine sw_go 200 kp59 fun K hK => ?_
    | refine fun (K : List Oper → LS → Prop) (hK : KOk S 200 _ _ _ K) => ?_
    | refine sw_goD kp59 (by kernel_rfl) fun K hK => ?_
    | ((first | refine runL_go ?_ | refine runQ_go ?_); simp (disch := (refine Om.mk ?_; omega)) only [go_sem])
    | (refine hK.nil ?_; clear hK K; simp only [go_sem])
    | (refine sw_cond rfl (fun h => ?_) (fun h => ?_) <;> (try simp (disch := (refine Om.mk ?_; omega)) only [go_sem] at h))
    | (refine sw_exit rfl ?_)
    | (refine sw_loopEnd ?_)
    | ((first | refine sw_ret (ret0 ?_) | refine sw_ret ?_); simp (disch := (refine Om.mk ?_; omega)) only [go_sem, Try.results59])
    | (with_reducible refine And.intro (by first | omega | (simp only [List.length_append, List.length_take, List.length_drop, List.length_cons, List.length_nil, List.length_map]; omega)) ?_)
    | ((with_reducible refine And.intro ?_ ?_); · first | (intro x hx; subst hx; rfl) | exact upR_mem fun _ _ => rfl | exact mapR_mem fun _ _ => rfl | (intro x; refine And.intro ?_ ?_ <;> (intros; subst_vars; rfl)))
    | fail
def kp57 : List (Nat × List Nat) := [(0, [1, 2, 3]), (1, [4])]
attribute [go_sem] kp57
theorem symbols1_fc (sg : List Int) (rules : List RuleT) (d : Bool) (f : Int) (h : ∀ r ∈ rules, 1 ≤ r.l.length) : FC S 57 [(5, [.sl .any (sg.map (.int .i64)), .sl .any (rules.map RuleD)]), (3, [.bool d])] [] [] ([.int .i64 f] ++ [.box 5 0, .box 3 0]) (.bool (tst (¬ tst (∃ r ∈ rules, r.l.getD 0 default = f) = d))) [] [] := by
  refine fc_body Try.func57 rfl (by kernel_rfl) (by simp [Try.f57]) fun B => ?_
  simp only [Try.ntmps57, enumD, List.map_nil, List.map_cons, List.length_map, Nat.zero_add, Nat.reduceAdd]
  repeat' first
    | exact Bool.noConfusion h
    | refine sw_seq ?_
    | refine sw_block ?_
    | refine sw_skip ?_
    | refine sw_inBlock ?_
    | refine sw_go 100 kp57 fun K hK => ?_
    | refine fun (K : List Oper → LS → Prop) (hK : KOk S 100 _ _ _ K) => ?_
    | refine sw_goD kp57 (by kernel_rfl) fun K hK => ?_
    | ((first | refine runL_go ?_ | refine runQ_go ?_); simp (disch := (refine Om.mk ?_; omega)) only [go_sem])
    | (refine hK.nil ?_; clear hK K; simp only [go_sem])
    | (refine sw_cond rfl (fun h => ?_) (fun h => ?_) <;> (try simp (disch := (refine Om.mk ?_; omega)) only [go_sem] at h))
    | (refine sw_exit rfl ?_)
    | (refine sw_loopEnd ?_)
    | ((first | refine sw_ret (ret0 ?_) | refine sw_ret ?_); simp (disch := (refine Om.mk ?_; omega)) only [go_sem, Try.results57])
    | refine hK.call rfl rfl rfl (containsFuncRule_fc _ rules (fun r => r.l.getD 0 default = f) _ _ [(103, [.int .i64 f])] (by simp [Lg.look]) (fun r hr => symbols11_fc f r (h r hr))) ⟨(by simp [LS.getBox, Lg.look]), rfl, rfl, (by simp only [dstOk, Nat.reduceLT])⟩ ?_
    | (with_reducible refine And.intro (by first | omega | (simp only [List.length_append, List.length_take, List.length_drop, List.length_cons, List.length_nil, List.length_map]; omega)) ?_)
    | ((with_reducible refine And.intro ?_ ?_); · first | (intro x hx; subst hx; rfl) | exact upR_mem fun _ _ => rfl | exact mapR_mem fun _ _ => rfl | (intro x; refine And.intro ?_ ?_ <;> (intros; subst_vars; rfl)))
    | fail
  generalize tst (∃ r, r ∈ rules ∧ r.l.getD 0 default = f) = b
  cases b <;> cases d <;> simp [tst]
def fillU (n i : Nat) : List Int := upTo i ++ List.replicate (n - i) 0
theorem upTo_len (n : Nat) : (upTo n).length = n := by simp [upTo]
theorem fillU_len (n i : Nat) (h : i ≤ n) : (fillU n i).length = n := by simp [fillU, upTo_len]; omega
theorem fillU_set (n i : Nat) (h : i < n) : (fillU n i).set i (i : Int) = fillU n (i + 1) := by
  have := set_mid (upTo i) (List.replicate (n - i) 0) (i : Int) (by intro e; have := congrArg List.length e; simp at this; omega)
  rw [upTo_len] at this
  unfold fillU
  rw [this, upTo_succ, List.append_assoc, List.drop_replicate, show n - i - 1 = n - (i + 1) by omega]
  rfl
def kp90 : List (Nat × List Nat) := [(0, [0]), (1, [3]), (2, [3, 8, 9]), (3, [3, 8, 9, 10]), (4, [3, 4, 8, 9]), (5, [3, 8, 9]), (6, [3, 8, 9]), (7, [2])]
attribute [go_sem] kp90
theorem firstPerm_fc (n : Nat) (hn : n ≤ 1000) : FC S 90 [] [] [] [.int .i64 n] (.ms 6 n) [(6, (upTo n).map (.int .i64))] [] := by
  refine fc_body Try.func90 rfl (by kernel_rfl) (by simp [Try.f90]) fun B => ?_
  simp only [Try.ntmps90, enumD, List.map_nil, List.map_cons, List.length_map, Nat.zero_add, Nat.reduceAdd]
  repeat' first
    | exact Bool.noConfusion h
    | refine sw_seq ?_
    | refine sw_block ?_
    | refine sw_skip ?_
    | refine sw_inBlock ?_
    | refine sw_go 0 kp90 fun K hK => ?_
    | refine fun (K : List Oper → LS → Prop) (hK : KOk S 0 _ _ _ K) => ?_
    | ((first | refine runL_go ?_ | refine runQ_go ?_); simp (disch := (refine Om.mk ?_; omega)) only [go_sem])
    | (refine hK.nil ?_; clear hK K; simp only [go_sem])
    | (refine sw_cond rfl (fun h => ?_) (fun h => ?_) <;> (try simp (disch := (refine Om.mk ?_; omega)) only [go_sem] at h))
    | (refine sw_exit rfl ?_)
    | (refine sw_loopEnd ?_)
    | ((first | refine sw_ret (ret0 ?_) | refine sw_ret ?_); simp (disch := (refine Om.mk ?_; omega)) only [go_sem, Try.results90])
    | (with_reducible refine And.intro (by first | omega | (simp only [List.length_append, List.length_take, List.length_drop, List.length_cons, List.length_nil, List.length_map]; omega)) ?_)
    | ((with_reducible refine And.intro ?_ ?_); · first | (intro x hx; subst hx; rfl) | exact upR_mem fun _ _ => rfl | exact mapR_mem fun _ _ => rfl | (intro x; refine And.intro ?_ ?_ <;> (intros; subst_vars; rfl)))
    | fail
  refine sw_loopU (ι := Nat) (fun p => [(9, .int .i64 p)]) (fun p => [(6, (fillU n p).map (.int .i64))]) (fun p => p ≤ n) (fun p => n - p) 0 (by (refine covers_mk0 rfl rfl ?_ ?_ ?_ ?_ <;> simp (disch := (refine Om.mk ?_; omega)) only [go_sem] <;> (try omega)); all_goals first | (rw [flatten_one, fillU, upTo]; simp; done) | (simp; done)) ?_ (fun p hp => ?_)
  rotate_left
  simp only [go_sem]
  have hl := fillU_len n p hp
  have hs := fillU_set n p
  repeat' first
    | exact Bool.noConfusion h
    | refine sw_seq ?_
    | refine sw_block ?_
    | refine sw_skip ?_
    | refine sw_inBlock ?_
    | refine sw_go 0 kp90 fun K hK => ?_
    | refine fun (K : List Oper → LS → Prop) (hK : KOk S 0 _ _ _ K) => ?_
    | ((first | refine runL_go ?_ | refine runQ_go ?_); simp (disch := (refine Om.mk ?_; omega)) only [go_sem])
    | (refine hK.nil ?_; clear hK K; simp only [go_sem])
    | (refine sw_cond rfl (fun h => ?_) (fun h => ?_) <;> (try simp (disch := (refine Om.mk ?_; omega)) only [go_sem] at h))
    | (refine sw_exit rfl ?_)
    | (refine sw_loopEnd ?_)
    | ((first | refine sw_ret (ret0 ?_) | refine sw_ret ?_); simp (disch := (refine Om.mk ?_; omega)) only [go_sem, Try.results90])
    | (with_reducible refine And.intro (by first | omega | (simp only [List.length_append, List.length_take, List.length_drop, List.length_cons, List.length_nil, List.length_map]; omega)) ?_)
    | ((with_reducible refine And.intro ?_ ?_); · first | (intro x hx; subst hx; rfl) | exact upR_mem fun _ _ => rfl | exact mapR_mem fun _ _ => rfl | (intro x; refine And.intro ?_ ?_ <;> (intros; subst_vars; rfl)))
    | fail
  · exact ⟨p + 1, (by (refine covers_mk0 rfl rfl ?_ ?_ ?_ ?_ <;> simp (disch := (refine Om.mk ?_; omega)) only [go_sem] <;> (try omega)); all_goals first | rw [hs (by omega)] | skip), by omega, by omega⟩
  · rw [show p = n by omega]; simp [fillU]
  · omega
def kp56 : List (Nat × List Nat) := [(0, [1]), (1, [2])]
attribute [go_sem] kp56
theorem sigAll_fc (rs : List Int) (hn : rs.length ≤ 1000) : FC S 56 [] [] [] [.agg [.sl .any (rs.map (.int .i64))]] (.ms 6 rs.length) [(6, (upTo rs.length).map (.int .i64))] [] := by
  refine fc_body Try.func56 rfl (by kernel_rfl) (by simp [Try.f56]) fun B => ?_
  simp only [Try.ntmps56, enumD, List.map_nil, List.map_cons, List.length_map, Nat.zero_add, Nat.reduceAdd]
  repeat' first
    | exact Bool.noConfusion h
    | refine sw_seq ?_
    | refine sw_block ?_
    | refine sw_skip ?_
    | refine sw_inBlock ?_
    | refine sw_go 0 kp56 fun K hK => ?_
    | refine fun (K : List Oper → LS → Prop) (hK : KOk S 0 _ _ _ K) => ?_
    | ((first | refine runL_go ?_ | refine runQ_go ?_); simp (disch := (refine Om.mk ?_; omega)) only [go_sem])
    | (refine hK.nil ?_; clear hK K; simp only [go_sem])
    | (refine sw_cond rfl (fun h => ?_) (fun h => ?_) <;> (try simp (disch := (refine Om.mk ?_; omega)) only [go_sem] at h))
    | (refine sw_exit rfl ?_)
    | (refine sw_loopEnd ?_)
    | ((first | refine sw_ret (ret0 ?_) | refine sw_ret ?_); simp (disch := (refine Om.mk ?_; omega)) only [go_sem, Try.results56])
    | (refine hK.callM rfl rfl rfl (firstPerm_fc rs.length hn) ⟨⟨by simp only [Nat.reduceLT], by simp, by simp [Lg.look]⟩, by first | exact memOk_ints _ | simp⟩ ?_; simp (disch := (refine Om.mk ?_; omega)) only [go_sem])
    | (with_reducible refine And.intro (by first | omega | (simp only [List.length_append, List.length_take, List.length_drop, List.length_cons, List.length_nil, List.length_map]; omega)) ?_)
    | ((with_reducible refine And.intro ?_ ?_); · first | (intro x hx; subst hx; rfl) | exact upR_mem fun _ _ => rfl | exact mapR_mem fun _ _ => rfl | (intro x; refine And.intro ?_ ?_ <;> (intros; subst_vars; rfl)))
    | fail
def symP (rules : List RuleT) (d : Bool) (f : Int) : Prop := ¬ tst (∃ r ∈ rules, r.l.getD 0 default = f) = d
noncomputable def symL (x : SystemT) (d : Bool) : List Int := notP (symP x.rules d) (upTo x.sig.length)
def kp27 : List (Nat × List Nat) := [(0, [2, 3]), (1, [3, 5]), (2, [4])]
attribute [go_sem] kp27
theorem symbols_fc (p : List Nat) (hp : p ≠ []) (x : SystemT) (d : Bool) (hn : x.sig.length ≤ 1000) (h : ∀ r ∈ x.rules, 1 ≤ r.l.length) : FC S 27 [] [] [] [SystemD x, .bool d] (Int64SL p (symL x d)) [] [] := by
  have hdf := deleteFunc_fc 13 (upTo x.sig.length) (by rw [upTo_len]; exact hn) (symP x.rules d) _ [.box 5 0, .box 3 0] [(5, [.sl .any (x.sig.map (.int .i64)), .sl .any (x.rules.map RuleD)]), (3, [.bool d])] (by simp [Lg.look]) (by simp) (fun f _ => symbols1_fc x.sig x.rules d f h)
  rw [upTo_len] at hdf
  rw [show symL x d = notP (symP x.rules d) (upTo x.sig.length) from rfl]
  generalize notP (symP x.rules d) (upTo x.sig.length) = zs at hdf ⊢
  have hnoI : ∀ ys : List Int, D.idsL (ys.map (D.int .i64)) = [] := fun ys => by
    induction ys with
    | nil => rfl
    | cons y r ih => simp only [List.map_cons, D.idsL, ih]; rfl
  have hnoT : ∀ ys : List Int, D.tksL (ys.map (D.int .i64)) = [] := fun ys => by
    induction ys with
    | nil => rfl
    | cons y r ih => simp only [List.map_cons, D.tksL, ih]; rfl
  have hnoS : ∀ (k : Nat) (ys : List Int), D.shTL k (ys.map (D.int .i64)) = ys.map (D.int .i64) := fun k ys => by
    induction ys with
    | nil => rfl
    | cons y r ih => simp only [List.map_cons, D.shTL, ih]; rfl
  refine fc_body Try.func27 rfl (by kernel_rfl) (by simp [Try.f27]) fun B => ?_
  simp only [Try.ntmps27, enumD, List.map_nil, List.map_cons, List.length_map, Nat.zero_add, Nat.reduceAdd]
  repeat' first
    | exact Bool.noConfusion h
    | refine sw_seq ?_
    | refine sw_block ?_
    | refine sw_skip ?_
    | refine sw_inBlock ?_
    | refine sw_go 0 kp27 fun K hK => ?_
    | refine fun (K : List Oper → LS → Prop) (hK : KOk S 0 _ _ _ K) => ?_
    | ((first | refine runL_go ?_ | refine runQ_go ?_); simp (disch := (refine Om.mk ?_; omega)) only [go_sem])
    | (refine hK.nil ?_; clear hK K; simp only [go_sem])
    | (refine sw_cond rfl (fun h => ?_) (fun h => ?_) <;> (try simp (disch := (refine Om.mk ?_; omega)) only [go_sem] at h))
    | (refine sw_exit rfl ?_)
    | (refine sw_loopEnd ?_)
    | ((first | refine sw_ret (ret0 ?_) | refine sw_ret ?_); simp (disch := (refine Om.mk ?_; omega)) only [go_sem, Try.results27])
    | (refine hK.callM rfl rfl rfl (sigAll_fc x.sig hn) ⟨⟨by simp only [Nat.reduceLT], by simp, by simp [Lg.look]⟩, by first | exact memOk_ints _ | simp⟩ ?_; simp (disch := (refine Om.mk ?_; omega)) only [go_sem])
    | (with_reducible refine And.intro (by first | omega | (simp only [List.length_append, List.length_take, List.length_drop, List.length_cons, List.length_nil, List.length_map]; omega)) ?_)
    | ((with_reducible refine And.intro ?_ ?_); · first | (intro x hx; subst hx; rfl) | exact upR_mem fun _ _ => rfl | exact mapR_mem fun _ _ => rfl | (intro x; refine And.intro ?_ ?_ <;> (intros; subst_vars; rfl)))
    | fail
  refine hK.callB rfl rfl rfl hdf ⟨⟨by simp only [Nat.reduceLT], by simp [LS.getBox, Lg.look], by simp [Lg.look], by simp, by simp⟩, ⟨by simp [D.ids], by simp [hnoI], by simp [D.tks], by simp [hnoT], by simp⟩, (by simp [LS.clean, D.tks, D.tksL, hnoT])⟩ ?_
  simp only [go_sem, hnoI, hnoT, hnoS]
  repeat' first
    | (refine map_mk_freezeLab 4 1 p (zs.map (.int .i64)) (id := 13) (n := zs.length) (cs := zs.map (.int .i64)) rfl (by simp [Lg.look]) (flat_ints zs).symm (by simp) (cells_one fun _ => rfl) (memOk_ints _) hp (by simp) ?_; simp only [go_sem])
    | exact Bool.noConfusion h
    | refine sw_seq ?_
    | refine sw_block ?_
    | refine sw_skip ?_
    | refine sw_inBlock ?_
    | refine sw_go 0 kp27 fun K hK => ?_
    | refine fun (K : List Oper → LS → Prop) (hK : KOk S 0 _ _ _ K) => ?_
    | ((first | refine runL_go ?_ | refine runQ_go ?_); simp (disch := (refine Om.mk ?_; omega)) only [go_sem])
    | (refine hK.nil ?_; clear hK K; simp only [go_sem])
    | (refine sw_cond rfl (fun h => ?_) (fun h => ?_) <;> (try simp (disch := (refine Om.mk ?_; omega)) only [go_sem] at h))
    | (refine sw_exit rfl ?_)
    | (refine sw_loopEnd ?_)
    | ((first | refine sw_ret (ret0 ?_) | refine sw_ret ?_); simp (disch := (refine Om.mk ?_; omega)) only [go_sem, Try.results27])
    | (with_reducible refine And.intro (by first | omega | (simp only [List.length_append, List.length_take, List.length_drop, List.length_cons, List.length_nil, List.length_map]; omega)) ?_)
    | ((with_reducible refine And.intro ?_ ?_); · first | (intro x hx; subst hx; rfl) | exact upR_mem fun _ _ => rfl | exact mapR_mem fun _ _ => rfl | (intro x; refine And.intro ?_ ?_ <;> (intros; subst_vars; rfl)))
    | fail
theorem symL_mem (x : SystemT) (d : Bool) (m : Int) : m ∈ symL x d ↔ (0 ≤ m ∧ m < x.sig.length) ∧ tst (∃ r ∈ x.rules, r.l.getD 0 default = m) = d := by
  unfold symL notP symP
  rw [List.mem_filter, mem_upTo]
  refine and_congr_right fun _ => ?_
  by_cases h : tst (∃ r ∈ x.rules, r.l.getD 0 default = m) = d
  · rw [tst_false (not_not_intro h)]; exact ⟨fun _ => h, fun _ => rfl⟩
  · rw [tst_true h]; exact ⟨fun e => (by cases e), fun e => absurd e h⟩
theorem symL_sort (x : SystemT) (d : Bool) : SortP (symL x d) := (sort_upTo _).filter _
/-- the reference's lists are the program's -/
theorem def_eq {x : SystemT} (h : SystemOkP x) : defL x.rules x.rules.length = symL x true := by
  refine sort_ext (defL_sort _ _ (Nat.le_refl _)) (symL_sort _ _) fun m => ?_
  rw [defL_all, symL_mem, tst_iff]
  refine ⟨fun hm => ⟨?_, hm⟩, fun hm => hm.2⟩
  obtain ⟨r, hr, e⟩ := hm
  obtain ⟨j, hj, rfl⟩ := List.getElem_of_mem hr
  have hok := h.2 j hj
  have e2 : x.rules.getD j default = x.rules[j] := by simp [List.getD, List.getElem?_eq_getElem hj]
  rw [← e2] at e
  have h1 := hok.1.1
  have h0 := hok.1.2.2
  rw [e] at h0
  have hlen := h1.2.1.1
  have har : 0 ≤ arS x.sig ((x.rules.getD j default).l.getD 0 default) := by
    have := h1.2.2
    unfold endS at this
    rw [List.drop_zero] at this
    exact scan_all (rs := x.sig) _ 1 0 (by omega) _ (getD_mem _ 0 (by omega))
  rw [e] at har
  unfold arS at har
  split at har
  · omega
  · split at har <;> omega
def conL (x : SystemT) (i : Nat) : List Int := (upTo i).filter fun m => !(decide (m ∈ defL x.rules x.rules.length))
theorem con_eq {x : SystemT} : conL x x.sig.length = symL x false := by
  refine sort_ext ((sort_upTo _).filter _) (symL_sort _ _) fun m => ?_
  unfold conL
  rw [List.mem_filter, mem_upTo, symL_mem, tst_not, ← defL_all]
  simp
theorem conL_succ (x : SystemT) (i : Nat) : ((i : Int) ∈ defL x.rules x.rules.length → conL x (i + 1) = conL x i) ∧ ((i : Int) ∉ defL x.rules x.rules.length → conL x (i + 1) = conL x i ++ [(i : Int)]) := by
  unfold conL
  rw [upTo_succ, List.filter_append]
  constructor <;> intro h <;> simp [h]
theorem conL_len (x : SystemT) (i : Nat) : (conL x i).length ≤ i := by
  have := List.length_filter_le (fun m => !(decide (m ∈ defL x.rules x.rules.length))) (upTo i)
  rwa [upTo_len] at this
open Classical in
noncomputable def symR (x : SystemT) (d : Bool) : List Int := if SystemOkP x then symL x d else []
theorem symR_yes {x : SystemT} (d : Bool) (h : SystemOkP x) : symR x d = symL x d := if_pos h
theorem symR_no {x : SystemT} (d : Bool) (h : ¬ SystemOkP x) : symR x d = [] := if_neg h
def kp10 : List (Nat × List Nat) := [(0, [1]), (1, [1, 5]), (2, [2]), (3, [2])]
attribute [go_sem] kp10
theorem specDefinedIn_fc (x : SystemT) : FC S 10 [] [] [] [SystemD x] (.sl .any ((symR x true).map (.int .i64))) [] [] := by
  rcases Classical.em (SystemOkP x) with hs | hs
  · have hlen := hs.len
    have hn := hs.1.2
    rw [symR_yes true hs, ← def_eq hs]
    refine fc_body Try.func10 rfl (by kernel_rfl) (by simp [Try.f10]) fun B => ?_
    simp only [Try.ntmps10, enumD, List.map_nil, List.map_cons, List.length_map, Nat.zero_add, Nat.reduceAdd]
    repeat' first
      | exact Bool.noConfusion h
      | refine sw_seq ?_
      | refine sw_block ?_
      | refine sw_skip ?_
      | refine sw_inBlock ?_
      | refine sw_go 0 kp10 fun K hK => ?_
      | refine fun (K : List Oper → LS → Prop) (hK : KOk S 0 _ _ _ K) => ?_
      | ((first | refine runL_go ?_ | refine runQ_go ?_); simp (disch := (refine Om.mk ?_; omega)) only [go_sem])
      | (refine hK.nil ?_; clear hK K; simp only [go_sem])
      | (refine sw_cond rfl (fun h => ?_) (fun h => ?_) <;> (try simp (disch := (refine Om.mk ?_; omega)) only [go_sem] at h))
      | (refine sw_exit rfl ?_)
      | (refine sw_loopEnd ?_)
      | ((first | refine sw_ret (ret0 ?_) | refine sw_ret ?_); simp (disch := (refine Om.mk ?_; omega)) only [go_sem, Try.results10])
      | refine hK.call rfl rfl rfl (specSystemOk_fc x) ⟨(by intro p hp; cases hp), rfl, rfl, (by simp only [dstOk, Nat.reduceLT])⟩ ?_
      | refine hK.call rfl rfl rfl (l6Defined_fc x (by omega) (fun j hj => (hlen j hj).1.1)) ⟨(by intro p hp; cases hp), rfl, rfl, (by simp only [dstOk, Nat.reduceLT])⟩ ?_
      | (with_reducible refine And.intro (by first | omega | (simp only [List.length_append, List.length_take, List.length_drop, List.length_cons, List.length_nil, List.length_map]; omega)) ?_)
      | ((with_reducible refine And.intro ?_ ?_); · first | (intro x hx; subst hx; rfl) | exact upR_mem fun _ _ => rfl | exact mapR_mem fun _ _ => rfl | (intro x; refine And.intro ?_ ?_ <;> (intros; subst_vars; rfl)))
      | fail
    exact absurd hs h
  · rw [symR_no true hs]
    refine fc_body Try.func10 rfl (by kernel_rfl) (by simp [Try.f10]) fun B => ?_
    simp only [Try.ntmps10, enumD, List.map_nil, List.map_cons, List.length_map, Nat.zero_add, Nat.reduceAdd]
    repeat' first
      | exact Bool.noConfusion h
      | refine sw_seq ?_
      | refine sw_block ?_
      | refine sw_skip ?_
      | refine sw_inBlock ?_
      | refine sw_go 0 kp10 fun K hK => ?_
      | refine fun (K : List Oper → LS → Prop) (hK : KOk S 0 _ _ _ K) => ?_
      | ((first | refine runL_go ?_ | refine runQ_go ?_); simp (disch := (refine Om.mk ?_; omega)) only [go_sem])
      | (refine hK.nil ?_; clear hK K; simp only [go_sem])
      | (refine sw_cond rfl (fun h => ?_) (fun h => ?_) <;> (try simp (disch := (refine Om.mk ?_; omega)) only [go_sem] at h))
      | (refine sw_exit rfl ?_)
      | (refine sw_loopEnd ?_)
      | ((first | refine sw_ret (ret0 ?_) | refine sw_ret ?_); simp (disch := (refine Om.mk ?_; omega)) only [go_sem, Try.results10])
      | refine hK.call rfl rfl rfl (specSystemOk_fc x) ⟨(by intro p hp; cases hp), rfl, rfl, (by simp only [dstOk, Nat.reduceLT])⟩ ?_
      | (with_reducible refine And.intro (by first | omega | (simp only [List.length_append, List.length_take, List.length_drop, List.length_cons, List.length_nil, List.length_map]; omega)) ?_)
      | ((with_reducible refine And.intro ?_ ?_); · first | (intro x hx; subst hx; rfl) | exact upR_mem fun _ _ => rfl | exact mapR_mem fun _ _ => rfl | (intro x; refine And.intro ?_ ?_ <;> (intros; subst_vars; rfl)))
      | fail
    exact absurd h hs
def kp7 : List (Nat × List Nat) := [(0, [1]), (1, [1, 5]), (2, [2]), (3, [2])]
attribute [go_sem] kp7
theorem implDefinedIn_fc (p : List Nat) (hp : p ≠ []) (x : SystemT) : FC S 7 [] [] [] [SystemD x] (Int64SL p (symR x true)) [] [] := by
  rcases Classical.em (SystemOkP x) with hs | hs
  · have hlen := hs.len
    have hn := hs.1.1.1.2
    have hr := (forall_getD (P := fun r : RuleT => 1 ≤ r.l.length)).1 fun j hj => (hlen j hj).1.1
    rw [symR_yes true hs]
    refine fc_body Try.func7 rfl (by kernel_rfl) (by simp [Try.f7]) fun B => ?_
    simp only [Try.ntmps7, enumD, List.map_nil, List.map_cons, List.length_map, Nat.zero_add, Nat.reduceAdd]
    repeat' first
      | exact Bool.noConfusion h
      | refine sw_seq ?_
      | refine sw_block ?_
      | refine sw_skip ?_
      | refine sw_inBlock ?_
      | refine sw_go 0 kp7 fun K hK => ?_
      | refine fun (K : List Oper → LS → Prop) (hK : KOk S 0 _ _ _ K) => ?_
      | ((first | refine runL_go ?_ | refine runQ_go ?_); simp (disch := (refine Om.mk ?_; omega)) only [go_sem])
      | (refine hK.nil ?_; clear hK K; simp only [go_sem])
      | (refine sw_cond rfl (fun h => ?_) (fun h => ?_) <;> (try simp (disch := (refine Om.mk ?_; omega)) only [go_sem] at h))
      | (refine sw_exit rfl ?_)
      | (refine sw_loopEnd ?_)
      | ((first | refine sw_ret (ret0 ?_) | refine sw_ret ?_); simp (disch := (refine Om.mk ?_; omega)) only [go_sem, Try.results7])
      | refine hK.call rfl rfl rfl (implSystemOk_fc x) ⟨(by intro p hp; cases hp), rfl, rfl, (by simp only [dstOk, Nat.reduceLT])⟩ ?_
      | refine hK.call rfl rfl rfl (symbols_fc p hp x true (by omega) hr) ⟨(by intro p hp; cases hp), rfl, rfl, (by simp only [dstOk, Nat.reduceLT])⟩ ?_
      | (with_reducible refine And.intro (by first | omega | (simp only [List.length_append, List.length_take, List.length_drop, List.length_cons, List.length_nil, List.length_map]; omega)) ?_)
      | ((with_reducible refine And.intro ?_ ?_); · first | (intro x hx; subst hx; rfl) | exact upR_mem fun _ _ => rfl | exact mapR_mem fun _ _ => rfl | (intro x; refine And.intro ?_ ?_ <;> (intros; subst_vars; rfl)))
      | fail
    exact absurd hs h
  · rw [symR_no true hs]
    refine fc_body Try.func7 rfl (by kernel_rfl) (by simp [Try.f7]) fun B => ?_
    simp only [Try.ntmps7, enumD, List.map_nil, List.map_cons, List.length_map, Nat.zero_add, Nat.reduceAdd]
    repeat' first
      | exact Bool.noConfusion h
      | refine sw_seq ?_
      | refine sw_block ?_
      | refine sw_skip ?_
      | refine sw_inBlock ?_
      | refine sw_go 0 kp7 fun K hK => ?_
      | refine fun (K : List Oper → LS → Prop) (hK : KOk S 0 _ _ _ K) => ?_
      | ((first | refine runL_go ?_ | refine runQ_go ?_); simp (disch := (refine Om.mk ?_; omega)) only [go_sem])
      | (refine hK.nil ?_; clear hK K; simp only [go_sem])
      | (refine sw_cond rfl (fun h => ?_) (fun h => ?_) <;> (try simp (disch := (refine Om.mk ?_; omega)) only [go_sem] at h))
      | (refine sw_exit rfl ?_)
      | (refine sw_loopEnd ?_)
      | ((first | refine sw_ret (ret0 ?_) | refine sw_ret ?_); simp (disch := (refine Om.mk ?_; omega)) only [go_sem, Try.results7])
      | refine hK.call rfl rfl rfl (implSystemOk_fc x) ⟨(by intro p hp; cases hp), rfl, rfl, (by simp only [dstOk, Nat.reduceLT])⟩ ?_
      | (with_reducible refine And.intro (by first | omega | (simp only [List.length_append, List.length_take, List.length_drop, List.length_cons, List.length_nil, List.length_map]; omega)) ?_)
      | ((with_reducible refine And.intro ?_ ?_); · first | (intro x hx; subst hx; rfl) | exact upR_mem fun _ _ => rfl | exact mapR_mem fun _ _ => rfl | (intro x; refine And.intro ?_ ?_ <;> (intros; subst_vars; rfl)))
      | fail
    all_goals first | exact absurd h hs | (simp [mapR, le0]; done)
def kp8 : List (Nat × List Nat) := [(0, [1]), (1, [1, 5]), (2, [2]), (3, [2])]
attribute [go_sem] kp8
theorem implConstructorsIn_fc (p : List Nat) (hp : p ≠ []) (x : SystemT) : FC S 8 [] [] [] [SystemD x] (Int64SL p (symR x false)) [] [] := by
  rcases Classical.em (SystemOkP x) with hs | hs
  · have hlen := hs.len
    have hn := hs.1.1.1.2
    have hr := (forall_getD (P := fun r : RuleT => 1 ≤ r.l.length)).1 fun j hj => (hlen j hj).1.1
    rw [symR_yes false hs]
    refine fc_body Try.func8 rfl (by kernel_rfl) (by simp [Try.f8]) fun B => ?_
    simp only [Try.ntmps8, enumD, List.map_nil, List.map_cons, List.length_map, Nat.zero_add, Nat.reduceAdd]
    repeat' first
      | exact Bool.noConfusion h
      | refine sw_seq ?_
      | refine sw_block ?_
      | refine sw_skip ?_
      | refine sw_inBlock ?_
      | refine sw_go 0 kp8 fun K hK => ?_
      | refine fun (K : List Oper → LS → Prop) (hK : KOk S 0 _ _ _ K) => ?_
      | ((first | refine runL_go ?_ | refine runQ_go ?_); simp (disch := (refine Om.mk ?_; omega)) only [go_sem])
      | (refine hK.nil ?_; clear hK K; simp only [go_sem])
      | (refine sw_cond rfl (fun h => ?_) (fun h => ?_) <;> (try simp (disch := (refine Om.mk ?_; omega)) only [go_sem] at h))
      | (refine sw_exit rfl ?_)
      | (refine sw_loopEnd ?_)
      | ((first | refine sw_ret (ret0 ?_) | refine sw_ret ?_); simp (disch := (refine Om.mk ?_; omega)) only [go_sem, Try.results8])
      | refine hK.call rfl rfl rfl (implSystemOk_fc x) ⟨(by intro p hp; cases hp), rfl, rfl, (by simp only [dstOk, Nat.reduceLT])⟩ ?_
      | refine hK.call rfl rfl rfl (symbols_fc p hp x false (by omega) hr) ⟨(by intro p hp; cases hp), rfl, rfl, (by simp only [dstOk, Nat.reduceLT])⟩ ?_
      | (with_reducible refine And.intro (by first | omega | (simp only [List.length_append, List.length_take, List.length_drop, List.length_cons, List.length_nil, List.length_map]; omega)) ?_)
      | ((with_reducible refine And.intro ?_ ?_); · first | (intro x hx; subst hx; rfl) | exact upR_mem fun _ _ => rfl | exact mapR_mem fun _ _ => rfl | (intro x; refine And.intro ?_ ?_ <;> (intros; subst_vars; rfl)))
      | fail
    exact absurd hs h
  · rw [symR_no false hs]
    refine fc_body Try.func8 rfl (by kernel_rfl) (by simp [Try.f8]) fun B => ?_
    simp only [Try.ntmps8, enumD, List.map_nil, List.map_cons, List.length_map, Nat.zero_add, Nat.reduceAdd]
    repeat' first
      | exact Bool.noConfusion h
      | refine sw_seq ?_
      | refine sw_block ?_
      | refine sw_skip ?_
      | refine sw_inBlock ?_
      | refine sw_go 0 kp8 fun K hK => ?_
      | refine fun (K : List Oper → LS → Prop) (hK : KOk S 0 _ _ _ K) => ?_
      | ((first | refine runL_go ?_ | refine runQ_go ?_); simp (disch := (refine Om.mk ?_; omega)) only [go_sem])
      | (refine hK.nil ?_; clear hK K; simp only [go_sem])
      | (refine sw_cond rfl (fun h => ?_) (fun h => ?_) <;> (try simp (disch := (refine Om.mk ?_; omega)) only [go_sem] at h))
      | (refine sw_exit rfl ?_)
      | (refine sw_loopEnd ?_)
      | ((first | refine sw_ret (ret0 ?_) | refine sw_ret ?_); simp (disch := (refine Om.mk ?_; omega)) only [go_sem, Try.results8])
      | refine hK.call rfl rfl rfl (implSystemOk_fc x) ⟨(by intro p hp; cases hp), rfl, rfl, (by simp only [dstOk, Nat.reduceLT])⟩ ?_
      | (with_reducible refine And.intro (by first | omega | (simp only [List.length_append, List.length_take, List.length_drop, List.length_cons, List.length_nil, List.length_map]; omega)) ?_)
      | ((with_reducible refine And.intro ?_ ?_); · first | (intro x hx; subst hx; rfl) | exact upR_mem fun _ _ => rfl | exact mapR_mem fun _ _ => rfl | (intro x; refine And.intro ?_ ?_ <;> (intros; subst_vars; rfl)))
      | fail
    all_goals first | exact absurd h hs | (simp [mapR, le0]; done)
def kp11 : List (Nat × List Nat) := [(0, [1]), (1, [1, 3]), (2, [1, 3, 9]), (3, [2]), (4, [1, 3, 4]), (5, [1, 3, 4, 5]), (6, [1, 3, 4, 5, 18]), (8, [1, 3, 4, 5, 24]), (9, [1, 3, 4, 5]), (7, [1, 3, 4, 5]), (10, [2])]
attribute [go_sem] kp11
theorem specConstructorsIn_fc (x : SystemT) : FC S 11 [] [] [] [SystemD x] (.sl .any ((symR x false).map (.int .i64))) [] [] := by
  rcases Classical.em (SystemOkP x) with hs | hs
  · have hlen := hs.len
    have hn := hs.1.2
    have hg := hs.1.1.1.2
    rw [symR_yes false hs, ← con_eq]
    refine fc_body Try.func11 rfl (by kernel_rfl) (by simp [Try.f11]) fun B => ?_
    simp only [Try.ntmps11, enumD, List.map_nil, List.map_cons, List.length_map, Nat.zero_add, Nat.reduceAdd]
    repeat' first
      | exact Bool.noConfusion h
      | refine sw_seq ?_
      | refine sw_block ?_
      | refine sw_skip ?_
      | refine sw_inBlock ?_
      | refine sw_go 0 kp11 fun K hK => ?_
      | refine fun (K : List Oper → LS → Prop) (hK : KOk S 0 _ _ _ K) => ?_
      | ((first | refine runL_go ?_ | refine runQ_go ?_); simp (disch := (refine Om.mk ?_; omega)) only [go_sem])
      | (refine hK.nil ?_; clear hK K; simp only [go_sem])
      | (refine sw_cond rfl (fun h => ?_) (fun h => ?_) <;> (try simp (disch := (refine Om.mk ?_; omega)) only [go_sem] at h))
      | (refine sw_exit rfl ?_)
      | (refine sw_loopEnd ?_)
      | ((first | refine sw_ret (ret0 ?_) | refine sw_ret ?_); simp (disch := (refine Om.mk ?_; omega)) only [go_sem, Try.results11])
      | refine hK.call rfl rfl rfl (specSystemOk_fc x) ⟨(by intro p hp; cases hp), rfl, rfl, (by simp only [dstOk, Nat.reduceLT])⟩ ?_
      | refine hK.call rfl rfl rfl (l6Defined_fc x (by omega) (fun j hj => (hlen j hj).1.1)) ⟨(by intro p hp; cases hp), rfl, rfl, (by simp only [dstOk, Nat.reduceLT])⟩ ?_
      | (with_reducible refine And.intro (by first | omega | (simp only [List.length_append, List.length_take, List.length_drop, List.length_cons, List.length_nil, List.length_map]; omega)) ?_)
      | ((with_reducible refine And.intro ?_ ?_); · first | (intro x hx; subst hx; rfl) | exact upR_mem fun _ _ => rfl | exact mapR_mem fun _ _ => rfl | (intro x; refine And.intro ?_ ?_ <;> (intros; subst_vars; rfl)))
      | fail
    · exact absurd hs h
    refine sw_tok 3 29000 2 1 rfl (.inr rfl) rfl ?_
    simp only [go_sem]
    refine sw_loopT (ι := Nat) (fun p => [(5, .int .i64 p), (3, .sl (.own 29000 2 1) ((conL x p).map (.int .i64)))]) (fun _ => []) (fun _ => [29000]) (fun p => p ≤ x.sig.length) (fun p => x.sig.length - p) 0 (by (refine covers_mk0 rfl rfl ?_ ?_ ?_ ?_ <;> simp (disch := (refine Om.mk ?_; omega)) only [go_sem] <;> (try omega)); exact ⟨rfl, rfl⟩) (by omega) (fun p hp => ?_)
    simp only [go_sem]
    have hcl := conL_len x p
    have hcs := conL_succ x p
    repeat' first
      | exact Bool.noConfusion h
      | refine sw_seq ?_
      | refine sw_block ?_
      | refine sw_skip ?_
      | refine sw_inBlock ?_
      | refine sw_go 0 kp11 fun K hK => ?_
      | refine fun (K : List Oper → LS → Prop) (hK : KOk S 0 _ _ _ K) => ?_
      | ((first | refine runL_go ?_ | refine runQ_go ?_); simp (disch := (refine Om.mk ?_; omega)) only [go_sem])
      | (refine hK.nil ?_; clear hK K; simp only [go_sem])
      | (refine sw_cond rfl (fun h => ?_) (fun h => ?_) <;> (try simp (disch := (refine Om.mk ?_; omega)) only [go_sem] at h))
      | (refine sw_exit rfl ?_)
      | (refine sw_loopEnd ?_)
      | ((first | refine sw_ret (ret0 ?_) | refine sw_ret ?_); simp (disch := (refine Om.mk ?_; omega)) only [go_sem, Try.results11])
      | refine hK.call rfl rfl rfl (l1Has_fc _ _ _) ⟨(by intro p hp; cases hp), rfl, rfl, (by simp only [dstOk, Nat.reduceLT])⟩ ?_
      | (with_reducible refine And.intro (by first | omega | (simp only [List.length_append, List.length_take, List.length_drop, List.length_cons, List.length_nil, List.length_map]; omega)) ?_)
      | ((with_reducible refine And.intro ?_ ?_); · first | (intro x hx; subst hx; rfl) | exact upR_mem fun _ _ => rfl | exact mapR_mem fun _ _ => rfl | (intro x; refine And.intro ?_ ?_ <;> (intros; subst_vars; rfl)))
      | fail
    · exact ⟨p + 1, (by (refine covers_mk0 rfl rfl ?_ ?_ ?_ ?_ <;> simp (disch := (refine Om.mk ?_; omega)) only [go_sem] <;> (try omega)); rw [hcs.2 h]; exact ⟨rfl, by omega⟩), by omega, by omega⟩
    · exact ⟨p + 1, (by (refine covers_mk0 rfl rfl ?_ ?_ ?_ ?_ <;> simp (disch := (refine Om.mk ?_; omega)) only [go_sem] <;> (try omega)); rw [hcs.1 h]; exact ⟨rfl, by omega⟩), by omega, by omega⟩
    · rw [show p = x.sig.length by omega]
  · rw [symR_no false hs]
    refine fc_body Try.func11 rfl (by kernel_rfl) (by simp [Try.f11]) fun B => ?_
    simp only [Try.ntmps11, enumD, List.map_nil, List.map_cons, List.length_map, Nat.zero_add, Nat.reduceAdd]
    repeat' first
      | exact Bool.noConfusion h
      | refine sw_seq ?_
      | refine sw_block ?_
      | refine sw_skip ?_
      | refine sw_inBlock ?_
      | refine sw_go 0 kp11 fun K hK => ?_
      | refine fun (K : List Oper → LS → Prop) (hK : KOk S 0 _ _ _ K) => ?_
      | ((first | refine runL_go ?_ | refine runQ_go ?_); simp (disch := (refine Om.mk ?_; omega)) only [go_sem])
      | (refine hK.nil ?_; clear hK K; simp only [go_sem])
      | (refine sw_cond rfl (fun h => ?_) (fun h => ?_) <;> (try simp (disch := (refine Om.mk ?_; omega)) only [go_sem] at h))
      | (refine sw_exit rfl ?_)
      | (refine sw_loopEnd ?_)
      | ((first | refine sw_ret (ret0 ?_) | refine sw_ret ?_); simp (disch := (refine Om.mk ?_; omega)) only [go_sem, Try.results11])
      | refine hK.call rfl rfl rfl (specSystemOk_fc x) ⟨(by intro p hp; cases hp), rfl, rfl, (by simp only [dstOk, Nat.reduceLT])⟩ ?_
      | (with_reducible refine And.intro (by first | omega | (simp only [List.length_append, List.length_take, List.length_drop, List.length_cons, List.length_nil, List.length_map]; omega)) ?_)
      | ((with_reducible refine And.intro ?_ ?_); · first | (intro x hx; subst hx; rfl) | exact upR_mem fun _ _ => rfl | exact mapR_mem fun _ _ => rfl | (intro x; refine And.intro ?_ ?_ <;> (intros; subst_vars; rfl)))
      | fail
    exact absurd h hs
end Go.Proofs.Ytfokjjlbdaabaaa
