/-
  Lg, part 31: room for an empty list (package slices' Grow of a nil slice).
-/
import Derived.Test.YtenjmepbaajkjaaLgTok
import Derived.Test.YtenjmepbaajkjaaLgSeq
import Derived.Test.YtenjmepbaajkjaaLgRun
import Derived.Laws.Append
namespace Go.Lg
open Go Go.RowKit

theorem run_append_zeros {P : Program} (w : World) (t u ty e : TypeId) (k : IntKind) (i : TypeInfo) (z : Value) (ht : P.underlying t = some (.slice e)) (hu : P.underlying u = some (.int k)) (hi : P.info? e = some i) (hz : i.zero = some z) (n : Nat)
    (h0 : 0 < n) (h63 : (n : Int) ≤ 9223372036854775807) (h48 : n * i.bytes ≤ 281474976710656) (hs : 0 < i.size) :
    (Builtin.append_ #[t, u] ty #[.slice none 0 0, .int .i64 n]).run P w =
      .ok (.slice (some ⟨w.heap.size, 0, none⟩) n (grownCap w n 0 e)) (w.drew.alloc (.cells (Builtin.zeroCells z.cells n ++ Builtin.zeroCells z.cells (grownCap w n 0 e - n)) e)) := by
  have hn : n ≠ 0 := by omega
  have h63' : ¬ (9223372036854775807 < (n : Int)) := by omega
  have h48' : ¬ (281474976710656 < Builtin.nextslicecap n 0 * i.bytes) := by rw [nextslicecap_zero h0]; omega
  have hw : IntKind.i64.wrap (n : Int) = n := wrap64 (by omega) h63
  have hl : ¬ ((n : Int) < 0) := by omega
  have hb : ¬ (281474976710656 < (n : Int) * (i.bytes : Int)) := by
    have : ((n * i.bytes : Nat) : Int) ≤ 281474976710656 := by omega
    rw [Int.natCast_mul] at this
    omega
  have hz0 : ¬ (n * i.size = 0) := by
    have := Nat.mul_pos h0 hs
    omega
  simp [Builtin.append_, run_underlying ht, run_underlying hu, sizeOf, typeInfo, zeroValue, hi, hz, Builtin.lenOf, hn, h63', h48', Question.forced, run_firstCells_none, newRow, grownCap, hw, hl, hb, hz0, asInt, asIntOf, Sem.run_bind, Sem.run_pure]
theorem run_cap_slice {P : Program} (w : World) {t ty e : TypeId} (ht : P.underlying t = some (.slice e)) (a : Option Addr) (n c : Nat) :
    (Builtin.cap_ #[t] ty #[.slice a n c]).run P w = .ok (.int .i64 c) w := by
  simp [Builtin.cap_, run_underlying ht, goInt]
theorem run_slice_zero {P : Program} (w : World) {t e : TypeId} {i : TypeInfo} (ht : P.underlying t = some (.slice e)) (hi : P.info? e = some i) (a : Option Addr) (n c : Nat) :
    (Instr.slice t (.slice a n c) none (some (.int .i64 0)) none).run P w = .ok (.slice a 0 c) w := by
  cases a <;> simp [Instr.slice, Instr.sliceBounds, Instr.sliceBound, run_underlying ht, sizeOf, typeInfo, hi, asIntOf, Addr.add]
section
variable {S : Setup} {B : Base} {ops : Array Oper} {l : List Oper} {L : LS} {K : LS → Prop}
theorem nil_shape {G : Ghost} {w : World} {v : Value} (h : Rel G w (.sl .nil []) v) : v = .slice none 0 0 := by
  cases h with
  | @sl _ _ A n c b o s hn hcc hm ht' hA hu hk hst hr =>
    obtain ⟨h1, h2, h3⟩ := ht'
    simp_all
theorem int_shape {G : Ghost} {w : World} {k : IntKind} {n : Int} {v : Value} (h : Rel G w (.int k n) v) : v = .int k n := by cases h; rfl
theorem raw_shape {G : Ghost} {w : World} {u v : Value} (h : Rel G w (.raw u) v) : v = u := by cases h; rfl
theorem LopsW.capNil {t s : Nat} {T ty e : TypeId} {pos : String} {aft : Array Edge} (ht : evalO L (.tmp s) = some (.sl .nil [])) (hk : S.kd T = some (.slice e)) (hd : t < L.n) (h : LopsW S B ops l (L.put t (.int .i64 0)) K) :
    LopsW S B ops (⟨some t, .call ⟨.builtin .cap, #[.tmp s], #[T]⟩, ty, pos, aft, none⟩ :: l) L K := by
  intro G a w hs Q hQ
  refine wpList_step fun N hN => ?_
  rw [if_pos (guardY_sound (S := S) (b := true) rfl hs rfl)]
  have hv := nil_shape (eval_sound hs ht)
  have hrun : (execOp a.eval ⟨some t, .call ⟨.builtin .cap, #[.tmp s], #[T]⟩, ty, pos, aft, none⟩).run S.P w = .ok (.value (.int .i64 0)) w := by
    simp [execOp, resolve, invoke, builtin, hv, run_cap_slice w (kd_slice hk)]
  unfold Oper.wp
  rw [hrun]
  exact hN _ _ (h G _ w (hs.put hd .int) Q hQ)
theorem LopsW.sliceNil {t x y : Nat} {T ty e : TypeId} {pos : String} {aft : Array Edge} (ht : evalO L (.tmp x) = some (.sl .nil [])) (hy : evalO L (.tmp y) = some (.int .i64 0)) (hk : S.kd T = some (.slice e)) {j : _} (hj : S.tab e = some j) (hd : t < L.n) (h : LopsW S B ops l (L.put t (.sl .nil [])) K) :
    LopsW S B ops (⟨some t, .slice T (.tmp x) none (some (.tmp y)) none, ty, pos, aft, none⟩ :: l) L K := by
  intro G a w hs Q hQ
  refine wpList_step fun N hN => ?_
  rw [if_pos (guardY_sound (S := S) (b := true) rfl hs rfl)]
  have hr := eval_sound hs ht
  have hv := nil_shape hr
  have hn : a.eval (.tmp y) = .int .i64 0 := int_shape (eval_sound hs hy)
  obtain ⟨i, hi, _⟩ := (S.ok e j hj).info
  have hrun : (execOp a.eval ⟨some t, .slice T (.tmp x) none (some (.tmp y)) none, ty, pos, aft, none⟩).run S.P w = .ok (.value (.slice none 0 0)) w := by
    simp [execOp, hv, hn, Instr.sliceAt, run_underlying (kd_slice hk), run_slice_zero w (kd_slice hk) hi]
  unfold Oper.wp
  rw [hrun]
  exact hN _ _ (h G _ w (hs.put hd (hv ▸ hr)) Q hQ)
theorem growNil_sound {G : Ghost} {a : Act} {w : World} (hs : Sim B L G a w) {tok : Nat} (hc : L.clean (fun k => k == tok) = true) {t u ty e : TypeId} {k : IntKind} {i : TyI} (hk : S.kd t = some (.slice e)) (hu : S.P.underlying u = some (.int k)) (hi : S.tab e = some i) (hz : 0 < i.size) (n : Nat)
    (h0 : 0 < n) (hb : n * i.bytes ≤ 140737488355328) (h63 : n ≤ 140737488355328) :
    ∃ A cap G' w', (Builtin.append_ #[t, u] ty #[.slice none 0 0, .int .i64 n]).run S.P w = .ok (.slice A n cap) w' ∧ Sim B { L with toks := tok :: L.toks } G' a w' ∧ Rel G' w' (.sl (.own tok e i.size) []) (.slice A 0 cap) := by
  obtain ⟨inf, i1, i2, i3, z, i4, i5, _⟩ := (S.ok e i hi).info
  have hzs : z.cells.size = inf.size := by rw [i5, i2]; simp [TyI.size]
  have hcap := grownCap_ge w n 0 e
  obtain ⟨G', q1, q2⟩ := grow_case hs hc .nil hz (xs := []) (by simp) (by simp [flat]) (Builtin.zeroCells z.cells n ++ Builtin.zeroCells z.cells (grownCap w n 0 e - n)) (grownCap w n 0 e) (Nat.zero_le _)
    (grownCap_le_maxLen w n 0 e (by simp only [maxLen]; omega)) (by
      simp only [Array.size_append, size_zeroCells, hzs, i2, ← Nat.add_mul]
      congr 1
      omega) (fun j d u hd hu => by simp [flat] at hd)
  exact ⟨_, _, G', _, run_append_zeros w t u ty e k inf z (kd_slice hk) hu i1 i4 n h0 (by omega) (by rw [i3]; omega) (by rw [i2]; exact hz), q1, q2⟩
/-- append(nil list, n zeros), then its first no elements: an own list without elements. -/
theorem LopsW.grow {x y z0 u t1 t2 t3 : Nat} {T I R ty ty1 ty2 ty3 e : TypeId} {k : IntKind} {i : TyI} {n : Nat} {tok : Nat} {p0 p1 p2 p3 : String} {a0 a1 a2 a3 : Array Edge}
    (hx : evalO L (.tmp x) = some (.sl .nil [])) (hy : evalO L (.tmp y) = some (.int .i64 n)) (hz0 : evalO L (.tmp z0) = some (.sl .nil [])) (hk : S.kd T = some (.slice e)) (hI : S.P.underlying I = some (.int k)) (hi : S.tab e = some i) (hsz : 0 < i.size) {e2 : TypeId} (hR : S.P.underlying R = some (.slice e2))
    (h0 : 0 < n) (hb : n * i.bytes ≤ 140737488355328) (h63 : n ≤ 140737488355328) (hc : L.clean (fun k => k == tok) = true)
    (hne : u ≠ z0 ∧ u ≠ t1 ∧ u ≠ t2 ∧ t1 ≠ t2) (hd : u < L.n ∧ t1 < L.n ∧ t2 < L.n ∧ t3 < L.n)
    (h : ∀ v, LopsW S B ops l ((((({ L with toks := tok :: L.toks }.put u (.raw v)).put t1 (.sl .nil [])).put t2 (.int .i64 0))).put t3 (.sl (.own tok e i.size) [])) K) :
    LopsW S B ops (⟨some u, .call ⟨.builtin .append, #[.tmp x, .tmp y], #[T, I]⟩, ty, p0, a0, none⟩ :: ⟨some t1, .move (.tmp z0), ty1, p1, a1, none⟩ :: ⟨some t2, .call ⟨.builtin .len, #[.tmp t1], #[R]⟩, ty2, p2, a2, none⟩ :: ⟨some t3, .slice T (.tmp u) none (some (.tmp t2)) none, ty3, p3, a3, none⟩ :: l) L K := by
  intro G a w hs Q hQ
  refine wpList_step fun N hN => ?_
  rw [if_pos (guardY_sound (S := S) (b := true) rfl hs rfl)]
  have hv := nil_shape (eval_sound hs hx)
  have hn := int_shape (eval_sound hs hy)
  obtain ⟨A, cap, G', w', hrun, hs', hr'⟩ := growNil_sound (ty := ty) hs hc hk hI hi hsz n h0 hb h63
  have hrun : (execOp a.eval ⟨some u, .call ⟨.builtin .append, #[.tmp x, .tmp y], #[T, I]⟩, ty, p0, a0, none⟩).run S.P w = .ok (.value (.slice A n cap)) w' := by
    simp [execOp, resolve, invoke, builtin, hv, hn, hrun]
  unfold Oper.wp
  rw [hrun]
  refine hN _ _ ?_
  have hs1 := hs'.put (t := u) hd.1 (d := .raw (.slice A n cap)) (.raw (by intro cs h; cases h))
  have hz1 : evalO ({ L with toks := tok :: L.toks }.put u (.raw (.slice A n cap))) (.tmp z0) = some (.sl .nil []) := by
    simpa [evalO, LS.get, LS.put, look_setA, hne.1] using hz0
  have hr1 := eval_sound hs1 hz1
  have hv1 := nil_shape hr1
  rw [hv1] at hr1
  refine wpList_step fun N2 hN2 => ?_
  rw [if_pos (guardY_sound (S := S) (b := true) rfl hs1 rfl)]
  have hrun2 : (execOp (a.put (some u) (.slice A n cap)).eval ⟨some t1, .move (.tmp z0), ty1, p1, a1, none⟩).run S.P w' = .ok (.value (.slice none 0 0)) w' := by
    simp [execOp, hv1]
  unfold Oper.wp
  rw [hrun2]
  refine hN2 _ _ ?_
  have hs2 := hs1.put (t := t1) hd.2.1 hr1
  refine wpList_step fun N3 hN3 => ?_
  rw [if_pos (guardY_sound (S := S) (b := true) rfl hs2 rfl)]
  have hv2 := nil_shape (eval_sound hs2 (x := .tmp t1) (d := .sl .nil []) (by simp [evalO, LS.get, LS.put, look_setA]))
  have hrun3 : (execOp ((a.put (some u) (.slice A n cap)).put (some t1) (.slice none 0 0)).eval ⟨some t2, .call ⟨.builtin .len, #[.tmp t1], #[R]⟩, ty2, p2, a2, none⟩).run S.P w' = .ok (.value (.int .i64 0)) w' := by
    simp [execOp, resolve, invoke, builtin, hv2, Builtin.len_, run_underlying hR, goInt]
  unfold Oper.wp
  rw [hrun3]
  refine hN3 _ _ ?_
  have hs3 := hs2.put (t := t2) (d := .int .i64 0) hd.2.2.1 .int
  refine wpList_step fun N4 hN4 => ?_
  rw [if_pos (guardY_sound (S := S) (b := true) rfl hs3 rfl)]
  have hv3 := eval_sound hs3 (x := .tmp u) (d := .raw (.slice A n cap)) (by simp [evalO, LS.get, LS.put, look_setA, Ne.symm hne.2.1, Ne.symm hne.2.2.1])
  have hv4 := int_shape (eval_sound hs3 (x := .tmp t2) (d := .int .i64 0) (by simp [evalO, LS.get, LS.put, look_setA]))
  obtain ⟨inf, hinf, _⟩ := (S.ok e i hi).info
  have hrun4 : (execOp (((a.put (some u) (.slice A n cap)).put (some t1) (.slice none 0 0)).put (some t2) (.int .i64 0)).eval ⟨some t3, .slice T (.tmp u) none (some (.tmp t2)) none, ty3, p3, a3, none⟩).run S.P w' = .ok (.value (.slice A 0 cap)) w' := by
    have hv3' : (((a.put (some u) (.slice A n cap)).put (some t1) (.slice none 0 0)).put (some t2) (.int .i64 0)).eval (.tmp u) = .slice A n cap := raw_shape hv3
    simp [execOp, hv3', hv4, Instr.sliceAt, run_underlying (kd_slice hk), run_slice_zero w' (kd_slice hk) hinf]
  unfold Oper.wp
  rw [hrun4]
  exact hN4 _ _ (h _ G' _ w' (hs3.put hd.2.2.2 hr') Q hQ)
end
theorem LopsW.clear {S : Setup} {B : Base} {ops : Array Oper} {l : List Oper} {L : LS} {K : LS → Prop} {a b c : Nat} {T e : TypeId} {zb : Nat} {ty ty' : TypeId} {pos pos' : String} {aft aft' : Array Edge} {dst : Option Nat} {id n i : Nat} {cs : List D} (ha : evalO L (.tmp a) = some (.ms id n)) (hb : evalO L (.tmp b) = some (.int .i64 i)) (hin : i ≤ n) (hcs : look L.boxes id = some cs) (hl : cs.length = n)
    (hk : S.kd T = some (.slice e)) (hi : S.tab e = some ⟨.int .i64, zb, [.int .i64]⟩) (hc : c < L.n) (hd : dst = none)
    (h : LopsW S B ops l { L with env := eraseK c L.env, boxes := setA L.boxes id (cs.take i ++ List.replicate (n - i) (.int .i64 0)) } K) :
    LopsW S B ops (⟨some c, .slice T (.tmp a) (some (.tmp b)) none none, ty, pos, aft, none⟩ :: ⟨dst, .call ⟨.builtin .clear, #[.tmp c], #[T]⟩, ty', pos', aft', none⟩ :: l) L K := by
  subst hd
  intro G w0 w hs Q hQ
  refine wpList_step fun N hN => ?_
  rw [if_pos (guardY_sound (S := S) (b := true) rfl hs rfl)]
  have hr := eval_sound hs ha
  have hv := int_shape (eval_sound hs hb)
  generalize hu : w0.eval (.tmp a) = u at hr
  have hkd := kd_slice hk
  have hok := S.ok e _ hi
  cases hr with
  | @ms _ _ cap g hβ hcap hmx =>
  have he : S.P.elem T = e := by simp [Program.elem, hkd]
  have hu' : S.P.underlying T = some (.slice (S.P.elem T)) := by rw [he]; exact hkd
  have hsl : (Instr.sliceAt T (.slice (some ⟨g, 0, none⟩) n cap) (some (.int .i64 i)) none none).run S.P w = .ok (sliced (some ⟨g, 0, none⟩) i n cap 1) w := by
    rw [run_sliceAt_slice w T _ _ _ _ hu', run_slice_any w T _ _ _ hu', run_sliceBounds_lh w true n cap (some (.int .i64 i)) none (some i) none (.inr ⟨_, _, rfl, rfl⟩) (.inl ⟨rfl, rfl⟩) (by simp) (by simp; omega) (by simp) hcap]
    simp [he, run_sizeOf hok, TyI.size]
  have hop : (execOp w0.eval ⟨some c, .slice T (.tmp a) (some (.tmp b)) none none, ty, pos, aft, none⟩).run S.P w = .ok (.value (sliced (some ⟨g, 0, none⟩) i n cap 1)) w := by
    simp [execOp, hu, hv, hsl]
  unfold Oper.wp
  rw [hop]
  refine hN _ _ ?_
  have hs1 : Sim B { L with env := eraseK c L.env } G (w0.put (some c) (sliced (some ⟨g, 0, none⟩) i n cap 1)) w := by
    refine ⟨hs.defers, by simpa [Act.put] using hs.size, fun t d hd => ?_, hs.W, hs.fixed⟩
    simp only [look_eraseK] at hd
    split at hd
    · cases hd
    · rename_i hne
      obtain ⟨v, k1, k2⟩ := hs.env t d hd
      exact ⟨v, by simp only [Act.put]; rw [Array.getElem?_setIfInBounds_ne hne]; exact k1, k2⟩
  have hcv : (w0.put (some c) (sliced (some ⟨g, 0, none⟩) i n cap 1)).eval (.tmp c) = sliced (some ⟨g, 0, none⟩) i n cap 1 := by
    simp [Act.eval, Act.put, hs.size, hc]
  refine wpList_step fun N2 hN2 => ?_
  rw [if_pos (show Region.wanted _ _ = true from rfl)]
  obtain ⟨z, hz, hrz, hz1⟩ := relArr_zero (S := S) (G := G) (w := w) hi
  have hzc : z.cells = #[.int .i64 0] := by
    have hsz : z.cells.size = 1 := hz1
    have h0 := hrz.2 0 (.int .i64 0) (z.cells[0]'(by omega)) rfl (by simp [hsz])
    have hv0 := int_shape h0
    apply Array.ext
    · simp [hsz]
    · intro j hj1 hj2
      have : j = 0 := by omega
      subst this
      simpa using hv0
  have hrep : ∀ m : Nat, (Builtin.zeroCells z.cells m).toList = List.replicate m (.int .i64 0) := fun m => by
    rw [hzc]
    simp [Builtin.zeroCells]
    apply List.ext_getElem
    · simp
    · intro j h1 h2
      simp [Nat.mod_one]
  by_cases hni : i = n
  · subst hni
    have hcl : (Builtin.clear_ #[T] ty' #[sliced (some ⟨g, 0, none⟩) i i cap 1]).run S.P w = .ok (.tuple #[]) w := by
      have h0 : sliced (some ⟨g, 0, none⟩) i i cap 1 = .slice (if cap = i then some ⟨g, 0, none⟩ else (some (⟨g, 0, none⟩ : Addr)).map (·.add (i * 1))) 0 (cap - i) := by simp [sliced]
      rw [h0]
      split <;> simp [Builtin.clear_, run_underlying hkd]
    have hop2 : (execOp (w0.put (some c) (sliced (some ⟨g, 0, none⟩) i i cap 1)).eval ⟨none, .call ⟨.builtin .clear, #[.tmp c], #[T]⟩, ty', pos', aft', none⟩).run S.P w = .ok (.value (.tuple #[])) w := by
      simp [execOp, resolve, invoke, builtin, hcv, hcl]
    unfold Oper.wp
    rw [hop2]
    refine hN2 _ _ (h G _ w ?_ Q hQ)
    have e1 : cs.take i ++ List.replicate (i - i) (.int .i64 0) = cs := by rw [Nat.sub_self, List.replicate_zero, List.append_nil, ← hl, List.take_length]
    rw [e1]
    refine ⟨hs1.defers, hs1.size, hs1.env, { hs1.W with boxes := fun k0 c0 hk0 => ?_ }, hs1.fixed⟩
    simp only [look_setA] at hk0
    split at hk0
    · rename_i e0
      subst e0
      obtain rfl := Option.some.inj hk0
      exact hs1.W.boxes id _ hcs
    · exact hs1.W.boxes k0 c0 hk0
  · have hlt : i < n := by omega
    obtain ⟨g', w', hβ', hst, hsim⟩ := store_sim hs1 (id := id) (off := i) (cs := cs) (new := List.replicate (n - i) (.int .i64 0)) (vl := List.replicate (n - i) (.int .i64 0)) hcs (by simp; omega) (by simp) (fun j d v hd hv => by
      rw [List.mem_replicate.1 (List.mem_of_getElem? hd) |>.2, List.mem_replicate.1 (List.mem_of_getElem? hv) |>.2]
      exact .int) (fun v hv => by rw [(List.mem_replicate.1 hv).2]; rfl)
    have hg : g' = g := Option.some.inj (hβ'.symm.trans hβ)
    subst hg
    have hst := hst S.P
    have hcl : (Builtin.clear_ #[T] ty' #[sliced (some ⟨g', 0, none⟩) i n cap 1]).run S.P w = .ok (.tuple #[]) w' := by
      have h0 : sliced (some ⟨g', 0, none⟩) i n cap 1 = .slice (some ⟨g', i, none⟩) (n - i) (cap - i) := by
        unfold sliced
        rw [if_neg (by omega)]
        simp only [Option.map_some, Addr.add, Nat.zero_add, Nat.mul_one]
        split
        · rename_i e; subst e; rfl
        · rfl
      rw [h0]
      obtain ⟨m, hm⟩ : ∃ m, n - i = m + 1 := ⟨n - i - 1, by omega⟩
      rw [hm] at hst ⊢
      simp [Builtin.clear_, run_underlying hkd, hz, hrep, hst]
    have hop2 : (execOp (w0.put (some c) (sliced (some ⟨g', 0, none⟩) i n cap 1)).eval ⟨none, .call ⟨.builtin .clear, #[.tmp c], #[T]⟩, ty', pos', aft', none⟩).run S.P w = .ok (.value (.tuple #[])) w' := by
      simp [execOp, resolve, invoke, builtin, hcv, hcl]
    unfold Oper.wp
    rw [hop2]
    have e1 : putCells cs i (List.replicate (n - i) (.int .i64 0)) = cs.take i ++ List.replicate (n - i) (.int .i64 0) := by
      unfold putCells
      rw [List.length_replicate, List.drop_of_length_le (by omega), List.append_nil]
    rw [e1] at hsim
    exact hN2 _ _ (h G _ w' hsim Q hQ)

end Go.Lg
