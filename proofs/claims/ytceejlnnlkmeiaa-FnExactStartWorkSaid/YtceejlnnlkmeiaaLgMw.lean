/-
  Lg, part 34: functions whose slots hold known values, in a known world (the marks).
-/
import Derived.Test.YtceejlnnlkmeiaaLgMk2
namespace Go.Lg
open Go Go.RowKit

structure ME (n : Nat) (E : List (Nat × Value)) (a : Act) : Prop where
  defers : a.defers = []
  size : a.tmps.size = n
  env : ∀ t v, look E t = some v → a.tmps[t]? = some v

def evV (E : List (Nat × Value)) : Operand → Option Value
  | .tmp t => look E t
  | .const v => some v
  | _ => none
theorem evV_eval {n : Nat} {E : List (Nat × Value)} {a : Act} (h : ME n E a) {x : Operand} {v : Value} (hx : evV E x = some v) : a.eval x = v := by
  cases x with
  | tmp t => simp [Act.eval, h.env t v hx]
  | const u => simpa [evV, Act.eval] using hx
  | _ => cases hx
theorem ME.put {n : Nat} {E : List (Nat × Value)} {a : Act} (h : ME n E a) {t : Nat} (ht : t < n) (v : Value) : ME n ((t, v) :: E) (a.put (some t) v) := by
  refine ⟨h.defers, by simpa [Act.put] using h.size, fun t' v' hv => ?_⟩
  simp only [look] at hv
  by_cases e : t = t'
  · subst e
    simp only [if_true, Option.some.injEq] at hv
    subst hv
    simp [Act.put, h.size, ht]
  · rw [if_neg e] at hv
    simp only [Act.put]
    rw [Array.getElem?_setIfInBounds_ne e]
    exact h.env t' v' hv

/-- The operations 'l', from these values and this world on, come to what K knows. -/
def OpsM (P : Program) (n : Nat) (ops : Array Oper) (l : List Oper) (E : List (Nat × Value)) (w : World) (K : List (Nat × Value) → World → Prop) : Prop :=
  ∀ a, ME n E a → ∀ Q : Exit → Act → World → Prop, (∀ E' a' w', K E' w' → ME n E' a' → Q .normal a' w') → wpList P ops Q l a w

section ops
variable {P : Program} {n : Nat} {ops : Array Oper} {l : List Oper} {E : List (Nat × Value)} {w : World} {K : List (Nat × Value) → World → Prop} {t : Nat} {ty : TypeId} {pos : String} {aft : Array Edge}

theorem m_nil (h : K E w) : OpsM P n ops [] E w K := fun a hE _ hQ => wpList_nil (hQ E a w h hE)
theorem m_val {o : Op} {v : Value} {w' : World} (ht : t < n) (hr : ∀ a, ME n E a → (execOp a.eval ⟨some t, o, ty, pos, aft, none⟩).run P w = .ok (.value v) w') (h : OpsM P n ops l ((t, v) :: E) w' K) :
    OpsM P n ops (⟨some t, o, ty, pos, aft, none⟩ :: l) E w K := by
  intro a hE Q hQ
  refine wpList_step fun N hN => ?_
  rw [if_pos (show Region.wanted ⟨some t, o, ty, pos, aft, none⟩ (yielded ops a.tmps) = true from rfl)]
  unfold Oper.wp
  rw [hr a hE]
  exact hN _ _ (h _ (hE.put ht v) Q hQ)
theorem m_move {x : Operand} {v : Value} (hx : evV E x = some v) (ht : t < n) (h : OpsM P n ops l ((t, v) :: E) w K) : OpsM P n ops (⟨some t, .move x, ty, pos, aft, none⟩ :: l) E w K :=
  m_val ht (fun a hE => by simp [execOp, evV_eval hE hx]) h
theorem m_assign {x : Operand} {v : Value} (hx : evV E x = some v) (ht : t < n) (h : OpsM P n ops l ((t, v) :: E) w K) : OpsM P n ops (⟨some t, .assign x, ty, pos, aft, none⟩ :: l) E w K :=
  m_val ht (fun a hE => by simp [execOp, evV_eval hE hx]) h
theorem m_len {x : Operand} {A : Option Addr} {m c : Nat} {T e : TypeId} (hx : evV E x = some (.slice A m c)) (hu : P.underlying T = some (.slice e)) (ht : t < n) (h : OpsM P n ops l ((t, .int .i64 m) :: E) w K) :
    OpsM P n ops (⟨some t, .call ⟨.builtin .len, #[x], #[T]⟩, ty, pos, aft, none⟩ :: l) E w K :=
  m_val ht (fun a hE => by simp [execOp, resolve, invoke, builtin, evV_eval hE hx, Builtin.len_, run_underlying hu, goInt]) h
theorem m_lss {x y : Operand} {k : IntKind} {i j : Int} {T U : TypeId} (hx : evV E x = some (.int k i)) (hy : evV E y = some (.int k j)) (ht : t < n) (h : OpsM P n ops l ((t, .bool (decide (i < j))) :: E) w K) :
    OpsM P n ops (⟨some t, .binOp .lss T x y U, ty, pos, aft, none⟩ :: l) E w K :=
  m_val ht (fun a hE => by unfold execOp; dsimp only; rw [Sem.run_bind, evV_eval hE hx, evV_eval hE hy]; simp [binOp_lss, eqGuard_at_int]) h
theorem m_neq {x y : Operand} {k : IntKind} {i j : Int} {T U : TypeId} (hx : evV E x = some (.int k i)) (hy : evV E y = some (.int k j)) (ht : t < n) (h : OpsM P n ops l ((t, .bool (i != j)) :: E) w K) :
    OpsM P n ops (⟨some t, .binOp .neq T x y U, ty, pos, aft, none⟩ :: l) E w K :=
  m_val ht (fun a hE => by unfold execOp; dsimp only; rw [Sem.run_bind, evV_eval hE hx, evV_eval hE hy]; simp [binOp_neq, eqGuard_at_int]) h
theorem m_add {x y : Operand} {i j : Int} {T U : TypeId} (hx : evV E x = some (.int .i64 i)) (hy : evV E y = some (.int .i64 j)) (hb : -9223372036854775808 ≤ i + j ∧ i + j ≤ 9223372036854775807) (ht : t < n) (h : OpsM P n ops l ((t, .int .i64 (i + j)) :: E) w K) :
    OpsM P n ops (⟨some t, .binOp .add T x y U, ty, pos, aft, none⟩ :: l) E w K :=
  m_val ht (fun a hE => by unfold execOp; dsimp only; rw [Sem.run_bind, evV_eval hE hx, evV_eval hE hy]; simp [binOp_add, eqGuard_at_int, Op.intArith, wrap64 hb.1 hb.2]) h
theorem m_indexAddr {x y : Operand} {b o m c i z : Nat} {T e : TypeId} (hx : evV E x = some (.slice (some ⟨b, o, none⟩) m c)) (hy : evV E y = some (.int .i64 i)) (hu : P.underlying T = some (.slice e)) (hz : ∀ w, (sizeOf e).run P w = .ok z w) (hi : i < m) (ht : t < n)
    (h : OpsM P n ops l ((t, .pointer (some ⟨b, o + i * z, none⟩)) :: E) w K) : OpsM P n ops (⟨some t, .indexAddr T x y, ty, pos, aft, none⟩ :: l) E w K :=
  m_val ht (fun a hE => by
    have hin : (i : Int) < (m : Int) := by omega
    simp [execOp, evV_eval hE hx, evV_eval hE hy, Instr.indexAt, asIntOf, run_underlying hu, hz, hin, hi, add_mk]) h
theorem m_fieldAddr {S : Setup} (hP : S.P = P) {x : Operand} {b o f : Nat} {T : TypeId} {fs : List (Nat × TypeId)} {p : Nat × TypeId} {j : TyI} (hx : evV E x = some (.pointer (some ⟨b, o, none⟩))) (hk : S.kd T = some (.struct fs)) (hp : fs[f]? = some p) (hj : S.tab p.2 = some j) (hne : j.size ≠ 0) (ht : t < n)
    (h : OpsM P n ops l ((t, .pointer (some ⟨b, o + p.1, none⟩)) :: E) w K) : OpsM P n ops (⟨some t, .fieldAddr T x f, ty, pos, aft, none⟩ :: l) E w K := by
  subst hP
  refine m_val ht (fun a hE => ?_) h
  obtain ⟨fields, hu, hfs, _⟩ := kd_struct hk
  obtain ⟨fl, hf, ho, hty⟩ := fields_get hfs hp
  have hok := S.ok p.2 j hj
  have hsz : (sizeOf fl.type).run S.P w = .ok j.size w := by rw [hty]; exact run_sizeOf hok w
  simp [execOp, evV_eval hE hx, Instr.fieldAt, run_underlying hu, hf, Instr.sureAddr, fieldPlace, hsz, hne, add_mk, ho]
theorem m_load {S : Setup} (hP : S.P = P) {x : Operand} {b o : Nat} {v : Value} {T : TypeId} {j : TyI} (hx : evV E x = some (.pointer (some ⟨b, o, none⟩))) (hj : S.tab T = some j) (ha : j.agg = false) (hv : cellAt w b o = some v) (ht : t < n)
    (h : OpsM P n ops l ((t, v) :: E) w K) : OpsM P n ops (⟨some t, .load T x, ty, pos, aft, none⟩ :: l) E w K := by
  subst hP
  refine m_val ht (fun a hE => ?_) h
  have hok := S.ok T j hj
  have hv' : w.cell? ⟨b, o, none⟩ = some v := hv
  simp [execOp, evV_eval hE hx, Instr.loadAt, Instr.sureAddr, loadVar, run_isAgg hok, ha, hv']
theorem m_loadA {S : Setup} (hP : S.P = P) {x : Operand} {b o : Nat} {vs : List Value} {T : TypeId} {j : TyI} (hx : evV E x = some (.pointer (some ⟨b, o, none⟩))) (hj : S.tab T = some j) (ha : j.agg = true) (hl : vs.length = j.size) (hv : ∀ (i : Nat) v, vs[i]? = some v → cellAt w b (o + i) = some v) (ht : t < n)
    (h : OpsM P n ops l ((t, .agg vs.toArray) :: E) w K) : OpsM P n ops (⟨some t, .load T x, ty, pos, aft, none⟩ :: l) E w K := by
  subst hP
  refine m_val ht (fun a hE => ?_) h
  have hok := S.ok T j hj
  have := run_loadCells_list (P := S.P) w ⟨b, o, none⟩ vs (fun i v hi => by rw [Addr.add_lit]; exact hv i v hi)
  rw [hl] at this
  simp [execOp, evV_eval hE hx, Instr.loadAt, Instr.sureAddr, loadVar, run_isAgg hok, ha, run_sizeOf hok, this]
theorem m_store {S : Setup} (hP : S.P = P) {x y : Operand} {b o : Nat} {m : Int} {T : TypeId} {j : TyI} (hx : evV E x = some (.pointer (some ⟨b, o, none⟩))) (hy : evV E y = some (.int .i64 m)) (hj : S.tab T = some j) (hs : j.size = 1) (hw : Wr w (b, o))
    (h : OpsM P n ops l E (wr w (b, o) m) K) : OpsM P n ops (⟨none, .store T x y, ty, pos, aft, none⟩ :: l) E w K := by
  subst hP
  intro a hE Q hQ
  refine wpList_step fun N hN => ?_
  rw [if_pos (show Region.wanted ⟨none, .store T x y, ty, pos, aft, none⟩ (yielded ops a.tmps) = true from rfl)]
  have hsz := run_sizeOf (S.ok T j hj) w
  obtain ⟨vs, e, h1, h2⟩ := hw
  have hrow := run_storeCells_at (P := S.P) b o e [Value.int .i64 m] 0 vs w h1 (by simp; omega) (by simp [Value.oneCell'])
  simp only [Nat.add_zero, List.length_singleton] at hrow
  rw [← wr_eq (p := (b, o)) h1] at hrow
  have hr : (execOp a.eval ⟨none, .store T x y, ty, pos, aft, none⟩).run S.P w = .ok .skip (wr w (b, o) m) := by
    simp [execOp, evV_eval hE hx, evV_eval hE hy, Instr.storeAt, Instr.sureAddr, storeVar, hsz, hs, Value.cells, hrow]
  unfold Oper.wp
  rw [hr]
  exact hN _ _ (h _ hE Q hQ)
theorem m_box {x : Operand} {vs : List Value} {T : TypeId} (hx : evV E x = some (.agg vs.toArray)) (ht : t < n) (h : OpsM P n ops l ((t, .pointer (some ⟨w.heap.size, 0, none⟩)) :: E) (w.alloc (.cells vs.toArray T)) K) :
    OpsM P n ops (⟨some t, .box T x, ty, pos, aft, none⟩ :: l) E w K :=
  m_val ht (fun a hE => by simp [execOp, evV_eval hE hx, Instr.box, newVar, newRow, Value.cells]) h
theorem m_call {f : FuncId} {x y : Operand} {u v : Value} {tys : Array TypeId} {R : Ending → World → Prop} (he : Enters P f) (hx : evV E x = some u) (hy : evV E y = some v) (hC : Calls P f #[u, v] w R) (ht : t < n)
    (h : ∀ e w', R e w' → ∃ d, e = .returned d ∧ OpsM P n ops l ((t, d) :: E) w' K) : OpsM P n ops (⟨some t, .call ⟨.value (.func f), #[x, y], tys⟩, ty, pos, aft, none⟩ :: l) E w K := by
  intro a hE Q hQ
  refine wpList_step fun N hN => ?_
  rw [if_pos (show Region.wanted ⟨some t, .call ⟨.value (.func f), #[x, y], tys⟩, ty, pos, aft, none⟩ (yielded ops a.tmps) = true from rfl)]
  have hrun : (execOp a.eval ⟨some t, .call ⟨.value (.func f), #[x, y], tys⟩, ty, pos, aft, none⟩).run P w = .ok (.enter f #[u, v]) w := by
    simp [execOp, resolve, Act.eval, Deferred.ofValue, invoke, enter_run he, evV_eval hE hx, evV_eval hE hy]
    simp [← evV_eval hE hx, ← evV_eval hE hy, Act.eval]
  unfold Oper.wp
  rw [hrun, Oper.upon_enter]
  refine hC.mono fun e w' hR => ?_
  obtain ⟨d, rfl, h'⟩ := h e w' hR
  exact hN _ _ (h' _ (hE.put ht d) Q hQ)
end ops

/-! Control. -/
inductive MItem where
  | code (c : Code)
  | inBlock (id : Nat)
  | loopEnd (J : List (Nat × Value) → World → Prop)
def semM (P : Program) (n : Nat) (R : List (Nat × Value) → World → Prop) : List MItem → Exit → Act → World → Prop
  | [] => fun e a w => (e = .normal ∨ e = .ret) ∧ ∃ E, ME n E a ∧ R E w
  | .inBlock id :: k => Exit.inBlock id (semM P n R k)
  | .loopEnd J :: k => Exit.then (fun a w => ∃ E, ME n E a ∧ J E w) (semM P n R k)
  | .code c :: k => Exit.then (fun a w => c.wp P (semM P n R k) a w) (semM P n R k)
def SM (P : Program) (n : Nat) (R : List (Nat × Value) → World → Prop) (k : List MItem) (E : List (Nat × Value)) (w : World) : Prop := ∀ a, ME n E a → semM P n R k .normal a w

section ctl
variable {P : Program} {n : Nat} {R : List (Nat × Value) → World → Prop} {k : List MItem} {E : List (Nat × Value)} {w : World}
theorem sm_seq {x y : Code} (h : SM P n R (.code x :: .code y :: k) E w) : SM P n R (.code (.seq x y) :: k) E w := fun a hE => wp_seq (h a hE)
theorem sm_block {id : Nat} {c : Code} (h : SM P n R (.code c :: .inBlock id :: k) E w) : SM P n R (.code (.block id c) :: k) E w := fun a hE => wp_block (h a hE)
theorem sm_skip (h : SM P n R k E w) : SM P n R (.code .skip :: k) E w := fun a hE => wp_skip (h a hE)
theorem sm_inBlock {id : Nat} (h : SM P n R k E w) : SM P n R (.inBlock id :: k) E w := fun a hE => h a hE
theorem sm_loopEnd {J : List (Nat × Value) → World → Prop} (h : J E w) : SM P n R (.loopEnd J :: k) E w := fun a hE => ⟨E, hE, h⟩
theorem sm_cond {c : Operand} {x y : Code} {b : Bool} (hc : evV E c = some (.bool b)) (h1 : b = true → SM P n R (.code x :: k) E w) (h0 : b = false → SM P n R (.code y :: k) E w) : SM P n R (.code (.cond c x y) :: k) E w := fun a hE =>
  wp_cond_split (evV_eval hE hc) (fun hb => h1 hb a hE) (fun hb => h0 hb a hE)
theorem semM_ret {a : Act} (hE : ME n E a) (h : R E w) : ∀ k : List MItem, semM P n R k .ret a w
  | [] => ⟨.inr rfl, E, hE, h⟩
  | .inBlock _ :: k => semM_ret hE h k
  | .loopEnd _ :: k => semM_ret hE h k
  | .code _ :: k => semM_ret hE h k
theorem sm_ret (h : R E w) : SM P n R (.code .ret :: k) E w := fun _ hE => wp_ret (semM_ret hE h k)
def exitM (id : Nat) : List MItem → Option (List MItem)
  | [] => none
  | .inBlock id' :: k => if id = id' then some k else exitM id k
  | .loopEnd _ :: k => exitM id k
  | .code _ :: k => exitM id k
theorem semM_exit {id : Nat} {a : Act} : ∀ {k k' : List MItem}, exitM id k = some k' → semM P n R k' .normal a w → semM P n R k (.exit id) a w
  | [], _, h, _ => by cases h
  | .inBlock id' :: k, k', h, hk => by
    simp only [exitM] at h
    show Exit.inBlock id' (semM P n R k) (.exit id) a w
    simp only [Exit.inBlock]
    split at h
    · rename_i he
      rw [if_pos he]
      obtain rfl := Option.some.inj h
      exact hk
    · rename_i he
      rw [if_neg he]
      exact semM_exit h hk
  | .loopEnd _ :: k, _, h, hk => semM_exit (k := k) h hk
  | .code _ :: k, _, h, hk => semM_exit (k := k) h hk
theorem sm_exit {id : Nat} {k' : List MItem} (he : exitM id k = some k') (h : SM P n R k' E w) : SM P n R (.code (.exit id) :: k) E w := fun a hE => wp_exit (semM_exit he (h a hE))
theorem sm_region {id : Nat} {l : List Oper} (h : OpsM P n l.toArray l E w fun E' w' => SM P n R k E' w') : SM P n R (.code (.region id l.toArray false) :: k) E w := fun a hE =>
  wp_region_lit (h a hE _ fun _ a' _ hK hE' => hK a' hE')
/-- Knowing less. -/
def coversM (E E' : List (Nat × Value)) : Prop := ∀ p ∈ E', look E p.1 = some p.2
theorem ME.less {E' : List (Nat × Value)} {a : Act} (h : ME n E a) (hc : coversM E E') : ME n E' a := ⟨h.defers, h.size, fun t v hv => h.env t v (hc (t, v) (mem_of_look hv))⟩
theorem sm_weak {E' : List (Nat × Value)} (hc : coversM E E') (h : SM P n R k E' w) : SM P n R k E w := fun a hE => h a (hE.less hc)
/-- A loop that counts up to N. -/
theorem sm_loop (F : Nat → List (Nat × Value)) (W : Nat → World) (N : Nat) {c : Code} (hc : coversM E (F 0)) (hw : w = W 0)
    (round : ∀ i, i ≤ N → SM P n R (.code c :: .loopEnd (fun E' w' => i < N ∧ coversM E' (F (i + 1)) ∧ w' = W (i + 1)) :: k) (F i) (W i)) : SM P n R (.code (.loop c) :: k) E w := fun a hE => by
  refine wp_loop_ghost (fun m a w => ∃ i, N - i = m ∧ i ≤ N ∧ ME n (F i) a ∧ w = W i) (N - 0) ⟨0, rfl, Nat.zero_le _, hE.less hc, hw⟩ ?_
  rintro m a w ⟨i, rfl, hi, hs, rfl⟩
  refine wp_mono (round i hi a hs) fun e a' w' h => ?_
  cases e with
  | normal =>
    obtain ⟨E', hs', h1, h2, h3⟩ := h
    exact ⟨N - (i + 1), by omega, i + 1, rfl, h1, hs'.less h2, h3⟩
  | _ => exact h
end ctl

def enumV : Nat → List Value → List (Nat × Value)
  | _, [] => []
  | k, d :: ds => (k, d) :: enumV (k + 1) ds
theorem look_enumV (ds : List Value) : ∀ (k t : Nat), look (enumV k ds) t = if k ≤ t then ds[t - k]? else none := by
  induction ds with
  | nil => intro k t; simp [enumV, look]
  | cons d ds ih =>
    intro k t
    simp only [enumV, look, ih]
    by_cases h : k = t
    · subst h; simp
    · by_cases h2 : k ≤ t
      · rw [if_neg h, if_pos h2, if_pos (by omega), show t - k = (t - (k + 1)) + 1 by omega]
        simp
      · rw [if_neg h, if_neg h2, if_neg (by omega)]
theorem calls_of_sm {P : Program} {f : FuncId} {fn : Func} {c : Code} {R : List (Nat × Value) → World → Prop} {Rx : Ending → World → Prop} {w : World} {vals : List Value} {t : Nat}
    (hf : P.funcs[f]? = some fn) (hb : fn.body = some c) (hn : vals.length ≤ fn.ntmps) (hres : fn.results = #[.tmp t])
    (h : SM P fn.ntmps R [.code c] (enumV 0 vals) w)
    (hR : ∀ E' w', R E' w' → ∃ v, look E' t = some v ∧ Rx (.returned v) w') : Calls P f vals.toArray w Rx := by
  refine calls_of_wp hf hb (wp_mono (h _ ⟨rfl, ?_, fun t v hv => ?_⟩) ?_)
  · simp; omega
  · rw [look_enumV] at hv
    simp only [Nat.zero_le, if_true, Nat.sub_zero] at hv
    have hlt : t < vals.length := (List.getElem?_eq_some_iff.1 hv).1
    simp only
    rw [Array.getElem?_append_left (by simpa using hlt)]
    simpa using hv
  · intro e a' w' he
    have key : ∀ E', ME fn.ntmps E' a' → R E' w' → a'.defers = [] ∧ ∃ v, (results fn a'.tmps).run P w' = .ok v w' ∧ Rx (.returned v) w' := fun E' hE' hr => by
      obtain ⟨v, h1, h2⟩ := hR E' w' hr
      refine ⟨hE'.defers, v, ?_, h2⟩
      have := hE'.env t v h1
      simp [results, hres, this]
    cases e with
    | normal => obtain ⟨_, E', h1, h2⟩ := he; exact key E' h1 h2
    | ret => obtain ⟨_, E', h1, h2⟩ := he; exact key E' h1 h2
    | _ => obtain ⟨h0 | h0, _⟩ := he <;> cases h0
end Go.Lg
