/-
  Lg: LgDraw4, LgRedo, LgDraw5, one behind the other.
-/
import Derived.Test.YtldlochhiiogbaaLgK4
/-
  Lg, part 41: a region that draws its order, in which new memory is made: variables, and lists that calls return as their own.
-/
namespace Go.Lg
open Go Go.RowKit

inductive Fact
  | box (cs : List D)
  | own (k : Nat) (e : TypeId) (z : Nat) (xs : List D)

/-- A new block that bears no name yet. -/
structure Bare (B : Base) (G : Ghost) (w : World) (g : Nat) : Prop where
  ge : B.w.heap.size ≤ g
  lt : g < w.heap.size
  beta : ∀ i, G.β i ≠ some g
  tau : ∀ k e z, G.τ k ≠ some (some (g, e, z))
  lab : G.lab g = []

def FactOk (B : Base) (G : Ghost) (w : World) (o : Option Nat) : Fact → Value → Prop
  | .box cs, v => ∃ g, o = some g ∧ v = .pointer (some ⟨g, 0, none⟩) ∧ Bare B G w g ∧ BoxAt G w g cs ∧ G.lim g = 0 ∧ D.idsL cs = [] ∧ D.tksL cs = []
  | .own _ e z xs, v => Rel G w (.sl .any xs) v ∧ ∃ A n c, v = .slice A n c ∧ ((o = none ∧ n = 0 ∧ c = 0) ∨ ∃ g, o = some g ∧ Bare B G w g ∧ A = some ⟨g, 0, none⟩ ∧ n * z = G.lim g ∧ (∀ x ∈ xs, x.cells.length = z) ∧ 0 < z ∧ ∃ cur, w.heap[g]? = some (.cells cur e (0, 0)) ∧ G.lim g ≤ cur.size ∧ w.shape? g = some (e, c * z))

section
variable {B : Base} {bx ro : List (Nat × List D)} {tk : List Nat} {G G' : Ghost} {w w' : World}
theorem Quiet.mono (hW : SimW B bx ro tk G w) (hq : Quiet G G' w w') : Mono G G' w w' :=
  ⟨fun b o v h1 h2 => by
    obtain ⟨e1, e2, _⟩ := hq.heap b (cell_lt h2)
    exact ⟨by rw [e2]; exact h1, by rw [cell_of_heap e1]; exact h2⟩, fun b hb => (hq.heap b (hW.lablt b hb)).2.2⟩
theorem Quiet.rel (hW : SimW B bx ro tk G w) (hq : Quiet G G' w w') {d : D} {v : Value} (hr : Rel G w d v) : Rel G' w' d v :=
  hr.mono (hq.mono hW) (fun i _ g hg => by rw [hq.beta]; exact hg) (fun k _ => .inr ⟨by rw [hq.tau], fun g e z hk => by
    obtain ⟨_, _, ⟨cur, hc, _⟩, _⟩ := hW.tau k g e z hk
    obtain ⟨e1, e2, _⟩ := hq.heap g (heap_lt hc)
    exact ⟨e2, shape_of_heap e1⟩⟩)
theorem Quiet.bare (hq : Quiet G G' w w') {g : Nat} (h : Bare B G w g) : Bare B G' w' g :=
  ⟨h.ge, Nat.lt_of_lt_of_le h.lt hq.sz, by rw [hq.beta]; exact h.beta, by rw [hq.tau]; exact h.tau, (hq.heap g h.lt).2.2.trans h.lab⟩
theorem Quiet.fact (hW : SimW B bx ro tk G w) (hq : Quiet G G' w w') {o : Option Nat} {f : Fact} {v : Value} (h : FactOk B G w o f v) : FactOk B G' w' o f v := by
  cases f with
  | box cs =>
    obtain ⟨g, h1, h2, h3, ⟨vs, e, e1, e2, e3⟩, h5, h6⟩ := h
    obtain ⟨q1, q2, _⟩ := hq.heap g h3.lt
    exact ⟨g, h1, h2, hq.bare h3, ⟨vs, e, by rw [q1]; exact e1, e2, fun j d v hd hv => hq.rel hW (e3 j d v hd hv)⟩, by rw [q2]; exact h5, h6⟩
  | own _ e z xs =>
    obtain ⟨h1, A, n, c, h2, h3⟩ := h
    refine ⟨hq.rel hW h1, A, n, c, h2, ?_⟩
    rcases h3 with h3 | ⟨g, k1, k2, k3, k4, k5, k6, cur, k7, k8, k9⟩
    · exact .inl h3
    · obtain ⟨q1, q2, _⟩ := hq.heap g k2.lt
      exact .inr ⟨g, k1, hq.bare k2, k3, by rw [q2]; exact k4, k5, k6, cur, by rw [q1]; exact k7, by rw [q2]; exact k8, by rw [shape_of_heap q1]; exact k9⟩
theorem FactOk.lt {o : Option Nat} {f : Fact} {v : Value} {g : Nat} (h : FactOk B G w o f v) (ho : o = some g) : g < w.heap.size := by
  cases f with
  | box cs =>
    obtain ⟨g', h1, _, h3, _⟩ := h
    rw [ho] at h1
    obtain rfl := Option.some.inj h1
    exact h3.lt
  | own _ e z xs =>
    obtain ⟨_, A, n, c, _, ⟨h1, _⟩ | ⟨g', h1, h2, _⟩⟩ := h
    · rw [ho] at h1; cases h1
    · rw [ho] at h1
      obtain rfl := Option.some.inj h1
      exact h2.lt
/-- The ghost's names have turned, nothing else. -/
theorem FactOk.ghost {G2 : Ghost} {o : Option Nat} {f : Fact} {v : Value} (h : FactOk B G w o f v) (hlim : G2.lim = G.lim) (hlab : G2.lab = G.lab) (hb : ∀ g, o = some g → Bare B G w g → Bare B G2 w g) : FactOk B G2 w o f v := by
  have hm : Mono G G2 w w := ⟨fun b o v h1 h2 => ⟨by rw [hlim]; exact h1, h2⟩, fun b _ => by rw [hlab]⟩
  have rr : ∀ {d v}, d.ids = [] → d.tks = [] → Rel G w d v → Rel G2 w d v := fun hi ht hr => hr.mono hm (by rw [hi]; intro i hi; cases hi) (by rw [ht]; intro i hi; cases hi)
  cases f with
  | box cs =>
    obtain ⟨g, h1, h2, h3, ⟨vs, e, e1, e2, e3⟩, h5, h6, h7⟩ := h
    refine ⟨g, h1, h2, hb g h1 h3, ⟨vs, e, e1, e2, fun j d v hd hv => rr ?_ ?_ (e3 j d v hd hv)⟩, by rw [hlim]; exact h5, h6, h7⟩
    · exact List.eq_nil_iff_forall_not_mem.2 fun i hi => by have := mem_idsL (List.mem_of_getElem? hd) hi; rw [h6] at this; cases this
    · exact List.eq_nil_iff_forall_not_mem.2 fun i hi => by have := mem_tksL (List.mem_of_getElem? hd) hi; rw [h7] at this; cases this
  | own _ e z xs =>
    obtain ⟨h1, A, n, c, h2, h3⟩ := h
    refine ⟨rr rfl rfl h1, A, n, c, h2, ?_⟩
    rcases h3 with h3 | ⟨g, k1, k2, k3, k4, k5, k6, cur, k7, k8, k9⟩
    · exact .inl h3
    · exact .inr ⟨g, k1, hb g k1 k2, k3, by rw [hlim]; exact k4, k5, k6, cur, k7, by rw [hlim]; exact k8, k9⟩
end

abbrev PX := D × Option Fact
abbrev EnvX := Nat → Option PX
def fstE (E : EnvX) : Env := fun t => (E t).map (·.1)
def putX (E : EnvX) (t : Option Nat) (p : PX) : EnvX := match t with | some t => fun t' => if t = t' then some p else E t' | none => E
def isSt : Op → Bool
  | .store _ _ _ => true
  | _ => false
/-- The slot whose value or fact the operation turns. -/
def wrX (o : Oper) : Option Nat := match o.op with
  | .store _ (.tmp t) _ => some t
  | _ => o.dst
theorem wrX_dst {o : Oper} (h : isSt o.op = false) : wrX o = o.dst := by
  unfold wrX
  split
  · rename_i h1
    rw [h1] at h; cases h
  · rfl

inductive Eff (S : Setup) (op : Op) (E : EnvX) (bx : Nat → Option (List D)) : PX → Prop
  | quiet {d : D} (hn : isSt op = false) (h : ∀ K : D → Prop, K d → opY S op (evalE (fstE E)) bx K) : Eff S op E bx (d, none)
  | alloc {ty : TypeId} {i : TyI} (h : op = .alloc ty) (hi : S.tab ty = some i) : Eff S op E bx (.pred fun _ _ _ => True, some (.box (i.zero.map ZK.d)))
  | own {f : Operand} {args : Array Operand} {tys : Array TypeId} {fid : Nat} {cap ds xs : List D} {ro : List (Nat × List D)} {e : TypeId} {z : Nat} (k : Nat) (h : op = .call ⟨.value f, args, tys⟩) (hf : evalE (fstE E) f = some (.fn fid cap)) (hds : mapO (evalE (fstE E)) args.toList = some ds)
      (hro : ∀ p ∈ ro, bx p.1 = some p.2) (fc : FC S fid ro [] [] (ds ++ cap) (.sl (.own 0 e z) xs) [] [0]) : Eff S op E bx (.sl .any xs, some (.own k e z xs))
  | app {x y : Operand} {ty e : TypeId} {tk : Tk} {ys : List D} {i : TyI} (k : Nat) (h : op = .call ⟨.builtin .append, #[x, y], #[ty, ty]⟩) (hx : evalE (fstE E) x = some (.sl .full [])) (hy : evalE (fstE E) y = some (.sl tk ys)) (hkd : S.kd ty = some (.slice e)) (hi : S.tab e = some i)
      (hb : 0 < i.size ∧ (∀ x ∈ ys, x.cells.length = i.size) ∧ ys.length * i.bytes ≤ 140737488355328 ∧ ys.length ≤ 140737488355328) : Eff S op E bx (.sl .any ys, some (.own k e i.size ys))
  | store {T : TypeId} {t : Nat} {x : Operand} {d d0 : D} {i : TyI} {cs : List D} (h : op = .store T (.tmp t) x) (he : E t = some (d0, some (.box cs))) (hx : evalE (fstE E) x = some d) (hi : S.tab T = some i)
      (hs : d.cells.length = i.size ∧ d.cells.length = cs.length ∧ d.cells.all D.one = true ∧ D.idsL d.cells = [] ∧ D.tksL d.cells = []) : Eff S op E bx (d0, some (.box d.cells))

theorem Eff.congr {S : Setup} {op : Op} {E E' : EnvX} {bx : Nat → Option (List D)} {p : PX} (h : ∀ u, Operand.tmp u ∈ op.operands → E u = E' u) (he : Eff S op E bx p) : Eff S op E' bx p := by
  have hop : ∀ x ∈ op.operands, evalE (fstE E) x = evalE (fstE E') x := fun x hx => by
    cases x with
    | tmp u => simp only [evalE, fstE, h u hx]
    | _ => rfl
  cases he with
  | quiet hn hq => exact .quiet hn fun K hK => opY_congr hop (hq K hK)
  | alloc h1 hi => exact .alloc h1 hi
  | @own f args tys fid cap ds xs ro e z k h1 hf hds hro fc =>
    subst h1
    simp only [Op.operands, Call.operands] at hop
    refine .own k rfl ?_ ?_ hro fc
    · rw [← hop f (by simp)]; exact hf
    · rw [← mapO_congr (ρ := evalE (fstE E)) fun x hx => hop x (by simp at hx ⊢; exact .inr hx)]; exact hds
  | @app x y ty e tk ys i k h1 hx hy hkd hi hb =>
    subst h1
    simp only [Op.operands, Call.operands] at hop
    exact .app k rfl (by rw [← hop x (by simp)]; exact hx) (by rw [← hop y (by simp)]; exact hy) hkd hi hb
  | @store T t x d d0 i cs h1 he hx hi hs =>
    subst h1
    refine .store rfl ?_ ?_ hi hs
    · rw [← h t (by simp [Op.operands])]; exact he
    · rw [← hop x (by simp [Op.operands])]; exact hx

section
variable {S : Setup} {ops : Array Oper} {bx : Nat → Option (List D)} {n m : Nat} {md : Region.Mode}
def YieldsX (S : Setup) (ops : Array Oper) (bx : Nat → Option (List D)) (n : Nat) (o : Oper) (p : PX) (E : EnvX) : Prop :=
  dstN n o.dst ∧ ((guardE ops (fstE E) o.guard = some true ∧ Eff S o.op E bx p ∧ (isSt o.op = true → o.dst = none)) ∨ (guardE ops (fstE E) o.guard = some false ∧ isSt o.op = false ∧ p = (.raw undef, none)))
def lexX (S : Setup) (ops : Array Oper) (bx : Nat → Option (List D)) (n : Nat) (Q : EnvX → Prop) : List Oper → EnvX → Prop
  | [], E => Q E
  | o :: l, E => ∃ d, YieldsX S ops bx n o d E ∧ lexX S ops bx n Q l (putX E (wrX o) d)
end

/-! The text's order. -/
def pairX (L : LS) (F : List (Nat × Fact)) : EnvX := fun t => (look L.env t).map fun d => (d, look F t)
theorem fst_pair (L : LS) (F : List (Nat × Fact)) : fstE (pairX L F) = look L.env := by
  funext t
  simp only [fstE, pairX, Option.map_map]
  cases look L.env t <;> rfl
def freeF (F : List (Nat × Fact)) (l : List Oper) (L : LS) : Prop := ∀ t f, look F t = some f → (look L.env t).isSome = true ∧ ∀ o ∈ l, o.dst ≠ some t
def sameX (L L0 : LS) : Prop := L.n = L0.n ∧ L.boxes = L0.boxes ∧ L.ro = L0.ro ∧ L.toks = L0.toks ∧ L.fix = L0.fix
def LexX (S : Setup) (ops : Array Oper) (L0 : LS) (K : List (Nat × Fact) → LS → Prop) (F : List (Nat × Fact)) (l : List Oper) (L : LS) : Prop :=
  sameX L L0 → freeF F l L → lexX S ops L0.getBox L0.n (fun E => ∃ F' L', E = pairX L' F' ∧ sameX L' L0 ∧ freeF F' [] L' ∧ K F' L') l (pairX L F)

section
variable {S : Setup} {ops : Array Oper} {L0 L : LS} {K : List (Nat × Fact) → LS → Prop} {F : List (Nat × Fact)} {o : Oper} {l : List Oper}
theorem pair_putO {t : Option Nat} {d : D} (hF : ∀ u, t = some u → look F u = none) : pairX (L.putO t d) F = putX (pairX L F) t (d, none) := by
  cases t with
  | none => rfl
  | some t =>
    funext t'
    simp only [LS.putO, LS.put, pairX, putX, look_setA]
    by_cases e : t = t'
    · subst e; simp [hF t rfl]
    · simp [e]
theorem pair_putF {t : Nat} {d : D} {f : Fact} : pairX (L.put t d) ((t, f) :: F) = putX (pairX L F) (some t) (d, some f) := by
  funext t'
  simp only [LS.put, pairX, putX, look_setA, look]
  by_cases e : t = t' <;> simp [e]
theorem free_none (h : freeF F (o :: l) L) : ∀ u, o.dst = some u → look F u = none := fun u hu => by
  cases hf : look F u with
  | none => rfl
  | some f => exact absurd hu ((h u f hf).2 o List.mem_cons_self)
theorem some_putO {t : Option Nat} {d : D} {u : Nat} (h : (look L.env u).isSome = true) : (look (L.putO t d).env u).isSome = true := by
  cases t with
  | none => exact h
  | some t =>
    simp only [LS.putO, LS.put, look_setA]
    split
    · rfl
    · exact h
theorem free_tl {t : Option Nat} {d : D} (h : freeF F (o :: l) L) : freeF F l (L.putO t d) := fun t f hf => ⟨some_putO (h t f hf).1, fun o' ho => (h t f hf).2 o' (List.mem_cons_of_mem _ ho)⟩
theorem guard_pair (g : Option (Nat × Bool)) : guardE ops (fstE (pairX L F)) g = guardY ops L g := by
  rw [fst_pair]; exact (guardE_eq rfl g).symm
theorem eval_pair : evalE (fstE (pairX L F)) = evalO L := by rw [fst_pair]; exact (evalE_eq rfl).symm
theorem LexX.nil (h : K F L) : LexX S ops L0 K F [] L := fun hL hF => ⟨F, L, rfl, hL, hF, h⟩
theorem same_putO {t : Option Nat} {d : D} (h : sameX L L0) : sameX (L.putO t d) L0 := by cases t <;> exact h
theorem dstOk_N (h : sameX L L0) {t : Option Nat} (hd : dstOk t L) : dstN L0.n t := by
  unfold dstN; unfold dstOk at hd
  rw [h.1] at hd; exact hd
theorem opY_noSt {op : Op} {ρ : Operand → Option D} {bx : Nat → Option (List D)} {K : D → Prop} (h : opY S op ρ bx K) : isSt op = false := by
  cases op <;> first | rfl | exact h.elim
theorem LexX.step (hg : guardY ops L o.guard = some true) (h : opY S o.op (evalO L) L.getBox fun d => dstOk o.dst L ∧ LexX S ops L0 K F l (L.putO o.dst d)) : LexX S ops L0 K F (o :: l) L := by
  intro hL hF
  have hst := opY_noSt h
  obtain ⟨d, ⟨hd, hK⟩, hy⟩ := pick_opY S o.op (evalO L) L.getBox _ h
  refine ⟨(d, none), ⟨dstOk_N hL hd, .inl ⟨by rw [guard_pair]; exact hg, .quiet hst fun K' hk => ?_, fun e => by rw [hst] at e; cases e⟩⟩, ?_⟩
  · rw [eval_pair, ← getBox_eq (L := L) (L0 := L0) hL.2.1 hL.2.2.1]
    exact hy K' hk
  · rw [wrX_dst hst, ← pair_putO (free_none hF)]
    exact hK (same_putO hL) (free_tl hF)
theorem LexX.skip (hst : isSt o.op = false) (hg : guardY ops L o.guard = some false) (hd : dstOk o.dst L) (h : LexX S ops L0 K F l (L.putO o.dst (.raw undef))) : LexX S ops L0 K F (o :: l) L := by
  intro hL hF
  refine ⟨(.raw undef, none), ⟨dstOk_N hL hd, .inr ⟨by rw [guard_pair]; exact hg, hst, rfl⟩⟩, ?_⟩
  rw [wrX_dst hst, ← pair_putO (free_none hF)]
  exact h (same_putO hL) (free_tl hF)
theorem LexX.split (t : Nat) {b : Bool} (ht : L.get t = some (.bool b)) (h1 : b = true → LexX S ops L0 K F l (L.put t (.bool true))) (h0 : b = false → LexX S ops L0 K F l (L.put t (.bool false))) : LexX S ops L0 K F l L := by
  intro hL hF
  have key : ∀ c, b = c → pairX (L.put t (.bool c)) F = pairX L F := fun c hc => by
    funext t'
    simp only [pairX, LS.put, look_setA]
    by_cases e : t = t'
    · subst e
      rw [if_pos rfl, ← hc]
      show _ = Option.map _ (look L.env t)
      rw [show look L.env t = some (.bool b) from ht]
    · rw [if_neg e]
  cases hb : b with
  | true => rw [← key true hb]; exact h1 hb hL fun u f hf => ⟨some_putO (t := some t) (hF u f hf).1, (hF u f hf).2⟩
  | false => rw [← key false hb]; exact h0 hb hL fun u f hf => ⟨some_putO (t := some t) (hF u f hf).1, (hF u f hf).2⟩
theorem LexX.call {dst : Option Nat} {f : Operand} {args : Array Operand} {tys : Array TypeId} {ty : TypeId} {pos : String} {aft : Array Edge} {g : Option (Nat × Bool)}
    (hg : guardY ops L g = some true) {fid : Nat} {cap ds : List D} {ro : List (Nat × List D)} {d : D} (hf : evalO L f = some (.fn fid cap)) (hds : mapO (evalO L) args.toList = some ds) (fc : FC S fid ro [] [] (ds ++ cap) d [] [])
    (hside : (∀ p ∈ ro, L.getBox p.1 = some p.2) ∧ d.ids = [] ∧ d.tks = [] ∧ dstOk dst L) (h : LexX S ops L0 K F l (L.putO dst d)) : LexX S ops L0 K F (⟨dst, .call ⟨.value f, args, tys⟩, ty, pos, aft, g⟩ :: l) L := by
  refine LexX.step hg ?_
  show opY S (.call ⟨.value f, args, tys⟩) (evalO L) L.getBox _
  unfold opY
  simp only [hf, hds, someK]
  exact ⟨ro, d, fc, hside.1, hside.2.1, hside.2.2.1, hside.2.2.2, h⟩
def apartF (t : Nat) (l : List Oper) : Bool := l.all fun o => o.dst != some t
theorem free_cons {t : Nat} {d : D} {f : Fact} (h : freeF F (o :: l) L) (ha : apartF t l = true) : freeF ((t, f) :: F) l (L.put t d) := fun u f' hf => by
  simp only [look] at hf
  by_cases e : t = u
  · subst e
    refine ⟨by simp [LS.put, look_setA], fun o' ho => ?_⟩
    have := List.all_eq_true.1 ha o' ho
    simpa using this
  · rw [if_neg e] at hf
    exact ⟨some_putO (t := some t) (h u f' hf).1, fun o' ho => (h u f' hf).2 o' (List.mem_cons_of_mem _ ho)⟩
/-- A call whose list is nobody else's. -/
theorem LexX.own (k : Nat) {t : Nat} {f : Operand} {args : Array Operand} {tys : Array TypeId} {ty : TypeId} {pos : String} {aft : Array Edge} {g : Option (Nat × Bool)}
    (hg : guardY ops L g = some true) {fid : Nat} {cap ds xs : List D} {ro : List (Nat × List D)} {e : TypeId} {z : Nat} (hf : evalO L f = some (.fn fid cap)) (hds : mapO (evalO L) args.toList = some ds) (fc : FC S fid ro [] [] (ds ++ cap) (.sl (.own 0 e z) xs) [] [0])
    (hside : (t < L.n ∧ ∀ p ∈ ro, L.getBox p.1 = some p.2) ∧ apartF t l = true) (h : LexX S ops L0 K ((t, .own k e z xs) :: F) l (L.put t (.sl .any xs))) : LexX S ops L0 K F (⟨some t, .call ⟨.value f, args, tys⟩, ty, pos, aft, g⟩ :: l) L := by
  intro hL hF
  refine ⟨(.sl .any xs, some (.own k e z xs)), ⟨dstOk_N (t := some t) hL hside.1.1, .inl ⟨by rw [guard_pair]; exact hg, .own k rfl ?_ ?_ ?_ fc, fun e => by cases e⟩⟩, ?_⟩
  · rw [eval_pair]; exact hf
  · rw [eval_pair]; exact hds
  · rw [← getBox_eq (L := L) (L0 := L0) hL.2.1 hL.2.2.1]; exact hside.1.2
  · rw [wrX_dst rfl, ← pair_putF]
    exact h (same_putO (t := some t) hL) (free_cons hF hside.2)
/-- An append to an empty list without room: its list is nobody else's. -/
theorem LexX.app (k : Nat) {t : Nat} {x y : Operand} {tyx e : TypeId} {ty : TypeId} {pos : String} {aft : Array Edge} {g : Option (Nat × Bool)}
    (hg : guardY ops L g = some true) {tk : Tk} {ys : List D} {i : TyI} (hx : evalO L x = some (.sl .full [])) (hy : evalO L y = some (.sl tk ys)) (hkd : S.kd tyx = some (.slice e)) (hi : S.tab e = some i)
    (hb : 0 < i.size ∧ (∀ x ∈ ys, x.cells.length = i.size) ∧ ys.length * i.bytes ≤ 140737488355328 ∧ ys.length ≤ 140737488355328)
    (hside : t < L.n ∧ apartF t l = true) (h : LexX S ops L0 K ((t, .own k e i.size ys) :: F) l (L.put t (.sl .any ys))) : LexX S ops L0 K F (⟨some t, .call ⟨.builtin .append, #[x, y], #[tyx, tyx]⟩, ty, pos, aft, g⟩ :: l) L := by
  intro hL hF
  refine ⟨(.sl .any ys, some (.own k e i.size ys)), ⟨dstOk_N (t := some t) hL hside.1, .inl ⟨by rw [guard_pair]; exact hg, .app (tk := tk) k rfl ?_ ?_ hkd hi hb, fun e => by cases e⟩⟩, ?_⟩
  · rw [eval_pair]; exact hx
  · rw [eval_pair]; exact hy
  · rw [wrX_dst rfl, ← pair_putF]
    exact h (same_putO (t := some t) hL) (free_cons hF hside.2)
/-- A new variable. -/
theorem LexX.alloc {t : Nat} {T : TypeId} {i : TyI} {ty : TypeId} {pos : String} {aft : Array Edge} {g : Option (Nat × Bool)}
    (hg : guardY ops L g = some true) (hi : S.tab T = some i) (hside : t < L.n ∧ apartF t l = true) (h : LexX S ops L0 K ((t, .box (i.zero.map ZK.d)) :: F) l (L.put t (.pred fun _ _ _ => True))) : LexX S ops L0 K F (⟨some t, .alloc T, ty, pos, aft, g⟩ :: l) L := by
  intro hL hF
  refine ⟨(.pred fun _ _ _ => True, some (.box (i.zero.map ZK.d))), ⟨dstOk_N (t := some t) hL hside.1, .inl ⟨by rw [guard_pair]; exact hg, .alloc rfl hi, fun e => by cases e⟩⟩, ?_⟩
  rw [wrX_dst rfl, ← pair_putF]
  exact h (same_putO (t := some t) hL) (free_cons hF hside.2)
/-- The new variable is written, whole. -/
theorem LexX.store {t : Nat} {T : TypeId} {x : Operand} {i : TyI} {d : D} {cs : List D} {ty : TypeId} {pos : String} {aft : Array Edge}
    (hF0 : look F t = some (.box cs)) (hx : evalO L x = some d) (hi : S.tab T = some i) (hside : (d.cells.length = i.size ∧ d.cells.length = cs.length) ∧ d.cells.all D.one = true ∧ D.idsL d.cells = [] ∧ D.tksL d.cells = []) (h : LexX S ops L0 K (setA F t (.box d.cells)) l L) : LexX S ops L0 K F (⟨none, .store T (.tmp t) x, ty, pos, aft, none⟩ :: l) L := by
  intro hL hF
  obtain ⟨d0, hd0⟩ := Option.isSome_iff_exists.1 (hF t _ hF0).1
  refine ⟨(d0, some (.box d.cells)), ⟨trivial, .inl ⟨rfl, .store rfl (cs := cs) (by simp [pairX, hd0, hF0]) (by rw [eval_pair]; exact hx) hi ⟨hside.1.1, hside.1.2, hside.2.1, hside.2.2.1, hside.2.2.2⟩, fun _ => rfl⟩⟩, ?_⟩
  have e : putX (pairX L F) (wrX ⟨none, .store T (.tmp t) x, ty, pos, aft, none⟩) (d0, some (.box d.cells)) = pairX L (setA F t (.box d.cells)) := by
    funext u
    simp only [putX, wrX, pairX, look_setA]
    by_cases e0 : t = u
    · subst e0; simp [hd0]
    · simp [e0]
  rw [e]
  refine h hL fun u f hu => ?_
  simp only [look_setA] at hu
  by_cases e0 : t = u
  · subst e0; exact ⟨by rw [hd0]; rfl, fun o' ho => (hF t _ hF0).2 o' (List.mem_cons_of_mem _ ho)⟩
  · rw [if_neg e0] at hu
    exact ⟨(hF u f hu).1, fun o' ho => (hF u f hu).2 o' (List.mem_cons_of_mem _ ho)⟩
theorem runQ_soundX {K' : List (Nat × Fact) → List Oper → LS → Prop} (hK : ∀ F l L, K' F l L → LexX S ops L0 K F l L) : ∀ (l : List Oper) (L : LS), runQ S ops (K' F) l L → LexX S ops L0 K F l L
  | [], L, h => hK F [] L h
  | ⟨dst, op, ty, pos, aft, g⟩ :: l, L, h => by
    unfold runQ at h
    split at h
    · exact hK F _ L h
    · exact hK F _ L h
    · exact hK F _ L h
    · rename_i q1 q2 q3
      have hst : isSt op = false := by
        cases op <;> first | rfl | exact (q3 _ _ _ rfl).elim
      split at h
      · rename_i hg
        exact LexX.step (o := ⟨dst, op, ty, pos, aft, g⟩) hg (opY_mono h fun d ⟨h1, h2⟩ => ⟨h1, runQ_soundX hK l _ h2⟩)
      · rename_i hg
        exact LexX.skip (o := ⟨dst, op, ty, pos, aft, g⟩) hst hg h.1 (runQ_soundX hK l _ h.2)
      · exact hK F _ L h
end

/-! New memory gets its names. -/
def toF (base : Nat) : List (Nat × Fact) → LS → (LS → Prop) → Prop
  | [], L, N => N L
  | (t, .box cs) :: F, L, N => (t < L.n ∧ base + t ∉ L.fix) ∧ (look F t).isNone = true ∧ toF base F (L.newBox t (base + t) cs (.box (base + t) 0)) N
  | (t, .own kk e z xs) :: F, L, N => (t < L.n ∧ (L.purge (fun k => k == kk)).clean (fun k => k == kk) = true) ∧ (look F t).isNone = true ∧
      toF base F { L.purge (fun k => k == kk) with env := setA (L.purge (fun k => k == kk)).env t (.sl (.own (kk) e z) xs), toks := kk :: L.toks } N
theorem toF_nil (base : Nat) (L : LS) (N : LS → Prop) : toF base [] L N = N L := rfl
theorem toF_box (base t : Nat) (cs : List D) (F : List (Nat × Fact)) (L : LS) (N : LS → Prop) : toF base ((t, .box cs) :: F) L N = ((t < L.n ∧ base + t ∉ L.fix) ∧ (look F t).isNone = true ∧ toF base F (L.newBox t (base + t) cs (.box (base + t) 0)) N) := rfl
theorem toF_own (base t kk : Nat) (e : TypeId) (z : Nat) (xs : List D) (F : List (Nat × Fact)) (L : LS) (N : LS → Prop) : toF base ((t, .own kk e z xs) :: F) L N = ((t < L.n ∧ (L.purge (fun k => k == kk)).clean (fun k => k == kk) = true) ∧ (look F t).isNone = true ∧
      toF base F { L.purge (fun k => k == kk) with env := setA (L.purge (fun k => k == kk)).env t (.sl (.own (kk) e z) xs), toks := kk :: L.toks } N) := rfl
attribute [go_sem] toF_nil toF_box toF_own Option.isNone_none Option.isNone_some
/-- What may be done with what stands behind a call or a new variable. -/
structure XOk (S : Setup) (ops : Array Oper) (N : List (Nat × Fact) → LS → Prop) (K : List (Nat × Fact) → List Oper → LS → Prop) : Prop where
  nil : ∀ {F L}, N F L → K F [] L
  split : ∀ {F l L} (t : Nat) {b : Bool}, L.get t = some (.bool b) → (b = true → runQ S ops (K F) l (L.put t (.bool true))) → (b = false → runQ S ops (K F) l (L.put t (.bool false))) → K F l L
  skip : ∀ {F l L} {dst : Option Nat} {c : Call} {ty : TypeId} {pos : String} {aft : Array Edge} {g : Option (Nat × Bool)}, guardY ops L g = some false → dstOk dst L → runQ S ops (K F) l (L.putO dst (.raw undef)) → K F (⟨dst, .call c, ty, pos, aft, g⟩ :: l) L
  store : ∀ {F : List (Nat × Fact)} {l : List Oper} {L : LS} {t : Nat} {T : TypeId} {x : Operand} {i : TyI} {d : D} {cs : List D} {ty : TypeId} {pos : String} {aft : Array Edge}
    (_ : look F t = some (.box cs)) (_ : evalO L x = some d) (_ : S.tab T = some i) (_ : (d.cells.length = i.size ∧ d.cells.length = cs.length) ∧ d.cells.all D.one = true ∧ D.idsL d.cells = [] ∧ D.tksL d.cells = []) (_ : runQ S ops (K (setA F t (.box d.cells))) l L), K F (⟨none, .store T (.tmp t) x, ty, pos, aft, none⟩ :: l) L
  call : ∀ {F : List (Nat × Fact)} {l : List Oper} {L : LS} {dst : Option Nat} {f : Operand} {args : Array Operand} {tys : Array TypeId} {ty : TypeId} {pos : String} {aft : Array Edge} {g : Option (Nat × Bool)}
    (_ : guardY ops L g = some true) {fid : Nat} {cap ds : List D} {ro : List (Nat × List D)} {d : D} (_ : evalO L f = some (.fn fid cap)) (_ : mapO (evalO L) args.toList = some ds) (_ : FC S fid ro [] [] (ds ++ cap) d [] [])
    (_ : (∀ p ∈ ro, L.getBox p.1 = some p.2) ∧ d.ids = [] ∧ d.tks = [] ∧ dstOk dst L) (_ : runQ S ops (K F) l (L.putO dst d)), K F (⟨dst, .call ⟨.value f, args, tys⟩, ty, pos, aft, g⟩ :: l) L
  own : ∀ (k : Nat) {F : List (Nat × Fact)} {l : List Oper} {L : LS} {t : Nat} {f : Operand} {args : Array Operand} {tys : Array TypeId} {ty : TypeId} {pos : String} {aft : Array Edge} {g : Option (Nat × Bool)}
    (_ : guardY ops L g = some true) {fid : Nat} {cap ds xs : List D} {ro : List (Nat × List D)} {e : TypeId} {z : Nat} (_ : evalO L f = some (.fn fid cap)) (_ : mapO (evalO L) args.toList = some ds) (_ : FC S fid ro [] [] (ds ++ cap) (.sl (.own 0 e z) xs) [] [0])
    (_ : (t < L.n ∧ ∀ p ∈ ro, L.getBox p.1 = some p.2) ∧ apartF t l = true) (_ : runQ S ops (K ((t, .own k e z xs) :: F)) l (L.put t (.sl .any xs))), K F (⟨some t, .call ⟨.value f, args, tys⟩, ty, pos, aft, g⟩ :: l) L
  alloc : ∀ {F : List (Nat × Fact)} {l : List Oper} {L : LS} {t : Nat} {T : TypeId} {i : TyI} {ty : TypeId} {pos : String} {aft : Array Edge} {g : Option (Nat × Bool)}
    (_ : guardY ops L g = some true) (_ : S.tab T = some i) (_ : t < L.n ∧ apartF t l = true) (_ : runQ S ops (K ((t, .box (i.zero.map ZK.d)) :: F)) l (L.put t (.pred fun _ _ _ => True))), K F (⟨some t, .alloc T, ty, pos, aft, g⟩ :: l) L
theorem XOk.fork {S : Setup} {ops : Array Oper} {N : List (Nat × Fact) → LS → Prop} {K : List (Nat × Fact) → List Oper → LS → Prop} (hK : XOk S ops N K) {F : List (Nat × Fact)} {l : List Oper} {L : LS} {o : Oper} {p : Nat × Bool} (_ : o.guard = some p) {t : Nat} (_ : (ops[p.1]?).bind (·.dst) = some t) {b : Bool} (ht : L.get t = some (.bool b)) (h1 : b = true → runQ S ops (K F) (o :: l) (L.put t (.bool true))) (h0 : b = false → runQ S ops (K F) (o :: l) (L.put t (.bool false))) : K F (o :: l) L :=
  hK.split t ht h1 h0

end Go.Lg
/-
  Lg, part 42: a struct that is put together in a drawn part is put together once more behind it: so what has got a token bears it there too.
-/
namespace Go.Lg
open Go Go.RowKit

/-- The slot of o, which puts a struct together, still holds what it has given. -/
def EqAt (P : Program) (o : Oper) (a : Act) : Prop := ∃ d T ps v w0 w1, o.op = .build T ps ∧ o.dst = some d ∧ a.tmps[d]? = some v ∧ (execOp a.eval o).run P w0 = .ok (.value v) w1
def tmpsOf (o : Op) : List Nat := o.operands.toList.filterMap fun | .tmp t => some t | _ => none
theorem mem_tmpsOf {o : Op} {u : Nat} : u ∈ tmpsOf o ↔ Operand.tmp u ∈ o.operands := by
  unfold tmpsOf
  rw [List.mem_filterMap]
  constructor
  · rintro ⟨x, hx, h⟩
    cases x <;> simp at h
    subst h
    simpa using hx
  · intro h
    exact ⟨.tmp u, by simpa using h, rfl⟩
def reOk (md : Region.Mode) (ops : Array Oper) (i : Nat) : Bool := match ops[i]? with
  | some o => (match o.op with | .build _ _ => true | _ => false) && o.guard.isNone && (match o.dst with
    | some d => (List.range ops.size).all fun j => j == i || match ops[j]? with
      | some p => p.dst != some d && (match p.dst with | some u => !(tmpsOf o.op).contains u || (ons md ops i).contains j | none => true)
      | none => true
    | none => false) && (match o.dst with | some d => !(tmpsOf o.op).contains d | none => false)
  | none => false
/-- Where op i has been run, the frame differs in its slot alone. -/
def Nxt (P : Program) (ops : Array Oper) (i : Nat) (a a' : Act) : Prop := match ops[i]? with
  | none => a' = a
  | some o => ∃ v, a'.tmps = (a.put o.dst v).tmps ∧ (o.guard = none → ∀ T ps, o.op = .build T ps → ∃ w0 w1, (execOp a.eval o).run P w0 = .ok (.value v) w1)

section
variable {P : Program} {ops : Array Oper} {Q : Exit → Act → World → Prop}
/-- What is kept while a region draws. -/
structure ReInv (P : Program) (ops : Array Oper) (re : List Nat) (listed : Array Bool) (a : Act) : Prop where
  sz : ∀ i ∈ re, ∀ o d, ops[i]? = some o → o.dst = some d → d < a.tmps.size
  at_ : ∀ i ∈ re, ∀ o, ops[i]? = some o → listed.getD i false = true → EqAt P o a
theorem put_get {a a' : Act} {dst : Option Nat} {v : Value} (h : a'.tmps = (a.put dst v).tmps) {t : Nat} (ht : ∀ u, dst = some u → u ≠ t) : a'.tmps[t]? = a.tmps[t]? := by
  rw [h]
  cases dst with
  | none => rfl
  | some u =>
    simp only [Act.put]
    rw [Array.getElem?_setIfInBounds_ne (ht u rfl)]
theorem put_size {a a' : Act} {dst : Option Nat} {v : Value} (h : a'.tmps = (a.put dst v).tmps) : a'.tmps.size = a.tmps.size := by
  rw [h]; cases dst <;> simp [Act.put]
theorem execOp_build_congr {a a' : Act} {o : Oper} {T : TypeId} {ps : Array (Nat × Operand)} (hop : o.op = .build T ps) (h : ∀ u, Operand.tmp u ∈ o.op.operands → a'.tmps[u]? = a.tmps[u]?) : execOp a'.eval o = execOp a.eval o := by
  unfold execOp
  rw [hop]
  simp only
  congr 2
  refine Array.map_congr_left fun x hx => ?_
  have : a'.eval x.2 = a.eval x.2 := by
    cases hx2 : x.2 with
    | tmp u =>
      have := h u (by rw [hop]; simp only [Op.operands]; rw [← hx2]; simp; exact ⟨x.1, by simpa using hx⟩)
      simp only [Act.eval, Array.getD_eq_getD_getElem?, this]
    | _ => rfl
  rw [this]
theorem ReInv.step {md : Region.Mode} {re : List Nat} (hre : re.all (reOk md ops) = true) {listed : Array Bool} {a a' : Act} {i : Nat} (hd : Down md ops listed) (_ : listed.size = ops.size) (hi : i ∈ Region.ready md ops listed) (h : ReInv P ops re listed a) (hn : Nxt P ops i a a') : ReInv P ops re (listed.setIfInBounds i true) a' := by
  have hil := (mem_ready.1 hi).1
  obtain ⟨o, ho, hal⟩ := (mem_ready.1 hi).2
  unfold Nxt at hn
  rw [ho] at hn
  obtain ⟨v, hv, hb⟩ := hn
  refine ⟨fun j hj oj d hoj hdj => by rw [put_size hv]; exact h.sz j hj oj d hoj hdj, fun j hj oj hoj hl => ?_⟩
  have hr := List.all_eq_true.1 hre j hj
  unfold reOk at hr
  rw [hoj] at hr
  simp only [Bool.and_eq_true] at hr
  obtain ⟨⟨⟨hbu, hg⟩, hall⟩, hself⟩ := hr
  cases hop : oj.op with
  | build T ps =>
    cases hdst : oj.dst with
    | none => rw [hdst] at hall; cases hall
    | some d =>
      rw [hdst] at hall hself
      simp only at hall hself
      by_cases hji : j = i
      · subst hji
        rw [ho] at hoj
        obtain rfl := Option.some.inj hoj
        obtain ⟨w0, w1, hrun⟩ := hb (by simpa using hg) T ps hop
        have hlt := h.sz j hj o d ho hdst
        refine ⟨d, T, ps, v, w0, w1, hop, hdst, ?_, ?_⟩
        · rw [hv, hdst]; simp [Act.put, hlt]
        · rw [execOp_build_congr hop fun u hu => put_get hv fun u' hu' e => ?_]
          · exact hrun
          · rw [hdst] at hu'
            obtain rfl := Option.some.inj hu'
            subst e
            have := mem_tmpsOf.2 hu
            simp [this] at hself
      · have hl' : listed.getD j false = true := by
          have hne : i ≠ j := Ne.symm hji
          simpa [Array.getD_eq_getD_getElem?, Array.getElem?_setIfInBounds_ne hne] using hl
        obtain ⟨d', T', ps', v', w0, w1, e1, e2, e3, e4⟩ := h.at_ j hj oj hoj hl'
        rw [hdst] at e2
        obtain rfl := Option.some.inj e2
        have hlt : i < ops.size := (Array.getElem?_eq_some_iff.1 ho).1
        have hk := List.all_eq_true.1 hall i (List.mem_range.2 hlt)
        rw [ho] at hk
        have hij : (i == j) = false := by simpa using Ne.symm hji
        simp only [hij, Bool.false_or, Bool.and_eq_true] at hk
        obtain ⟨k1, k2⟩ := hk
        refine ⟨d, T', ps', v', w0, w1, e1, hdst, ?_, ?_⟩
        · rw [put_get hv fun u hu e => ?_]
          · exact e3
          · rw [hu, e] at k1; simp at k1
        · rw [execOp_build_congr e1 fun u hu => put_get hv fun u' hu' e => ?_]
          · exact e4
          · subst e
            rw [hu'] at k2
            simp only [Bool.or_eq_true, Bool.not_eq_true'] at k2
            rcases k2 with k2 | k2
            · have := mem_tmpsOf.2 hu
              simp [this] at k2
            · have := hd j hl' i (by simpa using k2)
              have h3 := (getD_tf hil).1
              rw [h3] at this; cases this
  | _ => simp [hop] at hbu

/-- Once more. -/
def redo1 (S : Setup) (o : Oper) (L : LS) (N : LS → Prop) : Prop := match o.dst, o.op, o.guard with
  | some d, .build t ps, none => someK (zipO (evalO L) ps.toList) fun q => buildY S t q fun d' => d < L.n ∧ N (L.put d d')
  | _, _, _ => False
def redoL (S : Setup) : List Oper → LS → (LS → Prop) → Prop
  | [], L, N => N L
  | o :: l, L, N => redo1 S o L fun L' => redoL S l L' N
theorem redoL_nil (S : Setup) (L : LS) (N : LS → Prop) : redoL S [] L N = N L := rfl
theorem redoL_build (S : Setup) (d : Nat) (t : TypeId) (ps : Array (Nat × Operand)) (ty : TypeId) (pos : String) (aft : Array Edge) (l : List Oper) (L : LS) (N : LS → Prop) : redoL S (⟨some d, .build t ps, ty, pos, aft, none⟩ :: l) L N = someK (zipO (evalO L) ps.toList) fun q => buildY S t q fun d' => d < L.n ∧ redoL S l (L.put d d') N := by
  simp only [redoL, redo1]
end

attribute [go_sem] redoL_nil redoL_build List.filterMap_cons List.filterMap_nil
end Go.Lg
/-
  Lg, part 43: a region that draws its order, with one operation in the midst that waits for all ahead of it and for which all behind it wait: it may be of any kind.
-/
namespace Go.Lg
open Go Go.RowKit

def first (n m : Nat) : Array Bool := ((List.range n).map fun j => decide (j < m)).toArray
theorem Oper.wp_congrQ {P : Program} {o : Oper} {a : Act} {w : World} {K : Act → World → Prop} {Q Q' : Exit → Act → World → Prop} (h : ∀ e a w, e ≠ .normal → Q e a w → Q' e a w) (hh : o.wp P a w K Q) : o.wp P a w K Q' := by
  have hl : LetsOut Q → LetsOut Q' := fun ⟨a, w, hq⟩ => ⟨a, w, h _ a w (by simp) hq⟩
  unfold Oper.wp at *
  generalize (execOp a.eval o).run P w = r at hh ⊢
  cases r with
  | ok x w' =>
    cases x with
    | enter f args =>
      refine Calls.mono hh fun e w'' he => ?_
      cases e with
      | returned v => exact he
      | panicked c => exact h _ _ _ (by simp) he
      | outgrown => exact hl he
    | _ => exact hh
  | halt x w' =>
    cases x <;> first | exact h _ _ _ (by simp) hh | exact hh

end Go.Lg
