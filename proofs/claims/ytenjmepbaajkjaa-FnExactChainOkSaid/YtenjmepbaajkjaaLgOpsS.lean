/-
  Lg, part 5: the quiet operations do what 'opY' says.
-/
import Derived.Test.YtenjmepbaajkjaaLgOps
namespace Go.Lg
open Go Go.RowKit

/-- The cells from this place on read so. -/
def RdAt (G : Ghost) (w : World) (b o : Nat) (cs : List D) : Prop :=
  ∀ (j : Nat) d, cs[j]? = some d → ∃ v, w.cell? ⟨b, o + j, none⟩ = some v ∧ Rel G w d v

theorem RdAt.drop {G : Ghost} {w : World} {b o : Nat} {cs : List D} (h : RdAt G w b o cs) (k : Nat) : RdAt G w b (o + k) (cs.drop k) := fun j d hd => by
  rw [List.getElem?_drop] at hd
  have := h (k + j) d hd
  rwa [← Nat.add_assoc] at this

theorem BoxAt.rd {G : Ghost} {w : World} {g : Nat} {cs : List D} (h : BoxAt G w g cs) : RdAt G w g 0 cs := fun j d hd => by
  obtain ⟨vs, e, e1, e2, e3⟩ := h
  have hlt : j < vs.size := Nat.lt_of_lt_of_le (List.getElem?_eq_some_iff.1 hd).1 e2
  exact ⟨vs[j], by simp [World.cell?, e1, hlt], e3 j d _ hd (by simp [hlt])⟩

theorem BoxAt.rdOff {G : Ghost} {w : World} {g : Nat} {cs : List D} (h : BoxAt G w g cs) (off : Nat) : RdAt G w g off (cs.drop off) := by
  have := h.rd.drop off
  simpa using this

theorem run_isAgg {P : Program} {t : TypeId} {i : TyI} (h : TyOk P t i) (w : World) : (isAgg t).run P w = .ok i.agg w := by
  have hd := h.desc
  unfold TyI.agg
  cases hk : i.kind with
  | struct fs => simp only [hk] at hd; obtain ⟨fields, hu, _, _⟩ := hd; simp [isAgg, run_underlying hu]
  | slice e => simp only [hk] at hd; simp [isAgg, run_underlying hd]
  | array n e => simp only [hk] at hd; simp [isAgg, run_underlying hd]
  | string => simp only [hk] at hd; simp [isAgg, run_underlying hd]
  | bool => simp only [hk] at hd; simp [isAgg, run_underlying hd]
  | int k => simp only [hk] at hd; simp [isAgg, run_underlying hd]
  | other =>
    simp only [hk] at hd
    obtain ⟨d, hu, hn⟩ := hd
    cases d <;> simp_all [isAgg, run_underlying hu]

theorem run_sizeOf {P : Program} {t : TypeId} {i : TyI} (h : TyOk P t i) (w : World) : (sizeOf t).run P w = .ok i.size w := by
  obtain ⟨inf, h1, h2, _⟩ := h.info
  simp [sizeOf, typeInfo, h1, h2]

theorem cellsY_sound {S : Setup} {G : Ghost} {w : World} {b o : Nat} {t : TypeId} {cs : List D} {K : D → Prop} (hr : RdAt G w b o cs) (h : cellsY S t cs K) :
    ∃ d v, K d ∧ (loadVar t ⟨b, o, none⟩).run S.P w = .ok v w ∧ Rel G w d v := by
  obtain ⟨i, hi, h⟩ := someK_get h
  have hok := S.ok t i hi
  by_cases ha : i.agg = true
  · rw [if_pos ha] at h
    obtain ⟨hl, hK⟩ := h
    let vl := (List.range i.size).map fun j => (w.cell? ⟨b, o + j, none⟩).getD undef
    have hlen : vl.length = i.size := by simp [vl]
    have hcell : ∀ j v, vl[j]? = some v → w.cell? ((⟨b, o, none⟩ : Addr).add j) = some v := fun j v hv => by
      have hj : j < i.size := by rw [← hlen]; exact (List.getElem?_eq_some_iff.1 hv).1
      obtain ⟨v', h1, _⟩ := hr j _ (List.getElem?_eq_getElem (show j < cs.length by omega))
      rw [Addr.add_lit, h1]
      simp only [vl, List.getElem?_map, List.getElem?_range hj, Option.map_some, h1, Option.getD_some] at hv
      exact hv
    refine ⟨_, .agg vl.toArray, hK, ?_, ?_⟩
    · have := run_loadCells_list (P := S.P) w ⟨b, o, none⟩ vl hcell
      rw [hlen] at this
      simp [loadVar, run_isAgg hok, ha, run_sizeOf hok, this]
    · refine .agg (by simp [hlen]; omega) fun j d v hd hv => ?_
      have hj : j < i.size := by rw [← hlen]; exact (List.getElem?_eq_some_iff.1 hv).1
      rw [List.getElem?_take, if_pos hj] at hd
      obtain ⟨v', h1, h2⟩ := hr j d hd
      have := hcell j v hv
      rw [Addr.add_lit, h1] at this
      obtain rfl : v' = v := by simpa using this
      exact h2
  · rw [if_neg ha] at h
    obtain ⟨d, hd, hK⟩ := someK_get h
    have h0 : cs[0]? = some d := by rw [← hd]; exact (List.head?_eq_getElem? (l := cs)).symm
    obtain ⟨v, h1, h2⟩ := hr 0 d h0
    simp only [Nat.add_zero] at h1
    exact ⟨d, v, hK, by simp [loadVar, run_isAgg hok, ha, h1], h2⟩

theorem loadY_sound {S : Setup} {B : Base} {L : LS} {G : Ghost} {a : Act} {w : World} (hs : Sim B L G a w) {t : TypeId} {x : D} {u : Value} (hx : Rel G w x u) {K : D → Prop} (h : loadY S t L.getBox x K) :
    ∃ d v, K d ∧ (Instr.loadAt t u).run S.P w = .ok v w ∧ Rel G w d v := by
  cases hx with
  | @imm cs b o hk hst hr =>
    obtain ⟨d, v, h1, h2, h3⟩ := cellsY_sound (S := S) (b := b) (o := o) (G := G) (w := w) (fun j d hd => let ⟨_, v, hv⟩ := hst j d hd; ⟨v, hv, hr j d v hd hv⟩) h
    exact ⟨d, v, h1, by simp [Instr.loadAt, Instr.sureAddr, h2], h3⟩
  | @box id off g hb =>
    obtain ⟨cs, hcs, h⟩ := someK_get h
    have hx : ∃ g, G.β id = some g ∧ BoxAt G w g cs := by
      unfold LS.getBox at hcs
      split at hcs
      · rename_i c hc
        obtain rfl : c = cs := by simpa using hcs
        obtain ⟨g, h1, h2, _⟩ := hs.W.boxes id c hc
        exact ⟨g, h1, h2⟩
      · obtain ⟨g, h1, h2, _⟩ := hs.W.robs id cs hcs
        exact ⟨g, h1, h2⟩
    obtain ⟨g', h1, h2⟩ := hx
    rw [hb] at h1
    obtain rfl := Option.some.inj h1
    obtain ⟨d, v, h1, h2, h3⟩ := cellsY_sound (S := S) (h2.rdOff off) h
    exact ⟨d, v, h1, by simp [Instr.loadAt, Instr.sureAddr, h2], h3⟩
  | _ => exact h.elim

theorem intY_sound {S : Setup} {G : Ghost} {w : World} {op : BinOp} {t : TypeId} {k : IntKind} {x y : Int} {K : D → Prop} (h : intY op k x y K) :
    ∃ d v, K d ∧ (binOp op t (.int k x) (.int k y)).run S.P w = .ok v w ∧ Rel G w d v := by
  unfold intY at h
  cases op <;> simp only at h
  case add => exact ⟨_, _, h, by simp [binOp_add, Op.intArith], .int⟩
  case sub => exact ⟨_, _, h, by simp [binOp_sub, Op.intArith], .int⟩
  case mul => exact ⟨_, _, h, by simp [binOp_mul, Op.intArith], .int⟩
  case quo => exact ⟨_, _, h.2, by simp [binOp_quo, Op.intDiv, h.1], .int⟩
  case rem => exact ⟨_, _, h.2, by simp [binOp_rem, Op.intDiv, h.1], .int⟩
  case eql => exact ⟨_, _, h, by simp [binOp_eql], .bool⟩
  case neq => exact ⟨_, _, h, by simp [binOp_neq], .bool⟩
  case lss => exact ⟨_, _, h, by simp [binOp_lss], .bool⟩
  case leq => exact ⟨_, _, h, by simp [binOp_leq], .bool⟩
  case gtr => exact ⟨_, _, h, by simp [binOp_gtr], .bool⟩
  case geq => exact ⟨_, _, h, by simp [binOp_geq], .bool⟩
  case and => exact ⟨_, _, h, by simp [binOp_and, intBits_and], .int⟩
  case or => exact ⟨_, _, h, by simp [binOp_or, intBits_or], .int⟩
theorem intYY_sound {S : Setup} {G : Ghost} {w : World} {op : BinOp} {t : TypeId} {k k' : IntKind} {x y : Int} {K : D → Prop} (h : intYY op k k' x y K) :
    ∃ d v, K d ∧ (binOp op t (.int k x) (.int k' y)).run S.P w = .ok v w ∧ Rel G w d v := by
  by_cases h1 : op = .shl
  · subst h1
    obtain ⟨⟨h1, h2⟩, h3⟩ := h
    exact ⟨_, _, h3, by rw [binOp_shl, shift_shl k k' x y h1 h2]; simp, .int⟩
  · by_cases h2 : op = .shr
    · subst h2
      obtain ⟨⟨h1, h2⟩, h3⟩ := h
      exact ⟨_, _, h3, by rw [binOp_shr, shift_shr k k' x y h1 h2]; simp, .int⟩
    · have h3 : k = k' ∧ intY op k x y K := by
        cases op <;> first | exact h | exact absurd rfl h1 | exact absurd rfl h2
      obtain ⟨rfl, h3⟩ := h3
      exact intY_sound h3

theorem strY_sound {S : Setup} {G : Ghost} {w : World} {op : BinOp} {t : TypeId} {x y : ByteArray} {K : D → Prop} (h : strY op x y K) :
    ∃ d v, K d ∧ (binOp op t (.string x) (.string y)).run S.P w = .ok v w ∧ Rel G w d v := by
  unfold strY at h
  cases op <;> simp only at h
  case add =>
    refine ⟨_, _, h.2, ?_, .str⟩
    have : ¬ (9223372036854775807 < (x.size : Int) + y.size) := by omega
    simp [binOp_string_add, Op.stringOp, this]
  case eql => exact ⟨_, _, h, by simp [binOp_string_eql], .bool⟩
  case neq => exact ⟨_, _, h, by simp [binOp_string_neq], .bool⟩
  case lss => exact ⟨_, _, h, by simp [binOp_string_lss], .bool⟩

theorem kd_ok {S : Setup} {t : TypeId} {k : TK} (h : S.kd t = some k) : ∃ i, S.tab t = some i ∧ i.kind = k := by
  unfold Setup.kd at h
  cases hi : S.tab t with
  | none => simp [hi] at h
  | some i => exact ⟨i, rfl, by simpa [hi] using h⟩
theorem kd_slice {S : Setup} {t e : TypeId} (h : S.kd t = some (.slice e)) : S.P.underlying t = some (.slice e) := by
  obtain ⟨i, h1, h2⟩ := kd_ok h
  have := (S.ok t i h1).desc
  rwa [h2] at this
theorem kd_array {S : Setup} {t e : TypeId} {n : Nat} (h : S.kd t = some (.array n e)) : S.P.underlying t = some (.array n e) := by
  obtain ⟨i, h1, h2⟩ := kd_ok h
  have := (S.ok t i h1).desc
  rwa [h2] at this
theorem kd_bool {S : Setup} {t : TypeId} (h : S.kd t = some .bool) : S.P.underlying t = some .bool := by
  obtain ⟨i, h1, h2⟩ := kd_ok h
  have := (S.ok t i h1).desc
  rwa [h2] at this
theorem kd_string {S : Setup} {t : TypeId} (h : S.kd t = some .string) : S.P.underlying t = some .string := by
  obtain ⟨i, h1, h2⟩ := kd_ok h
  have := (S.ok t i h1).desc
  rwa [h2] at this
theorem kd_int {S : Setup} {t : TypeId} {k : IntKind} (h : S.kd t = some (.int k)) : S.P.underlying t = some (.int k) := by
  obtain ⟨i, h1, h2⟩ := kd_ok h
  have := (S.ok t i h1).desc
  rwa [h2] at this
theorem kd_struct {S : Setup} {t : TypeId} {fs : List (Nat × TypeId)} (h : S.kd t = some (.struct fs)) : ∃ fields, S.P.underlying t = some (.struct fields) ∧ fields.toList.map (fun f => (f.offset, f.type)) = fs ∧ ∃ places, fields.toList.mapM (fun f => (S.P.info? f.type).map fun i => (f.offset, i.size)) = some places := by
  obtain ⟨i, h1, h2⟩ := kd_ok h
  have := (S.ok t i h1).desc
  rwa [h2] at this
theorem fields_get {fields : Array Field} {fs : List (Nat × TypeId)} (h : fields.toList.map (fun f => (f.offset, f.type)) = fs) {n : Nat} {p : Nat × TypeId} (hp : fs[n]? = some p) : ∃ f, fields[n]? = some f ∧ f.offset = p.1 ∧ f.type = p.2 := by
  subst h
  simp only [List.getElem?_map, Option.map_eq_some_iff] at hp
  obtain ⟨f, h1, rfl⟩ := hp
  exact ⟨f, by simpa using h1, rfl, rfl⟩

theorem binY_sound {S : Setup} {G : Ghost} {w : World} {op : BinOp} {t : TypeId} {x y : D} {u v : Value} (hx : Rel G w x u) (hy : Rel G w y v) (ox oy : Operand) {K : D → Prop} (h : binY S op t x y K) :
    ∃ d r, K d ∧ (do eqGuard op t ox oy u v; binOp op t u v : Sem Value).run S.P w = .ok r w ∧ Rel G w d r := by
  unfold binY at h
  split at h
  · cases hx; cases hy
    obtain ⟨d, r, h1, h2, h3⟩ := intYY_sound (S := S) (G := G) (w := w) (t := t) h
    exact ⟨d, r, h1, by simp [eqGuard_at_int, h2], h3⟩
  · cases hx; cases hy
    obtain ⟨hk, h⟩ := h
    have hu := kd_bool hk
    unfold boolY at h
    cases op <;> simp only at h
    case eql => exact ⟨_, _, h, by simp [eqGuard_at_bool, run_eql_bool w t _ _ hu], .bool⟩
    case neq => exact ⟨_, _, h, by simp [eqGuard_at_bool, run_neq_bool w t _ _ hu], .bool⟩
  · cases hx; cases hy
    obtain ⟨d, r, h1, h2, h3⟩ := strY_sound (S := S) (G := G) (w := w) (t := t) h
    exact ⟨d, r, h1, by simp [eqGuard_at_string, h2], h3⟩
  · rename_i tk xs
    obtain ⟨⟨e, hk⟩, h⟩ := h
    have hu := kd_slice hk
    cases hx with
    | @sl tk xs A n c b o s hn hc hm ht hA hku hkk hst hr =>
    cases hy with
    | sl hn' hc' hm' ht' hA' hu' hk' hst' hr' =>
    obtain ⟨rfl, rfl, rfl⟩ := ht'
    have hne : xs ≠ [] → A.isNone = false := fun hx => by
      rcases hA with h0 | h0
      · exact absurd h0 hx
      · rw [h0]; rfl
    have heql := Lib.run_eql_slice_nil (P := S.P) w t e A n c 0 0 hu
    have hneq := run_neq_slice_nil_any (P := S.P) w t e A n c 0 0 hu
    have key : (op = .eql ∧ K (.bool A.isNone)) ∨ (op = .neq ∧ K (.bool (!A.isNone))) := by
      cases tk <;> cases op <;> simp only [nilY] at h
      case nil.eql => obtain ⟨rfl, _, _⟩ := ht; exact .inl ⟨rfl, h⟩
      case nil.neq => obtain ⟨rfl, _, _⟩ := ht; exact .inr ⟨rfl, h⟩
      case nl.eql => obtain ⟨rfl, _⟩ := ht; exact .inl ⟨rfl, h⟩
      case nl.neq => obtain ⟨rfl, _⟩ := ht; exact .inr ⟨rfl, h⟩
      case nn.eql =>
        cases A with
        | none => exact absurd rfl ht
        | some a => exact .inl ⟨rfl, h⟩
      case nn.neq =>
        cases A with
        | none => exact absurd rfl ht
        | some a => exact .inr ⟨rfl, h⟩
      all_goals first
        | exact .inl ⟨rfl, by rw [hne h.1]; exact h.2⟩
        | exact .inr ⟨rfl, by rw [hne h.1]; exact h.2⟩
    rcases key with ⟨rfl, hK⟩ | ⟨rfl, hK⟩
    · exact ⟨_, _, hK, by simp [eqGuard_at_slice, heql], .bool⟩
    · exact ⟨_, _, hK, by simp [eqGuard_at_slice, hneq], .bool⟩
  · exact h.elim


/-! ### Places in rows -/

theorem flat_length {s : Nat} : ∀ {xs : List D}, (∀ x ∈ xs, x.cells.length = s) → (flat xs).length = xs.length * s
  | [], _ => by simp [flat]
  | x :: xs, h => by
    have ih := flat_length (s := s) (xs := xs) fun y hy => h y (List.mem_cons_of_mem _ hy)
    have h0 := h x List.mem_cons_self
    simp only [flat, List.flatMap_cons, List.length_append] at ih ⊢
    rw [ih, h0, List.length_cons, Nat.add_mul]
    omega

theorem flat_cons (x : D) (xs : List D) : flat (x :: xs) = x.cells ++ flat xs := rfl
theorem flat_append (xs ys : List D) : flat (xs ++ ys) = flat xs ++ flat ys := by simp [flat]

theorem flat_drop {s : Nat} : ∀ {xs : List D} (k : Nat), (∀ x ∈ xs, x.cells.length = s) → flat (xs.drop k) = (flat xs).drop (k * s)
  | [], k, _ => by simp [flat]
  | x :: xs, 0, _ => by simp
  | x :: xs, k + 1, h => by
    have ih := flat_drop (s := s) (xs := xs) k fun y hy => h y (List.mem_cons_of_mem _ hy)
    have h0 := h x List.mem_cons_self
    simp only [List.drop_succ_cons, flat_cons]
    rw [ih, Nat.add_mul, Nat.one_mul, List.drop_append, h0, show (k * s + s - s) = k * s by omega]
    have : x.cells.drop (k * s + s) = [] := List.drop_eq_nil_of_le (by omega)
    rw [this, List.nil_append]

theorem flat_take {s : Nat} : ∀ {xs : List D} (k : Nat), (∀ x ∈ xs, x.cells.length = s) → flat (xs.take k) = (flat xs).take (k * s)
  | [], k, _ => by simp [flat]
  | x :: xs, 0, _ => by simp [flat]
  | x :: xs, k + 1, h => by
    have ih := flat_take (s := s) (xs := xs) k fun y hy => h y (List.mem_cons_of_mem _ hy)
    have h0 := h x List.mem_cons_self
    simp only [List.take_succ_cons, flat_cons]
    rw [ih, Nat.add_mul, Nat.one_mul, List.take_append, h0, show (k * s + s - s) = k * s by omega]
    have : x.cells.take (k * s + s) = x.cells := List.take_of_length_le (by omega)
    rw [this]

theorem flat_at {s : Nat} {xs : List D} (h : ∀ x ∈ xs, x.cells.length = s) {i : Nat} (hi : i < xs.length) {j : Nat} {d : D} (hj : xs[i].cells[j]? = some d) : (flat xs)[i * s + j]? = some d := by
  have h1 := flat_drop (s := s) i h
  have h2 : xs.drop i = xs[i] :: xs.drop (i + 1) := by rw [List.drop_eq_getElem_cons hi]
  rw [← List.getElem?_drop, ← h1, h2, flat_cons, List.getElem?_append_left (List.getElem?_eq_some_iff.1 hj).1]
  exact hj

theorem memOk_cells {xs : List D} (h : ∀ d ∈ flat xs, d.memOk = true) {x : D} (hx : x ∈ xs) : ∀ d ∈ x.cells, d.memOk = true := fun d hd =>
  h d (List.mem_flatMap.2 ⟨x, hx, hd⟩)

theorem add_mk (b o n : Nat) : Addr.add ⟨b, o, none⟩ n = ⟨b, o + n, none⟩ := by
  unfold Addr.add
  split
  · rename_i h; subst h; rfl
  · rfl

theorem indexAddrY_sound {S : Setup} {G : Ghost} {w : World} {t : TypeId} {x ix : D} {u iv : Value} (hx : Rel G w x u) (hi : Rel G w ix iv) {K : D → Prop} (h : indexAddrY S t x ix K) :
    ∃ d v, K d ∧ (Instr.indexAt t u iv).run S.P w = .ok v w ∧ Rel G w d v := by
  unfold indexAddrY at h
  split at h
  · rename_i e k i hk
    cases hi
    have hu := kd_slice hk
    obtain ⟨j, hj, h⟩ := someK_get h
    have hok := S.ok e j hj
    cases hx with
    | @sl tk xs A n c b o s hn hc hm ht hA hku hkk hst hr =>
      obtain ⟨⟨h0, h1⟩, hsz, hK⟩ := h
      have hlt : i.toNat < xs.length := by omega
      have hne : xs ≠ [] := fun e => by subst e; simp at hlt
      have hA' : A = some ⟨b, o, none⟩ := hA.resolve_left hne
      subst hA'
      have hget : xs.getD i.toNat default = xs[i.toNat] := by simp [List.getD, hlt]
      rw [hget] at hsz hK
      have hs : s = j.size := by rw [← hsz]; exact (hku _ (List.getElem_mem hlt)).symm
      subst hs
      refine ⟨_, .pointer (some ⟨b, o + i.toNat * j.size, none⟩), hK, ?_, ?_⟩
      · have hin : 0 ≤ i ∧ i < (n : Int) := ⟨h0, by omega⟩
        simp [Instr.indexAt, asIntOf, run_underlying hu, run_sizeOf hok, hin, add_mk]
      · refine .imm (memOk_cells hkk (List.getElem_mem hlt)) (fun q d hd => ?_) (fun q d v hd hv => ?_)
        · rw [Nat.add_assoc]; exact hst _ d (flat_at hku hlt hd)
        · rw [Nat.add_assoc] at hv; exact hr _ d v (flat_at hku hlt hd) hv
    | @ms id n c g hb hc hn =>
      obtain ⟨⟨h0, h1⟩, hK⟩ := h
      refine ⟨_, .pointer (some ⟨g, i.toNat * j.size, none⟩), hK, ?_, .box hb⟩
      have hin : 0 ≤ i ∧ i < (n : Int) := ⟨h0, h1⟩
      simp [Instr.indexAt, asIntOf, run_underlying hu, run_sizeOf hok, hin, add_mk]
    | _ => exact h.elim
  · rename_i n e k i hk
    cases hi
    have hu := kd_array hk
    obtain ⟨j, hj, h⟩ := someK_get h
    have hok := S.ok e j hj
    cases hx with
    | @box id off g hb =>
      obtain ⟨⟨h0, h1⟩, hK⟩ := h
      refine ⟨_, .pointer (some ⟨g, off + i.toNat * j.size, none⟩), hK, ?_, .box hb⟩
      have hin : 0 ≤ i ∧ i < (n : Int) := ⟨h0, h1⟩
      simp [Instr.indexAt, asIntOf, run_underlying hu, run_sizeOf hok, hin, add_mk, Instr.sureAddr]
    | @imm cs b o hk2 hst hr =>
      obtain ⟨⟨h0, h1⟩, hK⟩ := h
      refine ⟨_, .pointer (some ⟨b, o + i.toNat * j.size, none⟩), hK, ?_, ?_⟩
      · have hin : 0 ≤ i ∧ i < (n : Int) := ⟨h0, h1⟩
        simp [Instr.indexAt, asIntOf, run_underlying hu, run_sizeOf hok, hin, add_mk, Instr.sureAddr]
      · refine .imm (fun d hd => hk2 d (List.mem_of_mem_drop hd)) (fun q d hd => ?_) (fun q d v hd hv => ?_)
        · rw [List.getElem?_drop] at hd
          rw [Nat.add_assoc]; exact hst _ d hd
        · rw [List.getElem?_drop] at hd
          rw [Nat.add_assoc] at hv; exact hr _ d v hd hv
    | _ => exact h.elim
  · exact h.elim

theorem indexY_sound {S : Setup} {G : Ghost} {w : World} {t : TypeId} {x ix : D} {u iv : Value} (hx : Rel G w x u) (hi : Rel G w ix iv) {K : D → Prop} (h : indexY S t x ix K) :
    ∃ d v, K d ∧ (Instr.index t u iv).run S.P w = .ok v w ∧ Rel G w d v := by
  unfold indexY at h
  split at h
  · rename_i k i s hk
    cases hi; cases hx
    have hu := kd_string hk
    obtain ⟨⟨h0, h1⟩, hK⟩ := h
    have hlt : i.toNat < s.size := by omega
    refine ⟨_, _, hK, ?_, .int⟩
    have hget : s[i.toNat]? = some (s.data.getD i.toNat 0) := by
      have hlt' : i.toNat < s.data.size := hlt
      simp only [Array.getD_eq_getD_getElem?, Array.getElem?_eq_getElem hlt', Option.getD_some]
      exact getElem?_pos s i.toNat hlt
    simp [Instr.index, asIntOf, run_underlying hu, h0, hget]
  · exact h.elim

theorem lenY_sound {S : Setup} {G : Ghost} {w : World} {t ty : TypeId} {x : D} {u : Value} (hx : Rel G w x u) {K : D → Prop} (h : lenY S t x K) :
    ∃ d v, K d ∧ (Builtin.len_ #[t] ty #[u]).run S.P w = .ok v w ∧ Rel G w d v := by
  unfold lenY at h
  split at h
  · rename_i e tk xs hk
    have hu := kd_slice hk
    cases hx with
    | sl hn hc hm ht hA hku hkk hst hr => exact ⟨_, _, h, by simp [Builtin.len_, run_underlying hu, goInt, hn], .int⟩
  · rename_i e id n hk
    have hu := kd_slice hk
    cases hx
    exact ⟨_, _, h, by simp [Builtin.len_, run_underlying hu, goInt], .int⟩
  · rename_i s hk
    have hu := kd_string hk
    cases hx
    exact ⟨_, _, h, by simp [Builtin.len_, run_underlying hu, goInt], .int⟩
  · exact h.elim

theorem fieldAddrY_sound {S : Setup} {G : Ghost} {w : World} {t : TypeId} {f : Nat} {x : D} {u : Value} (hx : Rel G w x u) {K : D → Prop} (h : fieldAddrY S t f x K) :
    ∃ d v, K d ∧ (Instr.fieldAt t u f).run S.P w = .ok v w ∧ Rel G w d v := by
  unfold fieldAddrY at h
  split at h
  · rename_i fs hk
    obtain ⟨fields, hu, hfs, _⟩ := kd_struct hk
    obtain ⟨p, hp, h⟩ := someK_get h
    obtain ⟨j, hj, hne, h⟩ := someK_get h
    obtain ⟨fl, hf, ho, hty⟩ := fields_get hfs hp
    have hok := S.ok p.2 j hj
    have hsz : (sizeOf fl.type).run S.P w = .ok j.size w := by rw [hty]; exact run_sizeOf hok w
    cases hx with
    | @imm cs b o hkk hst hr =>
      refine ⟨_, .pointer (some ⟨b, o + p.1, none⟩), h, ?_, ?_⟩
      · simp [Instr.fieldAt, run_underlying hu, hf, Instr.sureAddr, fieldPlace, hsz, hne, add_mk, ho]
      · refine .imm (fun d hd => hkk d (List.mem_of_mem_drop hd)) (fun q d hd => ?_) (fun q d v hd hv => ?_)
        · rw [List.getElem?_drop] at hd
          rw [Nat.add_assoc]; exact hst _ d hd
        · rw [List.getElem?_drop] at hd
          rw [Nat.add_assoc] at hv; exact hr _ d v hd hv
    | @box id off g hb =>
      refine ⟨_, .pointer (some ⟨g, off + p.1, none⟩), h, ?_, .box hb⟩
      simp [Instr.fieldAt, run_underlying hu, hf, Instr.sureAddr, fieldPlace, hsz, hne, add_mk, ho]
    | _ => exact h.elim
  · exact h.elim

theorem part_sound {S : Setup} {G : Ghost} {w : World} {t : TypeId} {cs : List D} {vl : List Value} {off : Nat} {K : D → Prop} (hl : vl.length = cs.length)
    (hr : ∀ (j : Nat) d v, cs[j]? = some d → vl[j]? = some v → Rel G w d v) (h : cellsY S t (cs.drop off) K) :
    ∃ d v, K d ∧ (part t vl.toArray off).run S.P w = .ok v w ∧ Rel G w d v := by
  obtain ⟨i, hi, h⟩ := someK_get h
  have hok := S.ok t i hi
  by_cases ha : i.agg = true
  · rw [if_pos ha] at h
    obtain ⟨hlen, hK⟩ := h
    refine ⟨_, .agg ((vl.drop off).take i.size).toArray, hK, ?_, ?_⟩
    · simp [part, run_isAgg hok, ha, run_sizeOf hok, List.extract_toArray]
    · refine .agg (by simp at hlen ⊢; omega) fun j d v hd hv => ?_
      rw [List.getElem?_take] at hd hv
      split at hd
      · rename_i hj
        rw [if_pos hj, List.getElem?_drop] at hv
        rw [List.getElem?_drop] at hd
        exact hr _ d v hd hv
      · cases hd
  · rw [if_neg ha] at h
    obtain ⟨d, hd, hK⟩ := someK_get h
    have h0 : cs[off]? = some d := by
      have : (cs.drop off)[0]? = some d := by rw [← hd]; exact (List.head?_eq_getElem? (l := cs.drop off)).symm
      simpa [List.getElem?_drop] using this
    have hlt : off < vl.length := by rw [hl]; exact (List.getElem?_eq_some_iff.1 h0).1
    exact ⟨d, vl[off], hK, by simp [part, run_isAgg hok, ha, hlt], hr off d _ h0 (by simp [hlt])⟩

theorem fieldY_sound {S : Setup} {G : Ghost} {w : World} {t : TypeId} {f : Nat} {x : D} {u : Value} (hx : Rel G w x u) {K : D → Prop} (h : fieldY S t f x K) :
    ∃ d v, K d ∧ (Instr.field t u f).run S.P w = .ok v w ∧ Rel G w d v := by
  unfold fieldY at h
  split at h
  · rename_i fs cs hk
    obtain ⟨fields, hu, hfs, _⟩ := kd_struct hk
    obtain ⟨p, hp, h⟩ := someK_get h
    obtain ⟨fl, hf, ho, hty⟩ := fields_get hfs hp
    cases hx with
    | @agg cs vl hl hr =>
      obtain ⟨d, v, h1, h2, h3⟩ := part_sound (S := S) hl hr h
      exact ⟨d, v, h1, by simp [Instr.field, run_underlying hu, hf, asAgg, ho, hty, h2], h3⟩
  · exact h.elim

theorem unY_sound {S : Setup} {G : Ghost} {w : World} {op : UnOp} {x : D} {u : Value} (hx : Rel G w x u) {K : D → Prop} (h : unY op x K) :
    ∃ d v, K d ∧ (Op.unary op u).run S.P w = .ok v w ∧ Rel G w d v := by
  unfold unY at h
  split at h
  · cases hx; exact ⟨_, _, h, by simp [unary_not], .bool⟩
  · cases hx; exact ⟨_, _, h, by simp [unary_neg, Op.intArith], .int⟩
  · exact h.elim

theorem convY_sound {S : Setup} {G : Ghost} {w : World} {src dst : TypeId} {x : D} {u : Value} (hs : (S.tab src).isSome = true) (hx : Rel G w x u) {K : D → Prop} (h : convY S dst x K) :
    ∃ d v, K d ∧ (convert src dst u).run S.P w = .ok v w ∧ Rel G w d v := by
  unfold convY at h
  split at h
  · split at h
    · rename_i k hk
      cases hx
      have hu := kd_int hk
      obtain ⟨i, hi⟩ := Option.isSome_iff_exists.1 hs
      have hd := (S.ok src i hi).desc
      have : ∃ d, S.P.underlying src = some d := by
        cases hkk : i.kind <;> simp only [hkk] at hd <;> first | exact ⟨_, hd⟩ | exact ⟨_, hd.choose_spec.1⟩
      obtain ⟨d, hsrc⟩ := this
      exact ⟨_, _, h, by cases d <;> simp [convert, run_underlying hu, run_underlying hsrc, Conv.intToInt], .int⟩
    · exact h.elim
  · exact h.elim


theorem flat_length_le {s : Nat} {xs : List D} (h : ∀ x ∈ xs, x.cells.length = s) : (flat xs).length = xs.length * s := flat_length h

/-- A part of a slice, up to its length at the most. -/
theorem rel_sub {G : Ghost} {w : World} {tk tk' : Tk} {xs : List D} {A A' : Option Addr} {n c c' l hh s : Nat} (hx : Rel G w (.sl tk xs) (.slice A n c)) (h1 : l ≤ hh) (h2 : hh ≤ n) (h3 : hh - l ≤ c') (h4 : c' ≤ maxLen)
    (hs : ∀ x ∈ xs, x.cells.length = s) (hA : l < hh → A' = A.map (·.add (l * s))) (ht : TkOk G w tk' ((xs.take hh).drop l) A' (hh - l) c') : Rel G w (.sl tk' ((xs.take hh).drop l)) (.slice A' (hh - l) c') := by
  cases hx with
  | @sl _ _ _ _ _ b o s' hn hc hm _ hA0 hu hk hst hr =>
  have hmem : ∀ x ∈ (xs.take hh).drop l, x ∈ xs := fun x hx => List.mem_of_mem_take (List.mem_of_mem_drop hx)
  have hfl : flat ((xs.take hh).drop l) = ((flat xs).take (hh * s)).drop (l * s) := by
    rw [flat_drop l (fun x hx => hs x (List.mem_of_mem_take hx)), flat_take hh hs]
  have hget : ∀ (j : Nat) d, (flat ((xs.take hh).drop l))[j]? = some d → (flat xs)[l * s + j]? = some d := fun j d hd => by
    rw [hfl, List.getElem?_drop, List.getElem?_take] at hd
    split at hd
    · exact hd
    · cases hd
  refine .sl (b := b) (o := o + l * s) (s := s) (by simp; omega) h3 h4 ht ?_ (fun x hx => hs x (hmem x hx)) (fun d hd => ?_) (fun j d hd => ?_) (fun j d v hd hv => ?_)
  · by_cases hlt : l < hh
    · right
      rw [hA hlt]
      have : xs ≠ [] := fun e => by subst e; simp at hn; omega
      rw [hA0.resolve_left this]
      simp [add_mk]
    · left
      exact List.eq_nil_of_length_eq_zero (by simp; omega)
  · obtain ⟨x, hx, hd⟩ := List.mem_flatMap.1 hd
    exact hk d (List.mem_flatMap.2 ⟨x, hmem x hx, hd⟩)
  · rw [Nat.add_assoc]; exact hst _ d (hget j d hd)
  · rw [Nat.add_assoc] at hv; exact hr _ d v (hget j d hd) hv

theorem intOfD_rel {o : Option D} {r : Option Int} (h : intOfD o = some r) : (o = none ∧ r = none) ∨ ∃ k n, o = some (.int k n) ∧ r = some n := by
  unfold intOfD at h
  split at h
  · exact .inl ⟨rfl, (Option.some.inj h).symm⟩
  · exact .inr ⟨_, _, rfl, (Option.some.inj h).symm⟩
  · cases h

theorem run_sliceBounds_lh {P : Program} (w : World) (isS : Bool) (len cap : Nat) (lo hi : Option Value) (l h : Option Int)
    (hl : (lo = none ∧ l = none) ∨ ∃ k n, lo = some (.int k n) ∧ l = some n) (hh : (hi = none ∧ h = none) ∨ ∃ k n, hi = some (.int k n) ∧ h = some n)
    (h0 : 0 ≤ l.getD 0) (h1 : l.getD 0 ≤ h.getD len) (h2 : h.getD len ≤ len) (h3 : len ≤ cap) :
    (Instr.sliceBounds isS len cap lo hi none).run P w = .ok ((l.getD 0).toNat, (h.getD len).toNat, cap) w := by
  rcases hl with ⟨rfl, rfl⟩ | ⟨k, n, rfl, rfl⟩ <;> rcases hh with ⟨rfl, rfl⟩ | ⟨k', n', rfl, rfl⟩ <;> simp only [Option.getD_none, Option.getD_some] at h0 h1 h2 ⊢
  · simp [Instr.sliceBounds]
  · simp [Instr.sliceBounds, run_sliceBound, show n' ≤ (cap : Int) by omega, show 0 ≤ n' by omega]
  · simp [Instr.sliceBounds, run_sliceBound, h0, h1]
  · have e := run_sliceBound (P := P) w k n n'.toNat .sliceB h0 (by omega)
    simp [Instr.sliceBounds, run_sliceBound, show n' ≤ (cap : Int) by omega, show 0 ≤ n' by omega, e]

theorem run_sliceBounds_m {P : Program} (w : World) (isS : Bool) (len cap : Nat) (lo : Option Value) (kh km : IntKind) (h : Int) (l : Option Int)
    (hl : (lo = none ∧ l = none) ∨ ∃ k n, lo = some (.int k n) ∧ l = some n) (h0 : 0 ≤ l.getD 0) (h1 : l.getD 0 ≤ h) (h2 : h ≤ len) (h3 : len ≤ cap) :
    (Instr.sliceBounds isS len cap lo (some (.int kh h)) (some (.int km h))).run P w = .ok ((l.getD 0).toNat, h.toNat, h.toNat) w := by
  have e0 : 0 ≤ h := by omega
  have e1 : h ≤ (cap : Int) := by omega
  have e2 := run_sliceBound (P := P) w kh h h.toNat .slice3B e0 (by omega)
  rcases hl with ⟨rfl, rfl⟩ | ⟨k, n, rfl, rfl⟩ <;> simp only [Option.getD_none, Option.getD_some] at h0 h1 ⊢
  · simp [Instr.sliceBounds, run_sliceBound, e0, e1, e2]
  · have e3 := run_sliceBound (P := P) w k n h.toNat .slice3C h0 (by omega)
    simp [Instr.sliceBounds, run_sliceBound, e0, e1, e2, e3]

theorem sliceY_sound {S : Setup} {G : Ghost} {w : World} {t : TypeId} {x : D} {u : Value} {lo hi mx : Option Value} {l h m : Option Int} (hx : Rel G w x u)
    (hl : (lo = none ∧ l = none) ∨ ∃ k n, lo = some (.int k n) ∧ l = some n) (hh : (hi = none ∧ h = none) ∨ ∃ k n, hi = some (.int k n) ∧ h = some n)
    (hm : (mx = none ∧ m = none) ∨ ∃ k n, mx = some (.int k n) ∧ m = some n) (hmh : mx.isSome = true → hi.isSome = true) {K : D → Prop} (hy : sliceY S t x l h m K) :
    ∃ d v, K d ∧ (Instr.sliceAt t u lo hi mx).run S.P w = .ok v w ∧ Rel G w d v := by
  unfold sliceY at hy
  split at hy
  · rename_i e tk xs hk
    have hu := kd_slice hk
    obtain ⟨j, hj, hmx, ⟨h0, h1, h2⟩, hs, hK⟩ := someK_get hy
    have hok := S.ok e j hj
    have hx' := hx
    cases hx with
    | @sl _ _ A n c b o s' hn hc hml _ hA0 hu0 hk0 hst hr =>
    subst hn
    have he : S.P.elem t = e := by simp [Program.elem, hu]
    have hu' : S.P.underlying t = some (.slice (S.P.elem t)) := by rw [he]; exact hu
    rcases hm with ⟨rfl, rfl⟩ | ⟨km, mv, rfl, rfl⟩
    · simp only at hK hmx
      refine ⟨_, sliced A (l.getD 0).toNat (h.getD xs.length).toNat c j.size, hK, ?_, ?_⟩
      · rw [run_sliceAt_slice w t _ _ _ _ hu', run_slice_any w t _ _ _ hu', run_sliceBounds_lh w true xs.length c lo hi l h hl hh h0 h1 h2 hc]
        simp [he, run_sizeOf hok]
      · unfold sliced
        by_cases hcl : c = (l.getD 0).toNat
        · rw [if_pos hcl]
          exact rel_sub hx' (by omega) (by omega) (by omega) (by omega) hs (fun hlt => absurd hlt (by omega)) trivial
        · rw [if_neg hcl]
          exact rel_sub hx' (by omega) (by omega) (by omega) (by omega) hs (fun _ => rfl) trivial
    · simp only at hK hmx
      rcases hh with ⟨rfl, rfl⟩ | ⟨kh, hv, rfl, rfl⟩
      · exact absurd (hmh rfl) (by simp)
      · simp only [Option.getD_some] at hmx h1 h2 hK
        subst hmx
        refine ⟨_, sliced A (l.getD 0).toNat mv.toNat mv.toNat j.size, hK, ?_, ?_⟩
        · rw [run_sliceAt_slice w t _ _ _ _ hu', run_slice_any w t _ _ _ hu', run_sliceBounds_m w true xs.length c lo kh km mv l hl h0 h1 h2 hc]
          simp [he, run_sizeOf hok]
        · unfold sliced
          by_cases hcl : mv.toNat = (l.getD 0).toNat
          · rw [if_pos hcl]
            exact rel_sub hx' (by omega) (by omega) (by omega) (by omega) hs (fun hlt => absurd hlt (by omega)) rfl
          · rw [if_neg hcl]
            exact rel_sub hx' (by omega) (by omega) (by omega) (by omega) hs (fun _ => rfl) rfl
  · rename_i e id n hk
    have hu := kd_slice hk
    obtain ⟨hse, ⟨rfl, rfl⟩, ⟨h1, h2⟩, hK⟩ := hy
    obtain ⟨j, hj⟩ := Option.isSome_iff_exists.1 hse
    have hok := S.ok e j hj
    have he : S.P.elem t = e := by simp [Program.elem, hu]
    have hu' : S.P.underlying t = some (.slice (S.P.elem t)) := by rw [he]; exact hu
    cases hx with
    | @ms _ _ c g hb hc hml =>
    rcases hl with ⟨rfl, _⟩ | ⟨_, _, _, e0⟩
    · rcases hm with ⟨rfl, _⟩ | ⟨_, _, _, e0⟩
      · refine ⟨_, sliced (some ⟨g, 0, none⟩) 0 (h.getD n).toNat c j.size, hK, ?_, ?_⟩
        · rw [run_sliceAt_slice w t _ _ _ _ hu', run_slice_any w t _ _ _ hu', run_sliceBounds_lh w true n c none hi none h (.inl ⟨rfl, rfl⟩) hh (by simp) (by simpa using h1) h2 hc]
          simp [he, run_sizeOf hok]
        · unfold sliced
          have hA : (if c = 0 then some (⟨g, 0, none⟩ : Addr) else (some (⟨g, 0, none⟩ : Addr)).map (·.add (0 * j.size))) = some ⟨g, 0, none⟩ := by
            split
            · rfl
            · simp [Addr.add]
          rw [hA, Nat.sub_zero, Nat.sub_zero]
          exact .ms hb (by omega) hml
      · cases e0
    · cases e0
  · rename_i s hk
    have hu := kd_string hk
    obtain ⟨rfl, ⟨h0, h1, h2⟩, hK⟩ := hy
    cases hx
    rcases hm with ⟨rfl, _⟩ | ⟨_, _, _, e⟩
    · refine ⟨_, _, hK, ?_, .str⟩
      rw [run_sliceAt_string w t _ _ _ _ hu]
      simp [Instr.slice, run_underlying hu, run_sliceBounds_lh w false s.size s.size lo hi l h hl hh h0 h1 h2 (Nat.le_refl _)]
    · cases e
  · exact hy.elim
end Go.Lg
