/-
  Lg, part 15: a region that draws its order, whose operations are all quiet: the text's order serves every order.
-/
import Derived.Test.YtenjmepbaajkjaaLgRun
namespace Go.Lg
open Go Go.RowKit

/-- An operation in this form yields one value, whatever it is wanted for. -/
def Pick (F : (D → Prop) → Prop) : Prop := ∀ K, F K → ∃ d, K d ∧ ∀ K', K' d → F K'

theorem pick_someK {α : Type} {o : Option α} {f : α → (D → Prop) → Prop} (h : ∀ x, o = some x → Pick (f x)) : Pick fun K => someK o fun x => f x K := by
  intro K hK
  obtain ⟨x, hx, hk⟩ := someK_get hK
  obtain ⟨d, h1, h2⟩ := h x hx K hk
  exact ⟨d, h1, fun K' hk' => by rw [hx]; exact h2 K' hk'⟩
theorem pick_and {p : Prop} {F : (D → Prop) → Prop} (h : p → Pick F) : Pick fun K => p ∧ F K := by
  rintro K ⟨hp, hF⟩
  obtain ⟨d, h1, h2⟩ := h hp K hF
  exact ⟨d, h1, fun K' hk' => ⟨hp, h2 K' hk'⟩⟩
theorem pick_K (d : D) : Pick fun K => K d := fun _ h => ⟨d, h, fun _ hk => hk⟩
theorem pick_False : Pick fun _ => False := fun _ h => h.elim
theorem pick_some (o : Option D) : Pick fun K => someK o K := by
  cases o with
  | none => exact pick_False
  | some d => exact pick_K d
theorem pick_ite {c : Prop} [Decidable c] {F F' : (D → Prop) → Prop} (h : Pick F) (h' : Pick F') : Pick fun K => if c then F K else F' K := by
  by_cases hc : c
  · simpa [hc] using h
  · simpa [hc] using h'

theorem pick_cellsY (S : Setup) (t : TypeId) (cs : List D) : Pick (cellsY S t cs) :=
  pick_someK fun _ _ => pick_ite (pick_and fun _ => pick_K _) (pick_some _)
theorem pick_loadY (S : Setup) (t : TypeId) (bx : Nat → Option (List D)) (d : D) : Pick (loadY S t bx d) := by
  cases d <;> first | exact pick_cellsY S t _ | exact pick_someK fun _ _ => pick_cellsY S t _ | exact pick_False
theorem pick_intY (op : BinOp) (k : IntKind) (a b : Int) : Pick (intY op k a b) := by
  cases op <;> first | exact pick_K _ | exact pick_and fun _ => pick_K _ | exact pick_False
theorem pick_intYY (op : BinOp) (k k' : IntKind) (a b : Int) : Pick (intYY op k k' a b) := by
  cases op <;> first | exact pick_and fun _ => pick_K _ | exact pick_and fun _ => pick_intY _ _ _ _
theorem pick_strY (op : BinOp) (a b : ByteArray) : Pick (strY op a b) := by
  cases op <;> first | exact pick_K _ | exact pick_and fun _ => pick_K _ | exact pick_False
theorem pick_boolY (op : BinOp) (a b : Bool) : Pick (boolY op a b) := by
  cases op <;> first | exact pick_K _ | exact pick_False
theorem pick_nilY (op : BinOp) (tk : Tk) (xs : List D) : Pick (nilY op tk xs) := by
  cases op <;> cases tk <;> first | exact pick_K _ | exact pick_and fun _ => pick_K _ | exact pick_False
theorem pick_binY (S : Setup) (op : BinOp) (t : TypeId) (x y : D) : Pick (binY S op t x y) := by
  intro K h
  unfold binY at h
  split at h
  · obtain ⟨d, h1, h2⟩ := pick_intYY _ _ _ _ _ K h
    exact ⟨d, h1, fun K' hk => h2 K' hk⟩
  · obtain ⟨d, h1, h2⟩ := pick_and (fun _ => pick_boolY _ _ _) K h
    exact ⟨d, h1, fun K' hk => h2 K' hk⟩
  · obtain ⟨d, h1, h2⟩ := pick_strY _ _ _ K h
    exact ⟨d, h1, fun K' hk => h2 K' hk⟩
  · obtain ⟨d, h1, h2⟩ := pick_and (fun _ => pick_nilY _ _ _) K h
    exact ⟨d, h1, fun K' hk => h2 K' hk⟩
  · exact h.elim
theorem pick_unY (op : UnOp) (x : D) : Pick (unY op x) := by
  cases op <;> cases x <;> first | exact pick_K _ | exact pick_False
theorem pick_convY (S : Setup) (dst : TypeId) (x : D) : Pick (convY S dst x) := by
  intro K h
  unfold convY at h
  split at h
  · split at h
    · rename_i hk
      exact ⟨_, h, fun K' hk' => by unfold convY; simp only [hk]; exact hk'⟩
    · exact h.elim
  · exact h.elim
theorem pick_fieldAddrY (S : Setup) (t : TypeId) (f : Nat) (x : D) : Pick (fieldAddrY S t f x) := by
  intro K h
  unfold fieldAddrY at h
  split at h
  · rename_i fs hk
    obtain ⟨p, hp, h⟩ := someK_get h
    obtain ⟨j, hj, hne, h⟩ := someK_get h
    cases x <;> first
      | exact h.elim
      | exact ⟨_, h, fun K' hk' => by unfold fieldAddrY; simp only [hk, hp, hj, someK]; exact ⟨hne, hk'⟩⟩
  · exact h.elim
theorem pick_fieldY (S : Setup) (t : TypeId) (f : Nat) (x : D) : Pick (fieldY S t f x) := by
  intro K h
  unfold fieldY at h
  split at h
  · rename_i fs cs hk
    obtain ⟨d, h1, h2⟩ := pick_someK (fun (p : Nat × TypeId) hp => pick_cellsY S p.2 (cs.drop p.1)) K h
    exact ⟨d, h1, fun K' hk' => by unfold fieldY; simp only [hk]; exact h2 K' hk'⟩
  · exact h.elim
theorem pick_indexAddrY (S : Setup) (t : TypeId) (x ix : D) : Pick (indexAddrY S t x ix) := by
  intro K h
  unfold indexAddrY at h
  split at h
  · rename_i e k i hk
    obtain ⟨j, hj, h⟩ := someK_get h
    cases x <;> first
      | exact h.elim
      | exact ⟨_, h.2.2, fun K' hk' => by unfold indexAddrY; simp only [hk, hj, someK]; exact ⟨h.1, h.2.1, hk'⟩⟩
      | exact ⟨_, h.2, fun K' hk' => by unfold indexAddrY; simp only [hk, hj, someK]; exact ⟨h.1, hk'⟩⟩
  · rename_i n e k i hk
    obtain ⟨j, hj, h⟩ := someK_get h
    cases x <;> first
      | exact h.elim
      | exact ⟨_, h.2, fun K' hk' => by unfold indexAddrY; simp only [hk, hj, someK]; exact ⟨h.1, hk'⟩⟩
  · exact h.elim
theorem pick_indexY (S : Setup) (t : TypeId) (x ix : D) : Pick (indexY S t x ix) := by
  intro K h
  unfold indexY at h
  split at h
  · rename_i k i s hk
    exact ⟨_, h.2, fun K' hk' => by unfold indexY; simp only [hk]; exact ⟨h.1, hk'⟩⟩
  · exact h.elim
theorem pick_lenY (S : Setup) (t : TypeId) (x : D) : Pick (lenY S t x) := by
  intro K h
  unfold lenY at h
  split at h
  · rename_i hk; exact ⟨_, h, fun K' hk' => by unfold lenY; simp only [hk]; exact hk'⟩
  · rename_i hk; exact ⟨_, h, fun K' hk' => by unfold lenY; simp only [hk]; exact hk'⟩
  · rename_i hk; exact ⟨_, h, fun K' hk' => by unfold lenY; simp only [hk]; exact hk'⟩
  · exact h.elim
theorem pick_sliceY (S : Setup) (t : TypeId) (x : D) (lo hi mx : Option Int) : Pick (sliceY S t x lo hi mx) := by
  intro K h
  unfold sliceY at h
  split at h
  · rename_i e tk xs hk
    obtain ⟨j, hj, p1, p2, p3, hK⟩ := someK_get h
    exact ⟨_, hK, fun K' hk' => by unfold sliceY; simp only [hk, hj, someK]; exact ⟨p1, p2, p3, hk'⟩⟩
  · rename_i e id n hk
    exact ⟨_, h.2.2.2, fun K' hk' => by unfold sliceY; simp only [hk]; exact ⟨h.1, h.2.1, h.2.2.1, hk'⟩⟩
  · rename_i s hk
    exact ⟨_, h.2.2, fun K' hk' => by unfold sliceY; simp only [hk]; exact ⟨h.1, h.2.1, hk'⟩⟩
  · exact h.elim
theorem pick_buildY (S : Setup) (t : TypeId) (ps : List (Nat × D)) : Pick (buildY S t ps) := by
  refine pick_someK fun i hi => ?_
  intro K h
  split at h
  · obtain ⟨cs, h1, h2⟩ := someK_get h
    exact ⟨_, h2, fun K' hk' => by simp only [h1, someK]; exact hk'⟩
  · obtain ⟨j, hj, h1, h2⟩ := someK_get h
    exact ⟨_, h2, fun K' hk' => by simp only [hj, someK]; exact ⟨h1, hk'⟩⟩
  · exact h.elim
theorem pick_makeQ (S : Setup) (t : TypeId) (l c : D) : Pick (makeQ S t l c) := by
  intro K h
  unfold makeQ at h
  split at h
  · rename_i e k n k' m hk
    obtain ⟨j, hj, h⟩ := someK_get h
    obtain ⟨z, hz, h1, h2, h3, hK⟩ := someK_get h
    exact ⟨_, hK, fun K' hk' => by unfold makeQ; simp only [hk, hj, hz, someK]; exact ⟨h1, h2, h3, hk'⟩⟩
  · exact h.elim
theorem pick_buildSliceY (S : Setup) (t : TypeId) (n : Nat) (ps : List (Nat × D)) : Pick (buildSliceY S t n ps) := by
  intro K h
  unfold buildSliceY at h
  split at h
  · rename_i e hk
    obtain ⟨j, hj, p1, p2, p3, p4, hK⟩ := someK_get h
    exact ⟨_, hK, fun K' hk' => by unfold buildSliceY; simp only [hk, hj, someK]; exact ⟨p1, p2, p3, p4, hk'⟩⟩
  · exact h.elim
theorem pick_callY (S : Setup) (bx : Nat → Option (List D)) (f : D) (ds : List D) : Pick (callY S bx f ds) := by
  intro K h
  unfold callY at h ⊢
  split at h
  · obtain ⟨cx, d, h1, h2, h3, h4, h5⟩ := h
    exact ⟨d, h5, fun K' hk => ⟨cx, d, h1, h2, h3, h4, hk⟩⟩
  · exact h.elim

theorem pick_opY (S : Setup) (op : Op) (ρ : Operand → Option D) (bx : Nat → Option (List D)) : Pick (opY S op ρ bx) := by
  intro K h
  unfold opY at h
  split at h
  case h_1 x => exact pick_some _ K h
  case h_2 x => exact pick_some _ K h
  case h_3 c x y =>
    refine pick_someK (f := fun (d : D) (K : D → Prop) => match d with
      | .bool t => if t = true then someK (ρ x) K else someK (ρ y) K
      | _ => False) (fun d _ => ?_) K h
    cases d <;> first | exact pick_ite (pick_some _) (pick_some _) | exact pick_False
  case h_4 t x => exact pick_someK (fun d _ => pick_loadY S t bx d) K h
  case h_5 x =>
    refine pick_someK (f := fun (d : D) (K : D → Prop) => match d with
      | .box .. | .imm _ | .fn .. => K d
      | _ => False) (fun d _ => ?_) K h
    cases d <;> first | exact pick_K _ | exact pick_False
  case h_6 o t x y yt => exact pick_someK (fun (dx : D) _ => pick_someK fun (dy : D) _ => pick_binY S o t dx dy) K h
  case h_7 o t x => exact pick_someK (fun d _ => pick_unY o d) K h
  case h_8 src dst x => exact pick_and (fun _ => pick_someK fun d _ => pick_convY S dst d) K h
  case h_9 f first captured => exact pick_and (fun _ => pick_someK fun d _ => pick_K _) K h
  case h_10 t x f => exact pick_someK (fun d _ => pick_fieldAddrY S t f d) K h
  case h_11 t x f => exact pick_someK (fun d _ => pick_fieldY S t f d) K h
  case h_12 t x ix => exact pick_someK (fun d _ => pick_someK fun i _ => pick_indexAddrY S t d i) K h
  case h_13 t x ix => exact pick_someK (fun d _ => pick_someK fun i _ => pick_indexY S t d i) K h
  case h_14 t x lo hi mx => exact pick_someK (fun d _ => pick_someK fun l _ => pick_someK fun h _ => pick_someK fun m _ => pick_and fun _ => pick_sliceY S t d l h m) K h
  case h_15 t ps => exact pick_someK (fun l _ => pick_buildY S t l) K h
  case h_16 t n ps => exact pick_someK (fun l _ => pick_buildSliceY S t n l) K h
  case h_17 x i =>
    refine pick_someK (f := fun (d : D) (K : D → Prop) => match d with
      | .tup ds => someK ds[i]? K
      | _ => False) (fun d _ => ?_) K h
    cases d <;> first | exact pick_some _ | exact pick_False
  case h_18 args tys =>
    refine pick_someK (f := fun (ds : List D) (K : D → Prop) => match ds, tys.toList with
      | [d], [t] => lenY S t d K
      | _, _ => False) (fun ds _ => ?_) K h
    intro K h
    split at h
    · exact pick_lenY S _ _ K h
    · exact h.elim
  case h_19 args tys =>
    refine pick_someK (f := fun (ds : List D) (K : D → Prop) => match ds with
      | [x, y] => someK (minD x y) K
      | _ => False) (fun ds _ => ?_) K h
    intro K h
    split at h
    · exact pick_some _ K h
    · exact h.elim
  case h_20 args tys =>
    refine pick_someK (f := fun (ds : List D) (K : D → Prop) => match ds with
      | [x, y] => someK (maxD x y) K
      | _ => False) (fun ds _ => ?_) K h
    intro K h
    split at h
    · exact pick_some _ K h
    · exact h.elim
  case h_21 f args tys => exact pick_someK (fun df _ => pick_someK fun ds _ => pick_callY S bx df ds) K h
  case h_22 t l c => exact pick_someK (fun dl _ => pick_someK fun dc _ => pick_makeQ S t dl dc) K h
  case h_23 => exact h.elim

theorem mapO_congr {ρ ρ' : Operand → Option D} : ∀ {l : List Operand}, (∀ x ∈ l, ρ x = ρ' x) → mapO ρ l = mapO ρ' l
  | [], _ => rfl
  | x :: l, h => by simp only [mapO, h x List.mem_cons_self, mapO_congr fun y hy => h y (List.mem_cons_of_mem _ hy)]
theorem zipO_congr {ρ ρ' : Operand → Option D} : ∀ {l : List (Nat × Operand)}, (∀ p ∈ l, ρ p.2 = ρ' p.2) → zipO ρ l = zipO ρ' l
  | [], _ => rfl
  | (i, x) :: l, h => by simp only [zipO, h (i, x) List.mem_cons_self, zipO_congr fun y hy => h y (List.mem_cons_of_mem _ hy)]

theorem opY_congr {S : Setup} {op : Op} {ρ ρ' : Operand → Option D} {bx : Nat → Option (List D)} {K : D → Prop} (h : ∀ x ∈ op.operands, ρ x = ρ' x) (hy : opY S op ρ bx K) : opY S op ρ' bx K := by
  unfold opY at hy
  split at hy <;> simp only [Op.operands, Call.operands] at h <;> unfold opY <;> (try dsimp only)
  case h_9 f first captured =>
    rw [← mapO_congr (ρ := ρ) fun x hx => h x (by simp at hx ⊢; exact .inr hx)]
    exact hy
  case h_14 t x lo hi mx =>
    have e1 : ρ' x = ρ x := (h x (by simp)).symm
    have e2 : lo.bind ρ' = lo.bind ρ := by cases lo with | none => rfl | some y => exact (h y (by simp)).symm
    have e3 : hi.bind ρ' = hi.bind ρ := by cases hi with | none => rfl | some y => exact (h y (by simp)).symm
    have e4 : mx.bind ρ' = mx.bind ρ := by cases mx with | none => rfl | some y => exact (h y (by simp)).symm
    rw [e1, e2, e3, e4]
    exact hy
  case h_15 t ps =>
    rw [← zipO_congr (ρ := ρ) fun p hp => h p.2 (by simp; exact ⟨p.1, by simpa using hp⟩)]
    exact hy
  case h_16 t n ps =>
    rw [← zipO_congr (ρ := ρ) fun p hp => h p.2 (by simp; exact ⟨p.1, by simpa using hp⟩)]
    exact hy
  case h_18 args tys =>
    rw [← mapO_congr (ρ := ρ) fun x hx => h x (by simp at hx ⊢; exact hx)]
    exact hy
  case h_19 args tys =>
    rw [← mapO_congr (ρ := ρ) fun x hx => h x (by simp at hx ⊢; exact hx)]
    exact hy
  case h_20 args tys =>
    rw [← mapO_congr (ρ := ρ) fun x hx => h x (by simp at hx ⊢; exact hx)]
    exact hy
  case h_21 f args tys =>
    rw [← mapO_congr (ρ := ρ) fun x hx => h x (by simp at hx ⊢; exact .inr hx), ← h f (by simp)]
    exact hy
  case h_23 => exact hy.elim
  all_goals (simp_all; done)

end Go.Lg
