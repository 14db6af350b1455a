/-
  Lg, part 14: the operations of a region, one behind the other, up to the next call.
-/
import Derived.Test.YtenjmepbaajkjaaLgSeq
namespace Go.Lg
open Go Go.RowKit

/-- The operations 'l' of the region 'ops', from the state L on, come to a state of K. -/
def LopsW (S : Setup) (B : Base) (ops : Array Oper) (l : List Oper) (L : LS) (K : LS → Prop) : Prop :=
  ∀ G a w, Sim B L G a w → ∀ Q : Exit → Act → World → Prop, (∀ L' G' a' w', K L' → Sim B L' G' a' w' → Q .normal a' w') → wpList S.P ops Q l a w

theorem LopsW.nil {S : Setup} {B : Base} {ops : Array Oper} {L : LS} {K : LS → Prop} (h : K L) : LopsW S B ops [] L K := fun G a w hs _ hQ => wpList_nil (hQ L G a w h hs)

/-- Is the operation wanted? (no guard; a guard whose test is known) -/
def guardY (ops : Array Oper) (L : LS) (g : Option (Nat × Bool)) : Option Bool := match g with
  | none => some true
  | some (j, want) => match (ops[j]?).bind (·.dst) with
    | none => none
    | some t => match L.get t with
      | some (.bool b) => some (b == want)
      | some (.raw (.tuple _)) => some false
      | _ => none

theorem guardY_sound {S : Setup} {B : Base} {ops : Array Oper} {L : LS} {G : Ghost} {a : Act} {w : World} (_S : S = S) (hs : Sim B L G a w) {o : Oper} {b : Bool} (h : guardY ops L o.guard = some b) : Region.wanted o (yielded ops a.tmps) = b := by
  unfold guardY at h
  unfold Region.wanted
  cases hg : o.guard with
  | none => rw [hg] at h; simp only [Option.some.injEq] at h; exact h
  | some p =>
    obtain ⟨j, want⟩ := p
    rw [hg] at h
    simp only at h
    split at h
    · cases h
    · rename_i t ht
      split at h
      · rename_i x hx
        obtain rfl := Option.some.inj h
        obtain ⟨v, h1, h2⟩ := hs.env t _ hx
        cases h2
        simp [yielded, ht, h1]
      · rename_i vs hx
        obtain rfl := Option.some.inj h
        obtain ⟨v, h1, h2⟩ := hs.env t _ hx
        cases h2
        simp [yielded, ht, h1]
      · cases h

theorem LopsW.step {S : Setup} {base : Nat} {B : Base} {ops : Array Oper} {o : Oper} {l : List Oper} {L : LS} {K : LS → Prop} (hg : guardY ops L o.guard = some true) (h : stepY S base o L fun L' => LopsW S B ops l L' K) : LopsW S B ops (o :: l) L K := by
  intro G a w hs Q hQ
  refine wpList_step fun N hN => ?_
  rw [if_pos (guardY_sound (S := S) rfl hs hg)]
  exact Oper.wp_mono (fun a' w' ⟨G', L', h1, h2⟩ => hN a' w' (h1 G' a' w' h2 Q hQ)) (stepY_sound hs h Q)

theorem LopsW.skip {S : Setup} {B : Base} {ops : Array Oper} {o : Oper} {l : List Oper} {L : LS} {K : LS → Prop} (hg : guardY ops L o.guard = some false) (hd : dstOk o.dst L) (h : LopsW S B ops l (L.putO o.dst (.raw undef)) K) : LopsW S B ops (o :: l) L K := by
  intro G a w hs Q hQ
  refine wpList_skip (guardY_sound (S := S) rfl hs hg) (h G _ w (hs.putO (fun t ht => ?_) (.raw (by intro cs h; cases h))) Q hQ)
  rw [ht] at hd
  exact hd

theorem put_same {B : Base} {L : LS} {G : Ghost} {a : Act} {w : World} (hs : Sim B L G a w) {t : Nat} {d d' : D} (h : L.get t = some d) (he : d = d') : Sim B (L.put t d') G a w := by
  subst he
  refine ⟨hs.defers, hs.size, fun t' d0 hd => ?_, hs.W, hs.fixed⟩
  simp only [LS.put, look_setA] at hd
  by_cases e : t = t'
  · subst e
    simp only [if_true, Option.some.injEq] at hd
    subst hd
    exact hs.env t _ h
  · rw [if_neg e] at hd
    exact hs.env t' d0 hd

/-- A test that is not known: two ways. -/
theorem LopsW.split {S : Setup} {B : Base} {ops : Array Oper} {l : List Oper} {L : LS} {K : LS → Prop} (t : Nat) {b : Bool} (ht : L.get t = some (.bool b)) (h1 : b = true → LopsW S B ops l (L.put t (.bool true)) K) (h0 : b = false → LopsW S B ops l (L.put t (.bool false)) K) : LopsW S B ops l L K := by
  intro G a w hs Q hQ
  cases hb : b with
  | true => exact h1 hb G a w (put_same hs ht (by rw [hb])) Q hQ
  | false => exact h0 hb G a w (put_same hs ht (by rw [hb])) Q hQ

/-- Any state that is known to be weaker. -/
theorem LopsW.weak {S : Setup} {B : Base} {ops : Array Oper} {l : List Oper} {L L' : LS} {K : LS → Prop} (hc : L.covers L') (h : LopsW S B ops l L' K) : LopsW S B ops l L K := fun G a w hs => h G a w (hs.less hc)

/-- A quiet call. -/
theorem LopsW.call {S : Setup} {B : Base} {ops : Array Oper} {l : List Oper} {L : LS} {K : LS → Prop} {dst : Option Nat} {f : Operand} {args : Array Operand} {tys : Array TypeId} {ty : TypeId} {pos : String} {aft : Array Edge} {g : Option (Nat × Bool)}
    (hg : guardY ops L g = some true) {fid : Nat} {cap ds : List D} {ro : List (Nat × List D)} {d : D} (hf : evalO L f = some (.fn fid cap)) (hds : mapO (evalO L) args.toList = some ds) (fc : FC S fid ro [] [] (ds ++ cap) d [] [])
    (hside : (∀ p ∈ ro, L.getBox p.1 = some p.2) ∧ d.ids = [] ∧ d.tks = [] ∧ dstOk dst L) (h : LopsW S B ops l (L.putO dst d) K) : LopsW S B ops (⟨dst, .call ⟨.value f, args, tys⟩, ty, pos, aft, g⟩ :: l) L K := by
  refine LopsW.step (base := 0) hg ?_
  show opY S (.call ⟨.value f, args, tys⟩) (evalO L) L.getBox _
  unfold opY
  simp only [hf, hds, someK]
  exact ⟨ro, d, fc, hside.1, hside.2.1, hside.2.2.1, hside.2.2.2, h⟩

/-- A call that is handed boxes and tokens. -/
theorem LopsW.callB {S : Setup} {B : Base} {ops : Array Oper} {l : List Oper} {L : LS} {K : LS → Prop} {t : Nat} {f : Operand} {args : Array Operand} {tys : Array TypeId} {ty : TypeId} {pos : String} {aft : Array Edge} {g : Option (Nat × Bool)}
    (hg : guardY ops L g = some true) {fid : Nat} {cap ds : List D} {ro cx cx' : List (Nat × List D)} {tk0 tk' : List Nat} {d : D} (hf : evalO L f = some (.fn fid cap)) (hds : mapO (evalO L) args.toList = some ds) (fc : FC S fid ro cx tk0 (ds ++ cap) d cx' tk')
    (hside : (t < L.n ∧ (∀ p ∈ ro, L.getBox p.1 = some p.2 ∧ p.1 ∉ cx.map (·.1)) ∧ (∀ p ∈ cx, look L.boxes p.1 = some p.2) ∧ (∀ k ∈ tk0, k ∈ L.toks) ∧ (∀ p ∈ cx', p.1 ∈ cx.map (·.1))) ∧ ((∀ i ∈ d.ids, i ∈ cx.map (·.1)) ∧ (∀ p ∈ cx', ∀ i ∈ D.idsL p.2, i ∈ cx.map (·.1)) ∧
      (∀ k ∈ d.tks, k ∈ tk') ∧ (∀ p ∈ cx', ∀ k ∈ D.tksL p.2, k ∈ tk') ∧ (∀ k ∈ tk', k < 1000)) ∧ L.clean (inTok (1000 * (t + 1))) = true)
    (h : LopsW S B ops l ((L.after (1000 * (t + 1)) cx tk0 cx' tk').put t (d.shT (1000 * (t + 1)))) K) : LopsW S B ops (⟨some t, .call ⟨.value f, args, tys⟩, ty, pos, aft, g⟩ :: l) L K := by
  intro G a w hs Q hQ
  obtain ⟨⟨s1, s2, s3, s4, s5⟩, ⟨s6, s7, s8, s9, s10⟩, s11⟩ := hside
  refine wpList_step fun N hN => ?_
  rw [if_pos (guardY_sound (S := S) rfl hs (o := ⟨some t, .call ⟨.value f, args, tys⟩, ty, pos, aft, g⟩) hg)]
  obtain ⟨e1, e2⟩ := mapO_sound hs hds
  have hv := eval_sound hs hf
  generalize hu : a.eval f = u at hv
  cases hv with
  | @fn _ _ vl hl hr =>
  have hrun : (execOp a.eval ⟨some t, .call ⟨.value f, args, tys⟩, ty, pos, aft, g⟩).run S.P w = .ok (.enter fid (args.map a.eval ++ vl.toArray)) w := by
    simp [execOp, resolve, hu, Deferred.ofValue, invoke, enter_run fc.1]
  unfold Oper.wp
  rw [hrun, Oper.upon_enter]
  refine (call_sound hs (vals := args.map a.eval ++ vl.toArray) (1000 * (t + 1)) ?_ ?_ s2 s3 s4 fc s5 s6 s7 s8 s9 s10 s11).mono ?_
  · simp at e1
    simp [e1, hl]
  · intro j d v hd hv
    have hsz : (args.map a.eval).size = ds.length := by simp at e1; simp [e1]
    by_cases hj : j < ds.length
    · rw [List.getElem?_append_left hj] at hd
      rw [Array.getElem?_append_left (by omega)] at hv
      exact e2 j d v hd (by simpa using hv)
    · rw [List.getElem?_append_right (by omega)] at hd
      rw [Array.getElem?_append_right (by omega), hsz] at hv
      exact hr _ d v hd (by simpa using hv)
  · rintro e w' ⟨v, G', rfl, h1, h2⟩
    exact hN _ _ (h G' _ w' (h1.put s1 h2) Q hQ)

/-- What is done up to the next call, by reckoning: 'K' is handed what is left. -/
def runL (S : Setup) (base : Nat) (ops : Array Oper) (K : List Oper → LS → Prop) : List Oper → LS → Prop
  | [], L => K [] L
  | ⟨dst, op, ty, pos, aft, g⟩ :: l, L => match op with
    | .call ⟨.value f, args, tys⟩ => K (⟨dst, .call ⟨.value f, args, tys⟩, ty, pos, aft, g⟩ :: l) L
    | op => match guardY ops L g with
      | some true => stepY S base ⟨dst, op, ty, pos, aft, g⟩ L (runL S base ops K l)
      | some false => dstOk dst L ∧ runL S base ops K l (L.putO dst (.raw undef))
      | none => K (⟨dst, op, ty, pos, aft, g⟩ :: l) L

theorem stepY_mono {S : Setup} {base : Nat} {B : Base} {o : Oper} {ops : Array Oper} {l : List Oper} {L : LS} {N : LS → Prop} {K : LS → Prop} (h : stepY S base o L N) (hN : ∀ L', N L' → LopsW S B ops l L' K) : ∀ G a w, Sim B L G a w → ∀ Q : Exit → Act → World → Prop, (∀ L' G' a' w', K L' → Sim B L' G' a' w' → Q .normal a' w') →
    o.wp S.P a w (wpList S.P ops Q l) Q := fun _ _ _ hs Q hQ => Oper.wp_mono (fun a' w' ⟨G', L', h1, h2⟩ => hN L' h1 G' a' w' h2 Q hQ) (stepY_sound hs h Q)

theorem runL_sound {S : Setup} {base : Nat} {B : Base} {ops : Array Oper} {K : LS → Prop} {K' : List Oper → LS → Prop} (hK : ∀ l L, K' l L → LopsW S B ops l L K) : ∀ (l : List Oper) (L : LS), runL S base ops K' l L → LopsW S B ops l L K
  | [], L, h => hK [] L h
  | ⟨dst, op, ty, pos, aft, g⟩ :: l, L, h => by
    unfold runL at h
    split at h
    · exact hK _ L h
    · split at h
      · rename_i hg
        intro G a w hs Q hQ
        refine wpList_step fun N hN => ?_
        rw [if_pos (guardY_sound (S := S) rfl hs (o := ⟨dst, op, ty, pos, aft, g⟩) hg)]
        exact Oper.wp_mono (fun a' w' h' => hN a' w' h') (stepY_mono h (fun L' h' => runL_sound hK l L' h') G a w hs Q hQ)
      · rename_i hg
        exact LopsW.skip (o := ⟨dst, op, ty, pos, aft, g⟩) hg h.1 (runL_sound hK l _ h.2)
      · exact hK _ L h

end Go.Lg
