/-
  A region whose third operation makes a list that is only read.
-/
import Derived.Test.YtgbcnhbmfjkhmaaA23i
namespace Go.Lg
open Go
theorem LopsW.stepO {S : Setup} {B : Base} {ops : Array Oper} {o : Oper} {l : List Oper} {L : LS} {K : LS → Prop} (hg : guardY ops L o.guard = some true) (h : opY S o.op (evalO L) L.getBox fun d => dstOk o.dst L ∧ LopsW S B ops l (L.putO o.dst d) K) : LopsW S B ops (o :: l) L K := by
  intro G a w hs Q hQ
  refine wpList_step fun N hN => ?_
  rw [if_pos (guardY_sound (S := S) rfl hs hg)]
  obtain ⟨d, ⟨hd, hK⟩, hy⟩ := opY_sound hs h
  exact hy _ _ fun v G' w' h1 h2 _ => hN _ w' (hK G' _ w' (h1.putO (fun t' e => by subst_vars; rw [e] at hd; exact hd) h2) Q hQ)
theorem sw_freezeMk {S : Setup} {B : Base} {R : LS → Prop} {k : List VItem} {L : LS} (rid t s : Nat) (tk : Tk) {id n : Nat} {cs : List D} (xs : List D) {ops : Array Oper} {dr : Bool} (ht : look L.env t = some (.ms id n)) (hb : look L.boxes id = some cs) (hx : cs = flat xs) (hn : n = xs.length)
    (hu : ∀ x ∈ xs, x.cells.length = s) (hk : ∀ d ∈ cs, d.memOk = true) (htk : tk = .any ∨ tk = .nn) (hh : SW S B R (.code (.region rid ops dr) :: k) { L with env := setA L.env t (.sl tk xs), boxes := eraseK id L.boxes }) : SW S B R (.code (.region rid ops dr) :: k) L :=
  sw_freeze t s tk xs ht hb hx hn hu hk htk hh
theorem pu_intsK (f : Nat → Bool) (ys : List Int) : (ys.map (D.int .i64)).map (D.pu1 f) = ys.map (.int .i64) := by
  rw [List.map_map]; rfl
theorem tksL_intsK (ys : List Int) : D.tksL (ys.map (D.int .i64)) = [] := by
  induction ys with
  | nil => rfl
  | cons y r ih => simp only [List.map_cons, D.tksL, ih]; rfl
theorem idsL_intsK (ys : List Int) : D.idsL (ys.map (D.int .i64)) = [] := by
  induction ys with
  | nil => rfl
  | cons y r ih => simp only [List.map_cons, D.idsL, ih]; rfl
theorem sw_opY3 {S : Setup} {B : Base} {R : LS → Prop} {k : List VItem} {L : LS} (base : Nat) (kp : List (Nat × List Nat)) {rid : Nat} {o1 o2 o3 : Oper} {rest : List Oper} (g1 : o1.guard = none) (g2 : o2.guard = none) (g3 : o3.guard = none)
    (h : opY S o1.op (evalO L) L.getBox fun d1 => dstOk o1.dst L ∧ opY S o2.op (evalO (L.putO o1.dst d1)) (L.putO o1.dst d1).getBox fun d2 => dstOk o2.dst (L.putO o1.dst d1) ∧
      opY S o3.op (evalO ((L.putO o1.dst d1).putO o2.dst d2)) ((L.putO o1.dst d1).putO o2.dst d2).getBox fun d3 => dstOk o3.dst ((L.putO o1.dst d1).putO o2.dst d2) ∧
      ∀ K : List Oper → LS → Prop, KOk S base B (o1 :: o2 :: o3 :: rest).toArray (fun L' => SW S B R k (L'.keepAt kp rid)) K → runL S base (o1 :: o2 :: o3 :: rest).toArray K rest (((L.putO o1.dst d1).putO o2.dst d2).putO o3.dst d3)) :
    SW S B R (.code (.region rid (o1 :: o2 :: o3 :: rest).toArray false) :: k) L := by
  obtain ⟨d1, ⟨e1, h⟩, p1⟩ := pick_opY S o1.op _ _ _ h
  obtain ⟨d2, ⟨e2, h⟩, p2⟩ := pick_opY S o2.op _ _ _ h
  obtain ⟨d3, ⟨e3, h⟩, p3⟩ := pick_opY S o3.op _ _ _ h
  have hs : ∀ l' L', runL S base (o1 :: o2 :: o3 :: rest).toArray (fun l' L' => LopsW S B (o1 :: o2 :: o3 :: rest).toArray l' L' (fun L2 => SW S B R k L2)) l' L' → LopsW S B (o1 :: o2 :: o3 :: rest).toArray l' L' (fun L2 => SW S B R k L2) :=
    runL_sound (base := base) (K' := fun l' L' => LopsW S B (o1 :: o2 :: o3 :: rest).toArray l' L' (fun L2 => SW S B R k L2)) (fun _ _ h => h)
  refine sw_region (LopsW.stepO (by rw [g1]; rfl) (p1 _ ⟨e1, LopsW.stepO (by rw [g2]; rfl) (p2 _ ⟨e2, LopsW.stepO (by rw [g3]; rfl) (p3 _ ⟨e3, hs _ _ (h _ ?_)⟩)⟩)⟩))
  exact {
    nil := fun h => LopsW.nil (sw_keepAt kp rid h)
    weak := fun hc h => LopsW.weak hc (hs _ _ h)
    split := fun t _ ht h1 h0 => LopsW.split t ht (fun e => hs _ _ (h1 e)) (fun e => hs _ _ (h0 e))
    skip := fun hg hd h => LopsW.skip hg hd (hs _ _ h)
    call := fun hg _ _ _ _ _ hf hds fc hside h => LopsW.call hg hf hds fc hside (hs _ _ h)
    callB := fun hg _ _ _ _ _ _ _ _ _ hf hds fc hside h => LopsW.callB hg hf hds fc hside (hs _ _ h)
    callT := fun hg _ _ _ _ _ _ _ hf hds fc hside h => LopsW.callTi hg (base + _) hf hds fc hside (hs _ _ h)
    callM := fun hg _ _ _ _ _ _ _ hf hds fc hside h => LopsW.callM hg (base + _) hf hds fc hside (hs _ _ h) }
end Go.Lg
