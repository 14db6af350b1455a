/-
  Lg: LgOld, LgStoreO, LgXL, LgFrzB, one behind the other.
-/
import Derived.Test.YtldlochhiiogbaaLgK11
/-
  Lg: a function that is handed no memory: all that it is handed may be taken as labelled, so that its own new lists are seen to lie elsewhere.
-/
namespace Go.Lg
open Go Go.RowKit
end Go.Lg
/-
  Lg: a store into an own list of numbers, of which the token stays: what is kept of the state must be seen not to read that list.
-/
namespace Go.Lg
open Go Go.RowKit
end Go.Lg
/-
  Lg: a drawn region that makes memory, parted where the driver can't go on.
-/
namespace Go.Lg
open Go Go.RowKit
theorem lexX_app {S : Setup} {ops : Array Oper} {bx : Nat → Option (List D)} {n : Nat} {Q : EnvX → Prop} {l2 : List Oper} : ∀ (l1 : List Oper) (E : EnvX), lexX S ops bx n (lexX S ops bx n Q l2) l1 E → lexX S ops bx n Q (l1 ++ l2) E
  | [], _, h => h
  | _ :: l1, _, ⟨p, h1, h2⟩ => ⟨p, h1, lexX_app l1 _ h2⟩
theorem lexX_mono {S : Setup} {ops : Array Oper} {bx : Nat → Option (List D)} {n : Nat} {Q Q' : EnvX → Prop} (hQ : ∀ E, Q E → Q' E) : ∀ (l : List Oper) (E : EnvX), lexX S ops bx n Q l E → lexX S ops bx n Q' l E
  | [], E, h => hQ E h
  | _ :: l, _, ⟨p, h1, h2⟩ => ⟨p, h1, lexX_mono hQ l _ h2⟩
/-- what is left of a drawn region is walked by the driver -/
theorem LexX.go {S : Setup} {ops : Array Oper} {L0 : LS} {N : List (Nat × Fact) → LS → Prop} {F : List (Nat × Fact)} {l : List Oper} {L : LS} (h : ∀ Kq : List (Nat × Fact) → List Oper → LS → Prop, XOk S ops N Kq → runQ S ops (Kq F) l L) : LexX S ops L0 N F l L := by
  have hq : ∀ F l' L', runQ S ops (LexX S ops L0 N F) l' L' → LexX S ops L0 N F l' L' := fun F =>
    runQ_soundX (K' := LexX S ops L0 N) (fun _ _ _ h => h)
  refine hq _ _ _ (h (LexX S ops L0 N) ?_)
  exact {
    nil := fun h => LexX.nil h
    split := fun t _ ht h1 h0 => LexX.split t ht (fun e => hq _ _ _ (h1 e)) (fun e => hq _ _ _ (h0 e))
    skip := fun hg hd h => LexX.skip rfl hg hd (hq _ _ _ h)
    store := fun hF0 hx hi hside h => LexX.store hF0 hx hi hside (hq _ _ _ h)
    call := fun hg _ _ _ _ _ hf hds fc hside h => LexX.call hg hf hds fc hside (hq _ _ _ h)
    own := by
      intro k F l' L' t f args tys ty pos aft g hg fid cap ds xs ro e z hf hds fc hside h
      exact LexX.own k hg hf hds fc hside (hq _ _ _ h)
    alloc := fun hg hi hside h => LexX.alloc hg hi hside (hq _ _ _ h) }
/-- .. up to the q-th operation. -/
theorem LexX.part (q : Nat) {S : Setup} {ops : Array Oper} {L0 : LS} {N : List (Nat × Fact) → LS → Prop} {l : List Oper} {L : LS}
    (h : ∀ Kq : List (Nat × Fact) → List Oper → LS → Prop, XOk S ops (fun F L' => (F.all fun p => apartF p.1 (l.drop q)) = true ∧ LexX S ops L0 N F (l.drop q) L') Kq → runQ S ops (Kq []) (l.take q) L) : LexX S ops L0 N [] l L := by
  have h1 := LexX.go (L0 := L0) h
  intro hL hF
  have h2 := h1 hL (fun t f hf => by simp [look] at hf)
  have h3 := lexX_app (l2 := l.drop q) (Q := fun E => ∃ F' L', E = pairX L' F' ∧ sameX L' L0 ∧ freeF F' [] L' ∧ N F' L') _ _ (lexX_mono (fun E ⟨F', L', e, hs, hf, ha, hN⟩ => by
    subst e
    refine hN hs fun t f ht => ⟨(hf t f ht).1, fun o ho => ?_⟩
    have := List.all_eq_true.1 (List.all_eq_true.1 ha _ (mem_of_look ht)) o ho
    simpa using this) _ _ h2)
  rwa [List.take_append_drop] at h3
end Go.Lg
/-
  Lg: what was made by 'make', filled, and lies in a cell of a variable in memory, is taken for a list from now on.
-/
namespace Go.Lg
open Go Go.RowKit
end Go.Lg
