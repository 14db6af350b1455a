/-
  Lg: LgIface, LgAny, one behind the other.
-/
import Derived.Test.YtlcdahaihlflaaaLgK7
/-
  Lg: a region with one operation of a kind of its own; values in interfaces.
-/
namespace Go.Lg
open Go Go.RowKit
theorem kok_app {S : Setup} {base : Nat} {B : Base} {ops : Array Oper} {l2 : List Oper} {N M : LS → Prop} (hfin : ∀ L, N L → LopsW S B ops l2 L M) : KOk S base B ops N (fun l' L' => LopsW S B ops (l' ++ l2) L' M) := by
  have hs : ∀ l' L', runL S base ops (fun l' L' => LopsW S B ops (l' ++ l2) L' M) l' L' → LopsW S B ops (l' ++ l2) L' M :=
    runL_sound2 (base := base) (K' := fun l' L' => LopsW S B ops (l' ++ l2) L' M) (fun _ _ h => h)
  exact {
    nil := fun h => hfin _ h
    raw := fun h => h.app fun L' h' => hfin L' h'
    weak := fun hc h => LopsW.weak hc (hs _ _ h)
    split := fun t _ ht h1 h0 => LopsW.split t ht (fun e => hs _ _ (h1 e)) (fun e => hs _ _ (h0 e))
    skip := fun hg hd h => LopsW.skip hg hd (hs _ _ h)
    call := fun hg _ _ _ _ _ hf hds fc hside h => LopsW.call hg hf hds fc hside (hs _ _ h)
    callV := fun hg _ _ _ _ _ hf hds fc hside h => LopsW.callV hg hf hds fc hside (hs _ _ h)
    callB := fun hg _ _ _ _ _ _ _ _ _ hf hds fc hside h => LopsW.callB hg hf hds fc hside (hs _ _ h)
    callT := fun hg _ _ _ _ _ _ _ hf hds fc hside h => LopsW.callTi hg (base + _) hf hds fc hside (hs _ _ h)
    callM := fun hg _ _ _ _ _ _ _ hf hds fc hside h => LopsW.callM hg (base + _) hf hds fc hside (hs _ _ h) }
/-- a value in an interface -/
def ifI (T : TypeId) (d : D) : Ghost → World → Value → Prop := fun G w v => ∃ u, v = .iface T u ∧ Rel G w d u
def D.ifc (T : TypeId) (d : D) : D := .pred (ifI T d)
end Go.Lg
/-
  Lg: a region that draws its order, all orders one by one: plain moves first, then every operation that may be the next; all orders end in one state.
-/
namespace Go.Lg
open Go Go.RowKit
/-- operations in their order, as the driver walks them -/
theorem lops_go {S : Setup} {B : Base} {ops : Array Oper} {l : List Oper} {L : LS} {N : LS → Prop} (base : Nat) (h : ∀ K : List Oper → LS → Prop, KOk S base B ops N K → runL S base ops K l L) : LopsW S B ops l L N := by
  have := runL_sound2 (base := base) (l2 := []) (K' := fun l' L' => LopsW S B ops (l' ++ []) L' N) (fun _ _ h => h) _ _ (h _ (kok_app fun L3 h3 => LopsW.nil h3))
  rwa [List.append_nil] at this
/-! The equations by which a node is reckoned: not by 'rfl' (the kernel would reckon the whole node at once). -/
end Go.Lg
