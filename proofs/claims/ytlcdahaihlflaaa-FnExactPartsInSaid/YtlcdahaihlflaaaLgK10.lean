/-
  Lg: LgIface, LgAny, one behind the other.
-/
import Derived.Test.YtlcdahaihlflaaaLgK7
/-
  Lg: a region with one operation of a kind of its own; values in interfaces.
-/
namespace Go.Lg
open Go Go.RowKit
theorem kok_app {S : Setup} {base : Nat} {B : Base} {ops : Array Oper} {l2 : List Oper} {N M : LS → Prop} (hfin : ∀ L, N L → LopsW S B ops l2 L M) : KOk S base B ops N (fun l' L' => LopsW S B ops (l' ++ l2) L' M) := by
 have hs : ∀ l' L', runL S base ops (fun l' L' => LopsW S B ops (l' ++ l2) L' M) l' L' → LopsW S B ops (l' ++ l2) L' M :=
  runL_sound2 (base := base) (K' := fun l' L' => LopsW S B ops (l' ++ l2) L' M) (fun _ _ h => h)
 exact {
  nil := fun h => hfin _ h
  raw := fun h => h.app fun L' h' => hfin L' h'
  weak := fun hc h => LopsW.weak hc (hs _ _ h)
  split := fun t _ ht h1 h0 => LopsW.split t ht (fun e => hs _ _ (h1 e)) (fun e => hs _ _ (h0 e))
  skip := fun hg hd h => LopsW.skip hg hd (hs _ _ h)
  call := fun hg _ _ _ _ _ hf hds fc hside h => LopsW.call hg hf hds fc hside (hs _ _ h)
  callB := fun hg _ _ _ _ _ _ _ _ _ hf hds fc hside h => LopsW.callB hg hf hds fc hside (hs _ _ h)
  callT := fun hg _ _ _ _ _ _ _ hf hds fc hside h => LopsW.callTi hg (base + _) hf hds fc hside (hs _ _ h) }
theorem sw_goAt {S : Setup} {B : Base} {R : LS → Prop} {k : List VItem} {L : LS} (base : Nat) (kp : List (Nat × List Nat)) (m : Nat) {id : Nat} {l : List Oper} {o : Oper} (ho : l[m]? = some o)
  (h : ∀ K : List Oper → LS → Prop, KOk S base B l.toArray (fun L1 => LopsW S B l.toArray [o] L1 fun L2 => ∀ K : List Oper → LS → Prop, KOk S base B l.toArray (fun L3 => SW S B R k (L3.keepAt kp id)) K → runL S base l.toArray K (l.drop (m + 1)) L2) K → runL S base l.toArray K (l.take m) L) : SW S B R (.code (.region id l.toArray false) :: k) L := by
 have hm : m < l.length := (List.getElem?_eq_some_iff.1 ho).1
 have hl : l = l.take m ++ ([o] ++ l.drop (m + 1)) := by
  have : l[m] = o := (List.getElem?_eq_some_iff.1 ho).2
  rw [← this]
  simp
 have h3 : ∀ L2, (∀ K : List Oper → LS → Prop, KOk S base B l.toArray (fun L3 => SW S B R k (L3.keepAt kp id)) K → runL S base l.toArray K (l.drop (m + 1)) L2) → LopsW S B l.toArray (l.drop (m + 1)) L2 (fun L' => SW S B R k L') := fun L2 h2 => by
  have := runL_sound2 (base := base) (l2 := []) (K' := fun l' L' => LopsW S B l.toArray (l' ++ []) L' (fun L' => SW S B R k L')) (fun _ _ h => h) _ _ (h2 _ (kok_app fun L3 h3 => LopsW.nil (sw_keepAt kp id h3)))
  rwa [List.append_nil] at this
 have h4 := runL_sound2 (base := base) (l2 := [o] ++ l.drop (m + 1)) (K' := fun l' L' => LopsW S B l.toArray (l' ++ ([o] ++ l.drop (m + 1))) L' (fun L' => SW S B R k L')) (fun _ _ h => h) _ _ (h _ (kok_app fun L1 h1 => LopsW.app h1 h3))
 rw [← hl] at h4
 exact sw_region h4
def ifI (T : TypeId) (d : D) : Ghost → World → Value → Prop := fun G w v => ∃ u, v = .iface T u ∧ Rel G w d u
def D.ifc (T : TypeId) (d : D) : D := .pred (ifI T d)
theorem LopsW.mkIface {S : Setup} {B : Base} {ops : Array Oper} {l : List Oper} {L : LS} {K : LS → Prop} {t : Nat} {T : TypeId} {x : Operand} {ty : TypeId} {pos : String} {aft : Array Edge} {d : D}
  (hrun : ∀ v w, (Instr.makeInterface T v).run S.P w = .ok (.iface T v) w) (hx : evalO L x = some d) (hi : d.ids = []) (hk : d.tks = []) (ht : t < L.n)
  (h : LopsW S B ops l (L.put t (D.ifc T d)) K) : LopsW S B ops (⟨some t, .makeInterface T x, ty, pos, aft, none⟩ :: l) L K := by
 intro G a w hs Q hQ
 refine wpList_step fun N hN => ?_
 rw [if_pos (guardY_sound (S := S) (b := true) rfl hs rfl)]
 have hv := eval_sound hs hx
 unfold Oper.wp
 have hop : (execOp a.eval ⟨some t, .makeInterface T x, ty, pos, aft, none⟩).run S.P w = .ok (.value (.iface T (a.eval x))) w := by
  simp [execOp, hrun]
 rw [hop]
 refine hN _ _ (h _ _ _ (hs.putO (t := some t) (fun t' ht' => by obtain rfl := Option.some.inj ht'; exact ht) ?_) Q hQ)
 exact .pred (fun cs e => by cases e) fun G' w' hm => ⟨_, rfl, hv.mono hm (by rw [hi]; simp) (by rw [hk]; simp)⟩
end Go.Lg
/-
  Lg: a region that draws its order, all orders one by one: plain moves first, then every operation that may be the next; all orders end in one state.
-/
namespace Go.Lg
open Go Go.RowKit
theorem lops_go {S : Setup} {B : Base} {ops : Array Oper} {l : List Oper} {L : LS} {N : LS → Prop} (base : Nat) (h : ∀ K : List Oper → LS → Prop, KOk S base B ops N K → runL S base ops K l L) : LopsW S B ops l L N := by
 have := runL_sound2 (base := base) (l2 := []) (K' := fun l' L' => LopsW S B ops (l' ++ []) L' N) (fun _ _ h => h) _ _ (h _ (kok_app fun L3 h3 => LopsW.nil h3))
 rwa [List.append_nil] at this
end Go.Lg
