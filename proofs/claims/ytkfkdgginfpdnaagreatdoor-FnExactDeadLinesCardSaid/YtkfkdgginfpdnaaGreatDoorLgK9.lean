/-
  Lg: LgSortD, one behind the other.
-/
import Derived.Test.YtkfkdgginfpdnaaGreatDoorLgK8
import Derived.Shelf.SlSortCmp.NoneTotal
/-
  Lg: the kit's slices.SortFunc, where it is laid.
-/
namespace Go.Lg
open Go Go.RowKit Go.Proofs Go.Shelf Go.Lib Go.Sort
theorem swo_of {α:Type} {cf:α→α→Int} (h:(∀x,¬cf x x<0)∧(∀x y z,cf x y<0→cf y z<0→cf x z<0)∧(∀x y z,¬cf x y<0→¬cf y z<0→¬cf x z<0)):SWO (ltOf cf) where
 irrefl x:=by simpa[ltOf] using h.1 x
 trans x y z h1 h2:=by simp only[ltOf,decide_eq_true_eq] at *;exact h.2.1 x y z h1 h2
 ntrans x y z h1 h2:=by simp only[ltOf,decide_eq_false_iff_not] at *;exact h.2.2 x y z h1 h2
theorem sortKit_of {P:Program} {ρ:Ren} (L:SlLaysF.n6 P ρ) {g:FuncId} (hg:Enters P g):SortKit P (ρ.f 6) g where
 kit:=fun enc h1 cf _ hO blk cap d w hcmp hH hb hs =>
  (Any.slices_SortFunc L enc h1 cf (swo_of hO) g #[] blk 0 cap d w (fun args w=>enter_run hg args w) hcmp hH hb hs).mono fun e w' ⟨h1,d',n,os,h2,h3,h4⟩ =>
   ⟨h1,d',n,os,h2,fun i j hij hj=>by have:=h3 i j (Nat.zero_le _) hij hj;simpa[ltOf] using this,h4⟩
 none:=fun p cap w=>AnyF.slices_SortFunc_none {L with} p cap _ w
end Go.Lg
