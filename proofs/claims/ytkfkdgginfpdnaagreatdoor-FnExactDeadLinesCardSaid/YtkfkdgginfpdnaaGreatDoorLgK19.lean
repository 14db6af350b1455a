/-
  Lg: LgOldL, one behind the other.
-/
import Derived.Test.YtkfkdgginfpdnaaGreatDoorLgK13
import Derived.Test.YtkfkdgginfpdnaaGreatDoorLgK7
import Derived.KernelRfl
/-
  Lg: as LgOld, for results that bear labels: in the function every old block bears one label, so that a new labelled list of numbers may be taken for memory again.
-/
namespace Go.Lg
open Go Go.RowKit
theorem sw_freezeLab {S:Setup} {B:Base} {R:LS→Prop} {kk:List VItem} {L:LS} (t s:Nat) (l:List Nat) {id n:Nat} {cs:List D} (xs:List D) (ht:look L.env t=some (.ms id n)) (hb:look L.boxes id=some cs) (hx:cs=flat xs) (hn:n=xs.length)
  (hu:∀x∈xs,x.cells.length=s) (hk:∀d∈cs,d.memOk=true) (hl:l≠[]) (hfix:id∉L.fix) (hh:SW S B R kk {L.forget id with env:=setA (L.forget id).env t (.sl (.lab l) xs)}):SW S B R kk L:=fun G a w hs=>by
 obtain⟨G',h'⟩:=freezeLab_sim hs ht hb hx hn hu hk hl hfix
 exact hh G' a w h'
end Go.Lg
