/-
  Lg: LgPtr, one behind the other.
-/
import Derived.Test.YtpennhjjnlkbiaaGreatLgK3
import Derived.Test.YtpennhjjnlkbiaaGreatLgK10
/-
  Lg: a call that returns a pointer to a variable of its own.
-/
namespace Go.Lg
open Go Go.RowKit
structure HoldP (P:Prop):Prop where
 h:P
theorem sw_hold {S:Setup} {B:Base} {R:LS→Prop} {k:List VItem} {L:LS} {id:Nat} {l:Array Oper} {b:Bool} (h:HoldP (SW S B R (.code (.region id l b)::k) L)):SW S B R (.code (.region id l b)::k) L:=h.h
theorem HoldP.go {P:Prop} (h:P):HoldP P:=⟨h⟩
end Go.Lg
