import Derived.Test.YtmfmgoceeedonaaGreatLgK3
import Derived.Test.YtmfmgoceeedonaaGreatLgK10
namespace Go.Lg
open Go Go.RowKit
structure HoldP (P:Prop):Prop where
 h:P
theorem aDE{S B}{R:LS->Prop}{k:List VItem}{L}{id:Nat}{l}{b:Bool}(h:HoldP (SW S B R (.code (.region id l b)::k) L)):SW S B R (.code (.region id l b)::k) L:=h.h
theorem HoldP.go{P:Prop}(h:P):HoldP P:=⟨h⟩
end Go.Lg
