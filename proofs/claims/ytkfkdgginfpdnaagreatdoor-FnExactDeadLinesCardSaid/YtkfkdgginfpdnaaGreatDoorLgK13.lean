/-
  Lg: LgOld, LgStoreO, LgXL, LgFrzB, one behind the other.
-/
import Derived.Test.YtkfkdgginfpdnaaGreatDoorLgK11
/-
  Lg: a function that is handed no memory: all that it is handed may be taken as labelled, so that its own new lists are seen to lie elsewhere.
-/
namespace Go.Lg
open Go Go.RowKit
end Go.Lg
/-
  Lg: a store into an own list of numbers, of which the token stays: what is kept of the state must be seen not to read that list.
-/
namespace Go.Lg
open Go Go.RowKit
end Go.Lg
/-
  Lg: a drawn region that makes memory, parted where the driver can't go on.
-/
namespace Go.Lg
open Go Go.RowKit
end Go.Lg
/-
  Lg: what was made by 'make', filled, and lies in a cell of a variable in memory, is taken for a list from now on.
-/
namespace Go.Lg
open Go Go.RowKit
theorem sw_boxLe {S:Setup} {B:Base} {R:LS→Prop} {k:List VItem} {L:LS} (id:Nat) {cs:List D} (cs':List D) (hb:look L.boxes id=some cs) (hl:cs'.length=cs.length) (hle:∀(j:Nat) c d,cs[j]?=some c→cs'[j]?=some d→D.le c d) (hh:SW S B R k {L with boxes:=setA L.boxes id cs'}):SW S B R k L:=fun G a w hs=>by
 refine hh G a w ⟨hs.defers,hs.size,hs.env,{hs.W with boxes:=fun i c hi=>?_},hs.fixed⟩
 simp only[look_setA] at hi
 by_cases e:id=i
 ·subst e
  rw[if_pos rfl] at hi
  obtain rfl:=Option.some.inj hi
  obtain⟨g,h1,⟨vs,ee,b1,b2,b3⟩,h3⟩:=hs.W.boxes id cs hb
  refine⟨g,h1,⟨vs,ee,b1,by omega,fun j d v hd hv=>?_⟩,h3⟩
  have hlt:j<cs.length:=by have:=(List.getElem?_eq_some_iff.1 hd).1;omega
  exact(b3 j _ v (List.getElem?_eq_getElem hlt) hv).le (hle j _ d (List.getElem?_eq_getElem hlt) hd)
 ·rw[if_neg e] at hi
  exact hs.W.boxes i c hi
end Go.Lg
