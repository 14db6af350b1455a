/-
  Lg, part 28: an empty list that is going to be appended to is given a token ahead of the first append; results are labelled.
-/
import Derived.Test.YtenjmepbaajkjaaLgLoop
import Derived.Test.YtenjmepbaajkjaaLgThaw
import Derived.Lib.SliceRun
namespace Go.Lg
open Go Go.RowKit
variable {S : Setup} {B : Base} {R : LS → Prop} {kk : List VItem} {L : LS}

theorem env_set {G : Ghost} {a : Act} {w : World} (hs : Sim B L G a w) {t : Nat} {d : D} {v : Value} (hv : a.tmps[t]? = some v) (hr : Rel G w d v) : Sim B { L with env := setA L.env t d } G a w := by
  refine ⟨hs.defers, hs.size, fun t' d' hd => ?_, hs.W, hs.fixed⟩
  simp only [look_setA] at hd
  by_cases e : t = t'
  · subst e
    simp only [if_true, Option.some.injEq] at hd
    subst hd
    exact ⟨v, hv, hr⟩
  · rw [if_neg e] at hd
    exact hs.env t' d' hd

theorem sw_tok (t k : Nat) (e : TypeId) (z : Nat) {tk : Tk} (ht : look L.env t = some (.sl tk [])) (htk : tk = .nil ∨ tk = .full) (hc : (L.purge (fun x => x == k)).clean (fun x => x == k) = true)
    (h : SW S B R kk { L.purge (fun x => x == k) with env := setA (L.purge (fun x => x == k)).env t (.sl (.own k e z) []), toks := k :: L.toks }) : SW S B R kk L := fun G a w hs => by
  have hp := purge_sim hs (fun x => x == k)
  obtain ⟨v, hv, hr⟩ := hs.env t _ ht
  have hstep : TokStep B G (G.setTok k (some none)) w w k := {
    mono := ⟨fun _ _ _ h1 h2 => ⟨h1, h2⟩, fun _ _ => rfl⟩
    beta := rfl, lab := rfl, sz := Nat.le_refl _, os := rfl, tape := rfl, out := rfl
    tau := fun k' hk' => .inr ⟨by simp [Ghost.setTok, hk'], fun _ _ _ _ => ⟨rfl, rfl⟩⟩
    block := fun _ _ => .inl ⟨rfl, rfl⟩
    new := fun g e' z' hg => by simp [Ghost.setTok] at hg
    live := by simp [Ghost.setTok] }
  have hsim := tokStep_sim hp hstep hc (tk := k :: L.toks) (fun k' hk' => by
    by_cases e : k' = k
    · exact .inl e
    · rcases List.mem_cons.1 hk' with h | h
      · exact absurd h e
      · exact .inr ⟨by simp [Ghost.setTok, e], h⟩)
  refine h _ a w (env_set hsim hv ?_)
  cases hr with
  | @sl _ _ A n c b o s hn hcc hm ht' hA hu hk hst hr =>
    have h0 : n = 0 := hn
    have hc0 : c = 0 := by
      rcases htk with rfl | rfl
      · exact ht'.2.2
      · have : n = c := ht'
        omega
    exact .sl (b := 0) (o := 0) (s := 0) hn hcc hm (by simp only [TkOk, Ghost.setTok, if_true]; exact ⟨h0, hc0⟩) (.inl rfl) (by simp) (by simp [flat]) (by simp [flat]) (by simp [flat])
theorem ret1_own {S : Setup} {L : LS} {t k : Nat} {e : TypeId} {z : Nat} {xs : List D} (h : look L.env t = some (.sl (.own k e z) xs)) (hk : k ∈ L.toks) : Ret1 S [.tmp t] (.sl (.own 0 e z) xs) [] L := by
  unfold Ret1
  simp only [resY, resYs, resY1, LS.get, h, someK]
  exact ⟨k, _, .refl _, hk, fun k' hk' => by simpa [tupD, D.tks] using hk', rfl, by simp, by simp⟩
/-- Nil or not. -/
theorem sw_nilcase (t : Nat) {tk : Tk} {xs : List D} (ht : look L.env t = some (.sl tk xs)) (h1 : xs = [] → SW S B R kk { L with env := setA L.env t (.sl .nl []) }) (h2 : SW S B R kk { L with env := setA L.env t (.sl .nn xs) }) : SW S B R kk L := fun G a w hs => by
  obtain ⟨v, hv, hr⟩ := hs.env t _ ht
  cases hr with
  | @sl _ _ A n c b o s hn hcc hm ht' hA hu hk hst hr =>
    cases A with
    | none =>
      have hx : xs = [] := by
        rcases hA with h | h
        · exact h
        · cases h
      subst hx
      exact h1 rfl G a w (env_set hs hv (.sl (b := b) (o := o) (s := s) hn hcc hm ⟨rfl, hn⟩ (.inl rfl) hu hk hst hr))
    | some ad => exact h2 G a w (env_set hs hv (.sl (b := b) (o := o) (s := s) hn hcc hm (by simp [TkOk]) hA hu hk hst hr))
/-- Less of a box is looked at. -/
theorem sw_trunc (id k : Nat) {cs : List D} (hb : look L.boxes id = some cs) (h : SW S B R kk { L with boxes := setA L.boxes id (cs.take k) }) : SW S B R kk L := fun G a w hs => by
  refine h G a w ⟨hs.defers, hs.size, hs.env, { hs.W with boxes := fun i c hi => ?_ }, hs.fixed⟩
  simp only [look_setA] at hi
  by_cases e0 : id = i
  · subst e0
    simp only [if_true, Option.some.injEq] at hi
    subst hi
    obtain ⟨g, q1, ⟨vs, e', e1, e2, e3⟩, q3⟩ := hs.W.boxes id cs hb
    refine ⟨g, q1, ⟨vs, e', e1, by rw [List.length_take]; omega, fun j d v hd hv => e3 j d v ?_ hv⟩, q3⟩
    rw [List.getElem?_take] at hd
    split at hd
    · exact hd
    · cases hd
  · rw [if_neg e0] at hi
    exact hs.W.boxes i c hi
/-- The region of an append to a new list, taken for memory: 'b := append([]T{}, x...)'. -/
theorem sw_appT (kp : List (Nat × List Nat)) (id : Nat) {rid a b c d : Nat} {x : Operand} {T e : TypeId} {i : TyI} {ty1 ty2 ty3 ty4 : TypeId} {p1 p2 p3 p4 : String} {a1 a2 a3 a4 : Array Edge} {tk2 : Tk} {ys : List D}
    (hx : evalO (L.put a (.sl .full [])) x = some (.sl tk2 ys)) (hk : S.kd T = some (.slice e)) (hi : S.tab e = some i)
    (hside : (a < L.n ∧ b < L.n ∧ c < L.n ∧ d < L.n ∧ a ≠ b ∧ id ∉ L.fix ∧ 0 < i.size) ∧ ys ≠ [] ∧ (∀ y ∈ ys, y.cells.length = i.size) ∧ ys.length * i.bytes ≤ 140737488355328 ∧ ys.length ≤ 140737488355328)
    (h : SW S B R kk (((((L.put a (.sl .full [])).put b (.sl tk2 ys)).newBox c id (flat ys) (.ms id ys.length)).put d (.ms id ys.length)).keepAt kp rid)) :
    SW S B R (.code (.region rid [⟨some a, .buildSlice T 0 #[], ty1, p1, a1, none⟩, ⟨some b, .move x, ty2, p2, a2, none⟩, ⟨some c, .call ⟨.builtin .append, #[.tmp a, .tmp b], #[T, T]⟩, ty3, p3, a3, none⟩, ⟨some d, .assign (.tmp c), ty4, p4, a4, none⟩].toArray false) :: kk) L := by
  obtain ⟨⟨s1, s2, s3, s4, s5, s6, s7⟩, s8⟩ := hside
  have e1 : (L.put a (.sl .full [])).get a = some (.sl .full []) := by simp [LS.put, LS.get, look_setA]
  refine sw_region (LopsW.step (base := 0) rfl ?_)
  simp only [stepY, opY, zipO, someK, buildSliceY, hk, hi]
  refine ⟨rfl, by omega, .inl trivial, by simp, s1, LopsW.step (base := 0) rfl ?_⟩
  simp only [stepY, opY, List.map_nil, LS.putO, hx, someK]
  refine ⟨s2, LopsW.appT (e := e) (i := i) id (tk := .full) (tk2 := tk2) (ys := ys) ?_ (.inr rfl) hk hi ⟨⟨s3, s6, s7⟩, s8⟩ (LopsW.step (base := 0) rfl ?_)⟩
  · simp [mapO, evalO, LS.put, LS.get, look_setA, Ne.symm s5]
  · have : evalO (((L.put a (.sl .full [])).put b (.sl tk2 ys)).newBox c id (flat ys) (.ms id ys.length)) (.tmp c) = some (.ms id ys.length) := by simp [evalO, LS.get, LS.newBox, look_setA]
    simp only [stepY, opY, this, someK, LS.putO]
    exact ⟨s4, LopsW.nil (sw_keepAt kp rid h)⟩
end Go.Lg
