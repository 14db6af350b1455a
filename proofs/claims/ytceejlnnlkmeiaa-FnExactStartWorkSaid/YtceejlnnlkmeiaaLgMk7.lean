/-
  Lg, part 39: the marking regions, the state behind them reckoned.
-/
import Derived.Test.YtceejlnnlkmeiaaLgMk6
import Derived.Test.YtceejlnnlkmeiaaLgLab
namespace Go.Lg
open Go Go.RowKit

def KeepL (B : Base) (i : Nat) : List D → Prop
  | [] => True
  | d :: r => Keep B i d ∧ KeepL B i r
def KeepE (B : Base) (i : Nat) : List (Nat × D) → Prop
  | [] => True
  | p :: r => Keep B i p.2 ∧ KeepE B i r
def KeepX (B : Base) (i : Nat) : List (Nat × List D) → Prop
  | [] => True
  | p :: r => KeepL B i p.2 ∧ KeepX B i r
theorem keepL_mem {B : Base} {i : Nat} : ∀ {l : List D}, KeepL B i l → ∀ d ∈ l, Keep B i d
  | _ :: _, h, d, hd => by
    rcases List.mem_cons.1 hd with rfl | hd
    · exact h.1
    · exact keepL_mem h.2 d hd
theorem keepE_mem {B : Base} {i : Nat} : ∀ {l : List (Nat × D)}, KeepE B i l → ∀ p ∈ l, Keep B i p.2
  | _ :: _, h, d, hd => by
    rcases List.mem_cons.1 hd with rfl | hd
    · exact h.1
    · exact keepE_mem h.2 d hd
theorem keepX_mem {B : Base} {i : Nat} : ∀ {l : List (Nat × List D)}, KeepX B i l → ∀ p ∈ l, ∀ d ∈ p.2, Keep B i d
  | _ :: _, h, p, hp => by
    rcases List.mem_cons.1 hp with rfl | hp
    · exact keepL_mem h.1
    · exact keepX_mem h.2 p hp
theorem look_mem {α : Type} : ∀ {l : List (Nat × α)}, (l.map (·.1)).Nodup → ∀ p ∈ l, look l p.1 = some p.2
  | (k, x) :: r, h, p, hp => by
    simp only [List.map_cons, List.nodup_cons] at h
    rcases List.mem_cons.1 hp with rfl | hp
    · simp [look]
    · have hne : k ≠ p.1 := fun e => h.1 (e ▸ List.mem_map.2 ⟨p, hp, rfl⟩)
      simp only [look, if_neg hne]
      exact look_mem h.2 p hp
theorem mem_eraseK {α : Type} {k : Nat} : ∀ {l : List (Nat × α)} {p : Nat × α}, p ∈ eraseK k l → p ∈ l ∧ p.1 ≠ k
  | [], _, h => by cases h
  | (k', x) :: r, p, h => by
    unfold eraseK at h
    split at h
    · obtain ⟨h1, h2⟩ := mem_eraseK h
      exact ⟨List.mem_cons_of_mem _ h1, h2⟩
    · rename_i hne
      rcases List.mem_cons.1 h with rfl | h
      · exact ⟨List.mem_cons_self, hne⟩
      · obtain ⟨h1, h2⟩ := mem_eraseK h
        exact ⟨List.mem_cons_of_mem _ h1, h2⟩
theorem mem_setA {α : Type} {k : Nat} {x : α} : ∀ {l : List (Nat × α)} {p : Nat × α}, p ∈ setA l k x → p = (k, x) ∨ p ∈ l
  | [], p, h => by simp [setA] at h; exact .inl h
  | (k', y) :: r, p, h => by
    unfold setA at h
    split at h
    · rcases List.mem_cons.1 h with h | h
      · exact .inl h
      · exact .inr (List.mem_cons_of_mem _ h)
    · rcases List.mem_cons.1 h with h | h
      · exact .inr (h ▸ List.mem_cons_self)
      · rcases mem_setA h with h | h
        · exact .inl h
        · exact .inr (List.mem_cons_of_mem _ h)
theorem no_key {α : Type} {l : List (Nat × α)} {t : Nat} (hnd : (l.map (·.1)).Nodup) (h : look l t = none) : ∀ p ∈ l, p.1 ≠ t := fun p hp e => by
  have := look_mem hnd p hp
  rw [e, h] at this
  cases this

section regions
variable {S : Setup} {B : Base} {R : LS → Prop} {kk : List VItem} {L : LS} {A M t1 t2 t3 id : Nat} {ty1 ty2 ty3 ty4 : TypeId} {p1 p2 p3 p4 : String} {a1 a2 a3 a4 : Array Edge} {tys : Array TypeId} {f : FuncId} {i n N : Nat} {k : Int}

theorem sw_markS1 {s : Sh} {d : D} (hc : B.cl N) (hi : N ≤ i) (mk : MKs S.P f s) (hA : L.get A = some d) (hT : LT s [i] d n) (hM : L.get M = some (.int .i64 k)) (h0 : 0 ≤ k) (hb : k + n ≤ 4611686018427387904)
    (hlt : (t1 < L.n ∧ t2 < L.n ∧ t3 < L.n ∧ M < L.n) ∧ t1 ≠ t2 ∧ t1 ≠ M) (hfr : look L.env t1 = none ∧ look L.env t2 = none ∧ look L.env t3 = none) (hnd : (L.env.map (·.1)).Nodup ∧ (L.boxes.map (·.1)).Nodup ∧ (L.ro.map (·.1)).Nodup)
    (ke : KeepE B i (eraseK A (eraseK M L.env))) (kb : KeepX B i L.boxes) (kr : KeepX B i L.ro) (h : SW S B R kk ({ L with env := eraseK A (eraseK M L.env), toks := [] }.put M (.int .i64 (k + n)))) :
    SW S B R (.code (.region id [⟨some t1, .move (.tmp A), ty1, p1, a1, none⟩, ⟨some t2, .move (.tmp M), ty2, p2, a2, none⟩, ⟨some t3, .call ⟨.value (.func f), #[.tmp t1, .tmp t2], tys⟩, ty3, p3, a3, none⟩, ⟨some M, .assign (.tmp t3), ty4, p4, a4, none⟩].toArray false) :: kk) L := by
  have hmem : ∀ q ∈ eraseK A (eraseK M L.env), q ∈ L.env ∧ q.1 ≠ M := fun q hq => by
    obtain ⟨h1, _⟩ := mem_eraseK hq
    exact mem_eraseK h1
  exact sw_markS (L' := { L with env := eraseK A (eraseK M L.env), toks := [] }) hc hi mk hA hT hM h0 hb hlt ⟨rfl, rfl, rfl⟩
    (fun q hq => by
      obtain ⟨h1, h2⟩ := hmem q hq
      exact ⟨no_key hnd.1 hfr.1 q h1, no_key hnd.1 hfr.2.1 q h1, no_key hnd.1 hfr.2.2 q h1, h2⟩)
    (fun q hq => .inl ⟨q.2, look_mem hnd.1 q (hmem q hq).1, rfl, keepE_mem ke q hq⟩)
    (fun q hq => ⟨look_mem hnd.2.1 q hq, keepX_mem kb q hq⟩) (fun q hq => ⟨look_mem hnd.2.2 q hq, keepX_mem kr q hq⟩) h
theorem sw_markS2 {s : Sh} {d : D} (hc : B.cl N) (hi : N ≤ i) (mk : MKs S.P f s) (hA : L.get A = some d) (hT : LT s [i] d n) (hM : L.get M = some (.int .i64 k)) (h0 : 0 ≤ k) (hb : k + n ≤ 4611686018427387904)
    (hlt : (t1 < L.n ∧ t2 < L.n ∧ t3 < L.n ∧ M < L.n) ∧ t1 ≠ t2 ∧ t1 ≠ M) (hfr : look L.env t1 = none ∧ look L.env t2 = none ∧ look L.env t3 = none) (hAM : A ≠ M ∧ A ≠ t1 ∧ A ≠ t2 ∧ A ≠ t3) (hnd : (L.env.map (·.1)).Nodup ∧ (L.boxes.map (·.1)).Nodup ∧ (L.ro.map (·.1)).Nodup)
    (ke : KeepE B i (eraseK A (eraseK M L.env))) (kb : KeepX B i L.boxes) (kr : KeepX B i L.ro) (h : SW S B R kk ({ L with env := setA (eraseK A (eraseK M L.env)) A (HD s k n), toks := [] }.put M (.int .i64 (k + n)))) :
    SW S B R (.code (.region id [⟨some t1, .move (.tmp A), ty1, p1, a1, none⟩, ⟨some t2, .move (.tmp M), ty2, p2, a2, none⟩, ⟨some t3, .call ⟨.value (.func f), #[.tmp t1, .tmp t2], tys⟩, ty3, p3, a3, none⟩, ⟨some M, .assign (.tmp t3), ty4, p4, a4, none⟩].toArray false) :: kk) L := by
  have hmem : ∀ q ∈ eraseK A (eraseK M L.env), q ∈ L.env ∧ q.1 ≠ M := fun q hq => by
    obtain ⟨h1, _⟩ := mem_eraseK hq
    exact mem_eraseK h1
  exact sw_markS (L' := { L with env := setA (eraseK A (eraseK M L.env)) A (HD s k n), toks := [] }) hc hi mk hA hT hM h0 hb hlt ⟨rfl, rfl, rfl⟩
    (fun q hq => by
      rcases mem_setA hq with rfl | hq
      · exact ⟨hAM.2.1, hAM.2.2.1, hAM.2.2.2, hAM.1⟩
      · obtain ⟨h1, h2⟩ := hmem q hq
        exact ⟨no_key hnd.1 hfr.1 q h1, no_key hnd.1 hfr.2.1 q h1, no_key hnd.1 hfr.2.2 q h1, h2⟩)
    (fun q hq => by
      rcases mem_setA hq with rfl | hq
      · exact .inr ⟨rfl, rfl⟩
      · exact .inl ⟨q.2, look_mem hnd.1 q (hmem q hq).1, rfl, keepE_mem ke q hq⟩)
    (fun q hq => ⟨look_mem hnd.2.1 q hq, keepX_mem kb q hq⟩) (fun q hq => ⟨look_mem hnd.2.2 q hq, keepX_mem kr q hq⟩) h
theorem sw_markA1 {fs : Fs} {cs cs' : List D} {T : TypeId} {j : TyI} {bid : Nat} (hc : B.cl N) (hi : N ≤ i) (mk : MKa S.P f fs) (hA : L.get A = some (.box bid 0)) (hB : look L.boxes bid = some cs) (hT : TA fs [i] 0 k cs cs' n) (hj : S.tab T = some j) (hag : j.agg = true) (hjs : j.size = cs.length)
    (hM : L.get M = some (.int .i64 k)) (h0 : 0 ≤ k) (hb : k + n ≤ 4611686018427387904)
    (hlt : (t1 < L.n ∧ t2 < L.n ∧ t3 < L.n ∧ M < L.n) ∧ t1 ≠ t2 ∧ t1 ≠ M) (hfr : look L.env t1 = none ∧ look L.env t2 = none ∧ look L.env t3 = none) (hnd : (L.env.map (·.1)).Nodup ∧ (L.boxes.map (·.1)).Nodup ∧ (L.ro.map (·.1)).Nodup)
    (ke : KeepE B i (eraseK M L.env)) (kb : KeepX B i (eraseK bid L.boxes)) (kr : KeepX B i L.ro) (h : SW S B R kk ({ L with env := eraseK M L.env, boxes := eraseK bid L.boxes, toks := [] }.put M (.int .i64 (k + n)))) :
    SW S B R (.code (.region id [⟨some t1, .load T (.tmp A), ty1, p1, a1, none⟩, ⟨some t2, .move (.tmp M), ty2, p2, a2, none⟩, ⟨some t3, .call ⟨.value (.func f), #[.tmp t1, .tmp t2], tys⟩, ty3, p3, a3, none⟩, ⟨some M, .assign (.tmp t3), ty4, p4, a4, none⟩].toArray false) :: kk) L :=
  sw_markA (L' := { L with env := eraseK M L.env, boxes := eraseK bid L.boxes, toks := [] }) hc hi mk hA hB hT hj hag hjs hM h0 hb hlt ⟨rfl, rfl, rfl⟩
    (fun q hq => by
      obtain ⟨h1, h2⟩ := mem_eraseK hq
      exact ⟨no_key hnd.1 hfr.1 q h1, no_key hnd.1 hfr.2.1 q h1, no_key hnd.1 hfr.2.2 q h1, h2⟩)
    (fun q hq => ⟨q.2, look_mem hnd.1 q (mem_eraseK hq).1, rfl, keepE_mem ke q hq⟩)
    (fun q hq => .inl ⟨look_mem hnd.2.1 q (mem_eraseK hq).1, keepX_mem kb q hq⟩) (fun q hq => ⟨look_mem hnd.2.2 q hq, keepX_mem kr q hq⟩) h
theorem sw_markA2 {fs : Fs} {cs cs' : List D} {T : TypeId} {j : TyI} {bid : Nat} (hc : B.cl N) (hi : N ≤ i) (mk : MKa S.P f fs) (hA : L.get A = some (.box bid 0)) (hB : look L.boxes bid = some cs) (hT : TA fs [i] 0 k cs cs' n) (hj : S.tab T = some j) (hag : j.agg = true) (hjs : j.size = cs.length)
    (hM : L.get M = some (.int .i64 k)) (h0 : 0 ≤ k) (hb : k + n ≤ 4611686018427387904)
    (hlt : (t1 < L.n ∧ t2 < L.n ∧ t3 < L.n ∧ M < L.n) ∧ t1 ≠ t2 ∧ t1 ≠ M) (hfr : look L.env t1 = none ∧ look L.env t2 = none ∧ look L.env t3 = none) (hnd : (L.env.map (·.1)).Nodup ∧ (L.boxes.map (·.1)).Nodup ∧ (L.ro.map (·.1)).Nodup)
    (ke : KeepE B i (eraseK M L.env)) (kb : KeepX B i (eraseK bid L.boxes)) (kr : KeepX B i L.ro) (h : SW S B R kk ({ L with env := eraseK M L.env, boxes := setA (eraseK bid L.boxes) bid cs', toks := [] }.put M (.int .i64 (k + n)))) :
    SW S B R (.code (.region id [⟨some t1, .load T (.tmp A), ty1, p1, a1, none⟩, ⟨some t2, .move (.tmp M), ty2, p2, a2, none⟩, ⟨some t3, .call ⟨.value (.func f), #[.tmp t1, .tmp t2], tys⟩, ty3, p3, a3, none⟩, ⟨some M, .assign (.tmp t3), ty4, p4, a4, none⟩].toArray false) :: kk) L :=
  sw_markA (L' := { L with env := eraseK M L.env, boxes := setA (eraseK bid L.boxes) bid cs', toks := [] }) hc hi mk hA hB hT hj hag hjs hM h0 hb hlt ⟨rfl, rfl, rfl⟩
    (fun q hq => by
      obtain ⟨h1, h2⟩ := mem_eraseK hq
      exact ⟨no_key hnd.1 hfr.1 q h1, no_key hnd.1 hfr.2.1 q h1, no_key hnd.1 hfr.2.2 q h1, h2⟩)
    (fun q hq => ⟨q.2, look_mem hnd.1 q (mem_eraseK hq).1, rfl, keepE_mem ke q hq⟩)
    (fun q hq => by
      rcases mem_setA hq with rfl | hq
      · exact .inr ⟨rfl, rfl⟩
      · exact .inl ⟨look_mem hnd.2.1 q (mem_eraseK hq).1, keepX_mem kb q hq⟩) (fun q hq => ⟨look_mem hnd.2.2 q hq, keepX_mem kr q hq⟩) h
end regions
/-- .. ahead of the region 'rid'. -/
theorem sw_rebaseAt {S : Setup} {B : Base} {k : List VItem} {L : LS} {t : Nat} {b : Bool} (rid : Nat) {ops : Array Oper} {dr : Bool} {c : Code} (hB : B.ids = [] ∧ ∀ b, ¬ B.ab b) (hk : noLoop k = true) (h : ∀ B1 N, B1.cl N → SW S B1 (Ret S [.tmp t] (.bool b) []) (.code (.seq (.region rid ops dr) c) :: k) (L.rebase B1)) : SW S B (Ret S [.tmp t] (.bool b) []) (.code (.seq (.region rid ops dr) c) :: k) L := sw_rebase hB hk h

section
variable (B : Base) (d : D) (s : Sh) (k : Int) (n : Nat)
theorem KD_ids : (KD B d).ids = [] := rfl
theorem KD_tks : (KD B d).tks = [] := rfl
theorem KD_cells : (KD B d).cells = [KD B d] := rfl
theorem KD_pu1 (p : Nat → Bool) : D.pu1 p (KD B d) = KD B d := rfl
theorem KD_pu (p : Nat → Bool) : D.pu p (KD B d) = KD B d := rfl
theorem KD_shT (o : Nat) : D.shT o (KD B d) = KD B d := rfl
theorem HD_ids : (HD s k n).ids = [] := rfl
theorem HD_tks : (HD s k n).tks = [] := rfl
theorem HD_cells : (HD s k n).cells = [HD s k n] := rfl
theorem HD_pu1 (p : Nat → Bool) : D.pu1 p (HD s k n) = HD s k n := rfl
theorem HD_pu (p : Nat → Bool) : D.pu p (HD s k n) = HD s k n := rfl
theorem HD_shT (o : Nat) : D.shT o (HD s k n) = HD s k n := rfl
end
attribute [go_sem] KD_ids KD_tks KD_cells KD_pu1 KD_pu KD_shT HD_ids HD_tks HD_cells HD_pu1 HD_pu HD_shT
theorem sum_le4 {α : Type} {m c : α → Nat} (h : ∀ x, m x ≤ 4 * (1 + c x)) (xs : List α) : (xs.map m).sum ≤ 4 * (xs.length + (xs.map c).sum) := by
  induction xs with
  | nil => simp
  | cons x xs ih =>
    have := h x
    simp only [List.map_cons, List.sum_cons, List.length_cons]
    omega
/-- As 'sw_tok', in a cell of a box. -/
theorem sw_tokBox {S : Setup} {B : Base} {R : LS → Prop} {kk : List VItem} {L : LS} (id j k : Nat) (e : TypeId) (z : Nat) {cs : List D} (hb : look (L.purge (fun x => x == k)).boxes id = some cs) (hj : cs[j]? = some (.sl .nil [])) (hc : (L.purge (fun x => x == k)).clean (fun x => x == k) = true)
    (h : SW S B R kk { L.purge (fun x => x == k) with boxes := setA (L.purge (fun x => x == k)).boxes id (cs.set j (.sl (.own k e z) [])), toks := k :: L.toks }) : SW S B R kk L := fun G a w hs => by
  have hp := purge_sim hs (fun x => x == k)
  have hstep : TokStep B G (G.setTok k (some none)) w w k := {
    mono := ⟨fun _ _ _ h1 h2 => ⟨h1, h2⟩, fun _ _ => rfl⟩
    beta := rfl, lab := rfl, sz := Nat.le_refl _, os := rfl, tape := rfl, out := rfl
    tau := fun k' hk' => .inr ⟨by simp [Ghost.setTok, hk'], fun _ _ _ _ => ⟨rfl, rfl⟩⟩
    block := fun _ _ => .inl ⟨rfl, rfl⟩
    new := fun g e' z' hg => by simp [Ghost.setTok] at hg
    live := by simp [Ghost.setTok] }
  have hsim := tokStep_sim hp hstep hc (tk := k :: L.toks) (fun k' hk' => by
    by_cases e : k' = k
    · exact .inl e
    · rcases List.mem_cons.1 hk' with h | h
      · exact absurd h e
      · exact .inr ⟨by simp [Ghost.setTok, e], h⟩)
  refine h _ a w ⟨hsim.defers, hsim.size, hsim.env, { hsim.W with boxes := fun i c hi => ?_ }, hsim.fixed⟩
  simp only [look_setA] at hi
  by_cases e0 : id = i
  · subst e0
    simp only [if_true, Option.some.injEq] at hi
    subst hi
    obtain ⟨g, q1, ⟨vs, e', e1, e2, e3⟩, q3⟩ := hsim.W.boxes id cs hb
    refine ⟨g, q1, ⟨vs, e', e1, by simpa using e2, fun j' d v hd hv => ?_⟩, q3⟩
    by_cases hjj : j = j'
    · subst hjj
      rw [List.getElem?_set_self (List.getElem?_eq_some_iff.1 hj).1] at hd
      obtain rfl := Option.some.inj hd
      have hr := e3 j _ v hj hv
      cases hr with
      | @sl _ _ A n c b o s hn hcc hm ht' hA hu hk hst hr =>
        exact .sl (b := 0) (o := 0) (s := 0) hn hcc hm (by simp only [TkOk, Ghost.setTok, if_true]; exact ⟨ht'.2.1, ht'.2.2⟩) (.inl rfl) (by simp) (by simp [flat]) (by simp [flat]) (by simp [flat])
    · rw [List.getElem?_set_ne hjj] at hd
      exact e3 j' d v hd hv
  · rw [if_neg e0] at hi
    exact hsim.W.boxes i c hi
/-- .. ahead of the region 'rid'. -/
theorem sw_labBoxAt {S : Setup} {B : Base} {R : LS → Prop} {kk : List VItem} {L : LS} (rid id j : Nat) (l : List Nat) {cs : List D} {k : Nat} {e : TypeId} {z : Nat} {xs : List D} {ops : Array Oper} {dr : Bool} {c : Code} (hb : look L.boxes id = some cs) (hj : cs[j]? = some (.sl (.own k e z) xs)) (hk : k ∈ L.toks) (hl : l ≠ [])
    (h : SW S B R (.code (.seq (.region rid ops dr) c) :: kk) { L with boxes := setA L.boxes id (cs.set j (.sl (.lab l) xs)), toks := L.toks.filter fun x => !(x == k) }) : SW S B R (.code (.seq (.region rid ops dr) c) :: kk) L := sw_labBox id j l hb hj hk hl h
end Go.Lg
