/-
  Lg, part 37: the fresh start of a statement's body, and the regions that mark.
-/
import Derived.Test.YtceejlnnlkmeiaaLgMk4
namespace Go.Lg
open Go Go.RowKit

def kdc (B : Base) : D → D
  | .sl tk xs => KD B (.sl tk xs)
  | d => d
def LS.rebase (L : LS) (B : Base) : LS := ⟨L.n, mapA (kdc B) L.env, [], mapA (List.map (kdc B)) (L.boxes ++ L.ro), [], L.fix⟩

theorem lab_bound (G : Ghost) (n : Nat) (h : ∀ b, G.lab b ≠ [] → b < n) : ∃ N, ∀ b i r, G.lab b = i :: r → i < N := by
  have : ∀ m, ∃ N, ∀ b, b < m → ∀ i r, G.lab b = i :: r → i < N := fun m => by
    induction m with
    | zero => exact ⟨0, fun b hb => absurd hb (Nat.not_lt_zero _)⟩
    | succ m ih =>
      obtain ⟨N, hN⟩ := ih
      cases hm : G.lab m with
      | nil =>
        refine ⟨N, fun b hb i r hl => ?_⟩
        by_cases e : b = m
        · subst e; rw [hm] at hl; cases hl
        · exact hN b (by omega) i r hl
      | cons i0 r0 =>
        refine ⟨max N (i0 + 1), fun b hb i r hl => ?_⟩
        by_cases e : b = m
        · subst e; rw [hm] at hl
          obtain rfl : i0 = i := by simpa using (List.cons.inj hl).1
          omega
        · have := hN b (by omega) i r hl
          omega
  obtain ⟨N, hN⟩ := this n
  exact ⟨N, fun b i r hl => hN b (h b (by rw [hl]; simp)) i r hl⟩

theorem look_append' {α : Type} (l1 l2 : List (Nat × α)) (t : Nat) : look (l1 ++ l2) t = match look l1 t with | some d => some d | none => look l2 t := by
  induction l1 with
  | nil => rfl
  | cons p r ih =>
    obtain ⟨k, x⟩ := p
    by_cases h : k = t <;> simp [look, h, ih]

def noLoop : List VItem → Bool
  | [] => true
  | .loopEnd _ :: _ => false
  | _ :: k => noLoop k
theorem semQ_base {P : Program} {B B1 : Base} {R R1 : LS → Prop} (hT : ∀ G L a w, Sim B1 L G a w → R1 L → ∃ G' L', Sim B L' G' a w ∧ R L') : ∀ (k : List VItem), noLoop k = true → ∀ e a w, semQ P B1 R1 k e a w → semQ P B R k e a w
  | [], _, e, a, w, h => by
    obtain ⟨h1, G, L, h2, h3⟩ := h
    exact ⟨h1, hT G L a w h2 h3⟩
  | .loopEnd _ :: _, hk, _, _, _, _ => by cases hk
  | .inBlock id :: k, hk, e, a, w, h => by
    have ih := semQ_base (P := P) hT k hk
    show Exit.inBlock id (semQ P B R k) e a w
    change Exit.inBlock id (semQ P B1 R1 k) e a w at h
    cases e <;> simp only [Exit.inBlock] at h ⊢ <;> first
      | exact ih _ a w h
      | (split at h <;> rename_i hc <;> (first | rw [if_pos hc] | rw [if_neg hc]) <;> exact ih _ a w h)
  | .code c :: k, hk, e, a, w, h => by
    have ih := semQ_base (P := P) hT k hk
    show Exit.then (fun a w => c.wp P (semQ P B R k) a w) (semQ P B R k) e a w
    change Exit.then (fun a w => c.wp P (semQ P B1 R1 k) a w) (semQ P B1 R1 k) e a w at h
    cases e with
    | normal => exact wp_mono h fun e' a' w' h' => ih e' a' w' h'
    | _ => exact ih _ a w h

/-- What was there before is known for good; the boxes may only be read from now on. -/
theorem sw_rebase {S : Setup} {B : Base} {k : List VItem} {L : LS} {t : Nat} {b : Bool} (hB : B.ids = [] ∧ ∀ b, ¬ B.ab b) (hk : noLoop k = true) (h : ∀ B1 N, B1.cl N → SW S B1 (Ret S [.tmp t] (.bool b) []) k (L.rebase B1)) : SW S B (Ret S [.tmp t] (.bool b) []) k L := by
  intro G a w hs
  obtain ⟨N, hN⟩ := lab_bound G w.heap.size hs.W.lablt
  let B1 : Base := ⟨w, G.lim, G.lab, fun _ => False, []⟩
  have hcl : B1.cl N := ⟨fun _ h => h, rfl, hN, hs.W.lablt⟩
  let G1 : Ghost := { G with τ := fun _ => none }
  have rG : ∀ {d v}, Rel G w d v → Rel G1 w d v := fun hr => hr.mono (show Mono G G1 w w from ⟨fun _ _ _ h1 h2 => ⟨h1, h2⟩, fun _ _ => rfl⟩) (fun _ _ _ h => h) (fun _ _ => .inl rfl)
  have rK : ∀ {d v}, Rel G w d v → Rel G1 w (kdc B1 d) v := fun {d v} hr => by
    cases d with
    | sl tk xs =>
      have h0 : Rel (B0 B1) w (.sl tk xs) v := hr.mono (show Mono G (B0 B1) w w from ⟨fun _ _ _ h1 h2 => ⟨h1, h2⟩, fun _ _ => rfl⟩) (fun i hi => by simp [D.ids] at hi) (fun _ _ => .inl rfl)
      refine .pred (fun cs e => ?_) fun G2 w2 hm => ⟨h0, ⟨fun b o v h1 h2 => hm.cell b o v h1 h2, fun b hb => hm.lab b hb⟩⟩
      subst e; cases hr
    | _ => exact rG hr
  have bK : ∀ {g cs}, BoxAt G w g cs → BoxAt G1 w g (cs.map (kdc B1)) := fun {g cs} ⟨vs, e, e1, e2, e3⟩ => ⟨vs, e, e1, by simpa using e2, fun j d v hd hv => by
    simp only [List.getElem?_map, Option.map_eq_some_iff] at hd
    obtain ⟨d0, hd, rfl⟩ := hd
    exact rK (e3 j d0 v hd hv)⟩
  have hs1 : Sim B1 (L.rebase B1) G1 a w := by
    refine ⟨hs.defers, hs.size, fun t d hd => ?_, ?_, by simp [B1]⟩
    · simp only [LS.rebase, look_mapA, Option.map_eq_some_iff] at hd
      obtain ⟨d0, hd, rfl⟩ := hd
      obtain ⟨v, h1, h2⟩ := hs.env t d0 hd
      exact ⟨v, h1, rK h2⟩
    · exact {
        boxes := fun id cs hl => by cases hl
        robs := fun id cs hl => by
          simp only [LS.rebase, look_mapA, Option.map_eq_some_iff, look_append'] at hl
          obtain ⟨cs0, hl, rfl⟩ := hl
          cases hbx : look L.boxes id with
          | some c =>
            rw [hbx] at hl
            obtain rfl := Option.some.inj hl
            obtain ⟨g, q1, q2, _⟩ := hs.W.boxes id _ hbx
            exact ⟨g, q1, bK q2, hs.W.blt _ _ q1, fun h => h⟩
          | none =>
            rw [hbx] at hl
            obtain ⟨g, q1, q2, _⟩ := hs.W.robs id _ hl
            exact ⟨g, q1, bK q2, hs.W.blt _ _ q1, fun h => h⟩
        toks := fun k hk => by cases hk
        tau := fun k g e z hk => by cases hk
        tinj := fun k k' g e z e' z' hk => by cases hk
        binj := hs.W.binj
        blt := hs.W.blt
        lablt := hs.W.lablt
        old := fun b _ _ => ⟨rfl, rfl⟩
        olda := fun b _ => ⟨Nat.le_refl _, fun o v _ hv => hv⟩
        oldl := fun b _ _ => rfl
        tlab := fun k g e z hk => by cases hk
        blab := hs.W.blab
        oldu := fun b _ _ hb => hb
        labw := fun b hb hor => by
          rcases hor with h | h
          · have := hs.W.lablt b hb
            exact absurd this (Nat.not_lt.2 h)
          · exact h.elim
        ids := fun p hp => by cases hp
        sz := Nat.le_refl _
        os := rfl
        tape := rfl
        out := rfl }
  refine semQ_base (fun G2 L2 a2 w2 h2 hR => ?_) k hk .normal a w (h B1 N hcl G1 a w hs1)
  obtain ⟨d0, hd0, hle, _⟩ := someK_get (show someK (L2.get t) _ from hR)
  obtain ⟨v, e1, e2⟩ := h2.env t d0 hd0
  have e3 : Rel G2 w2 (.bool b) v := e2.le hle
  cases e3
  have W := h2.W
  have hsz := hs.W.sz
  refine ⟨⟨G2.lim, fun b => if b < B.w.heap.size then G2.lab b else [], fun _ => none, fun _ => none⟩, ⟨L2.n, [(t, .bool b)], [], [], [], []⟩, ⟨h2.defers, h2.size, fun t' d' hd => ?_, ?_, by rw [hB.1]; simp⟩, ?_⟩
  · simp only [look] at hd
    split at hd
    · rename_i e; subst e
      obtain rfl := Option.some.inj hd
      exact ⟨_, e1, .bool⟩
    · cases hd
  · have ho : ∀ b, b < B.w.heap.size → w2.heap[b]? = B.w.heap[b]? ∧ G2.lim b = B.lim b := fun b hb => by
      obtain ⟨q1, q2⟩ := W.old b (Nat.lt_of_lt_of_le hb hsz) (fun h => h)
      obtain ⟨q3, q4⟩ := hs.W.old b hb (hB.2 b)
      exact ⟨q1.trans q3, q2.trans q4⟩
    exact {
      boxes := fun id cs hl => by cases hl
      robs := fun id cs hl => by cases hl
      toks := fun k hk => by cases hk
      tau := fun k g e z hk => by cases hk
      tinj := fun k k' g e z e' z' hk => by cases hk
      binj := fun i j g hi => by cases hi
      blt := fun i g hi => by cases hi
      lablt := fun b hb => by
        simp only at hb
        split at hb
        · exact W.lablt b hb
        · exact absurd rfl hb
      old := fun b hb _ => ho b hb
      olda := fun b hb => ⟨Nat.le_of_eq (ho b hb).2.symm, fun o v _ hv => by rw [cell_of_heap (ho b hb).1]; exact hv⟩
      oldl := fun b hb hl => by
        simp only [if_pos hb]
        have h3 := hs.W.oldl b hb hl
        rw [W.oldl b (Nat.lt_of_lt_of_le hb hsz) (show G.lab b ≠ [] by rw [h3]; exact hl)]
        exact h3
      tlab := fun k g e z hk => by cases hk
      blab := fun i g hi => by cases hi
      oldu := fun b hb hab hl => by
        simp only [if_pos hb]
        exact W.oldu b (Nat.lt_of_lt_of_le hb hsz) (fun h => h) (hs.W.oldu b hb hab hl)
      labw := fun b hb hor => by
        simp only at hb
        split at hb
        · rename_i hlt
          rcases hor with h | h
          · omega
          · exact absurd h (hB.2 b)
        · exact absurd rfl hb
      ids := fun p hp => by rw [hB.1] at hp; cases hp
      sz := Nat.le_trans hsz W.sz
      os := W.os.trans hs.W.os
      tape := W.tape.trans hs.W.tape
      out := W.out.trans hs.W.out }
  · show someK _ _
    simp [LS.get, look, someK, resY, resYs, tupD, Ret]
    exact .refl _

/-- A statement's body. -/
theorem fc_bodyT {S : Setup} {f : FuncId} {fn : Func} {c : Code} {args : List D} {t : Nat} {b : Bool}
    (hf : S.P.funcs[f]? = some fn) (hb : fn.body = some c) (hname : (fn.name == "runtime.NumGoroutine") = false) (hn : args.length ≤ fn.ntmps) (hres : fn.results = #[.tmp t])
    (h : ∀ B, B.ids = [] ∧ (∀ b, ¬ B.ab b) → SW S B (Ret S [.tmp t] (.bool b) []) [.code c] ⟨fn.ntmps, enumD 0 args, [], [], [], []⟩) : FC S f [] [] [] args (.bool b) [] [] := by
  refine ⟨⟨fn, hf, hname, by rw [hb]; rfl⟩, fun w G vals hs => calls_of_sw hf hb hn hs (h _ ⟨rfl, fun b hb => ?_⟩) fun G' L' a' w' hs' hr => ?_⟩
  · rcases hb with ⟨p, hp, _⟩ | ⟨k, hk, _⟩
    · cases hp
    · cases hk
  obtain ⟨d0, v, ⟨h1, h2⟩, h3, h4⟩ := resY_sound (fn := fn) hs' (by rw [hres]; exact hr)
  refine ⟨v, h3, v, { G' with τ := fun _ => none }, rfl, rfl, rfl, fun t d' hd => ?_, ?_, hs.fixed⟩
  · simp only [look] at hd
    split at hd
    · rename_i ht
      subst ht
      obtain rfl := Option.some.inj hd
      refine ⟨v, rfl, ?_⟩
      exact (h4.le h1).mono (show Mono G' { G' with τ := fun _ => none } w' w' from ⟨fun _ _ _ h1 h2 => ⟨h1, h2⟩, fun _ _ => rfl⟩) (fun _ _ _ h => h) (fun _ _ => .inl rfl)
    · cases hd
  · exact simW_noTok (hs'.W.less h2 (ro' := []) (by simp) (tk' := []) (by simp))

theorem sim_skip {B : Base} {L : LS} {G : Ghost} {a : Act} {w : World} (h : Sim B L G a w) {t : Nat} (v : Value) (ht : ∀ q ∈ L.env, q.1 ≠ t) : Sim B L G (a.put (some t) v) w := by
  refine ⟨h.defers, by simpa [Act.put] using h.size, fun t' d hd => ?_, h.W, h.fixed⟩
  obtain ⟨u, h1, h2⟩ := h.env t' d hd
  refine ⟨u, ?_, h2⟩
  have := ht _ (mem_of_look hd)
  simp only [Act.put]
  rw [Array.getElem?_setIfInBounds_ne (Ne.symm this)]
  exact h1

/-- What may stand in the state behind a mark: what is kept, and the marked value itself. -/
def MkEnv (B : Base) (i : Nat) (L : LS) (A : Nat) (H : D) (env : List (Nat × D)) : Prop := ∀ q ∈ env, (∃ d0, L.get q.1 = some d0 ∧ q.2 = d0 ∧ Keep B i d0) ∨ q.1 = A ∧ q.2 = H
def MkBox (B : Base) (i : Nat) (bx : List (Nat × List D)) (bx' : List (Nat × List D)) : Prop := ∀ q ∈ bx', look bx q.1 = some q.2 ∧ ∀ d ∈ q.2, Keep B i d

section regions
variable {S : Setup} {B : Base} {R : LS → Prop} {kk : List VItem} {L L' : LS} {A M t1 t2 t3 id : Nat} {ty1 ty2 ty3 ty4 : TypeId} {p1 p2 p3 p4 : String} {a1 a2 a3 a4 : Array Edge} {tys : Array TypeId} {f : FuncId} {i n N : Nat} {k : Int}

/-- The region that marks the list in slot A: its counter is in slot M. -/
theorem sw_markS {s : Sh} {d : D} (hc : B.cl N) (hi : N ≤ i) (mk : MKs S.P f s) (hA : L.get A = some d) (hT : LT s [i] d n) (hM : L.get M = some (.int .i64 k)) (h0 : 0 ≤ k) (hb : k + n ≤ 4611686018427387904)
    (hlt : (t1 < L.n ∧ t2 < L.n ∧ t3 < L.n ∧ M < L.n) ∧ t1 ≠ t2 ∧ t1 ≠ M) (hL : L'.n = L.n ∧ L'.fix = L.fix ∧ L'.toks = []) (hne : ∀ q ∈ L'.env, q.1 ≠ t1 ∧ q.1 ≠ t2 ∧ q.1 ≠ t3 ∧ q.1 ≠ M)
    (henv : MkEnv B i L A (HD s k n) L'.env) (hbx : MkBox B i L.boxes L'.boxes) (hro : MkBox B i L.ro L'.ro) (h : SW S B R kk (L'.put M (.int .i64 (k + n)))) :
    SW S B R (.code (.region id [⟨some t1, .move (.tmp A), ty1, p1, a1, none⟩, ⟨some t2, .move (.tmp M), ty2, p2, a2, none⟩, ⟨some t3, .call ⟨.value (.func f), #[.tmp t1, .tmp t2], tys⟩, ty3, p3, a3, none⟩, ⟨some M, .assign (.tmp t3), ty4, p4, a4, none⟩].toArray false) :: kk) L := by
  intro G a w hs
  obtain ⟨vA, eA, rA⟩ := hs.env A d hA
  obtain ⟨vM, eM, rM⟩ := hs.env M _ hM
  cases rM
  obtain ⟨qs, q1, q2, q3, q4⟩ := LT.lv (G := G) (w := w) s [i] d n hT (by simp) vA rA
  have hWr : ∀ q ∈ qs, Wr w q := fun q hq => by
    obtain ⟨_, m, hm⟩ := Lv.ints s vA qs q1 q hq
    exact lab_Wr hc hs.W hi (q4 q hq) hm
  have hints : ∀ q ∈ qs, ∃ m, cellAt w q.1 q.2 = some (.int .i64 m) := fun q hq => (Lv.ints s vA qs q1 q hq).2
  refine wp_region_lit ?_
  refine wpList_step fun N1 hN1 => ?_
  rw [if_pos (show Region.wanted _ _ = true from rfl)]
  have hr1 : (execOp a.eval ⟨some t1, .move (.tmp A), ty1, p1, a1, none⟩).run S.P w = .ok (.value vA) w := by simp [execOp, Act.eval, eA]
  unfold Oper.wp
  rw [hr1]
  refine hN1 _ _ ?_
  refine wpList_step fun N2 hN2 => ?_
  rw [if_pos (show Region.wanted _ _ = true from rfl)]
  have hsz := hs.size
  have eM1 : (a.put (some t1) vA).tmps[M]? = some (.int .i64 k) := by
    simp only [Act.put]
    rw [Array.getElem?_setIfInBounds_ne hlt.2.2]
    exact eM
  have hr2 : (execOp (a.put (some t1) vA).eval ⟨some t2, .move (.tmp M), ty2, p2, a2, none⟩).run S.P w = .ok (.value (.int .i64 k)) w := by simp [execOp, Act.eval, eM1]
  unfold Oper.wp
  rw [hr2]
  refine hN2 _ _ ?_
  refine wpList_step fun N3 hN3 => ?_
  rw [if_pos (show Region.wanted _ _ = true from rfl)]
  have e1 : ((a.put (some t1) vA).put (some t2) (.int .i64 k)).tmps[t1]? = some vA := by
    simp only [Act.put]
    rw [Array.getElem?_setIfInBounds_ne (Ne.symm hlt.2.1)]
    simp [hsz, hlt.1.1]
  have e2 : ((a.put (some t1) vA).put (some t2) (.int .i64 k)).tmps[t2]? = some (.int .i64 k) := by simp [Act.put, hsz, hlt.1.2.1]
  have hr3 : (execOp ((a.put (some t1) vA).put (some t2) (.int .i64 k)).eval ⟨some t3, .call ⟨.value (.func f), #[.tmp t1, .tmp t2], tys⟩, ty3, p3, a3, none⟩).run S.P w = .ok (.enter f #[vA, .int .i64 k]) w := by
    simp [execOp, resolve, Act.eval, Deferred.ofValue, invoke, enter_run mk.1, e1, e2]
  unfold Oper.wp
  rw [hr3, Oper.upon_enter]
  refine (mk.2 G.lim w vA qs k q1 hWr h0 (by rw [q2]; exact hb)).mono ?_
  rintro e w' ⟨rfl, rfl⟩
  refine hN3 _ _ ?_
  refine wpList_step fun N4 hN4 => ?_
  rw [if_pos (show Region.wanted _ _ = true from rfl)]
  have e3 : (((a.put (some t1) vA).put (some t2) (.int .i64 k)).put (some t3) (.int .i64 (k + qs.length))).tmps[t3]? = some (.int .i64 (k + qs.length)) := by simp [Act.put, hsz, hlt.1.2.2.1]
  have hr4 : (execOp (((a.put (some t1) vA).put (some t2) (.int .i64 k)).put (some t3) (.int .i64 (k + qs.length))).eval ⟨some M, .assign (.tmp t3), ty4, p4, a4, none⟩).run S.P (wrs w qs k) = .ok (.value (.int .i64 (k + qs.length))) (wrs w qs k) := by simp [execOp, Act.eval, e3]
  unfold Oper.wp
  rw [hr4]
  refine hN4 _ _ (wpList_nil ?_)
  have hmk := Marked.of_wrs k hWr hints
  have hI := hmk.intW G.lim hints
  have hm0 := mono_of_simW hc hs.W
  have hmB : Mono (B0 B) G B.w (wrs w qs k) := ⟨fun b o v h1 h2 => by
    obtain ⟨p1, p2⟩ := hm0.cell b o v h1 h2
    refine ⟨p1, ?_⟩
    have := wrs_off (k := k) hWr (b := b) (o := o) (fun hq => by
      have := (lab_new hc hs.W hi (q4 _ hq)).1
      have := cell_lt h2
      simp at *
      omega)
    exact this.trans p2, hm0.lab⟩
  have hfr : ∀ b o u, ¬ ([i] <+: G.lab b) → cellAt w b o = some u → cellAt (wrs w qs k) b o = some u := fun b o u hl hu => by
    rw [wrs_off hWr (fun hq => hl (q4 _ hq))]; exact hu
  have hsim : Sim B L' G a (wrs w qs k) := by
    refine marked_sim hs hmk (fun q hq => (lab_new hc hs.W hi (q4 q hq)).1) (fun q hq => (lab_new hc hs.W hi (q4 q hq)).2.1) hL (fun t d' hd => ?_) (fun id cs hl => ?_) (fun id cs hl => ?_)
    · rcases henv _ (mem_of_look hd) with ⟨d0, k1, k2, k3⟩ | ⟨k1, k2⟩
      · obtain ⟨v, u1, u2⟩ := hs.env t d0 k1
        simp only at k2
        subst k2
        exact ⟨v, u1, k3 G w _ v hmB hfr u2⟩
      · simp only at k1 k2
        subst k1; subst k2
        exact ⟨vA, eA, .pred q1.noagg fun G2 w2 hm2 => HeldI.mono hm2 ⟨qs, Lv.mono hI s _ qs q1, q2, hmk.at_ q3⟩⟩
    · obtain ⟨k1, k2⟩ := hbx _ (mem_of_look hl)
      exact ⟨cs, k1, rfl, fun _ _ _ _ _ hv j d v hd hv' => k2 d (List.mem_of_getElem? hd) G w _ v hmB hfr (hv j d v hd hv')⟩
    · obtain ⟨k1, k2⟩ := hro _ (mem_of_look hl)
      exact ⟨cs, k1, rfl, fun vl hv j d v hd hv' => k2 d (List.mem_of_getElem? hd) G w _ v hmB hfr (hv j d v hd hv')⟩
  have hs1 := sim_skip hsim vA (t := t1) fun q hq => (hne q hq).1
  have hs2 := sim_skip hs1 (.int .i64 k) (t := t2) fun q hq => (hne q hq).2.1
  have hs3 := sim_skip hs2 (.int .i64 (k + qs.length)) (t := t3) fun q hq => (hne q hq).2.2.1
  have hs4 := hs3.put (t := M) (d := .int .i64 (k + qs.length)) (by rw [hL.1]; exact hlt.1.2.2.2) .int
  rw [q2] at hs4 ⊢
  exact h G _ _ hs4

/-- The region that marks the struct in a box. -/
theorem sw_markA {fs : Fs} {cs cs' : List D} {T : TypeId} {j : TyI} {bid : Nat} (hc : B.cl N) (hi : N ≤ i) (mk : MKa S.P f fs) (hA : L.get A = some (.box bid 0)) (hB : look L.boxes bid = some cs) (hT : TA fs [i] 0 k cs cs' n) (hj : S.tab T = some j) (hag : j.agg = true) (hjs : j.size = cs.length)
    (hM : L.get M = some (.int .i64 k)) (h0 : 0 ≤ k) (hb : k + n ≤ 4611686018427387904)
    (hlt : (t1 < L.n ∧ t2 < L.n ∧ t3 < L.n ∧ M < L.n) ∧ t1 ≠ t2 ∧ t1 ≠ M) (hL : L'.n = L.n ∧ L'.fix = L.fix ∧ L'.toks = []) (hne : ∀ q ∈ L'.env, q.1 ≠ t1 ∧ q.1 ≠ t2 ∧ q.1 ≠ t3 ∧ q.1 ≠ M)
    (henv : ∀ q ∈ L'.env, ∃ d0, L.get q.1 = some d0 ∧ q.2 = d0 ∧ Keep B i d0) (hbx : ∀ q ∈ L'.boxes, (look L.boxes q.1 = some q.2 ∧ ∀ d ∈ q.2, Keep B i d) ∨ q.1 = bid ∧ q.2 = cs') (hro : MkBox B i L.ro L'.ro) (h : SW S B R kk (L'.put M (.int .i64 (k + n)))) :
    SW S B R (.code (.region id [⟨some t1, .load T (.tmp A), ty1, p1, a1, none⟩, ⟨some t2, .move (.tmp M), ty2, p2, a2, none⟩, ⟨some t3, .call ⟨.value (.func f), #[.tmp t1, .tmp t2], tys⟩, ty3, p3, a3, none⟩, ⟨some M, .assign (.tmp t3), ty4, p4, a4, none⟩].toArray false) :: kk) L := by
  intro G a w hs
  obtain ⟨vA, eA, rA⟩ := hs.env A _ hA
  obtain ⟨vM, eM, rM⟩ := hs.env M _ hM
  cases rM
  cases rA with
  | @box _ _ g hβ =>
  obtain ⟨g', hβ', ⟨vs, eT, b1, b2, b3⟩, _⟩ := hs.W.boxes bid cs hB
  rw [hβ] at hβ'
  obtain rfl := Option.some.inj hβ'
  have hvl : vs.toList.length = cs.length := by simpa using b2
  obtain ⟨qs, q1, q2, q3, q4, q5⟩ := TA.lv (G := G) (w := w) fs [i] 0 k cs cs' n hT vs.toList hvl (fun j d v hd hv => b3 j d v hd (by simpa using hv))
  have q4' : ∀ q ∈ qs, [i] <+: G.lab q.1 := fun q hq => by
    obtain ⟨j', _, h⟩ := q4 q hq
    exact (List.prefix_append [i] [j']).trans h
  have hints : ∀ q ∈ qs, ∃ m, cellAt w q.1 q.2 = some (.int .i64 m) := fun q hq => (LvA.ints fs _ qs q1 q hq).2
  have hWr : ∀ q ∈ qs, Wr w q := fun q hq => by
    obtain ⟨m, hm⟩ := hints q hq
    exact lab_Wr hc hs.W hi (q4' q hq) hm
  have hok := S.ok T j hj
  refine wp_region_lit ?_
  refine wpList_step fun N1 hN1 => ?_
  rw [if_pos (show Region.wanted _ _ = true from rfl)]
  have hload := run_loadCells_list (P := S.P) w ⟨g, 0, none⟩ vs.toList (fun i v hi => by
    rw [Addr.add_lit, Nat.zero_add]
    simpa [World.cell?, b1] using hi)
  rw [hvl, ← hjs] at hload
  have hr1 : (execOp a.eval ⟨some t1, .load T (.tmp A), ty1, p1, a1, none⟩).run S.P w = .ok (.value (.agg vs.toList.toArray)) w := by
    simp [execOp, Act.eval, eA, Instr.loadAt, Instr.sureAddr, loadVar, run_isAgg hok, hag, run_sizeOf hok, hload]
  unfold Oper.wp
  rw [hr1]
  refine hN1 _ _ ?_
  refine wpList_step fun N2 hN2 => ?_
  rw [if_pos (show Region.wanted _ _ = true from rfl)]
  have hsz := hs.size
  have eM1 : (a.put (some t1) (.agg vs.toList.toArray)).tmps[M]? = some (.int .i64 k) := by
    simp only [Act.put]
    rw [Array.getElem?_setIfInBounds_ne hlt.2.2]
    exact eM
  have hr2 : (execOp (a.put (some t1) (.agg vs.toList.toArray)).eval ⟨some t2, .move (.tmp M), ty2, p2, a2, none⟩).run S.P w = .ok (.value (.int .i64 k)) w := by simp [execOp, Act.eval, eM1]
  unfold Oper.wp
  rw [hr2]
  refine hN2 _ _ ?_
  refine wpList_step fun N3 hN3 => ?_
  rw [if_pos (show Region.wanted _ _ = true from rfl)]
  have e1 : ((a.put (some t1) (.agg vs.toList.toArray)).put (some t2) (.int .i64 k)).tmps[t1]? = some (.agg vs.toList.toArray) := by
    simp only [Act.put]
    rw [Array.getElem?_setIfInBounds_ne (Ne.symm hlt.2.1)]
    simp [hsz, hlt.1.1]
  have e2 : ((a.put (some t1) (.agg vs.toList.toArray)).put (some t2) (.int .i64 k)).tmps[t2]? = some (.int .i64 k) := by simp [Act.put, hsz, hlt.1.2.1]
  have hr3 : (execOp ((a.put (some t1) (.agg vs.toList.toArray)).put (some t2) (.int .i64 k)).eval ⟨some t3, .call ⟨.value (.func f), #[.tmp t1, .tmp t2], tys⟩, ty3, p3, a3, none⟩).run S.P w = .ok (.enter f #[.agg vs.toList.toArray, .int .i64 k]) w := by
    have e1' : ((a.put (some t1) (.agg vs.toList.toArray)).put (some t2) (.int .i64 k)).eval (.tmp t1) = .agg vs.toList.toArray := by simp only [Act.eval, Array.getD_eq_getD_getElem?, e1, Option.getD_some]
    have e2' : ((a.put (some t1) (.agg vs.toList.toArray)).put (some t2) (.int .i64 k)).eval (.tmp t2) = .int .i64 k := by simp only [Act.eval, Array.getD_eq_getD_getElem?, e2, Option.getD_some]
    simp only [execOp, resolve, List.map_toArray, List.map_cons, List.map_nil, e1', e2']
    simp [Act.eval, Deferred.ofValue, invoke, enter_run mk.1]
  unfold Oper.wp
  rw [hr3, Oper.upon_enter]
  refine (mk.2 G.lim w vs.toList qs k (by rw [hvl]; exact (TA.len fs _ _ _ _ _ _ hT).1) q1 hWr h0 (by rw [q2]; exact hb)).mono ?_
  rintro e w' ⟨rfl, hmk⟩
  refine hN3 _ _ ?_
  refine wpList_step fun N4 hN4 => ?_
  rw [if_pos (show Region.wanted _ _ = true from rfl)]
  have e3 : (((a.put (some t1) (.agg vs.toList.toArray)).put (some t2) (.int .i64 k)).put (some t3) (.int .i64 (k + qs.length))).tmps[t3]? = some (.int .i64 (k + qs.length)) := by simp [Act.put, hsz, hlt.1.2.2.1]
  have hr4 : (execOp (((a.put (some t1) (.agg vs.toList.toArray)).put (some t2) (.int .i64 k)).put (some t3) (.int .i64 (k + qs.length))).eval ⟨some M, .assign (.tmp t3), ty4, p4, a4, none⟩).run S.P w' = .ok (.value (.int .i64 (k + qs.length))) w' := by simp only [execOp, Act.eval, Array.getD_eq_getD_getElem?, e3, Option.getD_some]; rfl
  unfold Oper.wp
  rw [hr4]
  refine hN4 _ _ (wpList_nil ?_)
  have hI := hmk.intW G.lim hints
  have hm0 := mono_of_simW hc hs.W
  have hmB : Mono (B0 B) G B.w w' := ⟨fun b o v h1 h2 => by
    obtain ⟨p1, p2⟩ := hm0.cell b o v h1 h2
    refine ⟨p1, hmk.off b o v (fun hq => ?_) p2⟩
    have := (lab_new hc hs.W hi (q4' _ hq)).1
    have := cell_lt h2
    simp at *
    omega, hm0.lab⟩
  have hfr : ∀ b o u, ¬ ([i] <+: G.lab b) → cellAt w b o = some u → cellAt w' b o = some u := fun b o u hl hu => hmk.off b o u (fun hq => hl (q4' _ hq)) hu
  have hsim : Sim B L' G a w' := by
    refine marked_sim hs hmk (fun q hq => (lab_new hc hs.W hi (q4' q hq)).1) (fun q hq => (lab_new hc hs.W hi (q4' q hq)).2.1) hL (fun t d' hd => ?_) (fun id cs hl => ?_) (fun id cs hl => ?_)
    · obtain ⟨d0, k1, k2, k3⟩ := henv _ (mem_of_look hd)
      obtain ⟨v, u1, u2⟩ := hs.env t d0 k1
      simp only at k2
      subst k2
      exact ⟨v, u1, k3 G w _ v hmB hfr u2⟩
    · rcases hbx _ (mem_of_look hl) with ⟨k1, k2⟩ | ⟨k1, k2⟩
      · exact ⟨cs, k1, rfl, fun _ _ _ _ _ hv j d v hd hv' => k2 d (List.mem_of_getElem? hd) G w _ v hmB hfr (hv j d v hd hv')⟩
      · simp only at k1 k2
        subst k1; subst k2
        refine ⟨_, hB, (TA.len fs _ _ _ _ _ _ hT).2.symm, fun g2 vs2 e2 hg2 hh2 _ j d v hd hv' => ?_⟩
        rw [hβ] at hg2
        obtain rfl := Option.some.inj hg2
        rw [b1] at hh2
        obtain ⟨rfl, rfl⟩ : vs = vs2 ∧ eT = e2 := by simpa using hh2
        exact q5 w' hI (hmk.at_ q3) j d v hd (by simpa using hv')
    · obtain ⟨k1, k2⟩ := hro _ (mem_of_look hl)
      exact ⟨cs, k1, rfl, fun vl hv j d v hd hv' => k2 d (List.mem_of_getElem? hd) G w _ v hmB hfr (hv j d v hd hv')⟩
  have hs1 := sim_skip hsim (.agg vs.toList.toArray) (t := t1) fun q hq => (hne q hq).1
  have hs2 := sim_skip hs1 (.int .i64 k) (t := t2) fun q hq => (hne q hq).2.1
  have hs3 := sim_skip hs2 (.int .i64 (k + qs.length)) (t := t3) fun q hq => (hne q hq).2.2.1
  have hs4 := hs3.put (t := M) (d := .int .i64 (k + qs.length)) (by rw [hL.1]; exact hlt.1.2.2.2) .int
  rw [q2] at hs4 ⊢
  exact h G _ _ hs4
end regions
end Go.Lg
