/-
  Lg, part 18: the contract of a function, out of its body.
-/
import Derived.Test.YtenjmepbaajkjaaLgWp
namespace Go.Lg
open Go Go.RowKit

mutual
def D.sT (n : Nat) : D → D
  | .sl (.own _ e z) xs => .sl (.own n e z) xs
  | .agg cs => .agg (D.sTL n cs)
  | .fn f cap => .fn f (D.sTL n cap)
  | .tup ds => .tup (D.sTL n ds)
  | d => d
def D.sTL (n : Nat) : List D → List D
  | [] => []
  | d :: ds => d.sT n :: D.sTL n ds
end
theorem sTL_map (n : Nat) (ds : List D) : D.sTL n ds = ds.map (D.sT n) := by
  induction ds with
  | nil => rfl
  | cons d ds ih => simp [D.sTL, ih]

theorem Rel.setT {G G' : Ghost} {w : World} (hl : G'.lim = G.lim) (hb : G'.lab = G.lab) (hβ : G'.β = G.β) (n : Nat) {d : D} {v : Value} (h : Rel G w d v) : (∀ k ∈ d.tks, G'.τ n = G.τ k) → Rel G' w (d.sT n) v := by
  have hm : Mono G G' w w := ⟨fun b o v h1 h2 => ⟨by rw [hl]; exact h1, h2⟩, fun b _ => by rw [hb]⟩
  induction h with
  | int => exact fun _ => .int
  | bool => exact fun _ => .bool
  | str => exact fun _ => .str
  | @sl tk xs A m c b o s hn hc hmx ht hA hu hk hst hr ih =>
    intro hkk
    have key : ∀ tk', (TkOk G' w tk' xs A m c) → Rel G' w (.sl tk' xs) (.slice A m c) := fun tk' ht' => by
      refine .sl (b := b) (o := o) hn hc hmx ht' hA hu hk (fun j d hj => ?_) (fun j d v hj hv => ?_)
      · rw [hl]; exact hst j d hj
      · have hmem := hk d (List.mem_of_getElem? hj)
        exact (hr j d v hj hv).mono hm (by rw [memOk_ids hmem]; simp) (by rw [memOk_tks hmem]; simp)
    cases tk with
    | own k e z =>
      refine key (.own n e z) ?_
      simp only [TkOk] at ht ⊢
      rw [hkk k (by simp [D.tks]), hl]
      exact ht
    | lab l =>
      refine key (.lab l) ?_
      rcases ht with ht | ⟨g, o', e1, e2, e3⟩
      · exact .inl ht
      · exact .inr ⟨g, o', e1, by rw [hb]; exact e2, e3⟩
    | _ => exact key _ ht
  | @agg cs vl hlen hr ih =>
    intro hk
    simp only [D.sT, sTL_map]
    refine .agg (by simpa using hlen) fun j d v hj hv => ?_
    simp only [List.getElem?_map, Option.map_eq_some_iff] at hj
    obtain ⟨d0, hj, rfl⟩ := hj
    exact ih j d0 v hj hv (fun i hi' => hk i (mem_tksL (List.mem_of_getElem? hj) hi'))
  | @fn f cap vl hlen hr ih =>
    intro hk
    simp only [D.sT, sTL_map]
    refine .fn (by simpa using hlen) fun j d v hj hv => ?_
    simp only [List.getElem?_map, Option.map_eq_some_iff] at hj
    obtain ⟨d0, hj, rfl⟩ := hj
    exact ih j d0 v hj hv (fun i hi' => hk i (mem_tksL (List.mem_of_getElem? hj) hi'))
  | box hb' => exact fun _ => .box (by rw [hβ]; exact hb')
  | ms hb' hc hn => exact fun _ => .ms (by rw [hβ]; exact hb') hc hn
  | @imm cs b o hk hst hr ih =>
    intro _
    refine .imm hk (fun j d hj => ?_) (fun j d v hj hv => ?_)
    · rw [hl]; exact hst j d hj
    · have hmem := hk d (List.mem_of_getElem? hj)
      exact (hr j d v hj hv).mono hm (by rw [memOk_ids hmem]; simp) (by rw [memOk_tks hmem]; simp)
  | @tup ds vl hlen hr ih =>
    intro hk
    simp only [D.sT, sTL_map]
    refine .tup (by simpa using hlen) fun j d v hj hv => ?_
    simp only [List.getElem?_map, Option.map_eq_some_iff] at hj
    obtain ⟨d0, hj, rfl⟩ := hj
    exact ih j d0 v hj hv (fun i hi' => hk i (mem_tksL (List.mem_of_getElem? hj) hi'))
  | raw h => exact fun _ => .raw h
  | pred hv h => exact fun _ => .pred hv fun G2 w2 hm2 => h G2 w2 (hm.trans hm2)

def resY1 (S : Setup) (L : LS) (r : ResultVar) (K : D → Prop) : Prop := match r with
  | .tmp t => someK (L.get t) K
  | .cell c ty => someK (L.get c) fun d => (match d with
    | .box id off => loadY S ty L.getBox (.box id off) K
    | _ => False)
def resYs (S : Setup) (L : LS) : List ResultVar → (List D → Prop) → Prop
  | [], K => K []
  | r :: rs, K => resY1 S L r fun d => resYs S L rs fun ds => K (d :: ds)
def tupD : List D → D
  | [d] => d
  | ds => .tup ds
def resY (S : Setup) (L : LS) (rs : List ResultVar) (K : D → Prop) : Prop := resYs S L rs fun ds => K (tupD ds)

def resF (a : Array Value) (r : ResultVar) : Sem Value := match r with
  | .tmp t => pure (a.getD t undef)
  | .cell c ty => do loadVar ty (← asAddr (a.getD c undef))

theorem resY1_sound {S : Setup} {B : Base} {L : LS} {G : Ghost} {a : Act} {w : World} (hs : Sim B L G a w) {r : ResultVar} {K : D → Prop} (h : resY1 S L r K) : ∃ d v, K d ∧ (resF a.tmps r).run S.P w = .ok v w ∧ Rel G w d v := by
  cases r with
  | tmp t =>
    obtain ⟨d, hd, hK⟩ := someK_get h
    obtain ⟨v, h1, h2⟩ := hs.env t d hd
    exact ⟨d, v, hK, by simp [resF, h1], h2⟩
  | cell c ty =>
    obtain ⟨d, hd, h⟩ := someK_get h
    obtain ⟨v, h1, h2⟩ := hs.env c d hd
    split at h
    · obtain ⟨d, u, k1, k2, k3⟩ := loadY_sound hs h2 h
      cases h2
      refine ⟨d, u, k1, ?_, k3⟩
      simpa [resF, h1, asAddr, Instr.loadAt, Instr.sureAddr] using k2
    · exact h.elim

theorem resYs_sound {S : Setup} {B : Base} {L : LS} {G : Ghost} {a : Act} {w : World} (hs : Sim B L G a w) : ∀ (rs : List ResultVar) {K : List D → Prop}, resYs S L rs K →
    ∃ ds vs, K ds ∧ (rs.mapM (resF a.tmps)).run S.P w = .ok vs w ∧ vs.length = ds.length ∧ ∀ (j : Nat) d v, ds[j]? = some d → vs[j]? = some v → Rel G w d v
  | [], K, h => ⟨[], [], h, by simp, rfl, by simp⟩
  | r :: rs, K, h => by
    obtain ⟨d, v, h1, h2, h3⟩ := resY1_sound hs h
    obtain ⟨ds, vs, k1, k2, k3, k4⟩ := resYs_sound hs rs h1
    refine ⟨d :: ds, v :: vs, k1, by simp [List.mapM_cons, h2, k2], by simp [k3], fun j d' v' hd hv => ?_⟩
    cases j with
    | zero => simp at hd hv; subst hd; subst hv; exact h3
    | succ j => exact k4 j d' v' (by simpa using hd) (by simpa using hv)

theorem resY_sound {S : Setup} {B : Base} {L : LS} {G : Ghost} {a : Act} {w : World} (hs : Sim B L G a w) {fn : Func} {K : D → Prop} (h : resY S L fn.results.toList K) : ∃ d v, K d ∧ (results fn a.tmps).run S.P w = .ok v w ∧ Rel G w d v := by
  obtain ⟨ds, vs, h1, h2, h3, h4⟩ := resYs_sound hs _ h
  have hrun : (fn.results.mapM (resF a.tmps)).run S.P w = .ok vs.toArray w := by
    rw [Array.mapM_eq_mapM_toList]
    simp [h2]
  refine ⟨_, (if h : vs.toArray.size = 1 then vs.toArray[0] else .tuple vs.toArray), h1, ?_, ?_⟩
  · show (do let vs ← fn.results.mapM (resF a.tmps); pure (if h : vs.size = 1 then vs[0] else .tuple vs) : Sem Value).run S.P w = _
    simp [hrun]
  · match ds, vs, h3 with
    | [d], [v], _ => exact h4 0 d v rfl rfl
    | [], [], _ => exact .tup (vl := []) rfl (by simp)
    | d :: d' :: ds, v :: v' :: vs, h3 =>
      have : ¬ (v :: v' :: vs).toArray.size = 1 := by simp
      rw [dif_neg this]
      exact .tup h3 h4

theorem calls_of_sw {S : Setup} {f : FuncId} {fn : Func} {c : Code} {ro bx : List (Nat × List D)} {tk : List Nat} {args : List D} {R : LS → Prop} {Rx : Ending → World → Prop} {w : World} {G : Ghost} {vals : Array Value}
    (hf : S.P.funcs[f]? = some fn) (hb : fn.body = some c) (hn : args.length ≤ fn.ntmps) (hs : Sim (baseOf G w bx tk) ⟨args.length, enumD 0 args, bx, ro, tk, bx.map (·.1)⟩ G ⟨vals, []⟩ w)
    (h : SW S (baseOf G w bx tk) R [.code c] ⟨fn.ntmps, enumD 0 args, bx, ro, tk, bx.map (·.1)⟩)
    (hR : ∀ G' L' a' w', Sim (baseOf G w bx tk) L' G' a' w' → R L' → ∃ v, (results fn a'.tmps).run S.P w' = .ok v w' ∧ Rx (.returned v) w') : Calls S.P f vals w Rx := by
  have hsz : vals.size = args.length := hs.size
  refine calls_of_wp hf hb (wp_mono (h G _ w ⟨rfl, ?_, fun t d hd => ?_, hs.W, hs.fixed⟩) ?_)
  · simp [hsz]; omega
  · obtain ⟨v, h1, h2⟩ := hs.env t d hd
    refine ⟨v, ?_, h2⟩
    have hlt : t < vals.size := (Array.getElem?_eq_some_iff.1 h1).1
    simp only
    rw [Array.getElem?_append_left hlt]
    exact h1
  · intro e a' w' he
    cases e with
    | normal =>
      obtain ⟨_, G', L', hs', hr⟩ := he
      obtain ⟨v, h1, h2⟩ := hR G' L' a' w' hs' hr
      exact ⟨hs'.defers, v, h1, h2⟩
    | ret =>
      obtain ⟨_, G', L', hs', hr⟩ := he
      obtain ⟨v, h1, h2⟩ := hR G' L' a' w' hs' hr
      exact ⟨hs'.defers, v, h1, h2⟩
    | _ => obtain ⟨h0 | h0, _⟩ := he <;> cases h0

theorem simW_noTok {B : Base} {bx : List (Nat × List D)} {G : Ghost} {w : World} (h : SimW B bx [] [] G w) : SimW B bx [] [] { G with τ := fun _ => none } w := by
  have hr : ∀ {d v}, Rel G w d v → Rel { G with τ := fun _ => none } w d v := fun hr =>
    hr.mono (show Mono G { G with τ := fun _ => none } w w from ⟨fun _ _ _ h1 h2 => ⟨h1, h2⟩, fun _ _ => rfl⟩) (fun _ _ _ h => h) (fun _ _ => .inl rfl)
  exact {
    boxes := fun id cs hl => by
      obtain ⟨g, h1, ⟨vs, e, e1, e2, e3⟩, h3⟩ := h.boxes id cs hl
      exact ⟨g, h1, ⟨vs, e, e1, e2, fun j d v hd hv => hr (e3 j d v hd hv)⟩, h3⟩
    robs := fun id cs hl => by cases hl
    toks := fun k hk => by cases hk
    tau := fun k g e z hk => by cases hk
    tinj := fun k k' g e z e' z' hk => by cases hk
    binj := h.binj
    blt := h.blt
    lablt := h.lablt
    old := h.old
    olda := h.olda
    oldl := h.oldl
    tlab := fun k g e z hk => by cases hk
    blab := h.blab
    oldu := h.oldu
    labw := h.labw
    ids := h.ids
    sz := h.sz
    os := h.os
    tape := h.tape
    out := h.out }

/-- The one token that is handed back is called 0. -/
theorem simW_oneTok {B : Base} {bx : List (Nat × List D)} {G : Ghost} {w : World} (t : Nat) (h : SimW B bx [] [t] G w) (hno : ∀ p ∈ bx, 0 ∉ D.tksL p.2) : SimW B bx [] [0] { G with τ := fun k => if k = 0 then G.τ t else none } w := by
  let G' : Ghost := { G with τ := fun k => if k = 0 then G.τ t else none }
  have hr : ∀ {d v}, 0 ∉ d.tks → Rel G w d v → Rel G' w d v := fun hn hr =>
    hr.mono (show Mono G G' w w from ⟨fun _ _ _ h1 h2 => ⟨h1, h2⟩, fun _ _ => rfl⟩) (fun _ _ _ h => h) (fun k hk => .inl (by
      have : k ≠ 0 := fun e => hn (e ▸ hk)
      simp [G', this]))
  have hτ : ∀ {k x}, G'.τ k = some x → k = 0 ∧ G.τ t = some x := fun {k x} hk => by
    simp only [G'] at hk
    split at hk
    · rename_i h0; exact ⟨h0, hk⟩
    · cases hk
  exact {
    boxes := fun id cs hl => by
      obtain ⟨g, h1, ⟨vs, e, e1, e2, e3⟩, h3⟩ := h.boxes id cs hl
      exact ⟨g, h1, ⟨vs, e, e1, e2, fun j d v hd hv => hr (fun hi => hno _ (mem_of_look hl) (mem_tksL (List.mem_of_getElem? hd) hi)) (e3 j d v hd hv)⟩, h3⟩
    robs := fun id cs hl => by cases hl
    toks := fun k hk => by
      obtain rfl := List.mem_singleton.1 hk
      obtain ⟨x, hx⟩ := h.toks t (List.mem_singleton.2 rfl)
      exact ⟨x, by simp [hx]⟩
    tau := fun k g e z hk => h.tau t g e z (hτ hk).2
    tinj := fun k k' g e z e' z' hk hk' => by rw [(hτ hk).1, (hτ hk').1]
    binj := h.binj
    blt := h.blt
    lablt := h.lablt
    old := h.old
    olda := h.olda
    oldl := h.oldl
    tlab := fun k g e z hk => h.tlab t g e z (hτ hk).2
    blab := h.blab
    oldu := h.oldu
    labw := h.labw
    ids := h.ids
    sz := h.sz
    os := h.os
    tape := h.tape
    out := h.out }

/-- What is asked at the end, where no token is handed back. -/
def Ret (S : Setup) (rs : List ResultVar) (d : D) (bx' : List (Nat × List D)) (L : LS) : Prop :=
  resY S L rs fun d0 => D.le d0 d ∧ ∀ p ∈ bx', look L.boxes p.1 = some p.2

theorem fc_body {S : Setup} {f : FuncId} {fn : Func} {c : Code} {ro bx : List (Nat × List D)} {tk : List Nat} {args : List D} {d : D} {bx' : List (Nat × List D)}
    (hf : S.P.funcs[f]? = some fn) (hb : fn.body = some c) (hname : (fn.name == "runtime.NumGoroutine") = false) (hn : args.length ≤ fn.ntmps)
    (h : ∀ B, SW S B (Ret S fn.results.toList d bx') [.code c] ⟨fn.ntmps, enumD 0 args, bx, ro, tk, bx.map (·.1)⟩) : FC S f ro bx tk args d bx' [] := by
  refine ⟨⟨fn, hf, hname, by rw [hb]; rfl⟩, fun w G vals hs => calls_of_sw hf hb hn hs (h _) fun G' L' a' w' hs' hr => ?_⟩
  obtain ⟨d0, v, ⟨h1, h2⟩, h3, h4⟩ := resY_sound hs' hr
  refine ⟨v, h3, v, { G' with τ := fun _ => none }, rfl, rfl, rfl, fun t d' hd => ?_, ?_, hs.fixed⟩
  · simp only [look] at hd
    split at hd
    · rename_i ht
      subst ht
      obtain rfl := Option.some.inj hd
      refine ⟨v, rfl, ?_⟩
      exact (h4.le h1).mono (show Mono G' { G' with τ := fun _ => none } w' w' from ⟨fun _ _ _ h1 h2 => ⟨h1, h2⟩, fun _ _ => rfl⟩) (fun _ _ _ h => h) (fun _ _ => .inl rfl)
    · cases hd
  · exact simW_noTok (hs'.W.less h2 (ro' := []) (by simp) (tk' := []) (by simp))


/-- .. where the result may be appended to. -/
def Ret1 (S : Setup) (rs : List ResultVar) (d : D) (bx' : List (Nat × List D)) (L : LS) : Prop :=
  resY S L rs fun d0 => ∃ t d1, D.le d0 d1 ∧ t ∈ L.toks ∧ (∀ k ∈ d1.tks, k = t) ∧ d1.sT 0 = d ∧ (∀ p ∈ bx', look L.boxes p.1 = some p.2) ∧ ∀ p ∈ bx', 0 ∉ D.tksL p.2

theorem fc_body1 {S : Setup} {f : FuncId} {fn : Func} {c : Code} {ro bx : List (Nat × List D)} {tk : List Nat} {args : List D} {d : D} {bx' : List (Nat × List D)}
    (hf : S.P.funcs[f]? = some fn) (hb : fn.body = some c) (hname : (fn.name == "runtime.NumGoroutine") = false) (hn : args.length ≤ fn.ntmps)
    (h : ∀ B, SW S B (Ret1 S fn.results.toList d bx') [.code c] ⟨fn.ntmps, enumD 0 args, bx, ro, tk, bx.map (·.1)⟩) : FC S f ro bx tk args d bx' [0] := by
  refine ⟨⟨fn, hf, hname, by rw [hb]; rfl⟩, fun w G vals hs => calls_of_sw hf hb hn hs (h _) fun G' L' a' w' hs' hr => ?_⟩
  obtain ⟨d0, v, ⟨t, d1, h1, h2, h3, rfl, h5, h6⟩, h7, h8⟩ := resY_sound hs' hr
  refine ⟨v, h7, v, { G' with τ := fun k => if k = 0 then G'.τ t else none }, rfl, rfl, rfl, fun t' d' hd => ?_, ?_, hs.fixed⟩
  · simp only [look] at hd
    split at hd
    · rename_i ht
      subst ht
      obtain rfl := Option.some.inj hd
      exact ⟨v, rfl, Rel.setT (G := G') (G' := { G' with τ := fun k => if k = 0 then G'.τ t else none }) rfl rfl rfl 0 (h8.le h1) fun k hk => by simp [h3 k hk]⟩
    · cases hd
  · exact simW_oneTok t (hs'.W.less h5 (ro' := []) (by simp) (tk' := [t]) (by simpa using h2)) h6

mutual
def D.mT (f : Nat → Nat) : D → D
  | .sl (.own k e z) xs => .sl (.own (f k) e z) xs
  | .agg cs => .agg (D.mTL f cs)
  | .fn g cap => .fn g (D.mTL f cap)
  | .tup ds => .tup (D.mTL f ds)
  | d => d
def D.mTL (f : Nat → Nat) : List D → List D
  | [] => []
  | d :: ds => d.mT f :: D.mTL f ds
end
theorem mTL_map (f : Nat → Nat) (ds : List D) : D.mTL f ds = ds.map (D.mT f) := by
  induction ds with
  | nil => rfl
  | cons d ds ih => simp [D.mTL, ih]

theorem Rel.mapT {G G' : Ghost} {w : World} (hl : G'.lim = G.lim) (hb : G'.lab = G.lab) (hβ : G'.β = G.β) (f : Nat → Nat) {d : D} {v : Value} (h : Rel G w d v) : (∀ k ∈ d.tks, G'.τ (f k) = G.τ k) → Rel G' w (d.mT f) v := by
  have hm : Mono G G' w w := ⟨fun b o v h1 h2 => ⟨by rw [hl]; exact h1, h2⟩, fun b _ => by rw [hb]⟩
  induction h with
  | int => exact fun _ => .int
  | bool => exact fun _ => .bool
  | str => exact fun _ => .str
  | @sl tk xs A m c b o s hn hc hmx ht hA hu hk hst hr ih =>
    intro hkk
    have key : ∀ tk', (TkOk G' w tk' xs A m c) → Rel G' w (.sl tk' xs) (.slice A m c) := fun tk' ht' => by
      refine .sl (b := b) (o := o) hn hc hmx ht' hA hu hk (fun j d hj => ?_) (fun j d v hj hv => ?_)
      · rw [hl]; exact hst j d hj
      · have hmem := hk d (List.mem_of_getElem? hj)
        exact (hr j d v hj hv).mono hm (by rw [memOk_ids hmem]; simp) (by rw [memOk_tks hmem]; simp)
    cases tk with
    | own k e z =>
      refine key (.own (f k) e z) ?_
      simp only [TkOk] at ht ⊢
      rw [hkk k (by simp [D.tks]), hl]
      exact ht
    | lab l =>
      refine key (.lab l) ?_
      rcases ht with ht | ⟨g, o', e1, e2, e3⟩
      · exact .inl ht
      · exact .inr ⟨g, o', e1, by rw [hb]; exact e2, e3⟩
    | _ => exact key _ ht
  | @agg cs vl hlen hr ih =>
    intro hk
    simp only [D.mT, mTL_map]
    refine .agg (by simpa using hlen) fun j d v hj hv => ?_
    simp only [List.getElem?_map, Option.map_eq_some_iff] at hj
    obtain ⟨d0, hj, rfl⟩ := hj
    exact ih j d0 v hj hv (fun i hi' => hk i (mem_tksL (List.mem_of_getElem? hj) hi'))
  | @fn g cap vl hlen hr ih =>
    intro hk
    simp only [D.mT, mTL_map]
    refine .fn (by simpa using hlen) fun j d v hj hv => ?_
    simp only [List.getElem?_map, Option.map_eq_some_iff] at hj
    obtain ⟨d0, hj, rfl⟩ := hj
    exact ih j d0 v hj hv (fun i hi' => hk i (mem_tksL (List.mem_of_getElem? hj) hi'))
  | box hb' => exact fun _ => .box (by rw [hβ]; exact hb')
  | ms hb' hc hn => exact fun _ => .ms (by rw [hβ]; exact hb') hc hn
  | @imm cs b o hk hst hr ih =>
    intro _
    refine .imm hk (fun j d hj => ?_) (fun j d v hj hv => ?_)
    · rw [hl]; exact hst j d hj
    · have hmem := hk d (List.mem_of_getElem? hj)
      exact (hr j d v hj hv).mono hm (by rw [memOk_ids hmem]; simp) (by rw [memOk_tks hmem]; simp)
  | @tup ds vl hlen hr ih =>
    intro hk
    simp only [D.mT, mTL_map]
    refine .tup (by simpa using hlen) fun j d v hj hv => ?_
    simp only [List.getElem?_map, Option.map_eq_some_iff] at hj
    obtain ⟨d0, hj, rfl⟩ := hj
    exact ih j d0 v hj hv (fun i hi' => hk i (mem_tksL (List.mem_of_getElem? hj) hi'))
  | raw h => exact fun _ => .raw h
  | pred hv h => exact fun _ => .pred hv fun G2 w2 hm2 => h G2 w2 (hm.trans hm2)

/-- Many tokens handed back: they are called 0, 1, .. -/
theorem simW_manyTok {B : Base} {bx bx' : List (Nat × List D)} {G : Ghost} {w : World} (ts : List Nat) (hn : ts.Nodup) (h : SimW B bx [] ts G w) (hb : ∀ p ∈ bx', ∃ cs, look bx p.1 = some cs ∧ (∀ k ∈ D.tksL cs, k ∈ ts) ∧ D.mTL (fun k => ts.idxOf k) cs = p.2) :
    SimW B bx' [] (List.range ts.length) { G with τ := fun k => match ts[k]? with | some t => G.τ t | none => none } w := by
  let G' : Ghost := { G with τ := fun k => match ts[k]? with | some t => G.τ t | none => none }
  have hτ0 : ∀ k ∈ ts, G'.τ (ts.idxOf k) = G.τ k := fun k hk => by
    have : ts[ts.idxOf k]? = some k := by
      rw [List.getElem?_eq_getElem (List.idxOf_lt_length_iff.2 hk), List.getElem_idxOf]
    simp [G', this]
  have hτ : ∀ {k x}, G'.τ k = some x → ∃ t, ts[k]? = some t ∧ G.τ t = some x := fun {k x} hk => by
    simp only [G'] at hk
    split at hk
    · rename_i t ht; exact ⟨t, ht, hk⟩
    · cases hk
  exact {
    boxes := fun id cs hl => by
      obtain ⟨cs0, h1, h2, h3⟩ := hb _ (mem_of_look hl)
      obtain ⟨g, q1, ⟨vs, e, e1, e2, e3⟩, q3⟩ := h.boxes id cs0 h1
      dsimp only at h3
      subst h3
      refine ⟨g, q1, ⟨vs, e, e1, by rw [mTL_map, List.length_map]; exact e2, fun j d v hd hv => ?_⟩, q3⟩
      rw [mTL_map, List.getElem?_map, Option.map_eq_some_iff] at hd
      obtain ⟨d0, hd, rfl⟩ := hd
      exact Rel.mapT (G := G) (G' := G') rfl rfl rfl (fun k => ts.idxOf k) (e3 j d0 v hd hv) fun k hk => hτ0 k (h2 k (mem_tksL (List.mem_of_getElem? hd) hk))
    robs := fun id cs hl => by cases hl
    toks := fun k hk => by
      have hk := List.mem_range.1 hk
      obtain ⟨x, hx⟩ := h.toks ts[k] (List.getElem_mem hk)
      exact ⟨x, by simp [hk, hx]⟩
    tau := fun k g e z hk => by
      obtain ⟨t, _, h2⟩ := hτ hk
      exact h.tau t g e z h2
    tinj := fun k k' g e z e' z' hk hk' => by
      obtain ⟨t, h1, h2⟩ := hτ hk
      obtain ⟨t', h1', h2'⟩ := hτ hk'
      have := h.tinj t t' g e z e' z' h2 h2'
      subst this
      obtain ⟨l1, l2⟩ := List.getElem?_eq_some_iff.1 h1
      obtain ⟨l3, l4⟩ := List.getElem?_eq_some_iff.1 h1'
      have hp := List.pairwise_iff_getElem.1 hn
      rcases Nat.lt_trichotomy k k' with h | h | h
      · exact absurd (l2.trans l4.symm) (hp k k' l1 l3 h)
      · exact h
      · exact absurd (l4.trans l2.symm) (hp k' k l3 l1 h)
    binj := h.binj
    blt := h.blt
    lablt := h.lablt
    old := h.old
    olda := h.olda
    oldl := h.oldl
    tlab := fun k g e z hk => by
      obtain ⟨t, _, h2⟩ := hτ hk
      exact h.tlab t g e z h2
    blab := h.blab
    oldu := h.oldu
    labw := h.labw
    ids := h.ids
    sz := h.sz
    os := h.os
    tape := h.tape
    out := h.out }

def RetN (S : Setup) (rs : List ResultVar) (d : D) (bx' : List (Nat × List D)) (n : Nat) (L : LS) : Prop :=
  resY S L rs fun d0 => ∃ (ts : List Nat) (d1 : D), D.le d0 d1 ∧ (ts.length = n ∧ ts.Nodup) ∧ (∀ t ∈ ts, t ∈ L.toks) ∧ (∀ k ∈ d1.tks, k ∈ ts) ∧ d1.mT (fun k => ts.idxOf k) = d ∧
    ∀ p ∈ bx', ∃ cs, look L.boxes p.1 = some cs ∧ (∀ k ∈ D.tksL cs, k ∈ ts) ∧ D.mTL (fun k => ts.idxOf k) cs = p.2

theorem fc_bodyN {S : Setup} {f : FuncId} {fn : Func} {c : Code} {ro bx : List (Nat × List D)} {tk : List Nat} {args : List D} {d : D} {bx' : List (Nat × List D)} {tk' : List Nat}
    (hf : S.P.funcs[f]? = some fn) (hb : fn.body = some c) (hname : (fn.name == "runtime.NumGoroutine") = false) (hn : args.length ≤ fn.ntmps) (htk : tk' = List.range tk'.length)
    (h : ∀ B, SW S B (RetN S fn.results.toList d bx' tk'.length) [.code c] ⟨fn.ntmps, enumD 0 args, bx, ro, tk, bx.map (·.1)⟩) : FC S f ro bx tk args d bx' tk' := by
  rw [htk]
  refine ⟨⟨fn, hf, hname, by rw [hb]; rfl⟩, fun w G vals hs => calls_of_sw hf hb hn hs (h _) fun G' L' a' w' hs' hr => ?_⟩
  obtain ⟨d0, v, ⟨ts, d1, h1, ⟨hl, hnd⟩, h2, h3, rfl, h5⟩, h7, h8⟩ := resY_sound hs' hr
  rw [← hl]
  refine ⟨v, h7, v, { G' with τ := fun k => match ts[k]? with | some t => G'.τ t | none => none }, rfl, rfl, rfl, fun t' d' hd => ?_, ?_, hs.fixed⟩
  · simp only [look] at hd
    split at hd
    · rename_i ht
      subst ht
      obtain rfl := Option.some.inj hd
      refine ⟨v, rfl, Rel.mapT (G := G') (G' := { G' with τ := fun k => match ts[k]? with | some t => G'.τ t | none => none }) rfl rfl rfl (fun k => ts.idxOf k) (h8.le h1) fun k hk => ?_⟩
      have : ts[ts.idxOf k]? = some k := by
        rw [List.getElem?_eq_getElem (List.idxOf_lt_length_iff.2 (h3 k hk)), List.getElem_idxOf]
      simp [this]
    · cases hd
  · exact simW_manyTok ts hnd { hs'.W with robs := fun id cs hl => (by cases hl), toks := fun k hk => hs'.W.toks k (h2 k hk) } h5

end Go.Lg
