/-
  Lg, part 25: a contract, called at what a row hands over.
-/
import Derived.Test.YtenjmepbaajkjaaLgOpen
import Derived.ProofKit
import Derived.OpenShut
import Derived.JoinedCond
import Derived.Carry
import Derived.ChangeSame
namespace Go.Lg
open Go Go.RowKit

theorem open_simW (w : World) : SimW (baseOf (openG w) w [] []) [] [] [] (openG w) w where
  boxes := fun _ _ h => by cases h
  robs := fun _ _ h => by cases h
  toks := fun _ h => by cases h
  tau := fun _ _ _ _ h => by cases h
  tinj := fun _ _ _ _ _ _ _ h => by cases h
  binj := fun _ _ _ h => by cases h
  blt := fun _ _ h => by cases h
  lablt := fun _ h => absurd rfl h
  old := fun _ _ _ => ⟨rfl, rfl⟩
  olda := fun _ _ => ⟨Nat.le_refl _, fun _ _ _ h => h⟩
  oldl := fun _ _ h => absurd rfl h
  tlab := fun _ _ _ _ h => by cases h
  blab := fun _ _ h => by cases h
  oldu := fun _ _ _ _ => rfl
  labw := fun _ h => absurd rfl h
  ids := fun _ h => by cases h
  sz := Nat.le_refl _
  os := rfl
  tape := rfl
  out := rfl

theorem fc_open {S : Setup} {f : FuncId} {args : List D} {d : D} (fc : FC S f [] [] [] args d [] []) {w : World} {vals : Array Value} (hl : vals.size = args.length)
    (hr : ∀ (j : Nat) d v, args[j]? = some d → vals[j]? = some v → Rel (openG w) w d v) :
    Calls S.P f vals w fun e w' => ∃ v G', e = .returned v ∧ Rel G' w' d v ∧ Below w.heap.size w w' := by
  refine (fc.2 w (openG w) vals ⟨rfl, hl, fun t d hd => ?_, open_simW w, fun p hp => by cases hp⟩).mono ?_
  · simp only [look_enumD] at hd
    rw [if_pos (Nat.zero_le _), Nat.sub_zero] at hd
    have hlt : t < vals.size := by rw [hl]; exact (List.getElem?_eq_some_iff.1 hd).1
    exact ⟨vals[t], by simp [hlt], hr t d _ hd (by simp [hlt])⟩
  · rintro e w' ⟨v, G', rfl, hs⟩
    obtain ⟨u, hu, hru⟩ := hs.env 0 d rfl
    obtain rfl : v = u := by simpa using hu
    refine ⟨v, G', rfl, hru, hs.W.os, hs.W.tape, hs.W.out, hs.W.sz, fun k hk => (hs.W.old k hk ?_).1⟩
    intro hab
    simp [baseOf, openG] at hab

/-- An argument: its logical value. -/
theorem value_open {S : Setup} {H : Type} {enc : TypeId × Value → H} {W : World} {sp : Nat → Bool} {base m t : Nat} {v : Value} {d0 : DataW H} {p : List MemPlace} (hval : Value.okWide S.P W .any base t v) (hT : DataW.Trod enc S.P W 0 sp true t v d0 p) (hc : clB S.tab m t = true) :
    ∃ i ds, S.tab t = some i ∧ ds.length = i.size ∧ WC S t ds ∧ Rel (openG W) W (ofCells i ds) v := by
  obtain ⟨n, hn⟩ := hT
  obtain ⟨ds, hds⟩ := trod_open n m hn hc
  obtain ⟨i, hi, hsz⟩ := hds.size
  refine ⟨i, ds, hi, hds.len.trans hsz, hds.wc, ?_⟩
  have hrel := hds.rel
  have hdesc := (S.ok t i hi).desc
  have one : (∀ cs, v ≠ .agg cs) → i.agg = false → Rel (openG W) W (ofCells i ds) v := fun hv ha => by
    have hcell : v.cells.toList = [v] := by cases v <;> first | rfl | exact absurd rfl (hv _)
    have hl := hds.len
    rw [hcell] at hl hrel
    match ds, hl with
    | [d], _ =>
      have := hrel 0 d v rfl rfl
      simpa [ofCells, ha] using this
  cases hk : i.kind with
  | struct fs =>
    rw [hk] at hdesc
    obtain ⟨fields, hu, _⟩ := hdesc
    unfold Value.okWide at hval
    rw [hu] at hval
    obtain ⟨cs, rfl, _⟩ := hval
    have ha : i.agg = true := by simp [TyI.agg, hk]
    simp only [ofCells, ha]
    exact .agg hds.len.symm hrel
  | array k e =>
    cases m with
    | zero => simp [clB] at hc
    | succ m => simp [clB, hi, hk] at hc
  | other =>
    cases m with
    | zero => simp [clB] at hc
    | succ m => simp [clB, hi, hk] at hc
  | int k =>
    rw [hk] at hdesc
    refine one (fun cs e => ?_) (by simp [TyI.agg, hk])
    subst e
    simp [Value.okWide, hdesc, Cell.okWide, Cell.ok] at hval
  | bool =>
    rw [hk] at hdesc
    refine one (fun cs e => ?_) (by simp [TyI.agg, hk])
    subst e
    simp [Value.okWide, hdesc, Cell.okWide, Cell.ok] at hval
  | string =>
    rw [hk] at hdesc
    refine one (fun cs e => ?_) (by simp [TyI.agg, hk])
    subst e
    simp [Value.okWide, hdesc, Cell.okWide, Cell.ok] at hval
  | slice e =>
    rw [hk] at hdesc
    refine one (fun cs e => ?_) (by simp [TyI.agg, hk])
    subst e
    simp [Value.okWide, hdesc, Cell.okWide, Cell.ok] at hval

section
variable {H : Type} {enc : TypeId × Value → H}
/-- All arguments. -/
theorem args_open {S : Setup} {W : World} {sp : Nat → Bool} {base m : Nat} : ∀ {ts : List TypeId} {vs : List Value} {ds : List (DataW H)} {p : List MemPlace},
    DataW.TrodAll enc S.P W 0 sp true ts vs ds p → (∀ (j : Nat) t v, ts[j]? = some t → vs[j]? = some v → Value.okWide S.P W .any base t v) → (∀ t ∈ ts, clB S.tab m t = true) →
    vs.length = ts.length ∧ ds.length = ts.length ∧ ∃ args : List D, args.length = ts.length ∧ (∀ (j : Nat) t d, ts[j]? = some t → args[j]? = some d → ∃ i cs, S.tab t = some i ∧ cs.length = i.size ∧ WC S t cs ∧ d = ofCells i cs) ∧
      ∀ (j : Nat) d v, args[j]? = some d → vs[j]? = some v → Rel (openG W) W d v
  | [], [], [], _, _, _, _ => ⟨rfl, rfl, [], rfl, by simp, by simp⟩
  | t :: ts, v :: vs, d :: ds, _, h, hv, hc => by
    obtain ⟨p, q, h1, h2, _⟩ := h
    obtain ⟨i, cs, e1, e2, e3, e4⟩ := value_open (hv 0 t v rfl rfl) h1 (hc t (by simp))
    obtain ⟨k1, k0, args, k2, k3, k4⟩ := args_open h2 (fun j t v ht hv' => hv (j + 1) t v (by simpa using ht) (by simpa using hv')) (fun t ht => hc t (List.mem_cons_of_mem _ ht))
    refine ⟨by simp [k1], by simp [k0], ofCells i cs :: args, by simp [k2], fun j t' d' ht hd => ?_, fun j d' v' hd hv' => ?_⟩
    · cases j with
      | zero => simp at ht hd; subst ht; subst hd; exact ⟨i, cs, e1, e2, e3, rfl⟩
      | succ j => exact k3 j t' d' (by simpa using ht) (by simpa using hd)
    · cases j with
      | zero => simp at hd hv'; subst hd; subst hv'; exact e4
      | succ j => exact k4 j d' v' (by simpa using hd) (by simpa using hv')
  | [], _ :: _, _, _, h, _, _ => by simp [DataW.TrodAll] at h
  | [], [], _ :: _, _, h, _, _ => by simp [DataW.TrodAll] at h
  | _ :: _, [], _, _, h, _, _ => by simp [DataW.TrodAll] at h
  | _ :: _, _ :: _, [], _, h, _, _ => by simp [DataW.TrodAll] at h

theorem args_stay {P : Program} (hl : laidOutB P = true) {W W' : World} (hb : Below W.heap.size W W') (sp : Nat → Bool) : ∀ {ts : List TypeId} {vs : List Value} {ds : List (DataW H)} {p : List MemPlace}, DataW.TrodAll enc P W 0 (fun _ => true) true ts vs ds p →
    (∀ t ∈ ts, P.readableRec t = true ∧ t < P.types.size) → (∀ x ∈ p, x.block < W.heap.size ∧ sp x.block = true) → DataW.TrodAll enc P W' 0 sp true ts vs ds p
  | [], [], [], _, h, _, _ => h
  | t :: ts, v :: vs, d :: ds, _, h, hr, hlt => by
    obtain ⟨p, q, h1, h2, rfl⟩ := h
    exact ⟨p, q, WideElems.Trod_stays hl (hr t (by simp)).1 (hr t (by simp)).2 h1 (fun x hx => hb.same (hlt x (by simp [hx])).1) (fun x hx => (hlt x (by simp [hx])).2),
      args_stay hl hb sp h2 (fun t ht => hr t (List.mem_cons_of_mem _ ht)) (fun x hx => hlt x (by simp [hx])), rfl⟩
  | [], _ :: _, _, _, h, _, _ => by simp [DataW.TrodAll] at h
  | [], [], _ :: _, _, h, _, _ => by simp [DataW.TrodAll] at h
  | _ :: _, [], _, _, h, _, _ => by simp [DataW.TrodAll] at h
  | _ :: _, _ :: _, [], _, h, _, _ => by simp [DataW.TrodAll] at h

theorem trod_app {P : Program} {w : World} {base : Nat} {sp : Nat → Bool} {hd : Bool} : ∀ {ts : List TypeId} {vs : List Value} {ds : List (DataW H)} {p : List MemPlace} {ts' : List TypeId} {vs' : List Value} {ds' : List (DataW H)} {p' : List MemPlace},
    DataW.TrodAll enc P w base sp hd ts vs ds p → DataW.TrodAll enc P w base sp hd ts' vs' ds' p' → DataW.TrodAll enc P w base sp hd (ts ++ ts') (vs ++ vs') (ds ++ ds') (p ++ p')
  | [], [], [], _, _, _, _, _, h, h' => by
    have : _ = [] := h
    subst this
    simpa using h'
  | t :: ts, v :: vs, d :: ds, _, _, _, _, _, h, h' => by
    obtain ⟨p, q, h1, h2, rfl⟩ := h
    exact ⟨p, q ++ _, h1, trod_app h2 h', by simp⟩
  | [], _ :: _, _, _, _, _, _, _, h, _ => by simp [DataW.TrodAll] at h
  | [], [], _ :: _, _, _, _, _, _, h, _ => by simp [DataW.TrodAll] at h
  | _ :: _, [], _, _, _, _, _, _, h, _ => by simp [DataW.TrodAll] at h
  | _ :: _, _ :: _, [], _, _, _, _, _, h, _ => by simp [DataW.TrodAll] at h

/-- A law's row: out of the contracts at every argument of the types. -/
theorem law_contract (S : Setup) {f : FuncId} {fn : Func} {s : ChangeSpec} {ts : List TypeId} {tb m : Nat} (hl : laidOutB S.P = true) (hts : fn.params.toList = ts) (hcl : ∀ t ∈ ts, clB S.tab m t = true) (hrd : ∀ t ∈ ts, S.P.readableRec t = true ∧ t < S.P.types.size)
    (hres : fn.resultTypes = #[tb]) (hb : S.P.underlying tb = some .bool) (hvars : s.vars = []) (hspec : ∀ ds : List (DataW H), ds.length = ts.length → s.fn H ds = { results := [.lit (.bool true)], args := ds })
    (hfc : ∀ args : List D, args.length = ts.length → (∀ (j : Nat) t d, ts[j]? = some t → args[j]? = some d → ∃ i cs, S.tab t = some i ∧ cs.length = i.size ∧ WC S t cs ∧ d = ofCells i cs) → FC S f [] [] [] args (.bool true) [] [])
    {apart fresh handsOn again : Bool} {W : World} {base : Nat} {args : Array Value} {ds gs : List (DataW H)} {before : List MemPlace}
    (hval : ∀ (j : Nat) t v, fn.params[j]? = some t → args[j]? = some v → Value.okWide S.P W .any base t v) (hW : DataW.Whole enc S.P fn.params.toList s.vars apart W args.toList ds gs before) :
    Calls S.P f args W fun e W' => ∃ v, e = .returned v ∧ s.post enc S.P fn apart fresh handsOn again W args v W' := by
  have hW0 := hW
  have hlt := hW.lt
  rw [hts, hvars] at hW
  obtain ⟨p, q, hA, hV, rfl, hz, hn⟩ := hW
  obtain ⟨rfl, rfl⟩ : gs = [] ∧ q = [] := by
    cases gs with
    | nil => exact ⟨rfl, hV⟩
    | cons _ _ => simp [DataW.TrodVars] at hV
  simp only [List.append_nil] at hz hn hlt hW0
  obtain ⟨k1, k0, as, k2, k3, k4⟩ := args_open (S := S) hA (fun j t v ht hv => hval j t v (by rw [← hts] at ht; simpa using ht) (by simpa using hv)) hcl
  refine (fc_open (hfc as k2 k3) (vals := args) (by rw [k2, ← k1]; simp) (fun j d v hd hv => k4 j d v hd (by simpa using hv))).mono ?_
  rintro e W' ⟨v, G', rfl, hr, hbel⟩
  cases hr
  refine ⟨_, rfl, ds, [], p, [], p, [], hW0, ?_, ?_, ?_, ?_, fun _ => ⟨?_, ?_⟩⟩
  · rw [hres, List.append_nil, hspec ds k0]
    exact ⟨[], [], shut_bool hb true, rfl, rfl⟩
  · rw [hts, List.append_nil, hspec ds k0]
    exact args_stay hl hbel _ hA hrd (fun x hx => ⟨hlt x hx, by simpa using hlt x hx⟩)
  · rw [hvars, List.append_nil, hspec ds k0]
    exact rfl
  · exact hbel.frame _
  · exact ok_one hres rfl (okWide_bool_mk hb true)
  · refine ⟨[.lit (.bool true)] ++ ds, [], [] ++ p, ?_, fun x hx _ => by simpa using hx⟩
    refine ⟨[] ++ p, [], ?_, by rw [hvars]; exact rfl, by simp, fun b off hx => ?_, fun ha => by simpa using hn ha⟩
    · rw [hts, hres]
      exact trod_app (ts := [tb]) (vs := [.bool true]) ⟨[], [], shut_bool hb true, rfl, rfl⟩ (args_stay hl hbel _ hA hrd (fun x hx => ⟨hlt x hx, rfl⟩))
    · have hx' : MemPlace.cell b off ∈ p := by simpa using hx
      rw [hbel.frozen (hlt _ hx')]
      exact hz b off hx'
end

/-! What the types say. -/
section types
variable {S : Setup}
def In64 (n : Int) : Prop := -9223372036854775808 ≤ n ∧ n ≤ 9223372036854775807
theorem wc_int {t : Nat} {cs : List D} {k : IntKind} (hk : S.kd t = some (.int k)) (h : WC S t cs) : ∃ n, cs = [.int k n] ∧ (Lit.int k n).wf = true := by
  cases h with
  | int ht hn => rw [hk] at ht; cases ht; exact ⟨_, rfl, hn⟩
  | bool ht => rw [hk] at ht; cases ht
  | str ht => rw [hk] at ht; cases ht
  | sl ht => rw [hk] at ht; cases ht
  | st ht => rw [hk] at ht; cases ht
theorem wc_bool {t : Nat} {cs : List D} (hk : S.kd t = some .bool) (h : WC S t cs) : ∃ b, cs = [.bool b] := by
  cases h with
  | int ht hn => rw [hk] at ht; cases ht
  | bool ht => exact ⟨_, rfl⟩
  | str ht => rw [hk] at ht; cases ht
  | sl ht => rw [hk] at ht; cases ht
  | st ht => rw [hk] at ht; cases ht
theorem wc_str {t : Nat} {cs : List D} (hk : S.kd t = some .string) (h : WC S t cs) : ∃ s, cs = [.str s] ∧ s.size ≤ maxLen := by
  cases h with
  | int ht hn => rw [hk] at ht; cases ht
  | bool ht => rw [hk] at ht; cases ht
  | str ht hn => exact ⟨_, rfl, hn⟩
  | sl ht => rw [hk] at ht; cases ht
  | st ht => rw [hk] at ht; cases ht
theorem wc_sl {t e : Nat} {i : TyI} {cs : List D} (hk : S.kd t = some (.slice e)) (hi : S.tab e = some i) (h : WC S t cs) : ∃ dss : List (List D), cs = [.sl .any (dss.map (ofCells i))] ∧ dss.length ≤ maxLen ∧ ∀ ds ∈ dss, ds.length = i.size ∧ WC S e ds := by
  cases h with
  | int ht hn => rw [hk] at ht; cases ht
  | bool ht => rw [hk] at ht; cases ht
  | str ht => rw [hk] at ht; cases ht
  | sl ht hi' hn hz hh =>
    rw [hk] at ht; cases ht
    rw [hi] at hi'; cases hi'
    exact ⟨_, rfl, hn, fun ds hd => ⟨hz ds hd, hh ds hd⟩⟩
  | st ht => rw [hk] at ht; cases ht
theorem wc_st {t : Nat} {fs : List (Nat × TypeId)} {cs : List D} (hk : S.kd t = some (.struct fs)) (h : WC S t cs) : ∃ css : List (List D), cs = css.flatten ∧ css.length = fs.length ∧ ∀ (j : Nat) p cs, fs[j]? = some p → css[j]? = some cs → WC S p.2 cs := by
  cases h with
  | int ht hn => rw [hk] at ht; cases ht
  | bool ht => rw [hk] at ht; cases ht
  | str ht => rw [hk] at ht; cases ht
  | sl ht => rw [hk] at ht; cases ht
  | st ht hl hh => rw [hk] at ht; cases ht; exact ⟨_, rfl, hl, hh⟩
theorem in64_wf {n : Int} (h : (Lit.int .i64 n).wf = true) : In64 n := by
  simpa [In64, Lit.wf, IntKind.min, IntKind.max, IntKind.signed, IntKind.bits] using h
/-- A slice whose elements read as values of 'α'. -/
theorem wc_list {α : Type} {t e : Nat} {i : TyI} {cs : List D} (hk : S.kd t = some (.slice e)) (hi : S.tab e = some i) (h : WC S t cs) (g : α → D) (ok : α → Prop) (he : ∀ ds, ds.length = i.size → WC S e ds → ∃ a, ofCells i ds = g a ∧ ok a) :
    ∃ xs : List α, cs = [.sl .any (xs.map g)] ∧ ∀ x ∈ xs, ok x := by
  obtain ⟨dss, rfl, hlen, hd⟩ := wc_sl hk hi h
  have : ∃ xs : List α, dss.map (ofCells i) = xs.map g ∧ ∀ x ∈ xs, ok x := by
    clear h hlen
    induction dss with
    | nil => exact ⟨[], rfl, by simp⟩
    | cons ds r ih =>
      obtain ⟨a, ha, hok⟩ := he ds (hd ds (by simp)).1 (hd ds (by simp)).2
      obtain ⟨xs, hx, hxs⟩ := ih fun ds hds => hd ds (by simp [hds])
      refine ⟨a :: xs, by simp [ha, hx], fun x hx' => ?_⟩
      rcases List.mem_cons.1 hx' with rfl | h
      · exact hok
      · exact hxs x h
  obtain ⟨xs, hx, hxs⟩ := this
  exact ⟨xs, by rw [hx], hxs⟩
theorem wc_ints {t e b : Nat} {z : List ZK} {cs : List D} (hk : S.kd t = some (.slice e)) (hi : S.tab e = some ⟨.int .i64, b, z⟩) (h : WC S t cs) : ∃ xs : List Int, cs = [.sl .any (xs.map (.int .i64))] ∧ ∀ x ∈ xs, In64 x := by
  refine wc_list hk hi h (.int .i64) In64 fun ds _ hw => ?_
  obtain ⟨n, rfl, hn⟩ := wc_int (kd_of hi) hw
  exact ⟨n, rfl, in64_wf hn⟩
end types
end Go.Lg
