/-
  Lg, part 10: append, whole.
-/
import Derived.Test.YtenjmepbaajkjaaLgApp
namespace Go.Lg
open Go Go.RowKit

def appendable (xs ys : List D) (toks : List Nat) (e : TypeId) (z : Nat) : Tk → Prop
  | .nil => True
  | .full => xs = [] ∨ ys ≠ []
  | .own k e' z' => e' = e ∧ z' = z ∧ k ∈ toks
  | _ => False
def Tk.key : Tk → Option Nat
  | .own k _ _ => some k
  | _ => none
def killed (tk : Tk) (toks : List Nat) : List Nat := match tk with | .own k _ _ => toks.filter (fun x => !(x == k)) | _ => toks

def killτ (tk : Tk) (τ : Nat → Option (Option (Nat × TypeId × Nat))) : Nat → Option (Option (Nat × TypeId × Nat)) := match tk with
  | .own k _ _ => fun x => if x = k then none else τ x
  | _ => τ
theorem killτ_or (tk : Tk) (τ : Nat → Option (Option (Nat × TypeId × Nat))) (k : Nat) : killτ tk τ k = none ∨ killτ tk τ k = τ k := by
  cases tk with
  | own q e z =>
    simp only [killτ]
    split
    · exact .inl rfl
    · exact .inr rfl
  | _ => exact .inr rfl
theorem mem_killed {tk : Tk} {toks : List Nat} {k : Nat} (h : k ∈ killed tk toks) (τ : Nat → Option (Option (Nat × TypeId × Nat))) : killτ tk τ k = τ k ∧ k ∈ toks := by
  cases tk <;> simp only [killed, killτ] at h ⊢ <;> first | exact ⟨trivial, h⟩ | skip
  rename_i q _ _
  simp only [List.mem_filter, Bool.not_eq_true', beq_eq_false_iff_ne] at h
  exact ⟨by rw [if_neg h.2], h.1⟩

theorem rel_step {B : Base} {G G' : Ghost} {w w' : World} {tok : Nat} (hs : TokStep B G G' w w' tok) {d : D} {v : Value} (hr : Rel G w d v) (hm : d.memOk = true) : Rel G' w' d v :=
  hr.mono hs.mono (by rw [memOk_ids hm]; intro i hi; cases hi) (by rw [memOk_tks hm]; intro i hi; cases hi)

theorem grow_case {B : Base} {L : LS} {G : Ghost} {a : Act} {w : World} (hs : Sim B L G a w) {tok : Nat} (hc : L.clean (fun k => k == tok) = true) (tk : Tk) {e : TypeId} {z : Nat} (hz : 0 < z) {xs : List D} (hu : ∀ x ∈ xs, x.cells.length = z)
    (hmem : ∀ d ∈ flat xs, d.memOk = true) (arr : Array Value) (cap : Nat) (h1 : xs.length ≤ cap) (h2 : cap ≤ maxLen) (h3 : arr.size = cap * z) (hr : ∀ (j : Nat) d u, (flat xs)[j]? = some d → arr[j]? = some u → Rel G w d u) :
    ∃ G', Sim B { L with toks := tok :: killed tk L.toks } G' a (w.drew.alloc (.cells arr e)) ∧ Rel G' (w.drew.alloc (.cells arr e)) (.sl (.own tok e z) xs) (.slice (some ⟨w.heap.size, 0, none⟩) xs.length cap) := by
  have hfl := flat_length hu
  have hN : xs.length * z ≤ arr.size := by rw [h3]; exact Nat.mul_le_mul_right z h1
  have hst := fresh_step hs arr e z (xs.length * z) hz hN tok (killτ tk G.τ) (killτ_or tk G.τ)
  refine ⟨_, tokStep_sim hs hst hc (fun k hk => ?_), ?_⟩
  · rcases List.mem_cons.1 hk with rfl | hk
    · exact .inl rfl
    · by_cases hkt : k = tok
      · exact .inl hkt
      · refine .inr ⟨?_, (mem_killed hk G.τ).2⟩
        simp only [Ghost.setTok, if_neg hkt]
        exact (mem_killed hk G.τ).1
  · have hnew : (w.drew.alloc (.cells arr e)).heap[w.heap.size]? = some (.cells arr e (0, 0)) := heap_alloc_new w.drew _
    have hcell : ∀ j, (w.drew.alloc (.cells arr e)).cell? ⟨w.heap.size, j, none⟩ = arr[j]? := fun j => by
      unfold World.cell?
      simp only [hnew]
      rfl
    refine .sl (b := w.heap.size) (o := 0) (s := z) rfl h1 h2 ?_ (.inr rfl) hu hmem (fun j d hd => ?_) (fun j d v hd hv => ?_)
    · simp only [TkOk, Ghost.setTok, if_true]
      refine ⟨⟨trivial, trivial⟩, trivial, by simp [Ghost.grow], ?_, hu⟩
      unfold World.shape?
      simp only [hnew, h3]
    · have hj : j < xs.length * z := by rw [← hfl]; exact (List.getElem?_eq_some_iff.1 hd).1
      simp only [Nat.zero_add]
      refine ⟨by simpa [Ghost.setTok, Ghost.grow] using hj, arr[j]'(by omega), ?_⟩
      rw [hcell]
      simp [show j < arr.size by omega]
    · simp only [Nat.zero_add, hcell] at hv
      exact rel_step hst (hr j d v hd hv) (hmem d (List.mem_of_getElem? hd))

/-- The world stands; the token is given to a value that is at hand. -/
theorem stay_step {B : Base} {L : LS} {G : Ghost} {a : Act} {w : World} (h : Sim B L G a w) (tok : Nat) (tk : Tk) (x : Option (Nat × TypeId × Nat))
    (hx : ∀ g e z, x = some (g, e, z) → ∃ k, tk.key = some k ∧ G.τ k = some (some (g, e, z))) :
    TokStep B G (({ G with τ := killτ tk G.τ } : Ghost).setTok tok (some x)) w w tok := by
  have hW := h.W
  refine {
    mono := ⟨fun _ _ _ h1 h2 => ⟨h1, h2⟩, fun _ _ => rfl⟩
    beta := rfl
    lab := rfl
    sz := Nat.le_refl _
    os := rfl
    tape := rfl
    out := rfl
    tau := fun k hk => ?_
    block := fun b hb => .inl ⟨rfl, rfl⟩
    new := fun g e' z' hg => ?_
    live := by simp [Ghost.setTok] }
  · simp only [Ghost.setTok, if_neg hk]
    rcases killτ_or tk G.τ k with h1 | h1
    · exact .inl h1
    · exact .inr ⟨h1, fun _ _ _ _ => ⟨trivial, trivial⟩⟩
  · simp only [Ghost.setTok, if_true, Option.some.injEq] at hg
    obtain ⟨k, hk, hτ⟩ := hx g e' z' hg
    obtain ⟨h1, h2, h3, h4⟩ := hW.tau k g e' z' hτ
    refine ⟨h1, h2, h3, h4, fun k' e'' z'' hk' hkk => ?_, hW.tlab k g e' z' hτ⟩
    simp only [Ghost.setTok, if_neg hk'] at hkk
    cases tk with
    | own q e0 z0 =>
      simp only [Tk.key, Option.some.injEq] at hk
      subst hk
      simp only [killτ] at hkk
      split at hkk
      · cases hkk
      · rename_i hne
        exact hne (hW.tinj k' q g e'' z'' e' z' hkk hτ)
    | _ => cases hk

theorem stay_case {B : Base} {L : LS} {G : Ghost} {a : Act} {w : World} (hs : Sim B L G a w) {tok : Nat} (hc : L.clean (fun k => k == tok) = true) (tk : Tk) (x : Option (Nat × TypeId × Nat))
    (hx : ∀ g e z, x = some (g, e, z) → ∃ k, tk.key = some k ∧ G.τ k = some (some (g, e, z))) {e : TypeId} {z : Nat} {xs : List D} {A : Option Addr} {n c : Nat} (hr : Rel G w (.sl tk xs) (.slice A n c))
    (ht0 : x = none → n = 0 ∧ c = 0) (ht1 : ∀ g e' z', x = some (g, e', z') → (e' = e ∧ z' = z) ∧ A = some ⟨g, 0, none⟩ ∧ n * z = G.lim g ∧ w.shape? g = some (e, c * z) ∧ ∀ y ∈ xs, y.cells.length = z) :
    ∃ G', Sim B { L with toks := tok :: killed tk L.toks } G' a w ∧ Rel G' w (.sl (.own tok e z) xs) (.slice A n c) := by
  have hst := stay_step hs tok tk x hx
  refine ⟨_, tokStep_sim hs hst hc (fun k hk => ?_), ?_⟩
  · rcases List.mem_cons.1 hk with rfl | hk
    · exact .inl rfl
    · by_cases hkt : k = tok
      · exact .inl hkt
      · refine .inr ⟨?_, (mem_killed hk G.τ).2⟩
        simp only [Ghost.setTok, if_neg hkt]
        exact (mem_killed hk G.τ).1
  · cases hr with
    | @sl _ _ _ _ _ b o s hn hcc hm _ hA hu hk hstt hrr =>
    refine .sl (b := b) (o := o) (s := s) hn hcc hm ?_ hA hu hk hstt (fun j d v hd hv => rel_step hst (hrr j d v hd hv) (hk d (List.mem_of_getElem? hd)))
    simp only [TkOk, Ghost.setTok, if_true]
    cases x with
    | none => exact ht0 rfl
    | some p => exact ht1 p.1 p.2.1 p.2.2 rfl

/-- In place. -/
theorem room_case {B : Base} {L : LS} {G : Ghost} {a : Act} {w : World} (hs : Sim B L G a w) {tok : Nat} (hc : L.clean (fun k => k == tok) = true) {k : Nat} {e : TypeId} {z g : Nat} {xs ys : List D} {n c : Nat} (hτ : G.τ k = some (some (g, e, z)))
    (hr : Rel G w (.sl (.own k e z) xs) (.slice (some ⟨g, 0, none⟩) n c)) (hlim : n * z = G.lim g) (hsh : w.shape? g = some (e, c * z)) (hux : ∀ y ∈ xs, y.cells.length = z) (huy : ∀ y ∈ ys, y.cells.length = z)
    (hmy : ∀ d ∈ flat ys, d.memOk = true) {news : List Value} (hnl : news.length = (flat ys).length) (hnr : ∀ (j : Nat) d u, (flat ys)[j]? = some d → news[j]? = some u → Rel G w d u) (hroom : n + ys.length ≤ c) {cur : Array Value} (hcur : w.heap[g]? = some (.cells cur e (0, 0))) :
    ∃ G', Sim B { L with toks := tok :: killed (.own k e z) L.toks } G' a (w.setRow g (cur.toList.take (n * z) ++ news ++ cur.toList.drop (n * z + news.length)).toArray) ∧
      Rel G' (w.setRow g (cur.toList.take (n * z) ++ news ++ cur.toList.drop (n * z + news.length)).toArray) (.sl (.own tok e z) (xs ++ ys)) (.slice (some ⟨g, 0, none⟩) (n + ys.length) c) := by
  have hW := hs.W
  let row := (cur.toList.take (n * z) ++ news ++ cur.toList.drop (n * z + news.length)).toArray
  let w' := w.setRow g row
  have hgl := heap_lt hcur
  have hcs : cur.size = c * z := by
    have := hsh
    simp only [World.shape?, hcur, Option.some.injEq, Prod.mk.injEq] at this
    exact this.2
  have hfy := flat_length huy
  have hnz : n * z + news.length = (n + ys.length) * z := by rw [hnl, hfy, ← Nat.add_mul]
  have hle : (n + ys.length) * z ≤ c * z := Nat.mul_le_mul_right z hroom
  have hrow : w'.heap[g]? = some (.cells row e (0, 0)) := setRow_heap w g cur row e (0, 0) hcur
  have hrs : row.size = c * z := by simp [row]; omega
  have hother : ∀ b, b ≠ g → w'.heap[b]? = w.heap[b]? := fun b hb => setRow_other w g b row hb
  have hget1 : ∀ j, j < n * z → row[j]? = cur[j]? := fun j hj => by
    simp only [row, List.getElem?_toArray]
    rw [List.append_assoc, List.getElem?_append_left (by simp; omega), List.getElem?_take, if_pos hj]
    simp
  have hget2 : ∀ j, j < news.length → row[n * z + j]? = news[j]? := fun j hj => by
    simp only [row, List.getElem?_toArray]
    have : (cur.toList.take (n * z)).length = n * z := by simp; omega
    rw [List.append_assoc, List.getElem?_append_right (by omega), this, List.getElem?_append_left (by omega)]
    congr 1
    omega
  have hcell' : ∀ j, w'.cell? ⟨g, j, none⟩ = row[j]? := fun j => by simp [World.cell?, hrow]
  have hcell : ∀ j, w.cell? ⟨g, j, none⟩ = cur[j]? := fun j => by simp [World.cell?, hcur]
  let G' : Ghost := ({ G.grow g ((n + ys.length) * z) with τ := killτ (.own k e z) G.τ } : Ghost).setTok tok (some (some (g, e, z)))
  have hl' : G'.lim g = (n + ys.length) * z := by simp [G', Ghost.setTok, Ghost.grow]
  have hlo : ∀ b, b ≠ g → G'.lim b = G.lim b := fun b hb => by simp [G', Ghost.setTok, Ghost.grow, hb]
  have hst : TokStep B G G' w w' tok := by
    obtain ⟨q1, q2, q3, q4⟩ := hW.tau k g e z hτ
    refine {
      mono := ⟨fun b o v h1 h2 => ?_, fun _ _ => rfl⟩
      beta := rfl
      lab := rfl
      sz := by simp [w', World.setRow]
      os := rfl
      tape := rfl
      out := rfl
      tau := fun k' hk' => ?_
      block := fun b hb => ?_
      new := fun g' e' z' hg => ?_
      live := by simp [G', Ghost.setTok] }
    · by_cases hb : b = g
      · subst hb
        rw [← hlim] at h1
        have hle2 : n * z ≤ (n + ys.length) * z := Nat.mul_le_mul_right z (Nat.le_add_right _ _)
        refine ⟨by rw [hl']; omega, ?_⟩
        rw [hcell', hget1 o h1, ← hcell]; exact h2
      · exact ⟨by rw [hlo b hb]; exact h1, by rw [cell_of_heap (hother b hb)]; exact h2⟩
    · simp only [G', Ghost.setTok, if_neg hk', killτ]
      by_cases hkk : k' = k
      · exact .inl (by rw [if_pos hkk])
      · refine .inr ⟨by rw [if_neg hkk], fun g2 e2 z2 h2 => ?_⟩
        have hne : g2 ≠ g := fun e0 => by subst e0; exact hkk (hW.tinj k' k _ e2 z2 e z h2 hτ)
        exact ⟨by simp [Ghost.grow, hne], hother g2 hne⟩
    · by_cases hb' : b = g
      · subst hb'
        refine .inr ⟨q1, q4, ?_, hW.tlab k b e z hτ⟩
        rw [hl', ← hlim]
        exact Nat.mul_le_mul_right z (Nat.le_add_right _ _)
      · exact .inl ⟨hother b hb', hlo b hb'⟩
    · simp only [G', Ghost.setTok, if_true, Option.some.injEq, Prod.mk.injEq] at hg
      obtain ⟨rfl, rfl, rfl⟩ := hg
      refine ⟨q1, q2, ⟨row, hrow, by rw [hl', hrs]; exact hle⟩, q4, fun k' e' z' hk' hkk => ?_, hW.tlab k _ _ _ hτ⟩
      simp only [G', Ghost.setTok, if_neg hk', killτ] at hkk
      split at hkk
      · cases hkk
      · rename_i hne
        exact hne (hW.tinj k' k _ e' z' _ _ hkk hτ)
  refine ⟨G', tokStep_sim hs hst hc (fun k' hk' => ?_), ?_⟩
  · rcases List.mem_cons.1 hk' with rfl | hk'
    · exact .inl rfl
    · by_cases hkt : k' = tok
      · exact .inl hkt
      · refine .inr ⟨?_, (mem_killed hk' G.τ).2⟩
        simp only [G', Ghost.setTok, if_neg hkt]
        exact (mem_killed hk' G.τ).1
  · obtain ⟨hn, hnc, hcm, hmx, _⟩ := rel_list hr
    have hfx := flat_length hux
    have huxy : ∀ y ∈ xs ++ ys, y.cells.length = z := fun y hy => by
      rcases List.mem_append.1 hy with hy | hy
      · exact hux y hy
      · exact huy y hy
    have hmxy : ∀ d ∈ flat (xs ++ ys), d.memOk = true := fun d hd => by
      rw [flat_append] at hd
      rcases List.mem_append.1 hd with hd | hd
      · exact hmx d hd
      · exact hmy d hd
    have hxcell : ∀ (j : Nat) d, (flat xs)[j]? = some d → ∃ v, cur[j]? = some v ∧ Rel G w d v := fun j d hd => by
      cases hr with
      | @sl _ _ _ _ _ b o s hn hcc hm _ hA hu hk hstt hrr =>
      have hne : xs ≠ [] := fun e0 => by subst e0; simp [flat] at hd
      have hA' := hA.resolve_left hne
      simp only [Option.some.injEq, Addr.mk.injEq, and_true] at hA'
      obtain ⟨rfl, rfl⟩ := hA'
      obtain ⟨_, v, hv⟩ := hstt j d hd
      have hv2 := hrr j d v hd hv
      rw [Nat.zero_add, hcell] at hv
      exact ⟨v, hv, hv2⟩
    have key : ∀ (j : Nat) d, (flat (xs ++ ys))[j]? = some d → ∃ v, row[j]? = some v ∧ Rel G w d v := fun j d hd => by
      rw [flat_append] at hd
      by_cases hj : j < n * z
      · rw [List.getElem?_append_left (by rw [hfx, ← hn]; exact hj)] at hd
        obtain ⟨v, h1, h2⟩ := hxcell j d hd
        exact ⟨v, by rw [hget1 j hj]; exact h1, h2⟩
      · rw [List.getElem?_append_right (by rw [hfx, ← hn]; omega), hfx, ← hn] at hd
        have hlt := (List.getElem?_eq_some_iff.1 hd).1
        have h2 := hget2 (j - n * z) (by omega)
        rw [show n * z + (j - n * z) = j by omega] at h2
        have h3 : news[j - n * z]? = some (news[j - n * z]'(by omega)) := List.getElem?_eq_getElem (by omega)
        exact ⟨_, by rw [h2, h3], hnr _ d _ hd h3⟩
    refine .sl (b := g) (o := 0) (s := z) (by simp [hn]) hroom hcm ?_ (.inr rfl) huxy hmxy (fun j d hd => ?_) (fun j d v hd hv => ?_)
    · have e1 : G'.τ tok = some (some (g, e, z)) := by simp [G', Ghost.setTok]
      simp only [TkOk, e1]
      refine ⟨⟨trivial, trivial⟩, trivial, by rw [hl'], ?_, huxy⟩
      show w'.shape? g = some (e, c * z)
      simp [World.shape?, hrow, hrs]
    · obtain ⟨v, h1, _⟩ := key j d hd
      have hj : j < (n + ys.length) * z := by
        have := (List.getElem?_eq_some_iff.1 hd).1
        rw [flat_length huxy, List.length_append, ← hn] at this
        exact this
      refine ⟨?_, v, ?_⟩
      · rw [hl', Nat.zero_add]; exact hj
      · rw [Nat.zero_add]
        show w'.cell? _ = _
        rw [hcell']; exact h1
    · rw [Nat.zero_add] at hv
      have hv : w'.cell? ⟨g, j, none⟩ = some v := hv
      rw [hcell'] at hv
      obtain ⟨v', h1, h2⟩ := key j d hd
      rw [h1] at hv
      obtain rfl := Option.some.inj hv
      exact rel_step hst h2 (hmxy d (List.mem_of_getElem? hd))

theorem append_sound {S : Setup} {B : Base} {L : LS} {G : Ghost} {a : Act} {w : World} (hs : Sim B L G a w) {tok : Nat} (hc : L.clean (fun k => k == tok) = true) {t ty e : TypeId} {i : TyI} (hk : S.kd t = some (.slice e)) (hi : S.tab e = some i)
    (hz : 0 < i.size) {tk tk2 : Tk} {xs ys : List D} {v u : Value} (hx : Rel G w (.sl tk xs) v) (hy : Rel G w (.sl tk2 ys) u) (hap : appendable xs ys L.toks e i.size tk) (hux : ∀ x ∈ xs, x.cells.length = i.size) (huy : ∀ x ∈ ys, x.cells.length = i.size)
    (hb : (xs.length + ys.length) * i.bytes ≤ 140737488355328) (h63 : xs.length + ys.length ≤ 140737488355328) :
    ∃ v' G' w', (Builtin.append_ #[t, t] ty #[v, u]).run S.P w = .ok v' w' ∧ Sim B { L with toks := tok :: killed tk L.toks } G' a w' ∧ Rel G' w' (.sl (.own tok e i.size) (xs ++ ys)) v' := by
  have ht := kd_slice hk
  obtain ⟨inf, i1, i2, i3, z, i4, i5, _⟩ := (S.ok e i hi).info
  obtain ⟨A, n, c, rfl⟩ : ∃ A n c, v = .slice A n c := by cases hx; exact ⟨_, _, _, rfl⟩
  obtain ⟨A2, m, c2, rfl⟩ : ∃ A n c, u = .slice A n c := by cases hy; exact ⟨_, _, _, rfl⟩
  obtain ⟨xn, xc, xm, xk, xl⟩ := rel_list hx
  obtain ⟨yn, yc, ym, yk, yl⟩ := rel_list hy
  have hml : (140737488355328 : Nat) ≤ maxLen := by simp [maxLen]
  have huxy : ∀ y ∈ xs ++ ys, y.cells.length = i.size := fun y hy => by
    rcases List.mem_append.1 hy with hy | hy
    · exact hux y hy
    · exact huy y hy
  have hmxy : ∀ d ∈ flat (xs ++ ys), d.memOk = true := fun d hd => by
    rw [flat_append] at hd
    rcases List.mem_append.1 hd with hd | hd
    · exact xk d hd
    · exact yk d hd
  have hfx := flat_length hux
  have hfy := flat_length huy
  -- what of the token is known
  have hτ : ∀ k e' z', tk = .own k e' z' → (e' = e ∧ z' = i.size) ∧ ((G.τ k = some none ∧ n = 0 ∧ c = 0) ∨
      ∃ g, G.τ k = some (some (g, e, i.size)) ∧ A = some ⟨g, 0, none⟩ ∧ n * i.size = G.lim g ∧ w.shape? g = some (e, c * i.size)) := fun k e' z' e0 => by
    subst e0
    obtain ⟨rfl, rfl, hkt⟩ := hap
    refine ⟨⟨rfl, rfl⟩, ?_⟩
    obtain ⟨x, hx0⟩ := hs.W.toks k hkt
    cases hx with
    | @sl _ _ _ _ _ b o s hn hcc hm htk hA hu hk hstt hrr =>
    simp only [TkOk, hx0] at htk
    match x, hx0 with
    | none, hx0 => exact .inl ⟨hx0, htk⟩
    | some (g, e', z'), hx0 =>
      obtain ⟨⟨rfl, rfl⟩, h2, h3, h4, _⟩ := htk
      exact .inr ⟨g, hx0, h2, h3, h4⟩
  by_cases hm0 : ys = []
  · -- nothing is added
    subst hm0
    have hm : m = 0 := by rw [yn]; rfl
    subst hm
    rw [List.append_nil]
    have hrun := run_append_zero (P := S.P) w t ty e inf ht i1 A n c xc A2 c2
    have fin : ∀ x, (∀ g e z, x = some (g, e, z) → ∃ k, tk.key = some k ∧ G.τ k = some (some (g, e, z))) → (x = none → n = 0 ∧ c = 0) →
        (∀ g e' z', x = some (g, e', z') → (e' = e ∧ z' = i.size) ∧ A = some ⟨g, 0, none⟩ ∧ n * i.size = G.lim g ∧ w.shape? g = some (e, c * i.size) ∧ ∀ y ∈ xs, y.cells.length = i.size) →
        ∃ v' G' w', (Builtin.append_ #[t, t] ty #[.slice A n c, .slice A2 0 c2]).run S.P w = .ok v' w' ∧ Sim B { L with toks := tok :: killed tk L.toks } G' a w' ∧ Rel G' w' (.sl (.own tok e i.size) xs) v' := fun x h1 h2 h3 => by
      obtain ⟨G', q1, q2⟩ := stay_case (e := e) (z := i.size) hs hc tk x h1 hx h2 h3
      exact ⟨_, G', w, hrun, q1, q2⟩
    have hx' := hx
    cases hx with
    | @sl _ _ _ _ _ b o s hn hcc hm htk hA hu hk0 hstt hrr =>
    cases tk with
    | nil => exact fin none (by simp) (fun _ => ⟨htk.2.1, htk.2.2⟩) (by simp)
    | full =>
      have hxs : xs = [] := by rcases hap with h | h; exact h; exact absurd rfl h
      subst hxs
      have htk : n = c := htk
      exact fin none (by simp) (fun _ => ⟨by rw [hn]; rfl, by rw [← htk, hn]; rfl⟩) (by simp)
    | own k e' z' =>
      obtain ⟨⟨rfl, rfl⟩, hq⟩ := hτ k e' z' rfl
      rcases hq with ⟨_, h1, h2⟩ | ⟨g, h1, h2, h3, h4⟩
      · exact fin none (by simp) (fun _ => ⟨h1, h2⟩) (by simp)
      · exact fin (some (g, _, _)) (fun g' e2 z2 h => by
          obtain ⟨rfl, rfl, rfl⟩ := Prod.mk.inj (Option.some.inj h) |>.imp id Prod.mk.inj
          exact ⟨k, rfl, h1⟩) (by simp) (fun g' e2 z2 h => by
          obtain ⟨rfl, rfl, rfl⟩ := Prod.mk.inj (Option.some.inj h) |>.imp id Prod.mk.inj
          exact ⟨⟨rfl, rfl⟩, h2, h3, h4, hux⟩)
    | _ => exact hap.elim
  · -- cells are added
    obtain ⟨b2, o2, rfl, news, n1, n2, n3, n4, _⟩ := yl hm0
    have hmp : 0 < m := by rw [yn]; exact List.length_pos_iff.2 hm0
    have hnl : news.length = m * inf.size := by rw [n1, hfy, yn, i2]
    have hnews : ∀ (j : Nat) u, news[j]? = some u → w.cell? ((⟨b2, o2, none⟩ : Addr).add j) = some u := fun j u hu => by rw [add_mk]; exact n2 j u hu
    have hzs : z.cells.size = inf.size := by rw [i5, i2]; simp [TyI.size]
    -- a new row
    have grow : ∀ (olds : List Value), olds.length = (flat xs).length → (∀ (j : Nat) d u, (flat xs)[j]? = some d → olds[j]? = some u → Rel G w d u) →
        (Builtin.append_ #[t, t] ty #[.slice A n c, .slice (some ⟨b2, o2, none⟩) m c2]).run S.P w =
          .ok (.slice (some ⟨w.heap.size, 0, none⟩) (n + m) (grownCap w (n + m) c e)) (w.drew.alloc (.cells (olds.toArray ++ news.toArray ++ Builtin.zeroCells z.cells (grownCap w (n + m) c e - (n + m))) e)) →
        ∃ v' G' w', (Builtin.append_ #[t, t] ty #[.slice A n c, .slice (some ⟨b2, o2, none⟩) m c2]).run S.P w = .ok v' w' ∧ Sim B { L with toks := tok :: killed tk L.toks } G' a w' ∧ Rel G' w' (.sl (.own tok e i.size) (xs ++ ys)) v' := fun olds ho hor hrun => by
      have hcap := grownCap_ge w (n + m) c e
      have hlen : (xs ++ ys).length = n + m := by rw [List.length_append, xn, yn]
      obtain ⟨G', q1, q2⟩ := grow_case hs hc tk hz huxy hmxy (olds.toArray ++ news.toArray ++ Builtin.zeroCells z.cells (grownCap w (n + m) c e - (n + m))) (grownCap w (n + m) c e) (by rw [hlen]; exact hcap)
        (grownCap_le_maxLen w (n + m) c e (by omega)) (by
          simp only [Array.size_append, List.size_toArray, size_zeroCells, hzs, ho, hnl, hfx, i2, ← xn, ← Nat.add_mul]
          congr 1
          omega) (fun j d u hd hu => by
          rw [flat_append] at hd
          by_cases hj : j < (flat xs).length
          · rw [List.getElem?_append_left hj] at hd
            rw [Array.append_assoc, Array.getElem?_append_left (by simpa [ho] using hj)] at hu
            exact hor j d u hd (by simpa using hu)
          · rw [List.getElem?_append_right (by omega)] at hd
            have hlt := (List.getElem?_eq_some_iff.1 hd).1
            rw [Array.append_assoc, Array.getElem?_append_right (by simp; omega), Array.getElem?_append_left (by simp; omega)] at hu
            exact n3 _ d u hd (by simpa [ho] using hu))
      rw [hlen] at q2
      exact ⟨_, G', _, hrun, q1, q2⟩
    have hnm63 : ((n + m : Nat) : Int) ≤ 9223372036854775807 := by omega
    have hbytes : (n + m) * inf.bytes ≤ 140737488355328 := by rw [i3, xn, yn]; exact hb
    -- where there is no room at all
    have nospare : n = c → ∃ v' G' w', (Builtin.append_ #[t, t] ty #[.slice A n c, .slice (some ⟨b2, o2, none⟩) m c2]).run S.P w = .ok v' w' ∧ Sim B { L with toks := tok :: killed tk L.toks } G' a w' ∧ Rel G' w' (.sl (.own tok e i.size) (xs ++ ys)) v' := fun hnc => by
      subst hnc
      cases A with
      | none =>
        have hxs : xs = [] := by
          cases hxe : xs with
          | nil => rfl
          | cons q r =>
            obtain ⟨b, o, h0, _⟩ := xl (by rw [hxe]; simp)
            cases h0
        subst hxs
        have hn0 : n = 0 := xn
        subst hn0
        have hr := run_append_nil (P := S.P) w t ty e inf z ht i1 i4 ⟨b2, o2, none⟩ m c2 news hnl hnews hmp (by omega) (by simp only [Nat.zero_add] at hbytes; omega)
        have := grow [] (by simp [flat]) (by simp) (by simpa using hr)
        exact this
      | some ad =>
        by_cases hxe : xs = []
        · subst hxe
          have hn0 : n = 0 := xn
          subst hn0
          have hr := run_append_grow (P := S.P) w t ty e inf z ht i1 i4 ad 0 0 [] (by simp) (by simp) ⟨b2, o2, none⟩ m c2 news hnl hnews (by omega) (by omega) (growslice_fits (by omega) hbytes)
          exact grow [] (by simp [flat]) (by simp) hr
        · obtain ⟨b, o, h0, olds, o1, o2', o3, _, _⟩ := xl hxe
          obtain rfl := Option.some.inj h0
          have hr := run_append_grow (P := S.P) w t ty e inf z ht i1 i4 ⟨b, o, none⟩ n n olds (by rw [o1, hfx, xn, i2]) (fun j u hu => by rw [add_mk]; exact o2' j u hu) ⟨b2, o2, none⟩ m c2 news hnl hnews (by omega) hnm63 (growslice_fits (by omega) hbytes)
          exact grow olds o1 o3 hr
    cases htk : tk with
    | nil =>
      subst htk
      refine nospare ?_
      cases hx with
      | @sl _ _ _ _ _ b o s hn hcc hm htk hA hu hk0 hstt hrr => obtain ⟨_, h1, h2⟩ := htk; omega
    | full =>
      subst htk
      refine nospare ?_
      cases hx with
      | @sl _ _ _ _ _ b o s hn hcc hm htk hA hu hk0 hstt hrr => exact htk
    | own k e' z' =>
      obtain ⟨⟨rfl, rfl⟩, hq⟩ := hτ k e' z' htk
      rcases hq with ⟨_, h1, h2⟩ | ⟨g, h1, rfl, h3, h4⟩
      · rw [← htk]; exact nospare (by omega)
      · obtain ⟨_, _, ⟨cur, hcur, hlc⟩, _⟩ := hs.W.tau k g _ _ h1
        have hcs : cur.size = c * i.size := by
          simp only [World.shape?, hcur, Option.some.injEq, Prod.mk.injEq] at h4
          exact h4.2
        by_cases hroom : n + m ≤ c
        · have hfit : n * inf.size + news.length ≤ cur.size := by
            rw [hnl, hcs, i2, ← Nat.add_mul]; exact Nat.mul_le_mul_right _ hroom
          have hr := run_append_room (P := S.P) w t ty e' inf ht i1 g n c cur hcur ⟨b2, o2, none⟩ m c2 news hnl hnews n4 hroom hfit
          rw [i2] at hr
          obtain ⟨G', q1, q2⟩ := room_case hs hc h1 (by rw [htk] at hx; exact hx) h3 h4 hux huy yk n1 n3 (by rw [← yn]; exact hroom) hcur
          rw [← yn] at q2
          exact ⟨_, G', _, hr, q1, q2⟩
        · by_cases hxe : xs = []
          · subst hxe
            have hn0 : n = 0 := xn
            subst hn0
            have hr := run_append_grow (P := S.P) w t ty e' inf z ht i1 i4 ⟨g, 0, none⟩ 0 c [] (by simp) (by simp) ⟨b2, o2, none⟩ m c2 news hnl hnews (by omega) hnm63 (growslice_fits (by omega) hbytes)
            rw [← htk]
            exact grow [] (by simp [flat]) (by simp) hr
          · obtain ⟨b, o, h0, olds, o1, o2', o3, _, _⟩ := xl hxe
            have h0 := Option.some.inj h0
            have hr := run_append_grow (P := S.P) w t ty e' inf z ht i1 i4 ⟨g, 0, none⟩ n c olds (by rw [o1, hfx, xn, i2]) (fun j u hu => by rw [h0, add_mk]; exact o2' j u hu) ⟨b2, o2, none⟩ m c2 news hnl hnews (by omega) hnm63 (growslice_fits (by omega) hbytes)
            rw [← htk]
            exact grow olds o1 o3 hr
    | any => rw [htk] at hap; exact hap.elim
    | nl => rw [htk] at hap; exact hap.elim
    | nn => rw [htk] at hap; exact hap.elim
    | lab l => rw [htk] at hap; exact hap.elim

end Go.Lg
