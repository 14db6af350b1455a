/-
  Ground terms by their lengths: the plain law.
-/
import Derived.Test.YtldlochhiiogbaaA28p
namespace Go.Proofs.Ytldlochhiiogbaa
open Go Go.Lg
set_option linter.unusedVariables false
abbrev Tms := List (List Int)
/-- what there is of a length -/
abbrev lv (B : List Tms) (k : Nat) : Tms := B.getD k default
/-- lists of 'a' ground terms, 'n' numbers together -/
def rowJ (R : Nat → Tms) (B : List Tms) (n j : Nat) : Tms := (List.range j).flatMap fun i => (lv B (i + 1)).flatMap fun t => (R (n - (i + 1))).map (t ++ ·)
def rowU (B : List Tms) : Nat → Nat → Tms
  | 0, n => if n = 0 then [[]] else []
  | a + 1, n => rowJ (rowU B a) B n n
theorem rowU_zero (B : List Tms) : rowU B 0 0 = [[]] := rfl
theorem rowU_zero' (B : List Tms) {n : Nat} (h : n ≠ 0) : rowU B 0 n = [] := if_neg h
theorem rowJ_succ (R : Nat → Tms) (B : List Tms) (n j : Nat) : rowJ R B n (j + 1) = rowJ R B n j ++ (lv B (j + 1)).flatMap fun t => (R (n - (j + 1))).map (t ++ ·) := by
  simp [rowJ, List.range_succ]
theorem rowU_few (B : List Tms) : ∀ a n, n < a → rowU B a n = []
  | 0, n, h => by omega
  | a + 1, n, h => by
    simp only [rowU, rowJ, List.flatMap_eq_nil_iff, List.mem_range]
    intro i hi t _
    rw [rowU_few B a _ (by omega)]
    rfl
theorem rowJ_end (B : List Tms) (a n : Nat) : ∀ d, n - a + d ≤ n → rowJ (rowU B a) B n (n - a + d) = rowJ (rowU B a) B n (n - a)
  | 0, _ => rfl
  | d + 1, h => by
    rw [← Nat.add_assoc, rowJ_succ, rowJ_end B a n d (by omega), rowU_few B a _ (by omega)]
    simp
theorem rowU_cut (B : List Tms) (a n : Nat) : rowU B (a + 1) n = rowJ (rowU B a) B n (n - a) := by
  have := rowJ_end B a n (n - (n - a)) (by omega)
  rw [show n - a + (n - (n - a)) = n by omega] at this
  exact this
theorem rowU_len (B : List Tms) (hB : ∀ k, ∀ t ∈ lv B k, t.length = k) : ∀ a n, ∀ t ∈ rowU B a n, t.length = n
  | 0, n, t, h => by
    by_cases e : n = 0
    · subst e; rw [rowU_zero, List.mem_singleton] at h; rw [h]; rfl
    · rw [rowU_zero' B e] at h; cases h
  | a + 1, n, t, h => by
    simp only [rowU, rowJ, List.mem_flatMap, List.mem_range, List.mem_map] at h
    obtain ⟨i, hi, u, hu, x, hx, rfl⟩ := h
    rw [List.length_append, hB _ u hu, rowU_len B hB a _ x hx]
    omega
/-- the first 201 -/
def cut (xs : Tms) : Tms := xs.take 201
theorem cut_nil : cut [] = [] := rfl
theorem cut_one (x : List Int) : cut [x] = [x] := rfl
theorem rowU_s (B : List Tms) (a n : Nat) : rowU B (a + 1) n = rowJ (rowU B a) B n n := rfl
theorem rowJ_zero (R : Nat → Tms) (B : List Tms) (n : Nat) : rowJ R B n 0 = [] := rfl
theorem cut_len (xs : Tms) : (cut xs).length = min 201 xs.length := List.length_take
theorem cut_small {xs : Tms} (h : xs.length ≤ 201) : cut xs = xs := List.take_of_length_le h
theorem cut_app (P Q : Tms) : cut (P ++ cut Q) = cut (P ++ Q) := by
  simp only [cut, List.take_append, List.take_take]
  congr 2
  omega
theorem cut_app' (P Q : Tms) : cut (cut P ++ Q) = cut (P ++ Q) := by
  simp only [cut, List.take_append, List.take_take, Nat.min_self, List.length_take]
  congr 2
  omega
theorem cut_full {P : Tms} (Q : Tms) (h : 201 ≤ P.length) : cut (P ++ Q) = cut P := by
  simp only [cut, List.take_append, show 201 - P.length = 0 by omega, List.take_zero, List.append_nil]
theorem cut_snoc {P : Tms} (x : List Int) (h : P.length ≤ 200) : cut (P ++ [x]) = cut P ++ [x] := by
  rw [cut_small (by simp; omega), cut_small (by omega)]
theorem cut_map (f : List Int → List Int) (xs : Tms) : (cut xs).map f = cut (xs.map f) := by simp [cut, List.map_take]
theorem cut_flat (r r' : Tms) (g : List Int → List Int → List Int) (h : r' = cut r) : ∀ (ts P : Tms), cut (P ++ ts.flatMap fun t => r'.map (g t)) = cut (P ++ ts.flatMap fun t => r.map (g t))
  | [], P => rfl
  | t :: ts, P => by
    simp only [List.flatMap_cons]
    rw [← List.append_assoc, cut_flat r r' g h ts (P ++ r'.map (g t)), ← List.append_assoc]
    rw [h, cut_map, ← cut_app', cut_app P, cut_app']
/-- the specification's list in the midst of its loops -/
def oI (P ts rest : Tms) (i : Nat) : Tms := cut (P ++ (ts.take i).flatMap fun t => rest.map (t ++ ·))
def oX (P ts rest : Tms) (i x : Nat) : Tms := cut (P ++ (ts.take i).flatMap (fun t => rest.map (t ++ ·)) ++ (rest.take x).map (ts.getD i default ++ ·))
theorem oI_len (P ts rest : Tms) (i : Nat) : (oI P ts rest i).length = min 201 (P ++ (ts.take i).flatMap fun t => rest.map (t ++ ·)).length := cut_len _
theorem oX_len (P ts rest : Tms) (i x : Nat) : (oX P ts rest i x).length = min 201 (P ++ (ts.take i).flatMap (fun t => rest.map (t ++ ·)) ++ (rest.take x).map (ts.getD i default ++ ·)).length := cut_len _
theorem oI_zero (P ts rest : Tms) : oI P ts rest 0 = cut P := by simp [oI]
theorem oX_zero (P ts rest : Tms) (i : Nat) : oX P ts rest i 0 = oI P ts rest i := by simp [oI, oX]
theorem take_snocG {xs : Tms} {i : Nat} (h : i < xs.length) : xs.take (i + 1) = xs.take i ++ [xs.getD i default] := by
  rw [List.take_add_one]
  simp [List.getElem?_eq_getElem h, List.getD_eq_getElem?_getD]
theorem oX_step {P ts rest : Tms} {i x : Nat} (hx : x < rest.length) (h : (oX P ts rest i x).length ≤ 200) : oX P ts rest i (x + 1) = oX P ts rest i x ++ [ts.getD i default ++ rest.getD x default] := by
  unfold oX at h ⊢
  rw [cut_len] at h
  rw [take_snocG hx, List.map_append, ← List.append_assoc, List.map_cons, List.map_nil, cut_snoc _ (by omega)]
theorem oI_succ {P ts rest : Tms} {i : Nat} (hi : i < ts.length) : oI P ts rest (i + 1) = cut (P ++ (ts.take i).flatMap (fun t => rest.map (t ++ ·)) ++ rest.map (ts.getD i default ++ ·)) := by
  unfold oI
  rw [take_snocG hi, List.flatMap_append, ← List.append_assoc, List.flatMap_cons, List.flatMap_nil, List.append_nil]
theorem oX_end {P ts rest : Tms} {i x : Nat} (hi : i < ts.length) (hx : x ≤ rest.length) (h : x = rest.length ∨ 201 ≤ (oX P ts rest i x).length) : oX P ts rest i x = oI P ts rest (i + 1) := by
  rw [oI_succ hi]
  rcases h with rfl | h
  · unfold oX; rw [List.take_length]
  · unfold oX at h ⊢
    rw [cut_len] at h
    have e : rest.map (ts.getD i default ++ ·) = (rest.take x).map (ts.getD i default ++ ·) ++ (rest.drop x).map (ts.getD i default ++ ·) := by
      rw [← List.map_append, List.take_append_drop]
    rw [e, ← List.append_assoc]
    exact (cut_full _ (by omega)).symm
theorem oI_end {P ts rest : Tms} {i : Nat} (hi : i ≤ ts.length) (h : i = ts.length ∨ 201 ≤ (oI P ts rest i).length) : oI P ts rest i = cut (P ++ ts.flatMap fun t => rest.map (t ++ ·)) := by
  rcases h with rfl | h
  · unfold oI; rw [List.take_length]
  · unfold oI at h ⊢
    rw [cut_len] at h
    have e : (ts.flatMap fun t => rest.map (t ++ ·)) = (ts.take i).flatMap (fun t => rest.map (t ++ ·)) ++ (ts.drop i).flatMap (fun t => rest.map (t ++ ·)) := by
      rw [← List.flatMap_append, List.take_append_drop]
    rw [e, ← List.append_assoc]
    exact (cut_full _ (by omega)).symm
theorem row_end {R : Nat → Tms} {B : List Tms} {n j i : Nat} (hi : i ≤ (lv B (j + 1)).length) (h : i = (lv B (j + 1)).length ∨ 201 ≤ (oI (rowJ R B n j) (lv B (j + 1)) (cut (R (n - (j + 1)))) i).length) : oI (rowJ R B n j) (lv B (j + 1)) (cut (R (n - (j + 1)))) i = cut (rowJ R B n (j + 1)) := by
  rw [oI_end hi h, rowJ_succ]
  exact cut_flat (R (n - (j + 1))) _ (fun t => (t ++ ·)) rfl _ _
theorem mem_cut {xs : Tms} {t : List Int} (h : t ∈ cut xs) : t ∈ xs := List.mem_of_mem_take h
theorem getD_memG {xs : Tms} {i : Nat} (h : i < xs.length) : xs.getD i default ∈ xs := by
  rw [List.getD_eq_getElem?_getD, List.getElem?_eq_getElem h]; exact List.getElem_mem h
/-- how many, up to 201 -/
theorem min_step (s k c : Nat) : min (min s 201 + k * min c 201) 201 = min (s + k * c) 201 := by
  rcases Nat.lt_or_ge c 202 with hc | hc
  · rw [Nat.min_eq_left (show c ≤ 201 by omega)]; omega
  · rw [Nat.min_eq_right (show 201 ≤ c by omega)]
    rcases Nat.eq_zero_or_pos k with rfl | hk
    · omega
    · have h1 : 201 ≤ k * 201 := Nat.le_mul_of_pos_left _ hk
      have h2 : k * 201 ≤ k * c := Nat.mul_le_mul_left _ (by omega)
      omega
theorem flat_len (r : Tms) (g : List Int → List Int → List Int) : ∀ ts : Tms, (ts.flatMap fun t => r.map (g t)).length = ts.length * r.length
  | [] => by simp
  | t :: ts => by rw [List.flatMap_cons, List.length_append, flat_len r g ts, List.length_map, List.length_cons, Nat.succ_mul]; omega
theorem rowJ_len (R : Nat → Tms) (B : List Tms) (n j : Nat) : (rowJ R B n (j + 1)).length = (rowJ R B n j).length + (lv B (j + 1)).length * (R (n - (j + 1))).length := by
  rw [rowJ_succ, List.length_append, flat_len]
/-- the program's list in the midst of its loops -/
def uI (P ts rest : Tms) (i : Nat) : Tms := P ++ (ts.take i).flatMap fun t => rest.map (t ++ ·)
def uX (P ts rest : Tms) (i x : Nat) : Tms := uI P ts rest i ++ (rest.take x).map (ts.getD i default ++ ·)
theorem uI_zero (P ts rest : Tms) : uI P ts rest 0 = P := by simp [uI]
theorem uX_zero (P ts rest : Tms) (i : Nat) : uX P ts rest i 0 = uI P ts rest i := by simp [uX]
theorem uX_step {P ts rest : Tms} {i x : Nat} (hx : x < rest.length) : uX P ts rest i (x + 1) = uX P ts rest i x ++ [ts.getD i default ++ rest.getD x default] := by
  unfold uX
  rw [take_snocG hx, List.map_append, ← List.append_assoc, List.map_cons, List.map_nil]
theorem uX_end {P ts rest : Tms} {i : Nat} (hi : i < ts.length) : uX P ts rest i rest.length = uI P ts rest (i + 1) := by
  unfold uX uI
  rw [take_snocG hi, List.flatMap_append, ← List.append_assoc, List.flatMap_cons, List.flatMap_nil, List.append_nil, List.take_length]
theorem uI_end (P ts rest : Tms) : uI P ts rest ts.length = P ++ ts.flatMap fun t => rest.map (t ++ ·) := by
  unfold uI; rw [List.take_length]
theorem uI_len (P ts rest : Tms) {i : Nat} (hi : i ≤ ts.length) : (uI P ts rest i).length = P.length + i * rest.length := by
  unfold uI
  rw [List.length_append, flat_len, List.length_take, Nat.min_eq_left hi]
theorem uX_len (P ts rest : Tms) {i x : Nat} (hi : i < ts.length) (hx : x ≤ rest.length) : (uX P ts rest i x).length ≤ P.length + ts.length * rest.length := by
  unfold uX
  rw [List.length_append, uI_len P ts rest (by omega), List.length_map, List.length_take, Nat.min_eq_left hx]
  have : (i + 1) * rest.length ≤ ts.length * rest.length := Nat.mul_le_mul_right _ hi
  rw [Nat.succ_mul] at this
  omega
theorem uI_len' (P ts rest : Tms) {i : Nat} (hi : i ≤ ts.length) : (uI P ts rest i).length ≤ P.length + ts.length * rest.length := by
  rw [uI_len P ts rest hi]
  have : i * rest.length ≤ ts.length * rest.length := Nat.mul_le_mul_right _ hi
  omega
theorem rowJ_bound (B : List Tms) (hB : ∀ k, (lv B k).length ≤ 200) (R : Nat → Tms) (c : Nat) (hR : ∀ m, (R m).length ≤ c) (n : Nat) : ∀ j, (rowJ R B n j).length ≤ j * (200 * c)
  | 0 => by simp [rowJ]
  | j + 1 => by
    rw [rowJ_len, Nat.succ_mul]
    have h1 := rowJ_bound B hB R c hR n j
    have h2 : (lv B (j + 1)).length * (R (n - (j + 1))).length ≤ 200 * c := Nat.mul_le_mul (hB _) (hR _)
    omega
theorem rowU_bound (B : List Tms) (hB : ∀ k, (lv B k).length ≤ 200) : ∀ a n, n ≤ 60 → (rowU B a n).length ≤ 12000 ^ a
  | 0, n, _ => by
    unfold rowU; split <;> simp
  | a + 1, n, hn => by
    have hR : ∀ m, (if m ≤ 60 then rowU B a m else []).length ≤ 12000 ^ a := fun m => by
      split
      · rename_i h; exact rowU_bound B hB a m h
      · simp
    have h1 := rowJ_bound B hB _ _ hR n n
    have e : rowJ (fun m => if m ≤ 60 then rowU B a m else []) B n n = rowJ (rowU B a) B n n := by
      unfold rowJ
      congr 1
      funext i
      simp only [if_pos (show n - (i + 1) ≤ 60 by omega)]
    rw [e] at h1
    have h2 : n * (200 * 12000 ^ a) ≤ 60 * (200 * 12000 ^ a) := Nat.mul_le_mul_right _ hn
    have h3 : (12000 : Nat) ^ (a + 1) = 12000 ^ a * 12000 := Nat.pow_succ ..
    show (rowJ (rowU B a) B n n).length ≤ _
    omega
theorem rowJ_bd (B : List Tms) (hB : ∀ k, (lv B k).length ≤ 200) {a n j : Nat} (ha : a + 1 ≤ 3) (hn : n ≤ 60) (hj : j ≤ n) : (rowJ (rowU B a) B n j).length ≤ 1728000000000 := by
  have hR : ∀ m, (if m ≤ 60 then rowU B a m else []).length ≤ 12000 ^ a := fun m => by
    split
    · rename_i h; exact rowU_bound B hB a m h
    · simp
  have h1 := rowJ_bound B hB _ _ hR n j
  have e : rowJ (fun m => if m ≤ 60 then rowU B a m else []) B n j = rowJ (rowU B a) B n j := by
    unfold rowJ
    congr 1
    funext i
    simp only [if_pos (show n - (i + 1) ≤ 60 by omega)]
  rw [e] at h1
  have h2 : j * (200 * 12000 ^ a) ≤ 60 * (200 * 12000 ^ a) := Nat.mul_le_mul_right _ (by omega)
  have h3 : (12000 : Nat) ^ a ≤ 12000 ^ 2 := Nat.pow_le_pow_right (by omega) (by omega)
  have h4 : (12000 : Nat) ^ 2 = 144000000 := by decide
  omega
/-- the terms of a length, unsorted, of the first 'j' symbols -/
def catJ (F : Tms → Tms) (rs : List Int) (B : List Tms) (m j : Nat) : Tms := (List.range j).flatMap fun f => (F (rowU B (rs.getD f default).toNat m)).map ((f : Int) :: ·)
theorem catJ_succ (F : Tms → Tms) (rs : List Int) (B : List Tms) (m j : Nat) : catJ F rs B m (j + 1) = catJ F rs B m j ++ (F (rowU B (rs.getD j default).toNat m)).map ((j : Int) :: ·) := by
  simp [catJ, List.range_succ]
theorem catJ_zero (F : Tms → Tms) (rs : List Int) (B : List Tms) (m : Nat) : catJ F rs B m 0 = [] := rfl
theorem cat_cut_len (rs : List Int) (B : List Tms) (m : Nat) : ∀ j, (catJ cut rs B m j).length ≤ (catJ id rs B m j).length ∧ (catJ cut rs B m j).length ≤ 201 * j
  | 0 => ⟨Nat.le_refl _, by simp [catJ]⟩
  | j + 1 => by
    have := cat_cut_len rs B m j
    have hc := cut_len (rowU B (rs.getD j default).toNat m)
    rw [catJ_succ, catJ_succ, List.length_append, List.length_append, List.length_map, List.length_map, id]
    omega
theorem cat_cut {rs : List Int} {B : List Tms} {m : Nat} : ∀ j, (catJ cut rs B m j).length ≤ 200 → catJ cut rs B m j = catJ id rs B m j
  | 0, _ => rfl
  | j + 1, h => by
    have hc := cut_len (rowU B (rs.getD j default).toNat m)
    rw [catJ_succ, List.length_append, List.length_map] at h
    rw [catJ_succ, catJ_succ, cat_cut j (by omega), cut_small (by omega), id]
/-- the levels up to a length -/
def bl (rs : List Int) : Nat → List Tms
  | 0 => [[]]
  | n + 1 => bl rs n ++ [srtM (catJ id rs (bl rs n) n rs.length)]
def allG (rs : List Int) (n : Nat) : Tms := (bl rs n).flatten
theorem bl_len (rs : List Int) : ∀ n, (bl rs n).length = n + 1
  | 0 => rfl
  | n + 1 => by rw [bl, List.length_append, bl_len rs n]; rfl
theorem allG_zero (rs : List Int) : allG rs 0 = [] := rfl
theorem allG_succ (rs : List Int) (n : Nat) : allG rs (n + 1) = allG rs n ++ srtM (catJ id rs (bl rs n) n rs.length) := by
  simp [allG, bl]
theorem allG_mono (rs : List Int) (n : Nat) : ∀ d, (allG rs n).length ≤ (allG rs (n + d)).length
  | 0 => Nat.le_refl _
  | d + 1 => by
    have := allG_mono rs n d
    rw [← Nat.add_assoc, allG_succ, List.length_append]
    omega
theorem bl_term (rs : List Int) : ∀ n k, ∀ t ∈ lv (bl rs n) k, t.length = k
  | 0, k, t, h => by
    have : lv (bl rs 0) k = [] := by
      cases k with
      | zero => rfl
      | succ k => rfl
    rw [this] at h; cases h
  | n + 1, k, t, h => by
    rcases Nat.lt_trichotomy k (n + 1) with hk | hk | hk
    · have : lv (bl rs (n + 1)) k = lv (bl rs n) k := by
        simp only [lv, bl, List.getD_eq_getElem?_getD]
        rw [List.getElem?_append_left (by rw [bl_len]; exact hk)]
      rw [this] at h
      exact bl_term rs n k t h
    · subst hk
      have : lv (bl rs (n + 1)) (n + 1) = srtM (catJ id rs (bl rs n) n rs.length) := by
        simp only [lv, bl, List.getD_eq_getElem?_getD]
        rw [List.getElem?_append_right (by rw [bl_len]; omega), bl_len]
        simp
      rw [this] at h
      have h := (srtM_ok _).1.mem_iff.1 h
      simp only [catJ, List.mem_flatMap, List.mem_map, id] at h
      obtain ⟨f, _, u, hu, rfl⟩ := h
      rw [List.length_cons, rowU_len _ (bl_term rs n) _ _ u hu]
    · have : lv (bl rs (n + 1)) k = [] := by
        simp only [lv, List.getD_eq_getElem?_getD]
        rw [List.getElem?_eq_none (by rw [bl_len]; omega)]
        rfl
      rw [this] at h; cases h
theorem allG_len (rs : List Int) (n : Nat) : ∀ t ∈ allG rs n, t.length ≤ n := fun t h => by
  simp only [allG, List.mem_flatten] at h
  obtain ⟨l, hl, ht⟩ := h
  obtain ⟨k, hk, e⟩ := List.getElem_of_mem hl
  have h2 := bl_term rs n k t (by simp only [lv, List.getD_eq_getElem?_getD, List.getElem?_eq_getElem hk, Option.getD_some, e]; exact ht)
  rw [bl_len] at hk
  omega
theorem level_le {rs : List Int} {n : Nat} (h : (allG rs n).length ≤ 200) (k : Nat) : (lv (bl rs n) k).length ≤ 200 := by
  by_cases hk : k < (bl rs n).length
  · have e : lv (bl rs n) k = (bl rs n)[k] := by simp [lv, List.getD_eq_getElem?_getD, hk]
    rw [e]
    have := List.Sublist.length_le (List.sublist_flatten_of_mem (List.getElem_mem hk))
    exact Nat.le_trans this h
  · have e : lv (bl rs n) k = [] := by
      simp only [lv, List.getD_eq_getElem?_getD]
      rw [List.getElem?_eq_none (by omega)]; rfl
    rw [e]; simp
/-- all terms in the order of their making -/
def catA (rs : List Int) : Nat → Tms
  | 0 => []
  | n + 1 => catA rs n ++ catJ id rs (bl rs n) n rs.length
theorem catA_len (rs : List Int) : ∀ n, (catA rs n).length = (allG rs n).length
  | 0 => rfl
  | n + 1 => by rw [catA, allG_succ, List.length_append, List.length_append, catA_len rs n, srtM_len]
/-- terms under labels by their age -/
def lbc (N : Nat) : Nat → Tms → List (Tk × List Int)
  | _, [] => []
  | c, x :: r => (.lab [N, c], x) :: lbc N (c + 1) r
theorem lbc_app (N : Nat) : ∀ (c : Nat) (xs ys : Tms), lbc N c (xs ++ ys) = lbc N c xs ++ lbc N (c + xs.length) ys
  | c, [], ys => by simp [lbc]
  | c, x :: r, ys => by
    simp only [List.cons_append, lbc, lbc_app N (c + 1) r ys, List.length_cons]
    rw [show c + 1 + r.length = c + (r.length + 1) by omega]
theorem lbc_snd (N : Nat) : ∀ (c : Nat) (xs : Tms), (lbc N c xs).map (·.2) = xs
  | _, [] => rfl
  | c, x :: r => by simp only [lbc, List.map_cons, lbc_snd N (c + 1) r]
theorem lbc_len (N c : Nat) (xs : Tms) : (lbc N c xs).length = xs.length := by
  have := congrArg List.length (lbc_snd N c xs)
  rwa [List.length_map] at this
theorem lbc_one (N c : Nat) (xs : Tms) (x : List Int) : lbc N c (xs ++ [x]) = lbc N c xs ++ [(.lab [N, c + xs.length], x)] := by rw [lbc_app]; rfl
theorem lbc_mem (N : Nat) : ∀ (c : Nat) (xs : Tms) (q : Tk × List Int), q ∈ lbc N c xs → ∃ l, q.1 = .lab l
  | _, [], q, h => by cases h
  | c, x :: r, q, h => by
    rcases List.mem_cons.1 h with rfl | h
    · exact ⟨_, rfl⟩
    · exact lbc_mem N (c + 1) r q h
end Go.Proofs.Ytldlochhiiogbaa
