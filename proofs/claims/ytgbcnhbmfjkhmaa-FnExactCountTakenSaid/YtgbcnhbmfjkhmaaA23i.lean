/-
  How many terms an automaton takes: the plain law.
-/
import Derived.Test.YtgbcnhbmfjkhmaaA23c
namespace Go.Proofs.Ytgbcnhbmfjkhmaa
open Go Go.Lg
set_option linter.unusedSimpArgs false
set_option linter.unusedVariables false
abbrev Cnt := Nat → Nat → Int
def mx (n : Int) : Int := if n ≤ 1000000000 then n else 1000000000
theorem mx_range {n : Int} (h : 0 ≤ n) : 0 ≤ mx n ∧ mx n ≤ 1000000000 := by unfold mx; split <;> omega
theorem mx_id {n : Int} (h : n ≤ 1000000000) : mx n = n := if_pos h
def sumW (F : Nat → Int) (g : Cnt) (q : Nat) (n : Nat) : Nat → Int
  | 0 => 0
  | k + 1 => mx (sumW F g q n k + g q (k + 1) * F (n - (k + 1)))
def waysM (g : Cnt) : List Int → Nat → Int
  | [], n => if n = 0 then 1 else 0
  | q :: r, n => sumW (waysM g r) g q.toNat n n
def CntOk (g : Cnt) : Prop := ∀ q j, 0 ≤ g q j ∧ g q j ≤ 1000000000
theorem prod_le {a b : Int} (ha : 0 ≤ a ∧ a ≤ 1000000000) (hb : 0 ≤ b ∧ b ≤ 1000000000) : 0 ≤ a * b ∧ a * b ≤ 1000000000000000000 := by
  refine ⟨Int.mul_nonneg ha.1 hb.1, ?_⟩
  have h1 : a * b ≤ 1000000000 * b := Int.mul_le_mul_of_nonneg_right ha.2 hb.1
  omega
theorem sumW_range {F : Nat → Int} {g : Cnt} (hg : CntOk g) (hF : ∀ n, 0 ≤ F n ∧ F n ≤ 1000000000) (q n : Nat) : ∀ k, 0 ≤ sumW F g q n k ∧ sumW F g q n k ≤ 1000000000
  | 0 => by simp [sumW]
  | k + 1 => by
    have ih := sumW_range hg hF q n k
    have := prod_le (hg q (k + 1)) (hF (n - (k + 1)))
    exact mx_range (by omega)
theorem waysM_range {g : Cnt} (hg : CntOk g) : ∀ (l : List Int) (n : Nat), 0 ≤ waysM g l n ∧ waysM g l n ≤ 1000000000
  | [], n => by unfold waysM; split <;> omega
  | q :: r, n => sumW_range hg (waysM_range hg r) _ _ _
theorem sumW_skip {F : Nat → Int} {g : Cnt} (hg : CntOk g) (hF : ∀ n, 0 ≤ F n ∧ F n ≤ 1000000000) (q n k : Nat) (h : ¬ g q (k + 1) > 0) : sumW F g q n (k + 1) = sumW F g q n k := by
  have h1 := (hg q (k + 1)).1
  have h0 : g q (k + 1) = 0 := by omega
  simp only [sumW, h0, Int.zero_mul, Int.add_zero]
  exact mx_id (sumW_range hg hF q n k).2
theorem mx_add {a b : Int} (ha : 0 ≤ a) (hb : 0 ≤ b) : mx (a + mx b) = mx (a + b) := by
  unfold mx
  repeat' split
  all_goals omega
def rowF (a : AutoT) (g : Cnt) (k : Nat) : Nat → Nat → Int
  | 0, _ => 0
  | i + 1, q => if q = (a.rules.getD i default).to.toNat then mx (rowF a g k i q + waysM g (a.rules.getD i default).args (k - 1)) else rowF a g k i q
theorem rowF_range {a : AutoT} {g : Cnt} (hg : CntOk g) (k : Nat) : ∀ i q, 0 ≤ rowF a g k i q ∧ rowF a g k i q ≤ 1000000000
  | 0, q => by simp [rowF]
  | i + 1, q => by
    have ih := rowF_range (a := a) hg k i q
    have := waysM_range hg (a.rules.getD i default).args (k - 1)
    unfold rowF
    split
    · exact mx_range (by omega)
    · exact ih
/-- the rows up to a length -/
def tabG (a : AutoT) : Nat → Cnt
  | 0 => fun _ _ => 0
  | k + 1 => fun q j => if j = k + 1 then rowF a (tabG a k) (k + 1) a.rules.length q else tabG a k q j
theorem tabG_ok (a : AutoT) : ∀ k, CntOk (tabG a k)
  | 0 => fun q j => by simp [tabG]
  | k + 1 => fun q j => by
    unfold tabG
    split
    · exact rowF_range (tabG_ok a k) _ _ _
    · exact tabG_ok a k q j
theorem tabG_above (a : AutoT) : ∀ k q j, k < j → tabG a k q j = 0
  | 0, _, _, _ => rfl
  | k + 1, q, j, h => by
    unfold tabG
    rw [if_neg (by omega)]
    exact tabG_above a k q j (by omega)
theorem tabG_next (a : AutoT) (k q j : Nat) (h : j ≤ k) : tabG a (k + 1) q j = tabG a k q j := by
  conv => lhs; unfold tabG
  rw [if_neg (by omega)]
theorem tabG_row (a : AutoT) (k q : Nat) : tabG a (k + 1) q (k + 1) = rowF a (tabG a k) (k + 1) a.rules.length q := by
  conv => lhs; unfold tabG
  rw [if_pos rfl]
def sumF (g : Nat → Int) (l : List Int) : Nat → Int
  | 0 => 0
  | i + 1 => mx (sumF g l i + g (l.getD i default).toNat)
theorem sumF_range {g : Nat → Int} (hg : ∀ q, 0 ≤ g q ∧ g q ≤ 1000000000) (l : List Int) : ∀ i, 0 ≤ sumF g l i ∧ sumF g l i ≤ 1000000000
  | 0 => by simp [sumF]
  | i + 1 => by
    have ih := sumF_range hg l i
    have := hg (l.getD i default).toNat
    exact mx_range (by omega)
open Classical in
noncomputable def countR (rs : List Int) (a : AutoT) (n : Int) : Int := if (AutoOkP rs a ∧ SureP a) ∧ 1 ≤ n ∧ n ≤ 60 then sumF (fun q => tabG a n.toNat q n.toNat) a.final a.final.length else -1
/-! The tables in memory. -/
def rowL (f : Nat → Int) (n : Nat) : List Int := (List.range n).map f
theorem rowL_len (f : Nat → Int) (n : Nat) : (rowL f n).length = n := by simp [rowL]
theorem rowL_get (f : Nat → Int) {n q : Nat} (h : q < n) : (rowL f n).getD q default = f q := by simp [rowL, List.getD, h]
theorem rowL_set (f : Nat → Int) (n i : Nat) (v : Int) : (rowL f n).set i v = rowL (fun q => if q = i then v else f q) n := by
  refine List.ext_getElem (by simp [rowL]) fun j h1 h2 => ?_
  simp only [rowL, List.getElem_set, List.getElem_map, List.getElem_range]
  by_cases e : i = j
  · rw [if_pos e, if_pos e.symm]
  · rw [if_neg e, if_neg fun h => e h.symm]
theorem rowL_congr {f g : Nat → Int} {n : Nat} (h : ∀ q < n, f q = g q) : rowL f n = rowL g n := List.map_congr_left fun q hq => h q (List.mem_range.1 hq)
theorem rowL_zero (n : Nat) : rowL (fun _ => 0) n = List.replicate n 0 := by
  refine List.ext_getElem (by simp [rowL]) fun j h1 h2 => by simp [rowL]
theorem row_step (a : AutoT) (g : Cnt) (k i s : Nat) (h : (a.rules.getD i default).to.toNat < s) : (rowL (rowF a g k i) s).set (a.rules.getD i default).to.toNat (mx ((rowL (rowF a g k i) s).getD (a.rules.getD i default).to.toNat default + waysM g (a.rules.getD i default).args (k - 1))) = rowL (rowF a g k (i + 1)) s := by
  rw [rowL_get _ h, rowL_set]
  refine rowL_congr fun q _ => ?_
  by_cases e : q = (a.rules.getD i default).to.toNat
  · rw [if_pos e, rowF, if_pos e, e]
  · rw [if_neg e, rowF, if_neg e]
def manyL (a : AutoT) (k : Nat) (n : Nat) : List (List Int) := (List.range (k + 1)).map fun j => rowL (fun q => tabG a k q j) n
theorem manyL_len (a : AutoT) (k n : Nat) : (manyL a k n).length = k + 1 := by simp [manyL]
theorem manyL_get (a : AutoT) (k n : Nat) {j : Nat} (h : j ≤ k) : (manyL a k n).getD j default = rowL (fun q => tabG a k q j) n := by
  have : j < k + 1 := by omega
  simp [manyL, List.getD, this]
theorem manyL_succ (a : AutoT) (k n : Nat) : manyL a (k + 1) n = manyL a k n ++ [rowL (rowF a (tabG a k) (k + 1) a.rules.length) n] := by
  unfold manyL
  rw [List.range_succ, List.map_append]
  congr 1
  · refine List.map_congr_left fun j hj => rowL_congr fun q _ => ?_
    have := List.mem_range.1 hj
    exact tabG_next a k q j (by omega)
  · simp only [List.map_cons, List.map_nil]
    congr 1
    exact rowL_congr fun q _ => tabG_row a k q
/-- all states' rows, one behind the other -/
def gridL (g : Cnt) : List Int := rowL (fun m => g (m / 61) (m % 61)) 976
theorem gridL_len (g : Cnt) : (gridL g).length = 976 := rowL_len _ _
theorem gridL_get (g : Cnt) {q j : Nat} (hq : q < 16) (hj : j ≤ 60) : (gridL g).getD (q * 61 + j) default = g q j := by
  rw [gridL, rowL_get _ (by omega)]
  rw [show (q * 61 + j) / 61 = q by omega, show (q * 61 + j) % 61 = j by omega]
theorem gridL_set (g : Cnt) {q j : Nat} (hq : q < 16) (hj : j ≤ 60) (v : Int) : (gridL g).set (q * 61 + j) v = gridL fun p i => if p = q ∧ i = j then v else g p i := by
  rw [gridL, rowL_set]
  refine rowL_congr fun m hm => ?_
  show (if m = q * 61 + j then v else g (m / 61) (m % 61)) = if m / 61 = q ∧ m % 61 = j then v else g (m / 61) (m % 61)
  by_cases e : m = q * 61 + j
  · rw [if_pos e, if_pos (by omega)]
  · rw [if_neg e, if_neg (by omega)]
theorem gridL_zero : gridL (fun _ _ => 0) = List.replicate 976 0 := rowL_zero _
def midG (a : AutoT) (k i : Nat) : Cnt := fun q j => if j = k + 1 then rowF a (tabG a k) (k + 1) i q else tabG a k q j
theorem midG_zero (a : AutoT) (k : Nat) : gridL (midG a k 0) = gridL (tabG a k) := by
  refine rowL_congr fun m _ => ?_
  unfold midG
  split
  · rename_i e
    rw [e, tabG_above a k _ _ (by omega)]; rfl
  · rfl
theorem midG_all (a : AutoT) (k : Nat) : midG a k a.rules.length = tabG a (k + 1) := by
  funext q j
  unfold midG
  conv => rhs; unfold tabG
theorem midG_succ (a : AutoT) (k i : Nat) : (fun p j => if p = (a.rules.getD i default).to.toNat ∧ j = k + 1 then mx (rowF a (tabG a k) (k + 1) i p + waysM (tabG a k) (a.rules.getD i default).args k) else midG a k i p j) = midG a k (i + 1) := by
  funext p j
  unfold midG
  by_cases h : j = k + 1
  · by_cases h2 : p = (a.rules.getD i default).to.toNat
    · rw [if_pos ⟨h2, h⟩, if_pos h]; simp only [rowF, if_pos h2]; rfl
    · rw [if_neg fun e => h2 e.1, if_pos h, if_pos h]; simp only [rowF, if_neg h2]
  · rw [if_neg fun e => h e.2, if_neg h, if_neg h]
theorem midG_ok (a : AutoT) (k i : Nat) : CntOk (midG a k i) := fun q j => by
  unfold midG
  split
  · exact rowF_range (tabG_ok a k) _ _ _
  · exact tabG_ok a k q j
/-- what one reads of shorter lists -/
theorem sumW_congr {F F' : Nat → Int} {g g' : Cnt} {q n : Nat} : ∀ k, (∀ j, 1 ≤ j → j ≤ k → g q j = g' q j) → (∀ j, j < n → F j = F' j) → k ≤ n → sumW F g q n k = sumW F' g' q n k
  | 0, _, _, _ => rfl
  | k + 1, h1, h2, h3 => by
    simp only [sumW]
    rw [sumW_congr k (fun j a b => h1 j a (by omega)) h2 (by omega), h1 (k + 1) (by omega) (by omega), h2 (n - (k + 1)) (by omega)]
theorem waysM_congr {g g' : Cnt} : ∀ (l : List Int) (n : Nat), (∀ q ∈ l, ∀ j ≤ n, g q.toNat j = g' q.toNat j) → waysM g l n = waysM g' l n
  | [], n, _ => rfl
  | q :: r, n, h => by
    unfold waysM
    refine sumW_congr n (fun j _ hj => h q List.mem_cons_self j hj) (fun j hj => waysM_congr r j fun x hx i hi => h x (List.mem_cons_of_mem _ hx) i (by omega)) (Nat.le_refl _)
theorem ways_mid (a : AutoT) (k i : Nat) (l : List Int) : waysM (midG a k i) l k = waysM (tabG a k) l k := waysM_congr l k fun q _ j hj => by
  unfold midG
  rw [if_neg (by omega)]
theorem zk_rep (n : Nat) : (List.replicate n (ZK.int .i64)).map ZK.d = (List.replicate n (0 : Int)).map (D.int .i64) := by
  rw [List.map_replicate, List.map_replicate]; rfl
theorem grid0 (a : AutoT) : (List.replicate 976 (ZK.int .i64)).map ZK.d = (gridL (tabG a 0)).map (.int .i64) := (zk_rep 976).trans (congrArg _ gridL_zero.symm)
theorem grid1 (a : AutoT) (k : Nat) : (gridL (tabG a k)).map (D.int .i64) = (gridL (midG a k 0)).map (.int .i64) := congrArg _ (midG_zero a k).symm
theorem grid_step (a : AutoT) (k i : Nat) (h : (a.rules.getD i default).to.toNat < 16) (hk : k + 1 ≤ 60) : (gridL (midG a k i)).set ((a.rules.getD i default).to.toNat * 61 + (k + 1)) (mx ((gridL (midG a k i)).getD ((a.rules.getD i default).to.toNat * 61 + (k + 1)) default + waysM (midG a k i) (a.rules.getD i default).args k)) = gridL (midG a k (i + 1)) := by
  rw [gridL_get _ h hk, gridL_set _ h hk, ways_mid, ← midG_succ]
  refine congrArg gridL (funext fun p => funext fun j => ?_)
  by_cases e : p = (a.rules.getD i default).to.toNat ∧ j = k + 1
  · rw [if_pos e, if_pos e, e.1]
    unfold midG
    rw [if_pos rfl]
  · rw [if_neg e, if_neg e]
end Go.Proofs.Ytgbcnhbmfjkhmaa
