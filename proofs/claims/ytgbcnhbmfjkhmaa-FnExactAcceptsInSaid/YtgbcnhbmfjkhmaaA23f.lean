/-
  Sets of states as numbers; the states that a ground term comes to: the plain laws.
-/
import Derived.Test.YtgbcnhbmfjkhmaaA23c
import Derived.Test.YtgbcnhbmfjkhmaaA03
namespace Go.Proofs.Ytgbcnhbmfjkhmaa
open Go Go.Lg
set_option linter.unusedSimpArgs false
set_option linter.unusedVariables false
set_option maxHeartbeats 4000000
theorem u32_or_nat (a b : Nat) (ha : a < 2 ^ 32) (hb : b < 2 ^ 32) : bits .or .u32 (a : Int) (b : Int) = ((a ||| b : Nat) : Int) := by
  have hx : a ||| b < 2 ^ 32 := Nat.or_lt_two_pow ha hb
  show IntKind.u32.wrap ((BitVec.ofInt 32 (a : Int) ||| BitVec.ofInt 32 (b : Int)).toNat : Int) = _
  rw [BitVec.toNat_or]
  have h1 : (BitVec.ofInt 32 (a : Int)).toNat = a := by rw [BitVec.toNat_ofInt]; omega
  have h2 : (BitVec.ofInt 32 (b : Int)).toNat = b := by rw [BitVec.toNat_ofInt]; omega
  rw [h1, h2]
  simp only [IntKind.wrap, IntKind.signed, IntKind.bits, Bool.false_and, Bool.false_eq_true, if_false]
  omega
theorem u32_and_nat (a b : Nat) (ha : a < 2 ^ 32) (hb : b < 2 ^ 32) : bits .and .u32 (a : Int) (b : Int) = ((a &&& b : Nat) : Int) := by
  have hx : a &&& b < 2 ^ 32 := Nat.and_lt_two_pow _ hb
  show IntKind.u32.wrap ((BitVec.ofInt 32 (a : Int) &&& BitVec.ofInt 32 (b : Int)).toNat : Int) = _
  rw [BitVec.toNat_and]
  have h1 : (BitVec.ofInt 32 (a : Int)).toNat = a := by rw [BitVec.toNat_ofInt]; omega
  have h2 : (BitVec.ofInt 32 (b : Int)).toNat = b := by rw [BitVec.toNat_ofInt]; omega
  rw [h1, h2]
  simp only [IntKind.wrap, IntKind.signed, IntKind.bits, Bool.false_and, Bool.false_eq_true, if_false]
  omega
def maskN (s : List Int) : Nat := s.foldl (fun m q => m ||| 2 ^ q.toNat) 0
def maskI (s : List Int) : Int := (maskN s : Int)
def InS (s : List Int) : Prop := ∀ x ∈ s, 0 ≤ x ∧ x < 16
theorem maskF_bit : ∀ (s : List Int) (m q : Nat), (s.foldl (fun m q => m ||| 2 ^ q.toNat) m).testBit q = (m.testBit q || decide (∃ x ∈ s, x.toNat = q))
  | [], m, q => by simp
  | x :: s, m, q => by
    rw [List.foldl_cons, maskF_bit s, Nat.testBit_or, Nat.testBit_two_pow]
    by_cases h : x.toNat = q <;> simp [h]
theorem maskN_bit {s : List Int} (hs : InS s) {q : Int} (h0 : 0 ≤ q) : (maskN s).testBit q.toNat = decide (q ∈ s) := by
  unfold maskN
  rw [maskF_bit, Nat.zero_testBit, Bool.false_or]
  congr 1
  refine propext ⟨?_, fun h => ⟨q, h, rfl⟩⟩
  rintro ⟨x, hx, e⟩
  have := hs x hx
  rwa [show q = x by omega]
theorem maskF_lt : ∀ (s : List Int) (m : Nat), InS s → m < 2 ^ 16 → s.foldl (fun m q => m ||| 2 ^ q.toNat) m < 2 ^ 16
  | [], m, _, h => h
  | x :: s, m, hs, h => by
    have hx := hs x List.mem_cons_self
    exact maskF_lt s _ (fun y hy => hs y (List.mem_cons_of_mem _ hy)) (Nat.or_lt_two_pow h (Nat.pow_lt_pow_right (by decide) (by omega)))
theorem maskN_lt {s : List Int} (hs : InS s) : maskN s < 2 ^ 16 := maskF_lt s 0 hs (by decide)
theorem maskN_snoc (s : List Int) (q : Int) : maskN (s ++ [q]) = maskN s ||| 2 ^ q.toNat := by unfold maskN; rw [List.foldl_append]; rfl
theorem maskN_ext {s s' : List Int} (h : ∀ x, x ∈ s ↔ x ∈ s') : maskN s = maskN s' := by
  refine Nat.eq_of_testBit_eq fun q => ?_
  unfold maskN
  rw [maskF_bit, maskF_bit]
  simp only [h]
theorem shl_one {q : Int} (h0 : 0 ≤ q) (h1 : q < 16) : IntKind.u32.wrap (2 ^ q.toNat) = ((2 ^ q.toNat : Nat) : Int) := by
  have h : (2 : Nat) ^ q.toNat < 2 ^ 16 := Nat.pow_lt_pow_right (by decide) (by omega)
  have e : ((2 : Int) ^ q.toNat) = ((2 ^ q.toNat : Nat) : Int) := by norm_cast
  rw [e]
  generalize (2 : Nat) ^ q.toNat = m at h
  simp only [IntKind.wrap, IntKind.signed, IntKind.bits, Bool.false_and, Bool.false_eq_true, if_false]
  omega
theorem mask_snoc {s : List Int} (hs : InS s) {q : Int} (h0 : 0 ≤ q) (h1 : q < 16) : bits .or .u32 (maskI s) (IntKind.u32.wrap (2 ^ q.toNat)) = maskI (s ++ [q]) := by
  have h := maskN_lt hs
  have h2 : (2 : Nat) ^ q.toNat < 2 ^ 16 := Nat.pow_lt_pow_right (by decide) (by omega)
  rw [shl_one h0 h1]
  unfold maskI
  rw [u32_or_nat _ _ (by omega) (by omega), maskN_snoc]
theorem mask_into {s : List Int} (hs : InS s) {q : Int} (h0 : 0 ≤ q) (h1 : q < 16) : bits .or .u32 (maskI s) (IntKind.u32.wrap (2 ^ q.toNat)) = maskI (intoL s q) := by
  rw [mask_snoc hs h0 h1]
  unfold maskI
  rw [maskN_ext fun x => ?_]
  rw [mem_intoL, List.mem_append, List.mem_singleton]
theorem mask_has {s : List Int} (hs : InS s) {q : Int} (h0 : 0 ≤ q) (h1 : q < 16) : bits .and .u32 (maskI s / 2 ^ q.toNat) 1 = 1 ↔ q ∈ s := by
  have h := maskN_lt hs
  have e : maskI s / 2 ^ q.toNat = ((maskN s / 2 ^ q.toNat : Nat) : Int) := by unfold maskI; norm_cast
  have h3 : maskN s / 2 ^ q.toNat ≤ maskN s := Nat.div_le_self _ _
  rw [e, show (1 : Int) = ((1 : Nat) : Int) from rfl, u32_and_nat _ _ (by omega) (by omega)]
  have hb := maskN_bit hs h0
  rw [Nat.testBit_eq_decide_div_mod_eq] at hb
  rw [Nat.and_one_is_mod]
  have : maskN s / 2 ^ q.toNat % 2 = 1 ↔ q ∈ s := by simpa using hb
  rw [← this]; norm_cast
theorem mask_meets {s s' : List Int} (hs : InS s) (hs' : InS s') : ¬ bits .and .u32 (maskI s) (maskI s') = 0 ↔ ∃ x ∈ s, x ∈ s' := by
  have h := maskN_lt hs
  have h' := maskN_lt hs'
  unfold maskI
  rw [u32_and_nat _ _ (by omega) (by omega)]
  constructor
  · intro hn
    have hn : maskN s &&& maskN s' ≠ 0 := fun e => hn (by rw [e]; rfl)
    obtain ⟨i, hi⟩ := Nat.exists_testBit_of_ne_zero hn
    rw [Nat.testBit_and, Bool.and_eq_true] at hi
    obtain ⟨a, b⟩ := hi
    have e : i = ((i : Int)).toNat := by omega
    rw [e, maskN_bit hs (by omega)] at a
    rw [e, maskN_bit hs' (by omega)] at b
    exact ⟨i, of_decide_eq_true a, of_decide_eq_true b⟩
  · rintro ⟨x, hx, hx'⟩ e
    have e : maskN s &&& maskN s' = 0 := by exact_mod_cast e
    have := hs x hx
    have t := Nat.testBit_and (maskN s) (maskN s') x.toNat
    rw [e, maskN_bit hs this.1, maskN_bit hs' this.1] at t
    simp [hx, hx'] at t
theorem intoL_len (n : Int) : ∀ xs : List Int, (intoL xs n).length ≤ xs.length + 1
  | [] => by simp [intoL]
  | x :: r => by
    have ih := intoL_len n r
    unfold intoL
    split
    · simp only [List.length_cons]; omega
    · split <;> simp only [List.length_cons] <;> omega
/-- to which states a symbol leads from sets of states -/
def FitA (r : TransT) (args : List (List Int)) : Prop := ∀ k < args.length, r.args.getD k default ∈ args.getD k default
open Classical in
noncomputable def imgS (sym : Int) (args : List (List Int)) (s : List Int) (r : TransT) : List Int := if r.sym = sym ∧ FitA r args then intoL s r.to else s
noncomputable def imgT (a : AutoT) (sym : Int) (args : List (List Int)) (i : Nat) : List Int := (a.rules.take i).foldl (imgS sym args) []
theorem imgT_succ (a : AutoT) (sym : Int) (args : List (List Int)) {i : Nat} (h : i < a.rules.length) : imgT a sym args (i + 1) = imgS sym args (imgT a sym args i) (a.rules.getD i default) := by
  unfold imgT
  rw [List.take_succ_eq_append_getElem h, List.foldl_append]
  simp [List.getD, h]
theorem imgS_yes {sym : Int} {args : List (List Int)} {s : List Int} {r : TransT} (h : r.sym = sym ∧ FitA r args) : imgS sym args s r = intoL s r.to := if_pos h
theorem imgS_no {sym : Int} {args : List (List Int)} {s : List Int} {r : TransT} (h : ¬ (r.sym = sym ∧ FitA r args)) : imgS sym args s r = s := if_neg h
theorem imgT_in {rs : List Int} {a : AutoT} (hA : AutoOkP rs a) (sym : Int) (args : List (List Int)) : ∀ i ≤ a.rules.length, InS (imgT a sym args i)
  | 0, _ => by simp [imgT, InS]
  | i + 1, hi => by
    have ih := imgT_in hA sym args i (by omega)
    rw [imgT_succ a sym args (by omega)]
    have ht := (hA.2 i (by omega)).1.2.2.1
    have hs := hA.1.2.1
    rcases Classical.em ((a.rules.getD i default).sym = sym ∧ FitA (a.rules.getD i default) args) with h | h
    · rw [imgS_yes h]
      intro x hx
      rcases (mem_intoL _ _ _).1 hx with hx | rfl
      · exact ih x hx
      · omega
    · rw [imgS_no h]; exact ih
theorem imgT_len (a : AutoT) (sym : Int) (args : List (List Int)) : ∀ i ≤ a.rules.length, (imgT a sym args i).length ≤ i
  | 0, _ => by simp [imgT]
  | i + 1, hi => by
    have ih := imgT_len a sym args i (by omega)
    rw [imgT_succ a sym args (by omega)]
    rcases Classical.em ((a.rules.getD i default).sym = sym ∧ FitA (a.rules.getD i default) args) with h | h
    · rw [imgS_yes h]
      have := intoL_len (a.rules.getD i default).to (imgT a sym args i)
      omega
    · rw [imgS_no h]; omega
noncomputable def stM (rs : List Int) (a : AutoT) (t : List Int) : Nat → Nat → List Int
  | 0, _ => []
  | f + 1, p => imgT a (t.getD p default) ((argsS rs t p).map (stM rs a t f)) a.rules.length
theorem stM_in {rs : List Int} {a : AutoT} (hA : AutoOkP rs a) (t : List Int) : ∀ f p, InS (stM rs a t f p)
  | 0, _ => by simp [stM, InS]
  | f + 1, p => imgT_in hA _ _ _ (Nat.le_refl _)
def GroundP (rs t : List Int) : Prop := TermOkP rs t ∧ ∀ x ∈ t, 0 ≤ x
noncomputable def acceptsP (rs : List Int) (a : AutoT) (t : List Int) : Prop := (AutoOkP rs a ∧ GroundP rs t) ∧ ∃ x ∈ stM rs a t 60 0, x ∈ a.final
end Go.Proofs.Ytgbcnhbmfjkhmaa
