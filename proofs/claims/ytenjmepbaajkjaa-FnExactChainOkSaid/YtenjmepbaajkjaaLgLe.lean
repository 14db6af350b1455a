/-
  Lg, part 30: what suffices for a weaker reading, as equations that are reckoned.
-/
import Derived.Test.YtenjmepbaajkjaaLgLab
namespace Go.Lg
open Go Go.RowKit

mutual
def le0 : D → D → Prop
  | .sl _ xs, .sl .any ys => xs = ys
  | .sl tk xs, .sl tk' ys => (tk = tk' ∨ (xs = [] ∧ ∃ l, tk' = .lab l)) ∧ xs = ys
  | .int k a, .int k' b => k = k' ∧ a = b
  | .bool a, .bool b => a = b
  | .agg cs, .agg ds => le0L cs ds
  | .tup cs, .tup ds => le0L cs ds
  | d, d' => d = d'
def le0L : List D → List D → Prop
  | [], [] => True
  | a :: as, b :: bs => le0 a b ∧ le0L as bs
  | _, _ => False
end
mutual
theorem le0_le : ∀ {a b : D}, le0 a b → D.le a b := fun {a b} h => by
  cases a with
  | sl tk xs =>
    cases b with
    | sl tk' ys =>
      cases tk' with
      | any => simp only [le0] at h; subst h; exact .any
      | lab l =>
        simp only [le0] at h
        obtain ⟨h | ⟨h, _⟩, rfl⟩ := h
        · subst h; exact .refl _
        · subst h; exact .emp
      | _ =>
        simp only [le0] at h
        obtain ⟨h | ⟨_, l, h⟩, rfl⟩ := h
        · subst h; exact .refl _
        · cases h
    | _ => simp only [le0] at h; cases h
  | int k n =>
    cases b with
    | int k' n' => simp only [le0] at h; obtain ⟨rfl, rfl⟩ := h; exact .refl _
    | _ => simp only [le0] at h; cases h
  | bool x =>
    cases b with
    | bool y => simp only [le0] at h; subst h; exact .refl _
    | _ => simp only [le0] at h; cases h
  | agg cs =>
    cases b with
    | agg ds => simp only [le0] at h; rw [le_agg]; exact le0L_leL h
    | _ => simp only [le0] at h; cases h
  | tup cs =>
    cases b with
    | tup ds => simp only [le0] at h; rw [le_tup]; exact le0L_leL h
    | _ => simp only [le0] at h; cases h
  | _ => cases b <;> simp only [le0] at h <;> first | (cases h; exact .refl _) | (rw [h]; exact .refl _)
theorem le0L_leL : ∀ {as bs : List D}, le0L as bs → leL as bs
  | [], [], _ => trivial
  | a :: as, b :: bs, h => by
    simp only [le0L] at h
    exact ⟨le0_le h.1, le0L_leL h.2⟩
  | [], _ :: _, h => by simp [le0L] at h
  | _ :: _, [], h => by simp [le0L] at h
end
theorem le0_any (tk : Tk) (xs ys : List D) : le0 (.sl tk xs) (.sl .any ys) = (xs = ys) := by simp [le0]
theorem le0_tk (tk : Tk) (xs ys : List D) : le0 (.sl tk xs) (.sl tk ys) = (xs = ys) := by cases tk <;> simp [le0]
theorem le0_own (k k' : Nat) (e e' : TypeId) (z z' : Nat) (xs ys : List D) : le0 (.sl (.own k e z) xs) (.sl (.own k' e' z') ys) = ((k = k' ∧ e = e' ∧ z = z') ∧ xs = ys) := by simp [le0]
theorem le0_lab (tk : Tk) (l : List Nat) : le0 (.sl tk []) (.sl (.lab l) []) = True := by simp [le0]
theorem le0_int (k : IntKind) (a b : Int) : le0 (.int k a) (.int k b) = (a = b) := by simp [le0]
theorem le0_bool (a b : Bool) : le0 (.bool a) (.bool b) = (a = b) := by simp [le0]
theorem le0_agg (cs ds : List D) : le0 (.agg cs) (.agg ds) = le0L cs ds := by simp [le0]
theorem le0_tup (cs ds : List D) : le0 (.tup cs) (.tup ds) = le0L cs ds := by simp [le0]
theorem le0L_nil : le0L [] [] = True := by simp [le0L]
theorem le0L_cons (a b : D) (as bs : List D) : le0L (a :: as) (b :: bs) = (le0 a b ∧ le0L as bs) := by simp [le0L]
mutual
theorem le0_refl : ∀ d : D, le0 d d := fun d => by
  cases d with
  | sl tk xs => cases tk <;> simp [le0]
  | agg cs => simp only [le0]; exact le0L_refl cs
  | tup cs => simp only [le0]; exact le0L_refl cs
  | _ => simp [le0]
theorem le0L_refl : ∀ l : List D, le0L l l
  | [] => by simp [le0L]
  | d :: l => by simp only [le0L]; exact ⟨le0_refl d, le0L_refl l⟩
end
theorem le0_self (d : D) : le0 d d = True := eq_true (le0_refl d)

def envLe0 (env : List (Nat × D)) : List (Nat × D) → Prop
  | [] => True
  | (t, d) :: r => (someK (look env t) fun d' => le0 d' d) ∧ envLe0 env r
theorem envLe0_nil (env : List (Nat × D)) : envLe0 env [] = True := rfl
theorem envLe0_cons (env : List (Nat × D)) (t : Nat) (d : D) (r : List (Nat × D)) : envLe0 env ((t, d) :: r) = ((someK (look env t) fun d' => le0 d' d) ∧ envLe0 env r) := rfl
theorem envLe0_envLe {env : List (Nat × D)} : ∀ {r : List (Nat × D)}, envLe0 env r → envLe env r
  | [], _ => trivial
  | (t, d) :: r, h => by
    obtain ⟨h1, h2⟩ := h
    obtain ⟨d', hd, hle⟩ := someK_get h1
    exact ⟨by rw [hd]; exact le0_le hle, envLe0_envLe h2⟩
theorem covers_mk0 {L L' : LS} (h1 : L'.n = L.n) (h2 : L'.fix = L.fix) (h3 : envLe0 L.env L'.env) (h4 : boxLe L.boxes L'.boxes) (h5 : boxLe L.ro L'.ro) (h6 : ∀ k ∈ L'.toks, k ∈ L.toks) : L.covers L' :=
  covers_mk h1 h2 (envLe0_envLe h3) h4 h5 h6
theorem resYs_mono {S : Setup} {L : LS} : ∀ {rs : List ResultVar} {K K' : List D → Prop}, resYs S L rs K → (∀ ds, K ds → K' ds) → resYs S L rs K'
  | [], _, _, h, hK => hK _ h
  | .tmp t :: rs, K, K', h, hK => by
    obtain ⟨d, hd, h⟩ := someK_get h
    show someK (L.get t) _
    rw [hd]
    exact resYs_mono h fun ds hds => hK _ hds
  | .cell c ty :: rs, K, K', h, hK => by
    obtain ⟨d, hd, h⟩ := someK_get h
    show someK (L.get c) _
    rw [hd]
    clear hd
    cases d with
    | box id off =>
      simp only [someK_some, loadY, cellsY] at h ⊢
      obtain ⟨cs, h1, h⟩ := someK_get h
      rw [h1]
      obtain ⟨i, h2, h⟩ := someK_get h
      show someK (S.tab ty) _
      rw [h2]
      simp only [someK] at h ⊢
      split
      · rename_i ha
        rw [if_pos ha] at h
        exact ⟨h.1, resYs_mono h.2 fun ds hds => hK _ hds⟩
      · rename_i ha
        rw [if_neg ha] at h
        obtain ⟨d, h3, h⟩ := someK_get h
        rw [h3]
        exact resYs_mono h fun ds hds => hK _ hds
    | _ => exact h.elim
def Ret0 (S : Setup) (rs : List ResultVar) (d : D) (bx' : List (Nat × List D)) (L : LS) : Prop := resY S L rs fun d0 => le0 d0 d ∧ boxLe L.boxes bx'
theorem ret0 {S : Setup} {rs : List ResultVar} {d : D} {bx' : List (Nat × List D)} {L : LS} (h : Ret0 S rs d bx' L) : Ret S rs d bx' L := by
  rw [Ret_def]
  exact resYs_mono h fun ds hds => ⟨le0_le hds.1, hds.2⟩
theorem map_int_inj (xs ys : List Int) : (xs.map (D.int .i64) = ys.map (D.int .i64)) = (xs = ys) := propext (List.map_inj_right fun x y h => by cases h; rfl)
theorem app_int (xs : List Int) (n : Int) : xs.map (D.int .i64) ++ [.int .i64 n] = (xs ++ [n]).map (.int .i64) := by simp
end Go.Lg
