/-
  Lg, part 19: a table of types, held against the program by a closed check.
-/
import Derived.Test.YtenjmepbaajkjaaLgFn
namespace Go.Lg
open Go Go.RowKit

def zcheck : List Value → List ZK → Bool
  | [], [] => true
  | v :: vs, k :: ks => k.is v && zcheck vs ks
  | _, _ => false
def descCheck (P : Program) (t : TypeId) : TK → Bool
  | .slice e => match P.underlying t with | some (.slice e') => e' == e | _ => false
  | .struct fs => match P.underlying t with
    | some (.struct fields) => fields.toList.map (fun f => (f.offset, f.type)) == fs && (fields.toList.mapM (fun f => (P.info? f.type).map fun i => (f.offset, i.size))).isSome
    | _ => false
  | .array n e => match P.underlying t with | some (.array n' e') => n' == n && e' == e | _ => false
  | .string => match P.underlying t with | some .string => true | _ => false
  | .bool => match P.underlying t with | some .bool => true | _ => false
  | .int k => match P.underlying t with | some (.int k') => k' == k | _ => false
  | .other => match P.underlying t with | some (.struct _) | some (.array _ _) | none => false | some _ => true
def tyCheck (P : Program) (t : TypeId) (i : TyI) : Bool :=
  match P.info? t with
  | some inf => inf.size == i.size && inf.bytes == i.bytes && (match inf.zero with | some z => zcheck z.cells.toList i.zero | none => false) && (i.agg || i.size == 1) && descCheck P t i.kind
  | none => false

theorem zk_is {k : ZK} {v : Value} (h : k.is v = true) : v = k.val := by
  unfold ZK.is at h
  split at h <;> first
    | rfl
    | (simp at h; done)
    | skip
  · simp only [Bool.and_eq_true, beq_iff_eq] at h
    obtain ⟨rfl, rfl⟩ := h
    rfl
  · simp only [Bool.not_eq_true'] at h
    subst h
    rfl
  · rename_i s
    have h : s.size = 0 := by simpa using h
    have : s = ByteArray.empty := by
      obtain ⟨d⟩ := s
      have : d = #[] := Array.eq_empty_of_size_eq_zero h
      subst this
      rfl
    subst this
    rfl

theorem zcheck_eq : ∀ {vs : List Value} {ks : List ZK}, zcheck vs ks = true → vs = ks.map ZK.val
  | [], [], _ => rfl
  | v :: vs, k :: ks, h => by
    simp only [zcheck, Bool.and_eq_true] at h
    simp [zk_is h.1, zcheck_eq h.2]
  | [], _ :: _, h => by cases h
  | _ :: _, [], h => by cases h

theorem tyCheck_ok {P : Program} {t : TypeId} {i : TyI} (h : tyCheck P t i = true) : TyOk P t i := by
  unfold tyCheck at h
  split at h
  · rename_i inf hi
    simp only [Bool.and_eq_true, beq_iff_eq, Bool.or_eq_true] at h
    obtain ⟨⟨⟨⟨h1, h2⟩, h3⟩, h4⟩, h5⟩ := h
    refine ⟨⟨inf, hi, h1, h2, ?_⟩, ?_⟩
    · split at h3
      · rename_i z hz
        refine ⟨z, hz, ?_, fun ha => ?_⟩
        · rw [← Array.toArray_toList (xs := z.cells), zcheck_eq h3]
        · rcases h4 with h4 | h4
          · rw [ha] at h4; cases h4
          · exact h4
      · cases h3
    · cases hk : i.kind <;> rw [hk] at h5 <;> simp only [descCheck] at h5 ⊢
      case slice e => split at h5 <;> first | (simp only [beq_iff_eq] at h5; subst h5; assumption) | cases h5
      case struct fs =>
        split at h5
        · rename_i fields hu
          simp only [Bool.and_eq_true, beq_iff_eq] at h5
          exact ⟨fields, hu, h5.1, Option.isSome_iff_exists.1 h5.2⟩
        · cases h5
      case array n e =>
        split at h5
        · rename_i hu
          simp only [Bool.and_eq_true, beq_iff_eq] at h5
          obtain ⟨rfl, rfl⟩ := h5
          exact hu
        · cases h5
      case string => split at h5 <;> first | assumption | cases h5
      case bool => split at h5 <;> first | assumption | cases h5
      case int k => split at h5 <;> first | (simp only [beq_iff_eq] at h5; subst h5; assumption) | cases h5
      case other =>
        split at h5
        · cases h5
        · cases h5
        · cases h5
        · rename_i d h1 h2 hu
          exact ⟨d, hu, by cases d <;> simp_all⟩
  · cases h

theorem tabOk {P : Program} {l : List (Nat × TyI)} (h : l.all (fun p => tyCheck P p.1 p.2) = true) : ∀ t i, look l t = some i → TyOk P t i := fun _ _ hl =>
  tyCheck_ok (List.all_eq_true.1 h _ (mem_of_look hl))

end Go.Lg
