/-
  Lg, part 12: any operation; a region in the text's order.
-/
import Derived.Test.YtenjmepbaajkjaaLgCallG
import Derived.Laws.MakeOwn
namespace Go.Lg
open Go Go.RowKit

def dstOk (dst : Option Nat) (L : LS) : Prop := match dst with | some t => t < L.n | none => True

/-- What a store leaves. -/
def putC (cs : List D) (off : Nat) (new : List D) : List D := match new with
  | [d] => cs.set off d
  | new => putCells cs off new
theorem putC_eq {cs : List D} {off : Nat} {new : List D} (h : off + new.length ≤ cs.length) : putC cs off new = putCells cs off new := by
  unfold putC
  split
  · rename_i d
    unfold putCells
    simp only [List.length_cons, List.length_nil, Nat.zero_add] at h ⊢
    rw [List.set_eq_take_append_cons_drop, if_pos (by omega)]
    simp
  · rfl

theorem putC_one (cs : List D) (off : Nat) (d : D) : putC cs off [d] = cs.set off d := rfl
theorem putC_more (cs : List D) (off : Nat) (a b : D) (r : List D) : putC cs off (a :: b :: r) = putCells cs off (a :: b :: r) := rfl

def appendY (S : Setup) (L : LS) (t : Nat) (ty : TypeId) (ds : List D) (N : LS → Prop) : Prop :=
  match S.kd ty with
  | some (.slice e) => someK (S.tab e) fun i => (match ds with
    | [.sl tk xs, .sl _ ys] => (t < L.n ∧ 0 < i.size ∧ (L.purge (fun k => k == 1000 * (t + 1))).clean (fun k => k == 1000 * (t + 1)) = true) ∧ appendable xs ys L.toks e i.size tk ∧
      (∀ x ∈ xs, x.cells.length = i.size) ∧ (∀ x ∈ ys, x.cells.length = i.size) ∧ (xs.length + ys.length) * i.bytes ≤ 140737488355328 ∧ xs.length + ys.length ≤ 140737488355328 ∧
      N ({ L.purge (fun k => k == 1000 * (t + 1)) with toks := 1000 * (t + 1) :: killed tk L.toks }.put t (.sl (.own (1000 * (t + 1)) e i.size) (xs ++ ys)))
    | _ => False)
  | _ => False

def makeY (S : Setup) (base : Nat) (L : LS) (t : Nat) (ty : TypeId) (same : Bool) (l c : D) (N : LS → Prop) : Prop :=
  match S.kd ty, l, c with
  | some (.slice e), .int _ n, .int _ m => someK (S.tab e) fun i =>
    if same = true then (t < L.n ∧ base + t ∉ L.fix ∧ 0 ≤ n ∧ n = m) ∧ (i.bytes : Int) * n ≤ 281474976710656 ∧ n ≤ 9223372036854775807 ∧ 0 < i.size ∧
      N (L.newBox t (base + t) (List.replicate n.toNat (i.zero.map ZK.d)).flatten (.ms (base + t) n.toNat))
    else (t < L.n ∧ 0 < i.size ∧ n = 0 ∧ 0 ≤ m ∧ (L.purge (fun k => k == 1000 * (t + 1))).clean (fun k => k == 1000 * (t + 1)) = true) ∧ (i.bytes : Int) * m ≤ 281474976710656 ∧ m ≤ 9223372036854775807 ∧
      N ({ L.purge (fun k => k == 1000 * (t + 1)) with toks := 1000 * (t + 1) :: L.toks }.put t (.sl (.own (1000 * (t + 1)) e i.size) []))
  | _, _, _ => False

def storeY (S : Setup) (L : LS) (dst : Option Nat) (ty : TypeId) (da d : D) (N : LS → Prop) : Prop :=
  match da with
  | .box id off => someK (look L.boxes id) fun cs => someK (S.tab ty) fun i => (d.cells.length = i.size ∧ off + d.cells.length ≤ cs.length ∧ d.cells.all D.one = true ∧ dstOk dst L) ∧
      N ({ L with boxes := setA L.boxes id (putC cs off d.cells) }.putO dst (.raw undef))
  | _ => False

/-- A call that may be handed boxes and tokens. -/
def callB (S : Setup) (L : LS) (t : Nat) (f : D) (ds : List D) (N : LS → Prop) : Prop :=
  match f with
  | .fn fid cap => ∃ ro cx tk0 d cx' tk', FC S fid ro cx tk0 (ds ++ cap) d cx' tk' ∧ (t < L.n ∧ (∀ p ∈ ro, L.getBox p.1 = some p.2 ∧ p.1 ∉ cx.map (·.1)) ∧ (∀ p ∈ cx, look L.boxes p.1 = some p.2) ∧ (∀ k ∈ tk0, k ∈ L.toks) ∧
      (∀ p ∈ cx', p.1 ∈ cx.map (·.1)) ∧ (∀ i ∈ d.ids, i ∈ cx.map (·.1)) ∧ (∀ p ∈ cx', ∀ i ∈ D.idsL p.2, i ∈ cx.map (·.1)) ∧ (∀ k ∈ d.tks, k ∈ tk') ∧ (∀ p ∈ cx', ∀ k ∈ D.tksL p.2, k ∈ tk') ∧ (∀ k ∈ tk', k < 1000) ∧
      (L.purge (inTok (1000 * (t + 1)))).clean (inTok (1000 * (t + 1))) = true) ∧
      N (((L.purge (inTok (1000 * (t + 1)))).after (1000 * (t + 1)) (cx.map fun p => (p.1, p.2.map (D.pu1 (inTok (1000 * (t + 1)))))) tk0 cx' tk').put t (d.shT (1000 * (t + 1))))
  | _ => False

def sameOp (l c : Operand) : Bool := match l, c with | .tmp p, .tmp q => p == q | .const (.int _ p), .const (.int _ q) => p == q | _, _ => false

def stepY (S : Setup) (base : Nat) (o : Oper) (L : LS) (N : LS → Prop) : Prop :=
  match o.op with
  | .box _ x => (match o.dst with
    | some t => someK (evalO L x) fun d => (t < L.n ∧ base + t ∉ L.fix ∧ base + t ∉ D.idsL d.cells) ∧ N (L.newBox t (base + t) d.cells (.box (base + t) 0))
    | none => False)
  | .alloc ty => (match o.dst with
    | some t => someK (S.tab ty) fun i => (t < L.n ∧ base + t ∉ L.fix) ∧ N (L.newBox t (base + t) (i.zero.map ZK.d) (.box (base + t) 0))
    | none => False)
  | .store ty x v => someK (evalO L x) fun da => someK (evalO L v) fun d => storeY S L o.dst ty da d N
  | .makeSlice ty l c => (match o.dst with
    | some t => someK (evalO L l) fun dl => someK (evalO L c) fun dc => makeY S base L t ty (sameOp l c) dl dc N
    | none => False)
  | .call ⟨.builtin .append, args, tys⟩ => (match o.dst, tys.toList with
    | some t, [ty, ty'] => ty = ty' ∧ someK (mapO (evalO L) args.toList) fun ds => appendY S L t ty ds N
    | _, _ => False)
  | op => opY S op (evalO L) L.getBox fun d => dstOk o.dst L ∧ N (L.putO o.dst d)

end Go.Lg
