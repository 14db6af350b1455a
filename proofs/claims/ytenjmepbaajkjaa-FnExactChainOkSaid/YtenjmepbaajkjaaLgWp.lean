/-
  Lg, part 17: control, and the contract of a function out of its body.
-/
import Derived.Test.YtenjmepbaajkjaaLgDraw3
import Derived.Deep.LoopGhost
namespace Go.Lg
open Go Go.RowKit

inductive VItem where
  | code (c : Code)
  | inBlock (id : Nat)
  | loopEnd (J : LS → Prop)

def semQ (P : Program) (B : Base) (R : LS → Prop) : List VItem → Exit → Act → World → Prop
  | [] => fun e a w => (e = .normal ∨ e = .ret) ∧ ∃ G L, Sim B L G a w ∧ R L
  | .inBlock id :: k => Exit.inBlock id (semQ P B R k)
  | .loopEnd J :: k => Exit.then (fun a w => ∃ G L, Sim B L G a w ∧ J L) (semQ P B R k)
  | .code c :: k => Exit.then (fun a w => c.wp P (semQ P B R k) a w) (semQ P B R k)

def SW (S : Setup) (B : Base) (R : LS → Prop) (k : List VItem) (L : LS) : Prop := ∀ G a w, Sim B L G a w → semQ S.P B R k .normal a w

section
variable {S : Setup} {B : Base} {R : LS → Prop} {k : List VItem} {L : LS}

theorem sw_nil (h : R L) : SW S B R [] L := fun G _ _ hs => ⟨.inl rfl, G, L, hs, h⟩
theorem sw_seq {x y : Code} (h : SW S B R (.code x :: .code y :: k) L) : SW S B R (.code (.seq x y) :: k) L := fun G a w hs => wp_seq (h G a w hs)
theorem sw_block {id : Nat} {c : Code} (h : SW S B R (.code c :: .inBlock id :: k) L) : SW S B R (.code (.block id c) :: k) L := fun G a w hs => wp_block (h G a w hs)
theorem sw_skip (h : SW S B R k L) : SW S B R (.code .skip :: k) L := fun G a w hs => wp_skip (h G a w hs)
theorem sw_inBlock {id : Nat} (h : SW S B R k L) : SW S B R (.inBlock id :: k) L := fun G a w hs => h G a w hs
theorem sw_loopEnd {J : LS → Prop} (h : J L) : SW S B R (.loopEnd J :: k) L := fun G _ _ hs => ⟨G, L, hs, h⟩
theorem sw_cond {c : Operand} {x y : Code} {b : Bool} (hc : evalO L c = some (.bool b)) (h1 : b = true → SW S B R (.code x :: k) L) (h0 : b = false → SW S B R (.code y :: k) L) : SW S B R (.code (.cond c x y) :: k) L := fun G a w hs => by
  have hv := eval_sound hs hc
  generalize hu : a.eval c = u at hv
  cases hv
  exact wp_cond_split hu (fun hb => h1 hb G a w hs) (fun hb => h0 hb G a w hs)

theorem semQ_ret {P : Program} {B : Base} {R : LS → Prop} {G : Ghost} {L : LS} {a : Act} {w : World} (hs : Sim B L G a w) (h : R L) : ∀ k : List VItem, semQ P B R k .ret a w
  | [] => ⟨.inr rfl, G, L, hs, h⟩
  | .inBlock _ :: k => semQ_ret hs h k
  | .loopEnd _ :: k => semQ_ret hs h k
  | .code _ :: k => semQ_ret hs h k
theorem sw_ret (h : R L) : SW S B R (.code .ret :: k) L := fun _ _ _ hs => wp_ret (semQ_ret hs h k)

def exitK (id : Nat) : List VItem → Option (List VItem)
  | [] => none
  | .inBlock id' :: k => if id = id' then some k else exitK id k
  | .loopEnd _ :: k => exitK id k
  | .code _ :: k => exitK id k
theorem semQ_exit {P : Program} {B : Base} {R : LS → Prop} {id : Nat} {a : Act} {w : World} : ∀ {k k' : List VItem}, exitK id k = some k' → semQ P B R k' .normal a w → semQ P B R k (.exit id) a w
  | [], _, h, _ => by cases h
  | .inBlock id' :: k, k', h, hk => by
    simp only [exitK] at h
    show Exit.inBlock id' (semQ P B R k) (.exit id) a w
    simp only [Exit.inBlock]
    split at h
    · rename_i he
      rw [if_pos he]
      obtain rfl := Option.some.inj h
      exact hk
    · rename_i he
      rw [if_neg he]
      exact semQ_exit h hk
  | .loopEnd _ :: k, _, h, hk => semQ_exit (k := k) h hk
  | .code _ :: k, _, h, hk => semQ_exit (k := k) h hk
theorem sw_exit {id : Nat} {k' : List VItem} (he : exitK id k = some k') (h : SW S B R k' L) : SW S B R (.code (.exit id) :: k) L := fun G a w hs => wp_exit (semQ_exit he (h G a w hs))

theorem sw_region {id : Nat} {ops : Array Oper} (h : LopsW S B ops ops.toList L fun L' => SW S B R k L') : SW S B R (.code (.region id ops false) :: k) L := fun G a w hs =>
  wp_region_list (h G a w hs _ fun _ G' a' w' hK hs' => hK G' a' w' hs')
theorem sw_draw {id : Nat} {ops : Array Oper} (hB : Region.lexB .any ops = true) (h : LexQ S ops L (fun L' => SW S B R k L') ops.toList L) : SW S B R (.code (.region id ops true) :: k) L := fun _ _ _ hs =>
  draw_sound hB h hs fun _ G' a' w' hK hs' => hK G' a' w' hs'

/-- The state may be taken for a weaker one. -/
theorem sw_weak {L' : LS} (hc : L.covers L') (h : SW S B R k L') : SW S B R k L := fun G a w hs => h G a w (hs.less hc)

theorem sw_loop {ι : Type} (F : ι → LS) (p : ι → Prop) (μ : ι → Nat) (i0 : ι) {c : Code} (hc : L.covers (F i0)) (hp : p i0)
    (round : ∀ i, p i → SW S B R (.code c :: .loopEnd (fun L' => ∃ i', L'.covers (F i') ∧ p i' ∧ μ i' < μ i) :: k) (F i)) : SW S B R (.code (.loop c) :: k) L := fun G a w hs => by
  refine wp_loop_ghost (fun n a w => ∃ i, μ i = n ∧ p i ∧ ∃ G, Sim B (F i) G a w) (μ i0) ⟨i0, rfl, hp, G, hs.less hc⟩ ?_
  rintro n a w ⟨i, rfl, hpi, G, hs⟩
  refine wp_mono (round i hpi G a w hs) fun e a' w' h => ?_
  cases e with
  | normal =>
    obtain ⟨G', L', hs', i', h1, h2, h3⟩ := h
    exact ⟨μ i', h3, i', rfl, h2, G', hs'.less h1⟩
  | _ => exact h
end

end Go.Lg
