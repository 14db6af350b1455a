/-
  The data of the statements: Lean types, their encodings as logical values, the counts of the size checks. Made by Ty.gen.
-/
import Derived.Test.YtenjmepbaajkjaaSet
import Derived.Test.YtenjmepbaajkjaaLgAttr
import Derived.Test.YtenjmepbaajkjaaLgDraw4
namespace Go.Proofs.Ytenjmepbaajkjaa
open Go Go.Lg
def IntsD (x : List Int) : D := .sl .any (x.map (.int .i64))
attribute [go_sem] IntsD
theorem ints_set (ys : List (List Int)) (i : Nat) (u : List Int) : (ys.map IntsD).set i (.sl .any (u.map (.int .i64))) = (ys.set i u).map IntsD := by rw [List.map_set]; rfl
attribute [go_sem] ints_set
def cntInt64S (xs : List Int) : Nat := xs.length
def SigD (x : List Int) : D := .agg [.sl .any (x.map (.int .i64))]
attribute [go_sem] SigD
def cntSig (x : List Int) : Nat := cntInt64S x
def Int64SSD (x : List (List Int)) : D := .sl .any (x.map IntsD)
attribute [go_sem] Int64SSD
def cntInt64SS (xs : List (List Int)) : Nat := xs.length + (xs.map cntInt64S).sum
def SubstD (x : List (List Int)) : D := .agg [.sl .any (x.map IntsD)]
attribute [go_sem] SubstD
def cntSubst (x : List (List Int)) : Nat := cntInt64SS x
structure RuleT where
  l : List Int
  r : List Int
  deriving Inhabited
def RuleD (x : RuleT) : D := .agg [.sl .any (x.l.map (.int .i64)), .sl .any (x.r.map (.int .i64))]
attribute [go_sem] RuleD
def cntRule (x : RuleT) : Nat := cntInt64S x.l + cntInt64S x.r
def cntRuleS (xs : List RuleT) : Nat := xs.length + (xs.map cntRule).sum
structure SystemT where
  sig : List Int
  rules : List RuleT
  deriving Inhabited
def SystemD (x : SystemT) : D := .agg [.sl .any (x.sig.map (.int .i64)), .sl .any (x.rules.map RuleD)]
attribute [go_sem] SystemD
def cntSystem (x : SystemT) : Nat := cntSig x.sig + cntRuleS x.rules
structure StepT where
  at_ : Int
  rule : Int
  to : List Int
  deriving Inhabited
def StepD (x : StepT) : D := .agg [.int .i64 x.at_, .int .i64 x.rule, .sl .any (x.to.map (.int .i64))]
attribute [go_sem] StepD
def cntStep (x : StepT) : Nat := cntInt64S x.to
def cntStepS (xs : List StepT) : Nat := xs.length + (xs.map cntStep).sum
structure WalkT where
  frm : List Int
  steps : List StepT
  deriving Inhabited
def WalkD (x : WalkT) : D := .agg [.sl .any (x.frm.map (.int .i64)), .sl .any (x.steps.map StepD)]
attribute [go_sem] WalkD
def cntWalk (x : WalkT) : Nat := cntInt64S x.frm + cntStepS x.steps
structure PeakT where
  top : List Int
  left : List Int
  right : List Int
  at_ : Int
  under : Int
  over : Int
  deriving Inhabited
def PeakD (x : PeakT) : D := .agg [.sl .any (x.top.map (.int .i64)), .sl .any (x.left.map (.int .i64)), .sl .any (x.right.map (.int .i64)), .int .i64 x.at_, .int .i64 x.under, .int .i64 x.over]
attribute [go_sem] PeakD
def cntPeak (x : PeakT) : Nat := cntInt64S x.top + cntInt64S x.left + cntInt64S x.right
structure WeightsT where
  var : Int
  sym : List Int
  rank : List Int
  deriving Inhabited
def WeightsD (x : WeightsT) : D := .agg [.int .i64 x.var, .sl .any (x.sym.map (.int .i64)), .sl .any (x.rank.map (.int .i64))]
attribute [go_sem] WeightsD
def cntWeights (x : WeightsT) : Nat := cntInt64S x.sym + cntInt64S x.rank
structure PolyT where
  const : Int
  coef : List Int
  deriving Inhabited
def PolyD (x : PolyT) : D := .agg [.int .i64 x.const, .sl .any (x.coef.map (.int .i64))]
attribute [go_sem] PolyD
def cntPoly (x : PolyT) : Nat := cntInt64S x.coef
structure DepPairT where
  l : List Int
  r : List Int
  rule : Int
  at_ : Int
  deriving Inhabited
def DepPairD (x : DepPairT) : D := .agg [.sl .any (x.l.map (.int .i64)), .sl .any (x.r.map (.int .i64)), .int .i64 x.rule, .int .i64 x.at_]
attribute [go_sem] DepPairD
def cntDepPair (x : DepPairT) : Nat := cntInt64S x.l + cntInt64S x.r
def cntPolyS (xs : List PolyT) : Nat := xs.length + (xs.map cntPoly).sum
structure PairStepT where
  part : List Int
  proj : List Int
  polys : List PolyT
  gone : List Int
  deriving Inhabited
def PairStepD (x : PairStepT) : D := .agg [.sl .any (x.part.map (.int .i64)), .sl .any (x.proj.map (.int .i64)), .sl .any (x.polys.map PolyD), .sl .any (x.gone.map (.int .i64))]
attribute [go_sem] PairStepD
def cntPairStep (x : PairStepT) : Nat := cntInt64S x.part + cntInt64S x.proj + cntPolyS x.polys + cntInt64S x.gone
structure LoopT where
  walk : WalkT
  at_ : Int
  sub : List (List Int)
  deriving Inhabited
def LoopD (x : LoopT) : D := .agg [.sl .any (x.walk.frm.map (.int .i64)), .sl .any (x.walk.steps.map StepD), .int .i64 x.at_, .sl .any (x.sub.map IntsD)]
attribute [go_sem] LoopD
def cntLoop (x : LoopT) : Nat := cntWalk x.walk + cntSubst x.sub
structure EqT where
  l : List Int
  r : List Int
  deriving Inhabited
def EqD (x : EqT) : D := .agg [.sl .any (x.l.map (.int .i64)), .sl .any (x.r.map (.int .i64))]
attribute [go_sem] EqD
def cntEq (x : EqT) : Nat := cntInt64S x.l + cntInt64S x.r
structure MoveT where
  eq : Int
  at_ : Int
  back : Bool
  to : List Int
  deriving Inhabited
def MoveD (x : MoveT) : D := .agg [.int .i64 x.eq, .int .i64 x.at_, .bool x.back, .sl .any (x.to.map (.int .i64))]
attribute [go_sem] MoveD
def cntMove (x : MoveT) : Nat := cntInt64S x.to
def cntMoveS (xs : List MoveT) : Nat := xs.length + (xs.map cntMove).sum
structure ChainT where
  frm : List Int
  moves : List MoveT
  deriving Inhabited
def ChainD (x : ChainT) : D := .agg [.sl .any (x.frm.map (.int .i64)), .sl .any (x.moves.map MoveD)]
attribute [go_sem] ChainD
def cntChain (x : ChainT) : Nat := cntInt64S x.frm + cntMoveS x.moves
def cntEqS (xs : List EqT) : Nat := xs.length + (xs.map cntEq).sum
structure WorkT where
  sig : List Int
  rank : List Int
  todo : List EqT
  rules : List RuleT
  deriving Inhabited
def WorkD (x : WorkT) : D := .agg [.sl .any (x.sig.map (.int .i64)), .sl .any (x.rank.map (.int .i64)), .sl .any (x.todo.map EqD), .sl .any (x.rules.map RuleD)]
attribute [go_sem] WorkD
def cntWork (x : WorkT) : Nat := cntSig x.sig + cntInt64S x.rank + cntEqS x.todo + cntRuleS x.rules
structure TransT where
  sym : Int
  args : List Int
  to : Int
  deriving Inhabited
def TransD (x : TransT) : D := .agg [.int .i64 x.sym, .sl .any (x.args.map (.int .i64)), .int .i64 x.to]
attribute [go_sem] TransD
def cntTrans (x : TransT) : Nat := cntInt64S x.args
def cntTransS (xs : List TransT) : Nat := xs.length + (xs.map cntTrans).sum
structure AutoT where
  states : Int
  rules : List TransT
  final : List Int
  deriving Inhabited
def AutoD (x : AutoT) : D := .agg [.int .i64 x.states, .sl .any (x.rules.map TransD), .sl .any (x.final.map (.int .i64))]
attribute [go_sem] AutoD
def cntAuto (x : AutoT) : Nat := cntTransS x.rules + cntInt64S x.final
structure LineT where
  fun_ : Int
  pats : List (List Int)
  body : List Int
  deriving Inhabited
def LineD (x : LineT) : D := .agg [.int .i64 x.fun_, .sl .any (x.pats.map IntsD), .sl .any (x.body.map (.int .i64))]
attribute [go_sem] LineD
def cntLine (x : LineT) : Nat := cntInt64SS x.pats + cntInt64S x.body
def cntLineS (xs : List LineT) : Nat := xs.length + (xs.map cntLine).sum
structure FrontT where
  sig : List Int
  funs : List Int
  lines : List LineT
  deriving Inhabited
def FrontD (x : FrontT) : D := .agg [.sl .any (x.sig.map (.int .i64)), .sl .any (x.funs.map (.int .i64)), .sl .any (x.lines.map LineD)]
attribute [go_sem] FrontD
def cntFront (x : FrontT) : Nat := cntSig x.sig + cntInt64S x.funs + cntLineS x.lines
structure CRuleT where
  l : List Int
  r : List Int
  conds : List EqT
  deriving Inhabited
def CRuleD (x : CRuleT) : D := .agg [.sl .any (x.l.map (.int .i64)), .sl .any (x.r.map (.int .i64)), .sl .any (x.conds.map EqD)]
attribute [go_sem] CRuleD
def cntCRule (x : CRuleT) : Nat := cntInt64S x.l + cntInt64S x.r + cntEqS x.conds
def cntCRuleS (xs : List CRuleT) : Nat := xs.length + (xs.map cntCRule).sum
structure CSystemT where
  sig : List Int
  rules : List CRuleT
  deriving Inhabited
def CSystemD (x : CSystemT) : D := .agg [.sl .any (x.sig.map (.int .i64)), .sl .any (x.rules.map CRuleD)]
attribute [go_sem] CSystemD
def cntCSystem (x : CSystemT) : Nat := cntSig x.sig + cntCRuleS x.rules
structure NodeT where
  kind : Int
  nums : List Int
  terms : List (List Int)
  kids : List Int
  deriving Inhabited
def NodeD (x : NodeT) : D := .agg [.int .i64 x.kind, .sl .any (x.nums.map (.int .i64)), .sl .any (x.terms.map IntsD), .sl .any (x.kids.map (.int .i64))]
attribute [go_sem] NodeD
def cntNode (x : NodeT) : Nat := cntInt64S x.nums + cntInt64SS x.terms + cntInt64S x.kids
def cntNodeS (xs : List NodeT) : Nat := xs.length + (xs.map cntNode).sum
def ProofD (x : List NodeT) : D := .agg [.sl .any (x.map NodeD)]
attribute [go_sem] ProofD
def cntProof (x : List NodeT) : Nat := cntNodeS x
structure ClaimT where
  kind : Int
  a : List Int
  b : List Int
  deriving Inhabited
def ClaimD (x : ClaimT) : D := .agg [.int .i64 x.kind, .sl .any (x.a.map (.int .i64)), .sl .any (x.b.map (.int .i64))]
attribute [go_sem] ClaimD
def cntClaim (x : ClaimT) : Nat := cntInt64S x.a + cntInt64S x.b
def cntSigS (xs : List (List Int)) : Nat := xs.length + (xs.map cntSig).sum
def cntSubstS (xs : List (List (List Int))) : Nat := xs.length + (xs.map cntSubst).sum
def cntSystemS (xs : List SystemT) : Nat := xs.length + (xs.map cntSystem).sum
def cntWalkS (xs : List WalkT) : Nat := xs.length + (xs.map cntWalk).sum
def cntPeakS (xs : List PeakT) : Nat := xs.length + (xs.map cntPeak).sum
def cntWeightsS (xs : List WeightsT) : Nat := xs.length + (xs.map cntWeights).sum
def cntDepPairS (xs : List DepPairT) : Nat := xs.length + (xs.map cntDepPair).sum
def cntPairStepS (xs : List PairStepT) : Nat := xs.length + (xs.map cntPairStep).sum
def cntLoopS (xs : List LoopT) : Nat := xs.length + (xs.map cntLoop).sum
def cntChainS (xs : List ChainT) : Nat := xs.length + (xs.map cntChain).sum
def cntWorkS (xs : List WorkT) : Nat := xs.length + (xs.map cntWork).sum
def cntAutoS (xs : List AutoT) : Nat := xs.length + (xs.map cntAuto).sum
def cntFrontS (xs : List FrontT) : Nat := xs.length + (xs.map cntFront).sum
def cntCSystemS (xs : List CSystemT) : Nat := xs.length + (xs.map cntCSystem).sum
def cntProofS (xs : List (List NodeT)) : Nat := xs.length + (xs.map cntProof).sum
def cntClaimS (xs : List ClaimT) : Nat := xs.length + (xs.map cntClaim).sum
theorem szd_rng {b : Int} {n : Nat} (h : -1 ≤ b ∧ b ≤ 1048576) : -1 ≤ szd b n ∧ szd b n ≤ 1048576 := by unfold szd; split <;> omega
end Go.Proofs.Ytenjmepbaajkjaa
