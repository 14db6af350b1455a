import Derived.Test.YtpennhjjnlkbiaaGreatRows
import Derived.Test.YtpennhjjnlkbiaaGreatG0
import Derived.Test.YtpennhjjnlkbiaaGreatG15
import Derived.Test.YtpennhjjnlkbiaaGreatLgK6
namespace Go.Proofs.YtpennhjjnlkbiaaGreat
open Go Go.Lg Go.RowKit Go.ChangeShapes Go.WideShapes Go.ChangeAt
set_option linter.unusedVariables false
set_option linter.unusedSimpArgs false
set_option maxHeartbeats 4000000
def RngInt64(x:Int):Prop:=aT7 x
def RngInt64S(xs:List Int):Prop:=∀x∈xs,RngInt64 x
def RngSig(x:List Int):Prop:=RngInt64S x
def RngRule(x:RuleT):Prop:=RngInt64S x.l/\RngInt64S x.r
def RngRuleS(xs:List RuleT):Prop:=∀x∈xs,RngRule x
def RngSystem(x:SystemT):Prop:=RngSig x.sig/\RngRuleS x.rules
section
attribute [local irreducible] SW bC bE dE bU FC dO
def kp4:List (Nat×List Nat):=[(0,[1]),(1,[1,3]),(2,[1,3]),(3,[1,11]),(4,[2]),(5,[1,4]),(6,[1,4,5]),(7,[1,4,5,6]),(8,[1,5,21]),(9,[2]),(10,[26]),(11,[2]),(12,[2])]
attribute [go_sem] kp4
theorem fnExactEndsByPairs_fc(aSys:SystemT)(haSys:RngSystem aSys):FC S 4 [] [] [] [bP aSys] (.bool true) [] []:=by
 refine aP Tryz.func4 rfl (by kernel_rfl) (by simp[Tryz.f4]) λB=>?_
 simp only[Tryz.ntmps4,aS,aZ,Nat.reduceAdd]
 refine bX 0 0 rfl rfl λhb0_0=>?_
 simp only[D.bnd,zC] at hb0_0
 refine bX 0 1 rfl rfl λhb0_1=>?_
 simp only[D.bnd,zC] at hb0_1
 repeat' first|apply aE|apply aJ|refine aI 0 kp4 λK hK=>?_|refine λ(K:KT) (hK:KOk S 0 _ _ _ K)=>?_|refine aY kp4 (by kernel_rfl) λK hK=>?_|((first|apply aD|apply aK|refine aA (aO ?_)|apply aA);simp(disch:=apply aB;omega)only[go_sem,Tryz.results4])|(apply hK.nil;clear hK K;simp only[go_sem])|((first|refine aF rfl ?_ ?_)<;>intro h<;>try simp(disch:=apply aB;omega)only[go_sem] at h)|apply aL|refine hK.c0 rfl rfl rfl (aKh _ _ (by repeat' (first|apply bF|(constructor<;>omega)))) rfl rfl rfl ?_|refine hK.c0 rfl rfl rfl (aIl _ (by first|(simp only[kT];omega)|grind [szd])) rfl rfl rfl ?_|refine hK.c0 rfl rfl rfl (aJz _ _) rfl rfl rfl ?_|refine hK.c0 rfl rfl rfl (vE aSys) rfl rfl rfl ?_|refine hK.c0 rfl rfl rfl (vM aSys) rfl rfl rfl ?_|(with_reducible refine And.intro (by first|omega|(simp only[lens];omega)) ?_)|fail
 all_goals first|exact h trivial|exact absurd rfl h|exact absurd Iff.rfl h|(simp at h;done)
end
theorem own:ownKnob Tryz.prog.godebug=none:=by kernel_rfl
theorem laidOut:laidOutB Tryz.prog=true:=by kernel_rfl
theorem wc_Int64S{cs:List D}(h:WC S 22 cs):∃xs:List Int,cs=[.sl .any (xs.map (.int .i64))]/\RngInt64S xs:=aVt rfl rfl h
theorem wc_Sig{cs:List D}(h:WC S 24 cs):∃x:List Int,cs=[.sl .any (x.map (.int .i64))]/\RngSig x:=by
 obtain⟨css,rfl,hl,hc⟩:=aSs (fs:=[(0,22)]) rfl h
 match css,hl with
 | [c0],_ =>
  obtain⟨x0,rfl,h0⟩:=wc_Int64S (hc 0 _ c0 rfl rfl)
  exact⟨x0,rfl,h0⟩
theorem wc_Rule{cs:List D}(h:WC S 91 cs):∃x:RuleT,cs=[.sl .any (x.l.map (.int .i64)),.sl .any (x.r.map (.int .i64))]/\RngRule x:=by
 obtain⟨css,rfl,hl,hc⟩:=aSs (fs:=[(0,22),(1,22)]) rfl h
 match css,hl with
 | [c0,c1],_ =>
  obtain⟨x0,rfl,h0⟩:=wc_Int64S (hc 0 _ c0 rfl rfl)
  obtain⟨x1,rfl,h1⟩:=wc_Int64S (hc 1 _ c1 rfl rfl)
  exact⟨⟨x0,x1⟩,rfl,⟨h0,h1⟩⟩
theorem wc_RuleS{cs:List D}(h:WC S 25 cs):∃xs:List RuleT,cs=[.sl .any (xs.map fT)]/\RngRuleS xs:=by
 refine aOo rfl aWf h fT RngRule λds _ hw=>?_
 obtain⟨x,rfl,hx⟩:=wc_Rule hw
 exact⟨x,rfl,hx⟩
theorem wc_System{cs:List D}(h:WC S 27 cs):∃x:SystemT,cs=[.sl .any (x.sig.map (.int .i64)),.sl .any (x.rules.map fT)]/\RngSystem x:=by
 obtain⟨css,rfl,hl,hc⟩:=aSs (fs:=[(0,24),(1,25)]) rfl h
 match css,hl with
 | [c0,c1],_ =>
  obtain⟨x0,rfl,h0⟩:=wc_Sig (hc 0 _ c0 rfl rfl)
  obtain⟨x1,rfl,h1⟩:=wc_RuleS (hc 1 _ c1 rfl rfl)
  exact⟨⟨x0,x1⟩,rfl,⟨h0,h1⟩⟩
set_option maxRecDepth 100000 in
theorem fnExactEndsByPairs_lifted(os:Os)(started:os.Started)(H:Type)(enc:TypeId×Value->H) :
  ReturnsInHanded {} Tryz.checked os 4 .any (Rows.fnExactEndsByPairsSpec.pre6 enc Tryz.prog Tryz.f4 Rows.fnExactEndsByPairsRow.domain false) (Rows.fnExactEndsByPairsSpec.post enc Tryz.prog Tryz.f4 false true false false):=by
 refine returnsInHanded_of_change (C:=Tryz.checked) own started (by kernel_rfl) Tryz.func4
  (ChangeSpec.witness6 (enc:=enc) (C:=Tryz.checked) false ⟨#[],#[.agg #[.slice none 0 0,.slice none 0 0]],[]⟩ 12 (by kernel_rfl) (by kernel_rfl) (by kernel_rfl) (by kernel_rfl)) ?_
 intro W base args ds gs before hval hW _ _
 refine aGf S (fn:=Tryz.f4) (ts:=[27]) (tb:=4) (m:=20) laidOut (by kernel_rfl) (of_decide_eq_true (by kernel_rfl)) (of_decide_eq_true (by kernel_rfl)) (by kernel_rfl) (by kernel_rfl) rfl (λds hd=>?_) (λal hl h=>?_) hval hW
 ·match ds,hd with
  | [_],_=>rfl
 ·match al,hl with
  | [a0],_ =>
   obtain⟨i0,c0,e0,_,w0,rfl⟩:=h 0 _ a0 rfl rfl
   cases aWi.symm.trans e0
   obtain⟨x0,rfl,r0⟩:=wc_System w0
   exact fnExactEndsByPairs_fc x0 r0
theorem and_t{a b:Bool}(ha:a=true)(hb:b=true):(a&&b)=true:=by rw[ha,hb];rfl
set_option maxRecDepth 100000 in
theorem jf_heard:Tryz.pinned.checked.prog.stopsHeard=true:=by kernel_rfl
set_option maxRecDepth 100000 in
theorem jf_enter:Tryz.pinned.checked.prog.mayEnter=true:=by kernel_rfl
set_option maxRecDepth 100000 in
theorem jf_lift:(Rows.fnExactEndsByPairsRow.lifted==Tryz.pinned.checked.prog.liftsFinal)=true:=by kernel_rfl
set_option maxRecDepth 100000 in
theorem jf_make:(Tryz.pinned.checked.prog.make==some Rows.fnExactEndsByPairsRow.make)=true:=by kernel_rfl
set_option maxRecDepth 100000 in
theorem jf_all:joinedFacts Tryz.pinned.checked.prog 4 Tryz.f4 Rows.fnExactEndsByPairsSpec Rows.fnExactEndsByPairsRow=true:=by
 unfold joinedFacts
 exact and_t (and_t (and_t (and_t (and_t (and_t (and_t (and_t (by kernel_rfl) jf_heard) jf_enter) jf_lift) jf_make) (by kernel_rfl)) (by kernel_rfl)) (by kernel_rfl)) (by kernel_rfl)
set_option maxRecDepth 100000 in
theorem fnExactEndsByPairs_holds:Rows.FnExactEndsByPairsSaid :=
 OpenClaim.holds_of_wide 4 Tryz.f4 rfl rfl rfl rfl rfl rfl rfl ⟨rfl,rfl,rfl,rfl,rfl⟩ rfl rfl rfl rfl rfl (by kernel_rfl) Tryz.func4 jf_all
  (of_decide_eq_true (by kernel_rfl)) (by unfold Func.isWrapper;first|(rw[if_pos (by decide +kernel)];kernel_rfl)|(rw[if_neg (by decide +kernel)];exact⟨rfl,rfl⟩))
  (λos started H enc _=>fnExactEndsByPairs_lifted os started H enc)
end Go.Proofs.YtpennhjjnlkbiaaGreat
