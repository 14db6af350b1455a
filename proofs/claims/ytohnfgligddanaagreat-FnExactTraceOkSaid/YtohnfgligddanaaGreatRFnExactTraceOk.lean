/-
  FnExactTraceOk returns true, whatever its arguments: its contract, and its row (no condition).
-/
import Derived.Test.YtohnfgligddanaaGreatRows
import Derived.Test.YtohnfgligddanaaGreatG0
import Derived.Test.YtohnfgligddanaaGreatG12
import Derived.Test.YtohnfgligddanaaGreatG14
import Derived.Test.YtohnfgligddanaaGreatLgK6
namespace Go.Proofs.YtohnfgligddanaaGreat
open Go Go.Lg Go.RowKit Go.ChangeShapes Go.WideShapes Go.ChangeAt
set_option linter.unusedVariables false
set_option linter.unusedSimpArgs false
set_option maxHeartbeats 4000000
def RngInt64 (x:Int):Prop:=In64 x
def RngInt64S (xs:List Int):Prop:=∀x∈xs,RngInt64 x
def RngSig (x:List Int):Prop:=RngInt64S x
def RngRule (x:RuleT):Prop:=RngInt64S x.l∧RngInt64S x.r
def RngRuleS (xs:List RuleT):Prop:=∀x∈xs,RngRule x
def RngSystem (x:SystemT):Prop:=RngSig x.sig∧RngRuleS x.rules
def RngPoly (x:PolyT):Prop:=RngInt64 x.const∧RngInt64S x.coef
def RngPolyS (xs:List PolyT):Prop:=∀x∈xs,RngPoly x
def RngPairStep (x:PairStepT):Prop:=RngInt64S x.part∧RngInt64S x.proj∧RngPolyS x.polys∧RngInt64S x.gone
def RngPairStepS (xs:List PairStepT):Prop:=∀x∈xs,RngPairStep x
section
attribute [local irreducible] SW runL runQ runG runQG FC Ret1
def kp3:List (Nat×List Nat):=[(0,[1,2]),(1,[1,2,5]),(2,[1,2,5]),(3,[1,2,5,14]),(4,[4]),(5,[1,2,5]),(6,[1,2,19]),(7,[4]),(8,[1,2,6]),(9,[1,2,6,7]),(10,[1,2,6,7,8]),(11,[1,2,6,7,8,9]),(12,[1,2,7,8,34]),(13,[4]),(14,[1,8,39]),(15,[4]),(16,[44]),(17,[4]),(18,[4])]
attribute [go_sem] kp3
theorem fnExactTraceOk_fc (aSys:SystemT) (aList:List PairStepT) (haSys:RngSystem aSys) (haList:RngPairStepS aList):FC S 3 [] [] [] [SystemD aSys,.sl .any (aList.map PairStepD)] (.bool true) [] []:=by
 refine fc_body Tryz.func3 rfl (by kernel_rfl) (by simp[Tryz.f3]) fun B=>?_
 simp only[Tryz.ntmps3,enumD,lst0,Nat.reduceAdd]
 refine sw_bnd_agg 0 0 rfl rfl fun hb0_0=>?_
 simp only[D.bnd,List.length_map] at hb0_0
 refine sw_bnd_agg 0 1 rfl rfl fun hb0_1=>?_
 simp only[D.bnd,List.length_map] at hb0_1
 refine sw_bnd 1 rfl fun hb1=>?_
 simp only[D.bnd,List.length_map] at hb1
 repeat' first|refine sw_seq ?_|refine sw_skip ?_|refine sw_go 0 kp3 fun K hK=>?_|refine sw_goD kp3 (by kernel_rfl) fun K hK=>?_|((first|refine runL_go ?_|refine runQ_go ?_|refine sw_ret (ret0 ?_)|refine sw_ret ?_);simp (disch:=(refine Om.mk ?_;omega)) only[go_sem,Tryz.results3])|(refine hK.nil ?_;clear hK K;simp only[go_sem])|((first|refine sw_cond rfl ?_ ?_)<;>intro h<;>try simp (disch:=(refine Om.mk ?_;omega)) only[go_sem] at h)|refine hK.c0 rfl rfl rfl (szSystem_fc _ _ (by repeat' (first|apply szd_rng|(constructor<;>omega)))) rfl rfl rfl ?_|refine hK.c0 rfl rfl rfl (szPairStepS_fc _ _ _ (by repeat' (first|apply szd_rng|(constructor<;>omega)))) rfl rfl rfl ?_|refine hK.c0 rfl rfl rfl (toSystem_fc _ (by first|(simp only[cntInt64S];omega)|grind [szd])) rfl rfl rfl ?_|refine hK.c0 rfl rfl rfl (toPairStepS_fc _ _ (by first|(simp only[cntInt64S];omega)|grind [szd])) rfl rfl rfl ?_|refine hK.c0 rfl rfl rfl (eqSystem_fc _ _) rfl rfl rfl ?_|refine hK.c0 rfl rfl rfl (eqPairStepS_fc _ _ _ _) rfl rfl rfl ?_|refine hK.c0 rfl rfl rfl (specTraceOk_fc aSys aList) rfl rfl rfl ?_|refine hK.c0 rfl rfl rfl (implTraceOk_fc aSys aList) rfl rfl rfl ?_|fail
 all_goals first|exact h trivial|exact absurd rfl h|exact absurd Iff.rfl h|(simp at h;done)
end
theorem own:ownKnob Tryz.prog.godebug=none:=by kernel_rfl
theorem laidOut:laidOutB Tryz.prog=true:=by kernel_rfl
theorem wc_Int64S {cs:List D} (h:WC S 22 cs):∃xs:List Int,cs=[.sl .any (xs.map (.int .i64))]∧RngInt64S xs:=wc_ints rfl rfl h
theorem wc_Sig {cs:List D} (h:WC S 24 cs):∃x:List Int,cs=[.sl .any (x.map (.int .i64))]∧RngSig x:=by
 obtain⟨css,rfl,hl,hc⟩:=wc_st (fs:=[(0,22)]) rfl h
 match css,hl with
 | [c0],_ =>
  obtain⟨x0,rfl,h0⟩:=wc_Int64S (hc 0 _ c0 rfl rfl)
  exact⟨x0,rfl,h0⟩
theorem wc_Rule {cs:List D} (h:WC S 72 cs):∃x:RuleT,cs=[.sl .any (x.l.map (.int .i64)),.sl .any (x.r.map (.int .i64))]∧RngRule x:=by
 obtain⟨css,rfl,hl,hc⟩:=wc_st (fs:=[(0,22),(1,22)]) rfl h
 match css,hl with
 | [c0,c1],_ =>
  obtain⟨x0,rfl,h0⟩:=wc_Int64S (hc 0 _ c0 rfl rfl)
  obtain⟨x1,rfl,h1⟩:=wc_Int64S (hc 1 _ c1 rfl rfl)
  exact⟨⟨x0,x1⟩,rfl,⟨h0,h1⟩⟩
theorem wc_RuleS {cs:List D} (h:WC S 25 cs):∃xs:List RuleT,cs=[.sl .any (xs.map RuleD)]∧RngRuleS xs:=by
 refine wc_list rfl tab72 h RuleD RngRule fun ds _ hw=>?_
 obtain⟨x,rfl,hx⟩:=wc_Rule hw
 exact⟨x,rfl,hx⟩
theorem wc_System {cs:List D} (h:WC S 27 cs):∃x:SystemT,cs=[.sl .any (x.sig.map (.int .i64)),.sl .any (x.rules.map RuleD)]∧RngSystem x:=by
 obtain⟨css,rfl,hl,hc⟩:=wc_st (fs:=[(0,24),(1,25)]) rfl h
 match css,hl with
 | [c0,c1],_ =>
  obtain⟨x0,rfl,h0⟩:=wc_Sig (hc 0 _ c0 rfl rfl)
  obtain⟨x1,rfl,h1⟩:=wc_RuleS (hc 1 _ c1 rfl rfl)
  exact⟨⟨x0,x1⟩,rfl,⟨h0,h1⟩⟩
theorem wc_Poly {cs:List D} (h:WC S 97 cs):∃x:PolyT,cs=[.int .i64 x.const,.sl .any (x.coef.map (.int .i64))]∧RngPoly x:=by
 obtain⟨css,rfl,hl,hc⟩:=wc_st (fs:=[(0,2),(1,22)]) rfl h
 match css,hl with
 | [c0,c1],_ =>
  obtain⟨x0,rfl,h0⟩:=wc_int rfl (hc 0 _ c0 rfl rfl)
  obtain⟨x1,rfl,h1⟩:=wc_Int64S (hc 1 _ c1 rfl rfl)
  exact⟨⟨x0,x1⟩,rfl,⟨in64_wf h0,h1⟩⟩
theorem wc_PolyS {cs:List D} (h:WC S 45 cs):∃xs:List PolyT,cs=[.sl .any (xs.map PolyD)]∧RngPolyS xs:=by
 refine wc_list rfl tab97 h PolyD RngPoly fun ds _ hw=>?_
 obtain⟨x,rfl,hx⟩:=wc_Poly hw
 exact⟨x,rfl,hx⟩
theorem wc_PairStep {cs:List D} (h:WC S 47 cs):∃x:PairStepT,cs=[.sl .any (x.part.map (.int .i64)),.sl .any (x.proj.map (.int .i64)),.sl .any (x.polys.map PolyD),.sl .any (x.gone.map (.int .i64))]∧RngPairStep x:=by
 obtain⟨css,rfl,hl,hc⟩:=wc_st (fs:=[(0,22),(1,22),(2,45),(3,22)]) rfl h
 match css,hl with
 | [c0,c1,c2,c3],_ =>
  obtain⟨x0,rfl,h0⟩:=wc_Int64S (hc 0 _ c0 rfl rfl)
  obtain⟨x1,rfl,h1⟩:=wc_Int64S (hc 1 _ c1 rfl rfl)
  obtain⟨x2,rfl,h2⟩:=wc_PolyS (hc 2 _ c2 rfl rfl)
  obtain⟨x3,rfl,h3⟩:=wc_Int64S (hc 3 _ c3 rfl rfl)
  exact⟨⟨x0,x1,x2,x3⟩,rfl,⟨h0,h1,h2,h3⟩⟩
theorem wc_PairStepS {cs:List D} (h:WC S 28 cs):∃xs:List PairStepT,cs=[.sl .any (xs.map PairStepD)]∧RngPairStepS xs:=by
 refine wc_list rfl tab47 h PairStepD RngPairStep fun ds _ hw=>?_
 obtain⟨x,rfl,hx⟩:=wc_PairStep hw
 exact⟨x,rfl,hx⟩
set_option maxRecDepth 100000 in
theorem fnExactTraceOk_lifted (os:Os) (started:os.Started) (H:Type) (enc:TypeId×Value→H) :
  ReturnsInHanded {} Tryz.checked os 3 .any (Rows.fnExactTraceOkSpec.pre6 enc Tryz.prog Tryz.f3 Rows.fnExactTraceOkRow.domain false) (Rows.fnExactTraceOkSpec.post enc Tryz.prog Tryz.f3 false true false false):=by
 refine returnsInHanded_of_change (C:=Tryz.checked) own started (by kernel_rfl) Tryz.func3
  (ChangeSpec.witness6 (enc:=enc) (C:=Tryz.checked) false ⟨#[],#[.agg #[.slice none 0 0,.slice none 0 0],.slice none 0 0],[]⟩ 12 (by kernel_rfl) (by kernel_rfl) (by kernel_rfl) (by kernel_rfl)) ?_
 intro W base args ds gs before hval hW _ _
 refine law_contract S (fn:=Tryz.f3) (ts:=[27,28]) (tb:=4) (m:=20) laidOut (by kernel_rfl) (of_decide_eq_true (by kernel_rfl)) (of_decide_eq_true (by kernel_rfl)) (by kernel_rfl) (by kernel_rfl) rfl (fun ds hd=>?_) (fun al hl h=>?_) hval hW
 ·match ds,hd with
  | [_,_],_=>rfl
 ·match al,hl with
  | [a0,a1],_ =>
   obtain⟨i0,c0,e0,_,w0,rfl⟩:=h 0 _ a0 rfl rfl
   cases tab27.symm.trans e0
   obtain⟨i1,c1,e1,_,w1,rfl⟩:=h 1 _ a1 rfl rfl
   cases tab28.symm.trans e1
   obtain⟨x0,rfl,r0⟩:=wc_System w0
   obtain⟨x1,rfl,r1⟩:=wc_PairStepS w1
   exact fnExactTraceOk_fc x0 x1 r0 r1
theorem and_t {a b:Bool} (ha:a=true) (hb:b=true):(a&&b)=true:=by rw[ha,hb];rfl
set_option maxRecDepth 100000 in
theorem jf_heard:Tryz.pinned.checked.prog.stopsHeard=true:=by kernel_rfl
set_option maxRecDepth 100000 in
theorem jf_enter:Tryz.pinned.checked.prog.mayEnter=true:=by kernel_rfl
set_option maxRecDepth 100000 in
theorem jf_lift:(Rows.fnExactTraceOkRow.lifted==Tryz.pinned.checked.prog.liftsFinal)=true:=by kernel_rfl
set_option maxRecDepth 100000 in
theorem jf_make:(Tryz.pinned.checked.prog.make==some Rows.fnExactTraceOkRow.make)=true:=by kernel_rfl
set_option maxRecDepth 100000 in
theorem jf_all:joinedFacts Tryz.pinned.checked.prog 3 Tryz.f3 Rows.fnExactTraceOkSpec Rows.fnExactTraceOkRow=true:=by
 unfold joinedFacts
 exact and_t (and_t (and_t (and_t (and_t (and_t (and_t (and_t (by kernel_rfl) jf_heard) jf_enter) jf_lift) jf_make) (by kernel_rfl)) (by kernel_rfl)) (by kernel_rfl)) (by kernel_rfl)
set_option maxRecDepth 100000 in
theorem fnExactTraceOk_holds:Rows.FnExactTraceOkSaid :=
 OpenClaim.holds_of_wide 3 Tryz.f3 rfl rfl rfl rfl rfl rfl rfl ⟨rfl,rfl,rfl,rfl,rfl⟩ rfl rfl rfl rfl rfl (by kernel_rfl) Tryz.func3 jf_all
  (of_decide_eq_true (by kernel_rfl)) (by unfold Func.isWrapper;first|(rw[if_pos (by decide +kernel)];kernel_rfl)|(rw[if_neg (by decide +kernel)];exact⟨rfl,rfl⟩))
  (fun os started H enc _=>fnExactTraceOk_lifted os started H enc)
end Go.Proofs.YtohnfgligddanaaGreat
