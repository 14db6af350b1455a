/-
  FnExactFirstMarked returns true, whatever its arguments: its contract, and its row (no condition).
-/
import Derived.Test.YtpennhjjnlkbiaaGreatRows
import Derived.Test.YtpennhjjnlkbiaaGreatG0
import Derived.Test.YtpennhjjnlkbiaaGreatG5
import Derived.Test.YtpennhjjnlkbiaaGreatG8
import Derived.Test.YtpennhjjnlkbiaaGreatG9
import Derived.Test.YtpennhjjnlkbiaaGreatLgK7
import Derived.Test.YtpennhjjnlkbiaaGreatLgK6
namespace Go.Proofs.YtpennhjjnlkbiaaGreat
open Go Go.Lg Go.RowKit Go.ChangeShapes Go.WideShapes Go.ChangeAt
set_option linter.unusedVariables false
set_option linter.unusedSimpArgs false
set_option maxHeartbeats 4000000
set_option maxRecDepth 100000
def RngInt64 (x:Int):Prop:=In64 x
def RngInt64S (xs:List Int):Prop:=∀x∈xs,RngInt64 x
def RngSig (x:List Int):Prop:=RngInt64S x
def RngRule (x:RuleT):Prop:=RngInt64S x.l∧RngInt64S x.r
def RngRuleS (xs:List RuleT):Prop:=∀x∈xs,RngRule x
def RngSystem (x:SystemT):Prop:=RngSig x.sig∧RngRuleS x.rules
section
attribute [local irreducible] SW runL runQ runG runQG FC Ret1
def kp3:List (Nat×List Nat):=[(0,[1,2]),(1,[1,2,19]),(2,[4]),(3,[1,2,5]),(4,[1,2,5]),(5,[1,2,24]),(6,[4]),(7,[1,2,6,7]),(8,[1,2,6,7,8]),(9,[1,2,6,7,8,9]),(10,[1,2,6,7,8,9,10,11]),(11,[1,2,6,7,8,9,10,11,51]),(12,[4]),(13,[1,2,6,7,8,9,10,11,56]),(14,[4]),(15,[1,2,6,7,8,9,10,11,61]),(16,[4]),(17,[1,2,6,7,8,9,10,11,12]),(18,[1,2,6,7,9,10,11,12]),(19,[1,2,6,7,10,11,12]),(20,[1,2,6,7,10,80]),(21,[4]),(22,[1,2,6,7,10,13]),(23,[1,2,6,7,10,13]),(24,[1,2,6,7,10,13,14]),(25,[1,2,6,7,10,13,14]),(26,[1,2,6,7,10,13,14,88]),(27,[4]),(28,[1,2,6,7,10,13,91]),(29,[4]),(30,[6,7,10,13,15,16]),(31,[10,13,108]),(32,[4]),(33,[10,13,14]),(34,[13,14]),(35,[13,14,113]),(36,[4]),(37,[116]),(38,[4]),(39,[4])]
attribute [go_sem] kp3
theorem fnExactFirstMarked_fc (aSys:SystemT) (aSet:List Int) (haSys:RngSystem aSys) (haSet:RngInt64S aSet):FC S 3 [] [] [] [SystemD aSys,.sl .any (aSet.map (.int .i64))] (.bool true) [] []:=by
 have cS:=specFirstMarked_fc aSys aSet
 have cI:=fun (g:List Nat) (hg:g≠[])=>implFirstMarked_fc g hg aSys aSet
 have cM:=markR_mc aSys aSet
 generalize (markR aSys aSet).1=rR at cS cI cM
 refine fc_bodyT Tryz.func3 rfl (by kernel_rfl) (by simp[Tryz.f3]) rfl fun B hB=>?_
 simp only[Tryz.ntmps3,enumD,lst0,Nat.reduceAdd]
 refine sw_bnd_agg 0 0 rfl rfl fun hb0_0=>?_
 simp only[D.bnd,List.length_map] at hb0_0
 refine sw_bnd_agg 0 1 rfl rfl fun hb0_1=>?_
 simp only[D.bnd,List.length_map] at hb0_1
 refine sw_bnd 1 rfl fun hb1=>?_
 simp only[D.bnd,List.length_map] at hb1
 repeat' first|(refine sw_rebaseAt 8 hB rfl fun B1 N hN=>?_;simp only[go_sem,LS.rebase,mapA,kdc])|(refine sw_markA1 hN (i:=N+1) (by omega) markSystem_mk rfl rfl (ta_System (N+1) _ aSys) rfl rfl rfl rfl (by omega) (by(have:cntSystem aSys≤1048576:=(by first|(simp only[cntInt64S];omega)|grind [szd]);have:=mcle_System aSys;have:cntInt64S aSet≤1048576:=(by first|(simp only[cntInt64S];omega)|grind [szd]);have:=mcle_Int64S aSet;omega)) (by simp) ⟨rfl,rfl,rfl⟩ (by simp) (by(simp only[eraseK,KeepE,KeepX,KeepL,Nat.reduceEqDiff,↓reduceIte,and_true];(repeat' first|exact trivial|exact keep_int _ _ _ _|exact keep_bool _ _ _|exact keep_box _ _ _ _|exact keep_KD _ _ _|exact keep_LT (lt_Int64S _ _) (by omega)|exact keep_LT (lt_RuleS _ _) (by omega)|exact keep_LT (lt_PolyS _ _) (by omega)|refine And.intro ?_ ?_);done)) (by(simp only[eraseK,KeepE,KeepX,KeepL,Nat.reduceEqDiff,↓reduceIte,and_true];(repeat' first|exact trivial|exact keep_int _ _ _ _|exact keep_bool _ _ _|exact keep_box _ _ _ _|exact keep_KD _ _ _|exact keep_LT (lt_Int64S _ _) (by omega)|exact keep_LT (lt_RuleS _ _) (by omega)|exact keep_LT (lt_PolyS _ _) (by omega)|refine And.intro ?_ ?_);done)) (by(simp only[eraseK,KeepE,KeepX,KeepL,Nat.reduceEqDiff,↓reduceIte,and_true];(repeat' first|exact trivial|exact keep_int _ _ _ _|exact keep_bool _ _ _|exact keep_box _ _ _ _|exact keep_KD _ _ _|exact keep_LT (lt_Int64S _ _) (by omega)|exact keep_LT (lt_RuleS _ _) (by omega)|exact keep_LT (lt_PolyS _ _) (by omega)|refine And.intro ?_ ?_);done)) ?_;simp only[go_sem])|(refine sw_markS1 hN (i:=N+2) (by omega) markInt64S_mk rfl (lt_Int64S [N+2] aSet) rfl (by omega) (by(have:cntSystem aSys≤1048576:=(by first|(simp only[cntInt64S];omega)|grind [szd]);have:=mcle_System aSys;have:cntInt64S aSet≤1048576:=(by first|(simp only[cntInt64S];omega)|grind [szd]);have:=mcle_Int64S aSet;omega)) (by simp) ⟨rfl,rfl,rfl⟩ (by simp) (by(simp only[eraseK,KeepE,KeepX,KeepL,Nat.reduceEqDiff,↓reduceIte,and_true];(repeat' first|exact trivial|exact keep_int _ _ _ _|exact keep_bool _ _ _|exact keep_box _ _ _ _|exact keep_KD _ _ _|exact keep_LT (lt_Int64S _ _) (by omega)|exact keep_LT (lt_RuleS _ _) (by omega)|exact keep_LT (lt_PolyS _ _) (by omega)|refine And.intro ?_ ?_);done)) (by(simp only[eraseK,KeepE,KeepX,KeepL,Nat.reduceEqDiff,↓reduceIte,and_true];(repeat' first|exact trivial|exact keep_int _ _ _ _|exact keep_bool _ _ _|exact keep_box _ _ _ _|exact keep_KD _ _ _|exact keep_LT (lt_Int64S _ _) (by omega)|exact keep_LT (lt_RuleS _ _) (by omega)|exact keep_LT (lt_PolyS _ _) (by omega)|refine And.intro ?_ ?_);done)) (by(simp only[eraseK,KeepE,KeepX,KeepL,Nat.reduceEqDiff,↓reduceIte,and_true];(repeat' first|exact trivial|exact keep_int _ _ _ _|exact keep_bool _ _ _|exact keep_box _ _ _ _|exact keep_KD _ _ _|exact keep_LT (lt_Int64S _ _) (by omega)|exact keep_LT (lt_RuleS _ _) (by omega)|exact keep_LT (lt_PolyS _ _) (by omega)|refine And.intro ?_ ?_);done)) ?_;simp only[go_sem])|(refine sw_markS2 hN (i:=N+3) (by omega) markPolyS_mk rfl (lt_PolyS [N+3] (rR)) rfl (by omega) (by(have:cntSystem aSys≤1048576:=(by first|(simp only[cntInt64S];omega)|grind [szd]);have:=mcle_System aSys;have:cntInt64S aSet≤1048576:=(by first|(simp only[cntInt64S];omega)|grind [szd]);have:=mcle_Int64S aSet;have:=cM;omega)) (by simp) ⟨rfl,rfl,rfl⟩ (by simp) (by simp) (by(simp only[eraseK,KeepE,KeepX,KeepL,Nat.reduceEqDiff,↓reduceIte,and_true];(repeat' first|exact trivial|exact keep_int _ _ _ _|exact keep_bool _ _ _|exact keep_box _ _ _ _|exact keep_KD _ _ _|exact keep_LT (lt_Int64S _ _) (by omega)|exact keep_LT (lt_RuleS _ _) (by omega)|exact keep_LT (lt_PolyS _ _) (by omega)|refine And.intro ?_ ?_);done)) (by(simp only[eraseK,KeepE,KeepX,KeepL,Nat.reduceEqDiff,↓reduceIte,and_true];(repeat' first|exact trivial|exact keep_int _ _ _ _|exact keep_bool _ _ _|exact keep_box _ _ _ _|exact keep_KD _ _ _|exact keep_LT (lt_Int64S _ _) (by omega)|exact keep_LT (lt_RuleS _ _) (by omega)|exact keep_LT (lt_PolyS _ _) (by omega)|refine And.intro ?_ ?_);done)) (by(simp only[eraseK,KeepE,KeepX,KeepL,Nat.reduceEqDiff,↓reduceIte,and_true];(repeat' first|exact trivial|exact keep_int _ _ _ _|exact keep_bool _ _ _|exact keep_box _ _ _ _|exact keep_KD _ _ _|exact keep_LT (lt_Int64S _ _) (by omega)|exact keep_LT (lt_RuleS _ _) (by omega)|exact keep_LT (lt_PolyS _ _) (by omega)|refine And.intro ?_ ?_);done)) ?_;simp only[go_sem])|refine sw_seq ?_|refine sw_skip ?_|refine sw_go 0 kp3 fun K hK=>?_|refine fun (K:KT) (hK:KOk S 0 _ _ _ K)=>?_|refine sw_goD kp3 (by kernel_rfl) fun K hK=>?_|((first|refine runL_go ?_|refine runQ_go ?_|refine sw_ret (ret0 ?_)|refine sw_ret ?_);simp (disch:=(refine Om.mk ?_;omega)) only[go_sem,Tryz.results3])|(refine hK.nil ?_;clear hK K;simp only[go_sem])|((first|refine runG_fork rfl rfl rfl rfl rfl ?_ ?_|refine runQG_fork rfl rfl rfl rfl rfl ?_ ?_|refine sw_cond rfl ?_ ?_)<;>intro h<;>try simp (disch:=(refine Om.mk ?_;omega)) only[go_sem] at h)|refine hK.skp rfl rfl ?_|refine sw_loopEnd ?_|refine hK.c0 rfl rfl rfl (szSystem_fc _ _ (by repeat' (first|apply szd_rng|(constructor<;>omega)))) rfl rfl rfl ?_|(refine hK.c0 rfl rfl rfl (FC.args (toSystemL_fc [N+1] (by simp) aSys (by first|(simp only[cntInt64S];omega)|grind [szd])) ?le) rfl rfl rfl ?_;case le=>(simp only[go_sem];(repeat' first|exact trivial|exact D.le.refl _|exact KD_le rfl rfl|exact le_Int64SL _ _|exact le_SigL _ _|exact le_RuleL _ _|exact le_RuleSL _ _|exact le_SystemL _ _|exact le_PolyL _ _|exact le_PolySL _ _|exact D.le.any|refine And.intro ?_ ?_);done))|(refine hK.c0 rfl rfl rfl (FC.args (eqSystem_fc aSys aSys) ?le) rfl rfl rfl ?_;case le=>(simp only[go_sem];(repeat' first|exact trivial|exact D.le.refl _|exact KD_le rfl rfl|exact le_Int64SL _ _|exact le_SigL _ _|exact le_RuleL _ _|exact le_RuleSL _ _|exact le_SystemL _ _|exact le_PolyL _ _|exact le_PolySL _ _|exact D.le.any|refine And.intro ?_ ?_);done))|(refine hK.c0 rfl rfl rfl (FC.args (toInt64SL_fc [N+2] (by simp) .any aSet (by first|(simp only[cntInt64S];omega)|grind [szd])) ?le) rfl rfl rfl ?_;case le=>(simp only[go_sem];(repeat' first|exact trivial|exact D.le.refl _|exact KD_le rfl rfl|exact le_Int64SL _ _|exact le_SigL _ _|exact le_RuleL _ _|exact le_RuleSL _ _|exact le_SystemL _ _|exact le_PolyL _ _|exact le_PolySL _ _|exact D.le.any|refine And.intro ?_ ?_);done))|(refine hK.c0 rfl rfl rfl (FC.args (eqInt64S_fc .any .any aSet aSet) ?le) rfl rfl rfl ?_;case le=>(simp only[go_sem];(repeat' first|exact trivial|exact D.le.refl _|exact KD_le rfl rfl|exact le_Int64SL _ _|exact le_SigL _ _|exact le_RuleL _ _|exact le_RuleSL _ _|exact le_SystemL _ _|exact le_PolyL _ _|exact le_PolySL _ _|exact D.le.any|refine And.intro ?_ ?_);done))|refine hK.c0 rfl rfl rfl (held_fc heldPolyS_mk (by omega) (by(have:cntSystem aSys≤1048576:=(by first|(simp only[cntInt64S];omega)|grind [szd]);have:=mcle_System aSys;have:cntInt64S aSet≤1048576:=(by first|(simp only[cntInt64S];omega)|grind [szd]);have:=mcle_Int64S aSet;have:=cM;omega))) rfl rfl rfl ?_|(refine hK.c0 rfl rfl rfl (FC.args (eqPolyS_fc .any .any (rR) (rR)) ?le) rfl rfl rfl ?_;case le=>(simp only[go_sem];(repeat' first|exact trivial|exact D.le.refl _|exact KD_le rfl rfl|exact le_Int64SL _ _|exact le_SigL _ _|exact le_RuleL _ _|exact le_RuleSL _ _|exact le_SystemL _ _|exact le_PolyL _ _|exact le_PolySL _ _|exact D.le.any|refine And.intro ?_ ?_);done))|(refine hK.c0 rfl rfl rfl (FC.args (cI [N+3] (by simp)) ?le) rfl rfl rfl ?_;case le=>(simp only[go_sem];(repeat' first|exact trivial|exact D.le.refl _|exact KD_le rfl rfl|exact le_Int64SL _ _|exact le_SigL _ _|exact le_RuleL _ _|exact le_RuleSL _ _|exact le_SystemL _ _|exact le_PolyL _ _|exact le_PolySL _ _|exact D.le.any|refine And.intro ?_ ?_);done))|refine hK.c0 rfl rfl rfl (toSystem_fc _ (by first|(simp only[cntInt64S];omega)|grind [szd])) rfl rfl rfl ?_|refine hK.c0 rfl rfl rfl (toInt64S_fc _ _ (by first|(simp only[cntInt64S];omega)|grind [szd])) rfl rfl rfl ?_|refine hK.c0 rfl rfl rfl (cS) rfl rfl rfl ?_|(refine hK.fork rfl rfl rfl ?_ ?_<;>intro h<;>try simp (disch:=(refine Om.mk ?_;omega)) only[go_sem] at h)|(with_reducible refine And.intro (by first|omega|(simp only[lens];omega)) ?_)|fail
 all_goals first|omega|exact h trivial|exact absurd rfl h|exact absurd Iff.rfl h|(simp at h;done)
end
theorem own:ownKnob Tryz.prog.godebug=none:=by kernel_rfl
theorem laidOut:laidOutB Tryz.prog=true:=by kernel_rfl
theorem wc_Int64S {cs:List D} (h:WC S 22 cs):∃xs:List Int,cs=[.sl .any (xs.map (.int .i64))]∧RngInt64S xs:=wc_ints rfl rfl h
theorem wc_Sig {cs:List D} (h:WC S 24 cs):∃x:List Int,cs=[.sl .any (x.map (.int .i64))]∧RngSig x:=by
 obtain⟨css,rfl,hl,hc⟩:=wc_st (fs:=[(0,22)]) rfl h
 match css,hl with
 | [c0],_ =>
  obtain⟨x0,rfl,h0⟩:=wc_Int64S (hc 0 _ c0 rfl rfl)
  exact⟨x0,rfl,h0⟩
theorem wc_Rule {cs:List D} (h:WC S 91 cs):∃x:RuleT,cs=[.sl .any (x.l.map (.int .i64)),.sl .any (x.r.map (.int .i64))]∧RngRule x:=by
 obtain⟨css,rfl,hl,hc⟩:=wc_st (fs:=[(0,22),(1,22)]) rfl h
 match css,hl with
 | [c0,c1],_ =>
  obtain⟨x0,rfl,h0⟩:=wc_Int64S (hc 0 _ c0 rfl rfl)
  obtain⟨x1,rfl,h1⟩:=wc_Int64S (hc 1 _ c1 rfl rfl)
  exact⟨⟨x0,x1⟩,rfl,⟨h0,h1⟩⟩
theorem wc_RuleS {cs:List D} (h:WC S 25 cs):∃xs:List RuleT,cs=[.sl .any (xs.map RuleD)]∧RngRuleS xs:=by
 refine wc_list rfl tab91 h RuleD RngRule fun ds _ hw=>?_
 obtain⟨x,rfl,hx⟩:=wc_Rule hw
 exact⟨x,rfl,hx⟩
theorem wc_System {cs:List D} (h:WC S 27 cs):∃x:SystemT,cs=[.sl .any (x.sig.map (.int .i64)),.sl .any (x.rules.map RuleD)]∧RngSystem x:=by
 obtain⟨css,rfl,hl,hc⟩:=wc_st (fs:=[(0,24),(1,25)]) rfl h
 match css,hl with
 | [c0,c1],_ =>
  obtain⟨x0,rfl,h0⟩:=wc_Sig (hc 0 _ c0 rfl rfl)
  obtain⟨x1,rfl,h1⟩:=wc_RuleS (hc 1 _ c1 rfl rfl)
  exact⟨⟨x0,x1⟩,rfl,⟨h0,h1⟩⟩
set_option maxRecDepth 100000 in
theorem fnExactFirstMarked_lifted (os:Os) (started:os.Started) (H:Type) (enc:TypeId×Value→H) :
  ReturnsInHanded {} Tryz.checked os 3 .any (Rows.fnExactFirstMarkedSpec.pre6 enc Tryz.prog Tryz.f3 Rows.fnExactFirstMarkedRow.domain false) (Rows.fnExactFirstMarkedSpec.post enc Tryz.prog Tryz.f3 false true false false):=by
 refine returnsInHanded_of_change (C:=Tryz.checked) own started (by kernel_rfl) Tryz.func3
  (ChangeSpec.witness6 (enc:=enc) (C:=Tryz.checked) false ⟨#[],#[.agg #[.slice none 0 0,.slice none 0 0],.slice none 0 0],[]⟩ 12 (by kernel_rfl) (by kernel_rfl) (by kernel_rfl) (by kernel_rfl)) ?_
 intro W base args ds gs before hval hW _ _
 refine law_contract S (fn:=Tryz.f3) (ts:=[27,22]) (tb:=4) (m:=20) laidOut (by kernel_rfl) (of_decide_eq_true (by kernel_rfl)) (of_decide_eq_true (by kernel_rfl)) (by kernel_rfl) (by kernel_rfl) rfl (fun ds hd=>?_) (fun al hl h=>?_) hval hW
 ·match ds,hd with
  | [_,_],_=>rfl
 ·match al,hl with
  | [a0,a1],_ =>
   obtain⟨i0,c0,e0,_,w0,rfl⟩:=h 0 _ a0 rfl rfl
   cases tab27.symm.trans e0
   obtain⟨i1,c1,e1,_,w1,rfl⟩:=h 1 _ a1 rfl rfl
   cases tab22.symm.trans e1
   obtain⟨x0,rfl,r0⟩:=wc_System w0
   obtain⟨x1,rfl,r1⟩:=wc_Int64S w1
   exact fnExactFirstMarked_fc x0 x1 r0 r1
theorem and_t {a b:Bool} (ha:a=true) (hb:b=true):(a&&b)=true:=by rw[ha,hb];rfl
set_option maxRecDepth 100000 in
theorem jf_heard:Tryz.pinned.checked.prog.stopsHeard=true:=by kernel_rfl
set_option maxRecDepth 100000 in
theorem jf_enter:Tryz.pinned.checked.prog.mayEnter=true:=by kernel_rfl
set_option maxRecDepth 100000 in
theorem jf_lift:(Rows.fnExactFirstMarkedRow.lifted==Tryz.pinned.checked.prog.liftsFinal)=true:=by kernel_rfl
set_option maxRecDepth 100000 in
theorem jf_make:(Tryz.pinned.checked.prog.make==some Rows.fnExactFirstMarkedRow.make)=true:=by kernel_rfl
set_option maxRecDepth 100000 in
theorem jf_all:joinedFacts Tryz.pinned.checked.prog 3 Tryz.f3 Rows.fnExactFirstMarkedSpec Rows.fnExactFirstMarkedRow=true:=by
 unfold joinedFacts
 exact and_t (and_t (and_t (and_t (and_t (and_t (and_t (and_t (by kernel_rfl) jf_heard) jf_enter) jf_lift) jf_make) (by kernel_rfl)) (by kernel_rfl)) (by kernel_rfl)) (by kernel_rfl)
set_option maxRecDepth 100000 in
theorem fnExactFirstMarked_holds:Rows.FnExactFirstMarkedSaid :=
 OpenClaim.holds_of_wide 3 Tryz.f3 rfl rfl rfl rfl rfl rfl rfl ⟨rfl,rfl,rfl,rfl,rfl⟩ rfl rfl rfl rfl rfl (by kernel_rfl) Tryz.func3 jf_all
  (of_decide_eq_true (by kernel_rfl)) (by unfold Func.isWrapper;first|(rw[if_pos (by decide +kernel)];kernel_rfl)|(rw[if_neg (by decide +kernel)];exact⟨rfl,rfl⟩))
  (fun os started H enc _=>fnExactFirstMarked_lifted os started H enc)
end Go.Proofs.YtpennhjjnlkbiaaGreat
