/-
  FnExactAlwaysReduces returns true, whatever its arguments: its contract, and its row (no condition).
-/
import Derived.Test.YtkfkdgginfpdnaaGreatDoorCards
import Derived.Test.YtkfkdgginfpdnaaGreatDoorTie
import Derived.SevenTiedAt
import Derived.LaidMore
import Derived.Stop.Joined
import Derived.Test.YtkfkdgginfpdnaaGreatDoorRows
import Derived.Test.YtkfkdgginfpdnaaGreatDoorG0
import Derived.Test.YtkfkdgginfpdnaaGreatDoorG10
import Derived.Test.YtkfkdgginfpdnaaGreatDoorLgK6
namespace Go.Proofs.YtkfkdgginfpdnaaGreatDoor
open Go Go.Lg Go.RowKit Go.ChangeShapes Go.WideShapes Go.ChangeAt
set_option linter.unusedVariables false
set_option linter.unusedSimpArgs false
set_option maxHeartbeats 4000000
def RngInt64 (x:Int):Prop:=In64 x
def RngInt64S (xs:List Int):Prop:=∀x∈xs,RngInt64 x
def RngSig (x:List Int):Prop:=RngInt64S x
def RngRule (x:RuleT):Prop:=RngInt64S x.l∧RngInt64S x.r
def RngRuleS (xs:List RuleT):Prop:=∀x∈xs,RngRule x
def RngSystem (x:SystemT):Prop:=RngSig x.sig∧RngRuleS x.rules
section
attribute [local irreducible] SW runL runQ runG runQG FC FCw Ret1
def kp4:List (Nat×List Nat):=[(0,[1,2]),(1,[1,2,12]),(2,[4]),(3,[1,2,5]),(4,[1,2,5]),(5,[1,2,17]),(6,[4]),(7,[1,2,6]),(8,[1,2,6,7]),(9,[1,2,6,7,8]),(10,[1,2,6,7,8,9]),(11,[1,2,7,8,32]),(12,[4]),(13,[1,8,37]),(14,[4]),(15,[42]),(16,[4]),(17,[4])]
attribute [go_sem] kp4 Tryz.results4 Tryz.ntmps4
theorem fnExactAlwaysReduces_fc (aSys:SystemT) (aT:List Int) (haSys:RngSystem aSys) (haT:RngInt64S aT):FCw S TabW 4 [] [] [] [SystemD aSys,.sl .any (aT.map (.int .i64))] (.bool true) [] []:=by
 refine fc_bodyTW Tryz.func4 rfl (by kernel_rfl) (by simp[Tryz.f4]) rfl fun B hw hTB hB=>?_
 simp only[Tryz.ntmps4,enumD,lst0,Nat.reduceAdd]
 refine sw_bnd_aggg 0 0 fun hb0_0=>?_
 refine sw_bnd_aggg 0 1 fun hb0_1=>?_
 refine sw_bndg 1 fun hb1=>?_
 repeat' first|exact h.elim|(refine hK.raw ?_;clear hK K;refine LopsW.callW rfl rfl rfl hw hTB (implAlwaysReduces_fc aSys aT) (by refine⟨⟨?_,?_,?_,?_,?_⟩,⟨?_,?_,?_,?_,?_⟩,?_⟩<;>simp[LS.getBox,Lg.look,D.ids,D.idsL,LS.clean,D.tks,D.tksL,inTok]) (lops_go 0 (fun (K:List Oper→LS→Prop) (hK:KOk S 0 _ _ _ K)=>?_));simp (disch:=(refine Om.mk ?_;omega)) only[go_sem,List.filter_cons,List.filter_nil,Bool.false_eq_true])|refine sw_n ?_|refine sw_go 0 kp4 fun K hK=>?_|refine fun (K:KT) (hK:KOk S 0 _ _ _ K)=>?_|refine sw_goD kp4 (by kernel_rfl) fun K hK=>?_|refine runL_g ?_|refine runQ_g ?_|refine sw_retg0 ?_|refine sw_retg ?_|(refine hK.n0 ?_;clear hK K)|refine sw_condg rfl (fun h=>?_) fun h=>?_|refine sw_loopEnd ?_|refine hK.c1 rfl rfl rfl (szSystem_fc _ _ (by repeat' (first|apply szd_rng|(constructor<;>omega)))) ?_|refine hK.c1 rfl rfl rfl (toSystem_fc _ (by first|(simp only[cntInt64S];omega)|grind [szd])) ?_|refine hK.c1 rfl rfl rfl (toInt64S_fc _ _ (by first|(simp only[cntInt64S];omega)|grind [szd])) ?_|refine hK.c1 rfl rfl rfl (eqSystem_fc _ _) ?_|refine hK.c1 rfl rfl rfl (eqInt64S_fc _ _ _ _) ?_|refine hK.c1 rfl rfl rfl (specAlwaysReduces_fc aSys aT) ?_|with_reducible refine and_o ?_|apply tTT
 all_goals first|exact h trivial|exact absurd rfl h|exact absurd Iff.rfl h|(simp at h;done)
end
theorem own:ownKnob Tryz.prog.godebug=none:=by kernel_rfl
theorem laidOut:laidOutB Tryz.prog=true:=by kernel_rfl
theorem wc_Int64S {cs:List D} (h:WC S 22 cs):∃xs:List Int,cs=[.sl .any (xs.map (.int .i64))]∧RngInt64S xs:=wc_ints rfl rfl h
theorem wc_Sig {cs:List D} (h:WC S 24 cs):∃x:List Int,cs=[.sl .any (x.map (.int .i64))]∧RngSig x:=by
 obtain⟨css,rfl,hl,hc⟩:=wc_st (fs:=[(0,22)]) rfl h
 match css,hl with
 | [c0],_ =>
  obtain⟨x0,rfl,h0⟩:=wc_Int64S (hc 0 _ c0 rfl rfl)
  exact⟨x0,rfl,h0⟩
theorem wc_Rule {cs:List D} (h:WC S 100 cs):∃x:RuleT,cs=[.sl .any (x.l.map (.int .i64)),.sl .any (x.r.map (.int .i64))]∧RngRule x:=by
 obtain⟨css,rfl,hl,hc⟩:=wc_st (fs:=[(0,22),(1,22)]) rfl h
 match css,hl with
 | [c0,c1],_ =>
  obtain⟨x0,rfl,h0⟩:=wc_Int64S (hc 0 _ c0 rfl rfl)
  obtain⟨x1,rfl,h1⟩:=wc_Int64S (hc 1 _ c1 rfl rfl)
  exact⟨⟨x0,x1⟩,rfl,⟨h0,h1⟩⟩
theorem wc_RuleS {cs:List D} (h:WC S 25 cs):∃xs:List RuleT,cs=[.sl .any (xs.map RuleD)]∧RngRuleS xs:=by
 refine wc_list rfl tab100 h RuleD RngRule fun ds _ hw=>?_
 obtain⟨x,rfl,hx⟩:=wc_Rule hw
 exact⟨x,rfl,hx⟩
theorem wc_System {cs:List D} (h:WC S 27 cs):∃x:SystemT,cs=[.sl .any (x.sig.map (.int .i64)),.sl .any (x.rules.map RuleD)]∧RngSystem x:=by
 obtain⟨css,rfl,hl,hc⟩:=wc_st (fs:=[(0,24),(1,25)]) rfl h
 match css,hl with
 | [c0,c1],_ =>
  obtain⟨x0,rfl,h0⟩:=wc_Sig (hc 0 _ c0 rfl rfl)
  obtain⟨x1,rfl,h1⟩:=wc_RuleS (hc 1 _ c1 rfl rfl)
  exact⟨⟨x0,x1⟩,rfl,⟨h0,h1⟩⟩
def laidN:List (String×DataW Unit):=[("math/bits.deBruijn32tab", Rows.laid_math_bits_deBruijn32tab),("math/bits.deBruijn64tab", Rows.laid_math_bits_deBruijn64tab),("internal/strconv.uint64pow10", Rows.laid_internal_strconv_uint64pow10)]
theorem laid_tab:(Rows.laid_internal_strconv_uint64pow10:DataW Unit)=Lib.tabData .u64 Lib.pow10Tab:=by kernel_rfl
set_option maxRecDepth 100000 in
theorem door_met (os:Os) (args:Array Value):laidMetH Tryz.prog laidN ((World.doorLaid Tryz.prog 24 os).forCall (fun _ _=>0) ⟨#[],args,[]⟩).memory :=
 laidMetH_of_parts3 (fuel:=8) (laidMet_of_run' 8 (by kernel_rfl) (by kernel_rfl)) (by kernel_rfl) (by kernel_rfl)
set_option maxRecDepth 100000 in
theorem fnExactAlwaysReduces_lifted (os:Os) (started:os.Started) (H:Type) (enc:TypeId×Value→H) :
  ReturnsInHanded {} Tryz.checked os 4 .any (fun w args=>(Rows.fnExactAlwaysReducesSpec.pre enc Tryz.prog Tryz.f4 [] false w args∧laidMetH Tryz.prog laidN w)∧sizedMet enc Tryz.prog Tryz.f4 (OpenSpec.ofChange Rows.fnExactAlwaysReducesSpec) false w args) (Rows.fnExactAlwaysReducesSpec.post enc Tryz.prog Tryz.f4 false true false false):=by
 refine returnsInHanded_of_change_and (C:=Tryz.checked) (X:=fun w _=>laidMetH Tryz.prog laidN w) (fun _ _ _ hh h=>h.of_heap hh) own started (by kernel_rfl) Tryz.func4
  (ChangeSpec.witness_shaped (enc:=enc) (C:=Tryz.checked) (os:=os) (X:=fun w _=>laidMetH Tryz.prog laidN w) false (World.doorLaid Tryz.prog 24 os) #[.agg #[.slice none 0 0,.slice none 0 0],.slice none 0 0] 12 rfl (World.shaped_of_RefB (by kernel_rfl) (by kernel_rfl)) (by kernel_rfl) (by kernel_rfl) (by kernel_rfl) (door_met os _)) ?_
 intro W base args ds gs before hval hW _ _ hL _
 rw[MakeChecks.laidMetH_plain _ _ _ (by kernel_rfl)] at hL
 have hL3:laidMet Tryz.prog [("math/bits.deBruijn32tab", Rows.laid_math_bits_deBruijn32tab),("math/bits.deBruijn64tab", Rows.laid_math_bits_deBruijn64tab),("internal/strconv.uint64pow10", Lib.tabData .u64 Lib.pow10Tab)] W:=by
  rw[←laid_tab]
  exact hL
 refine law_contractW S (T:=TabW) (fn:=Tryz.f4) (ts:=[27,22]) (tb:=4) (m:=20) laidOut (by kernel_rfl) (of_decide_eq_true (by kernel_rfl)) (of_decide_eq_true (by kernel_rfl)) (by kernel_rfl) (by kernel_rfl) rfl (fun ds hd=>?_) (fun al hl h=>?_) (tab_of_laid hL3) hval hW
 ·match ds,hd with
  | [_,_],_=>rfl
 ·match al,hl with
  | [a0,a1],_ =>
   obtain⟨i0,c0,e0,_,w0,rfl⟩:=h 0 _ a0 rfl rfl
   cases tab27.symm.trans e0
   obtain⟨i1,c1,e1,_,w1,rfl⟩:=h 1 _ a1 rfl rfl
   cases tab22.symm.trans e1
   obtain⟨x0,rfl,r0⟩:=wc_System w0
   obtain⟨x1,rfl,r1⟩:=wc_Int64S w1
   exact fnExactAlwaysReduces_fc x0 x1 r0 r1
theorem and_t {a b:Bool} (ha:a=true) (hb:b=true):(a&&b)=true:=by rw[ha,hb];rfl
set_option maxRecDepth 100000 in
theorem jf_heard:Tryz.pinned.checked.prog.stopsHeard=true:=by kernel_rfl
set_option maxRecDepth 100000 in
theorem jf_enter:Tryz.pinned.checked.prog.mayEnter=true:=by kernel_rfl
set_option maxRecDepth 100000 in
theorem jf_lift:(Rows.fnExactAlwaysReducesRow.lifted==Tryz.pinned.checked.prog.liftsFinal)=true:=by kernel_rfl
set_option maxRecDepth 100000 in
theorem jf_make:(Tryz.pinned.checked.prog.make==some Rows.fnExactAlwaysReducesRow.make)=true:=by kernel_rfl
set_option maxRecDepth 100000 in
theorem jf_all:joinedFacts Tryz.pinned.checked.prog 4 Tryz.f4 Rows.fnExactAlwaysReducesSpec Rows.fnExactAlwaysReducesRow=true:=by
 unfold joinedFacts
 exact and_t (and_t (and_t (and_t (and_t (and_t (and_t (and_t (by kernel_rfl) jf_heard) jf_enter) jf_lift) jf_make) (by kernel_rfl)) (by kernel_rfl)) (by kernel_rfl)) (by kernel_rfl)
set_option maxRecDepth 100000 in
theorem fnExactAlwaysReduces_said:Rows.FnExactAlwaysReducesSaid :=
 OpenClaim.holds_of_wide 4 Tryz.f4 rfl rfl rfl rfl rfl rfl rfl ⟨rfl,rfl,rfl,rfl,rfl⟩ rfl rfl rfl rfl rfl (by kernel_rfl) Tryz.func4 jf_all
  (of_decide_eq_true (by kernel_rfl)) (by unfold Func.isWrapper;first|(rw[if_pos (by decide +kernel)];kernel_rfl)|(rw[if_neg (by decide +kernel)];exact⟨rfl,rfl⟩))
  (fun os started H enc _=>fnExactAlwaysReduces_lifted os started H enc)
set_option maxRecDepth 100000 in
theorem fnExactAlwaysReduces_holds:Rows.FnExactAlwaysReducesCardSaid :=
 Claim7.holds_tied_plain_at .later [] [.data,.data,.data] true (true, "2eb46212b933598cd99bc4ce1471e735d9bd3d9ef9586e79ffca00a92af260ae") true
  fnExactAlwaysReduces_said (fun _ h=>by cases h) (by kernel_rfl) (fun _ h=>by cases h) fnExactAlwaysReduces_row_tie rfl ⟨rfl,rfl⟩ (by kernel_rfl) rfl
  (fun f fn hf hfn=>by
   obtain rfl:f=4:=Option.some.inj ((show Tryz.prog.funcNamed "loop.example/g00895/laws.FnExactAlwaysReduces" = some 4 by kernel_rfl).symm.trans hf) |>.symm
   obtain rfl:fn=Tryz.f4:=(Option.some.inj (Tryz.func4.symm.trans hfn)).symm
   exact⟨by kernel_rfl,fun j t ht=>by
    rw[Tryz.params4] at ht
    have hm:t∈[27,22]:=by simpa using Array.mem_of_getElem? ht
    have hall:([27,22].all fun u=>!Tryz.prog.wantsStandIn u)=true:=by kernel_rfl
    exact(show Tryz.prog.wantsStandIn t=false by simpa using List.all_eq_true.1 hall t hm)⟩)
  (by kernel_rfl)
end Go.Proofs.YtkfkdgginfpdnaaGreatDoor
