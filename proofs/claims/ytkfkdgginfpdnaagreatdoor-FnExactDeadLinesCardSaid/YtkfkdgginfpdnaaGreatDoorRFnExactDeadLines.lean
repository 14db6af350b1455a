/-
  FnExactDeadLines returns true, whatever its arguments: its contract, and its row (no condition).
-/
import Derived.Test.YtkfkdgginfpdnaaGreatDoorCards
import Derived.Test.YtkfkdgginfpdnaaGreatDoorTie
import Derived.SevenTiedAt
import Derived.LaidMore
import Derived.Stop.Joined
import Derived.Test.YtkfkdgginfpdnaaGreatDoorRows
import Derived.Test.YtkfkdgginfpdnaaGreatDoorG0
import Derived.Test.YtkfkdgginfpdnaaGreatDoorG8
import Derived.Test.YtkfkdgginfpdnaaGreatDoorG11
import Derived.Test.YtkfkdgginfpdnaaGreatDoorG12
import Derived.Test.YtkfkdgginfpdnaaGreatDoorLgK7
import Derived.Test.YtkfkdgginfpdnaaGreatDoorLgK6
namespace Go.Proofs.YtkfkdgginfpdnaaGreatDoor
open Go Go.Lg Go.RowKit Go.ChangeShapes Go.WideShapes Go.ChangeAt
set_option linter.unusedVariables false
set_option linter.unusedSimpArgs false
set_option maxHeartbeats 4000000
set_option maxRecDepth 100000
def RngInt64 (x:Int):Prop:=In64 x
def RngInt64S (xs:List Int):Prop:=∀x∈xs,RngInt64 x
def RngSig (x:List Int):Prop:=RngInt64S x
def RngInt64SS (xs:List (List Int)):Prop:=∀x∈xs,RngInt64S x
def RngLine (x:LineT):Prop:=RngInt64 x.fun_∧RngInt64SS x.pats∧RngInt64S x.body
def RngLineS (xs:List LineT):Prop:=∀x∈xs,RngLine x
def RngFront (x:FrontT):Prop:=RngSig x.sig∧RngInt64S x.funs∧RngLineS x.lines
section
attribute [local irreducible] SW runL runQ runG runQG FC FCw Ret1
def kp5:List (Nat×List Nat):=[(0,[1]),(1,[1,3]),(2,[1,3]),(3,[1,15]),(4,[2]),(5,[1,4]),(6,[1,4,5]),(7,[1,4,5,6]),(8,[1,4,5,6,26]),(9,[2]),(10,[1,4,5,6,31]),(11,[2]),(12,[1,4,5,6,7]),(13,[1,4,6,7]),(14,[1,4,6,42]),(15,[2]),(16,[1,4,6,8]),(17,[1,4,6,8]),(18,[1,4,6,8,9]),(19,[1,4,6,8,9]),(20,[1,4,6,8,9,50]),(21,[2]),(22,[1,4,6,8,53]),(23,[2]),(24,[4,6,8,10]),(25,[6,8,60]),(26,[2]),(27,[6,8,9]),(28,[8,9]),(29,[8,9,65]),(30,[2]),(31,[68]),(32,[2]),(33,[2])]
attribute [go_sem] kp5 Tryz.results5 Tryz.ntmps5
theorem fnExactDeadLines_fc (aF:FrontT) (haF:RngFront aF):FCw S TabW 5 [] [] [] [FrontD aF] (.bool true) [] []:=by
 have cS:=specDeadLines_fc aF
 have cI:=fun (g:List Nat) (hg:g≠[])=>implDeadLines_fc g hg aF
 have cM:=deadR_mc aF
 generalize deadR aF=rR at cS cI cM
 refine fc_bodyTW Tryz.func5 rfl (by kernel_rfl) (by simp[Tryz.f5]) rfl fun B hw hTB hB=>?_
 simp only[Tryz.ntmps5,enumD,lst0,Nat.reduceAdd]
 refine sw_bnd_aggg 0 0 fun hb0_0=>?_
 refine sw_bnd_aggg 0 1 fun hb0_1=>?_
 refine sw_bnd_aggg 0 2 fun hb0_2=>?_
 repeat' first|exact h.elim|(refine sw_rebaseAtW 6 hB rfl hw hTB fun B1 N hN hw hTB=>?_;simp only[go_sem,LS.rebase,mapA,kdc])|(refine sw_markA1 hN (i:=N+1) (by omega) markFront_mk rfl rfl (ta_Front (N+1) _ aF) rfl rfl rfl rfl (by omega) (by(have:cntFront aF≤1048576:=(by first|(simp only[cntInt64S];omega)|grind [szd]);have:=mcle_Front aF;omega)) (by simp) ⟨rfl,rfl,rfl⟩ (by simp) (by(simp only[eraseK,KeepE,KeepX,KeepL,Nat.reduceEqDiff,↓reduceIte,and_true];(repeat' first|exact trivial|exact keep_int _ _ _ _|exact keep_bool _ _ _|exact keep_box _ _ _ _|exact keep_KD _ _ _|exact keep_LT (lt_Int64S _ _) (by omega)|exact keep_LT (lt_Int64SS _ _) (by omega)|exact keep_LT (lt_LineS _ _) (by omega)|refine And.intro ?_ ?_);done)) (by(simp only[eraseK,KeepE,KeepX,KeepL,Nat.reduceEqDiff,↓reduceIte,and_true];(repeat' first|exact trivial|exact keep_int _ _ _ _|exact keep_bool _ _ _|exact keep_box _ _ _ _|exact keep_KD _ _ _|exact keep_LT (lt_Int64S _ _) (by omega)|exact keep_LT (lt_Int64SS _ _) (by omega)|exact keep_LT (lt_LineS _ _) (by omega)|refine And.intro ?_ ?_);done)) (by(simp only[eraseK,KeepE,KeepX,KeepL,Nat.reduceEqDiff,↓reduceIte,and_true];(repeat' first|exact trivial|exact keep_int _ _ _ _|exact keep_bool _ _ _|exact keep_box _ _ _ _|exact keep_KD _ _ _|exact keep_LT (lt_Int64S _ _) (by omega)|exact keep_LT (lt_Int64SS _ _) (by omega)|exact keep_LT (lt_LineS _ _) (by omega)|refine And.intro ?_ ?_);done)) ?_;simp only[go_sem])|(refine sw_markS2 hN (i:=N+2) (by omega) markInt64S_mk rfl (lt_Int64S [N+2] (rR)) rfl (by omega) (by(have:cntFront aF≤1048576:=(by first|(simp only[cntInt64S];omega)|grind [szd]);have:=mcle_Front aF;have:=cM;omega)) (by simp) ⟨rfl,rfl,rfl⟩ (by simp) (by simp) (by(simp only[eraseK,KeepE,KeepX,KeepL,Nat.reduceEqDiff,↓reduceIte,and_true];(repeat' first|exact trivial|exact keep_int _ _ _ _|exact keep_bool _ _ _|exact keep_box _ _ _ _|exact keep_KD _ _ _|exact keep_LT (lt_Int64S _ _) (by omega)|exact keep_LT (lt_Int64SS _ _) (by omega)|exact keep_LT (lt_LineS _ _) (by omega)|refine And.intro ?_ ?_);done)) (by(simp only[eraseK,KeepE,KeepX,KeepL,Nat.reduceEqDiff,↓reduceIte,and_true];(repeat' first|exact trivial|exact keep_int _ _ _ _|exact keep_bool _ _ _|exact keep_box _ _ _ _|exact keep_KD _ _ _|exact keep_LT (lt_Int64S _ _) (by omega)|exact keep_LT (lt_Int64SS _ _) (by omega)|exact keep_LT (lt_LineS _ _) (by omega)|refine And.intro ?_ ?_);done)) (by(simp only[eraseK,KeepE,KeepX,KeepL,Nat.reduceEqDiff,↓reduceIte,and_true];(repeat' first|exact trivial|exact keep_int _ _ _ _|exact keep_bool _ _ _|exact keep_box _ _ _ _|exact keep_KD _ _ _|exact keep_LT (lt_Int64S _ _) (by omega)|exact keep_LT (lt_Int64SS _ _) (by omega)|exact keep_LT (lt_LineS _ _) (by omega)|refine And.intro ?_ ?_);done)) ?_;simp only[go_sem])|(refine hK.raw ?_;clear hK K;refine LopsW.callW rfl rfl rfl hw hTB (FCw.args (cI [N+2] (by simp)) (by(simp only[go_sem];(repeat' first|exact trivial|exact D.le.refl _|exact KD_le rfl rfl|exact le_Int64SL _ _|exact le_SigL _ _|exact le_Int64SSL _ _|exact le_LineL _ _|exact le_LineSL _ _|exact le_FrontL _ _|exact D.le.any|refine And.intro ?_ ?_);done))) (by refine⟨⟨?_,?_,?_,?_,?_⟩,⟨?_,?_,?_,?_,?_⟩,?_⟩<;>simp[LS.getBox,Lg.look,D.ids,D.idsL,LS.clean,D.tks,D.tksL,inTok,KD_ids,KD_tks,HD_ids,HD_tks,Int64SL,TransSL,Int64SL]) (lops_go 0 (fun (K:List Oper→LS→Prop) (hK:KOk S 0 _ _ _ K)=>?_));simp (disch:=(refine Om.mk ?_;omega)) only[go_sem,List.filter_cons,List.filter_nil,Bool.false_eq_true])|refine sw_n ?_|refine sw_go 0 kp5 fun K hK=>?_|refine fun (K:KT) (hK:KOk S 0 _ _ _ K)=>?_|refine sw_goD kp5 (by kernel_rfl) fun K hK=>?_|refine runL_g ?_|refine runQ_g ?_|refine sw_retg0 ?_|refine sw_retg ?_|(refine hK.n0 ?_;clear hK K)|refine runG_fk (fun h=>?_) fun h=>?_|refine runQG_fk (fun h=>?_) fun h=>?_|refine sw_condg rfl (fun h=>?_) fun h=>?_|refine hK.skp rfl rfl ?_|refine sw_loopEnd ?_|refine hK.c1 rfl rfl rfl (szFront_fc _ _ (by repeat' (first|apply szd_rng|(constructor<;>omega)))) ?_|(refine hK.c0 rfl rfl rfl (FC.args (toFrontL_fc [N+1] (by simp) aF (by first|(simp only[cntInt64S];omega)|grind [szd])) ?le) rfl rfl rfl ?_;case le=>(simp only[go_sem];(repeat' first|exact trivial|exact D.le.refl _|exact KD_le rfl rfl|exact le_Int64SL _ _|exact le_SigL _ _|exact le_Int64SSL _ _|exact le_LineL _ _|exact le_LineSL _ _|exact le_FrontL _ _|exact D.le.any|refine And.intro ?_ ?_);done))|(refine hK.c0 rfl rfl rfl (FC.args (eqFront_fc aF aF) ?le) rfl rfl rfl ?_;case le=>(simp only[go_sem];(repeat' first|exact trivial|exact D.le.refl _|exact KD_le rfl rfl|exact le_Int64SL _ _|exact le_SigL _ _|exact le_Int64SSL _ _|exact le_LineL _ _|exact le_LineSL _ _|exact le_FrontL _ _|exact D.le.any|refine And.intro ?_ ?_);done))|refine hK.c1 rfl rfl rfl (held_fc heldInt64S_mk (by omega) (by(have:cntFront aF≤1048576:=(by first|(simp only[cntInt64S];omega)|grind [szd]);have:=mcle_Front aF;have:=cM;omega))) ?_|(refine hK.c0 rfl rfl rfl (FC.args (eqInt64S_fc .any .any (rR) (rR)) ?le) rfl rfl rfl ?_;case le=>(simp only[go_sem];(repeat' first|exact trivial|exact D.le.refl _|exact KD_le rfl rfl|exact le_Int64SL _ _|exact le_SigL _ _|exact le_Int64SSL _ _|exact le_LineL _ _|exact le_LineSL _ _|exact le_FrontL _ _|exact D.le.any|refine And.intro ?_ ?_);done))|refine hK.c1 rfl rfl rfl (toFront_fc _ (by first|(simp only[cntInt64S];omega)|grind [szd])) ?_|refine hK.c1 rfl rfl rfl (cS) ?_|(refine hK.fork rfl rfl rfl ?_ ?_<;>intro h<;>try simp (disch:=(refine Om.mk ?_;omega)) only[go_sem] at h)|with_reducible refine and_o ?_|apply tTT
 all_goals first|omega|exact h trivial|exact absurd rfl h|exact absurd Iff.rfl h|(simp at h;done)
end
theorem own:ownKnob Tryz.prog.godebug=none:=by kernel_rfl
theorem laidOut:laidOutB Tryz.prog=true:=by kernel_rfl
theorem wc_Int64S {cs:List D} (h:WC S 22 cs):∃xs:List Int,cs=[.sl .any (xs.map (.int .i64))]∧RngInt64S xs:=wc_ints rfl rfl h
theorem wc_Sig {cs:List D} (h:WC S 24 cs):∃x:List Int,cs=[.sl .any (x.map (.int .i64))]∧RngSig x:=by
 obtain⟨css,rfl,hl,hc⟩:=wc_st (fs:=[(0,22)]) rfl h
 match css,hl with
 | [c0],_ =>
  obtain⟨x0,rfl,h0⟩:=wc_Int64S (hc 0 _ c0 rfl rfl)
  exact⟨x0,rfl,h0⟩
theorem wc_Int64SS {cs:List D} (h:WC S 80 cs):∃xs:List (List Int),cs=[.sl .any (xs.map IntsD)]∧RngInt64SS xs:=by
 refine wc_list rfl tab22 h IntsD RngInt64S fun ds _ hw=>?_
 obtain⟨x,rfl,hx⟩:=wc_Int64S hw
 exact⟨x,rfl,hx⟩
theorem wc_Line {cs:List D} (h:WC S 121 cs):∃x:LineT,cs=[.int .i64 x.fun_,.sl .any (x.pats.map IntsD),.sl .any (x.body.map (.int .i64))]∧RngLine x:=by
 obtain⟨css,rfl,hl,hc⟩:=wc_st (fs:=[(0,2),(1,80),(2,22)]) rfl h
 match css,hl with
 | [c0,c1,c2],_ =>
  obtain⟨x0,rfl,h0⟩:=wc_int rfl (hc 0 _ c0 rfl rfl)
  obtain⟨x1,rfl,h1⟩:=wc_Int64SS (hc 1 _ c1 rfl rfl)
  obtain⟨x2,rfl,h2⟩:=wc_Int64S (hc 2 _ c2 rfl rfl)
  exact⟨⟨x0,x1,x2⟩,rfl,⟨in64_wf h0,h1,h2⟩⟩
theorem wc_LineS {cs:List D} (h:WC S 41 cs):∃xs:List LineT,cs=[.sl .any (xs.map LineD)]∧RngLineS xs:=by
 refine wc_list rfl tab121 h LineD RngLine fun ds _ hw=>?_
 obtain⟨x,rfl,hx⟩:=wc_Line hw
 exact⟨x,rfl,hx⟩
theorem wc_Front {cs:List D} (h:WC S 43 cs):∃x:FrontT,cs=[.sl .any (x.sig.map (.int .i64)),.sl .any (x.funs.map (.int .i64)),.sl .any (x.lines.map LineD)]∧RngFront x:=by
 obtain⟨css,rfl,hl,hc⟩:=wc_st (fs:=[(0,24),(1,22),(2,41)]) rfl h
 match css,hl with
 | [c0,c1,c2],_ =>
  obtain⟨x0,rfl,h0⟩:=wc_Sig (hc 0 _ c0 rfl rfl)
  obtain⟨x1,rfl,h1⟩:=wc_Int64S (hc 1 _ c1 rfl rfl)
  obtain⟨x2,rfl,h2⟩:=wc_LineS (hc 2 _ c2 rfl rfl)
  exact⟨⟨x0,x1,x2⟩,rfl,⟨h0,h1,h2⟩⟩
def laidN:List (String×DataW Unit):=[("math/bits.deBruijn32tab", Rows.laid_math_bits_deBruijn32tab),("math/bits.deBruijn64tab", Rows.laid_math_bits_deBruijn64tab),("internal/strconv.uint64pow10", Rows.laid_internal_strconv_uint64pow10)]
theorem laid_tab:(Rows.laid_internal_strconv_uint64pow10:DataW Unit)=Lib.tabData .u64 Lib.pow10Tab:=by kernel_rfl
set_option maxRecDepth 100000 in
theorem door_met (os:Os) (args:Array Value):laidMetH Tryz.prog laidN ((World.doorLaid Tryz.prog 24 os).forCall (fun _ _=>0) ⟨#[],args,[]⟩).memory :=
 laidMetH_of_parts3 (fuel:=8) (laidMet_of_run' 8 (by kernel_rfl) (by kernel_rfl)) (by kernel_rfl) (by kernel_rfl)
set_option maxRecDepth 100000 in
theorem fnExactDeadLines_lifted (os:Os) (started:os.Started) (H:Type) (enc:TypeId×Value→H) :
  ReturnsInHanded {} Tryz.checked os 5 .any (fun w args=>(Rows.fnExactDeadLinesSpec.pre enc Tryz.prog Tryz.f5 [] false w args∧laidMetH Tryz.prog laidN w)∧sizedMet enc Tryz.prog Tryz.f5 (OpenSpec.ofChange Rows.fnExactDeadLinesSpec) false w args) (Rows.fnExactDeadLinesSpec.post enc Tryz.prog Tryz.f5 false true false false):=by
 refine returnsInHanded_of_change_and (C:=Tryz.checked) (X:=fun w _=>laidMetH Tryz.prog laidN w) (fun _ _ _ hh h=>h.of_heap hh) own started (by kernel_rfl) Tryz.func5
  (ChangeSpec.witness_shaped (enc:=enc) (C:=Tryz.checked) (os:=os) (X:=fun w _=>laidMetH Tryz.prog laidN w) false (World.doorLaid Tryz.prog 24 os) #[.agg #[.slice none 0 0,.slice none 0 0,.slice none 0 0]] 12 rfl (World.shaped_of_RefB (by kernel_rfl) (by kernel_rfl)) (by kernel_rfl) (by kernel_rfl) (by kernel_rfl) (door_met os _)) ?_
 intro W base args ds gs before hval hW _ _ hL _
 rw[MakeChecks.laidMetH_plain _ _ _ (by kernel_rfl)] at hL
 have hL3:laidMet Tryz.prog [("math/bits.deBruijn32tab", Rows.laid_math_bits_deBruijn32tab),("math/bits.deBruijn64tab", Rows.laid_math_bits_deBruijn64tab),("internal/strconv.uint64pow10", Lib.tabData .u64 Lib.pow10Tab)] W:=by
  rw[←laid_tab]
  exact hL
 refine law_contractW S (T:=TabW) (fn:=Tryz.f5) (ts:=[43]) (tb:=4) (m:=20) laidOut (by kernel_rfl) (of_decide_eq_true (by kernel_rfl)) (of_decide_eq_true (by kernel_rfl)) (by kernel_rfl) (by kernel_rfl) rfl (fun ds hd=>?_) (fun al hl h=>?_) (tab_of_laid hL3) hval hW
 ·match ds,hd with
  | [_],_=>rfl
 ·match al,hl with
  | [a0],_ =>
   obtain⟨i0,c0,e0,_,w0,rfl⟩:=h 0 _ a0 rfl rfl
   cases tab43.symm.trans e0
   obtain⟨x0,rfl,r0⟩:=wc_Front w0
   exact fnExactDeadLines_fc x0 r0
theorem and_t {a b:Bool} (ha:a=true) (hb:b=true):(a&&b)=true:=by rw[ha,hb];rfl
set_option maxRecDepth 100000 in
theorem jf_heard:Tryz.pinned.checked.prog.stopsHeard=true:=by kernel_rfl
set_option maxRecDepth 100000 in
theorem jf_enter:Tryz.pinned.checked.prog.mayEnter=true:=by kernel_rfl
set_option maxRecDepth 100000 in
theorem jf_lift:(Rows.fnExactDeadLinesRow.lifted==Tryz.pinned.checked.prog.liftsFinal)=true:=by kernel_rfl
set_option maxRecDepth 100000 in
theorem jf_make:(Tryz.pinned.checked.prog.make==some Rows.fnExactDeadLinesRow.make)=true:=by kernel_rfl
set_option maxRecDepth 100000 in
theorem jf_all:joinedFacts Tryz.pinned.checked.prog 5 Tryz.f5 Rows.fnExactDeadLinesSpec Rows.fnExactDeadLinesRow=true:=by
 unfold joinedFacts
 exact and_t (and_t (and_t (and_t (and_t (and_t (and_t (and_t (by kernel_rfl) jf_heard) jf_enter) jf_lift) jf_make) (by kernel_rfl)) (by kernel_rfl)) (by kernel_rfl)) (by kernel_rfl)
set_option maxRecDepth 100000 in
theorem fnExactDeadLines_said:Rows.FnExactDeadLinesSaid :=
 OpenClaim.holds_of_wide 5 Tryz.f5 rfl rfl rfl rfl rfl rfl rfl ⟨rfl,rfl,rfl,rfl,rfl⟩ rfl rfl rfl rfl rfl (by kernel_rfl) Tryz.func5 jf_all
  (of_decide_eq_true (by kernel_rfl)) (by unfold Func.isWrapper;first|(rw[if_pos (by decide +kernel)];kernel_rfl)|(rw[if_neg (by decide +kernel)];exact⟨rfl,rfl⟩))
  (fun os started H enc _=>fnExactDeadLines_lifted os started H enc)
set_option maxRecDepth 100000 in
theorem fnExactDeadLines_holds:Rows.FnExactDeadLinesCardSaid :=
 Claim7.holds_tied_plain_at .later [] [.data,.data,.data] true (true, "2eb46212b933598cd99bc4ce1471e735d9bd3d9ef9586e79ffca00a92af260ae") true
  fnExactDeadLines_said (fun _ h=>by cases h) (by kernel_rfl) (fun _ h=>by cases h) fnExactDeadLines_row_tie rfl ⟨rfl,rfl⟩ (by kernel_rfl) rfl
  (fun f fn hf hfn=>by
   obtain rfl:f=5:=Option.some.inj ((show Tryz.prog.funcNamed "loop.example/g00895/laws.FnExactDeadLines" = some 5 by kernel_rfl).symm.trans hf) |>.symm
   obtain rfl:fn=Tryz.f5:=(Option.some.inj (Tryz.func5.symm.trans hfn)).symm
   exact⟨by kernel_rfl,fun j t ht=>by
    rw[Tryz.params5] at ht
    have hm:t∈[43]:=by simpa using Array.mem_of_getElem? ht
    have hall:([43].all fun u=>!Tryz.prog.wantsStandIn u)=true:=by kernel_rfl
    exact(show Tryz.prog.wantsStandIn t=false by simpa using List.all_eq_true.1 hall t hm)⟩)
  (by kernel_rfl)
end Go.Proofs.YtkfkdgginfpdnaaGreatDoor
