/-
  FnExactSureAuto returns true, whatever its arguments: its contract, and its row (no condition).
-/
import Derived.Test.YtjaicibmmcpeiaaRows
import Derived.Test.YtjaicibmmcpeiaaG0
import Derived.Test.YtjaicibmmcpeiaaG5
import Derived.Test.YtjaicibmmcpeiaaG6
import Derived.Test.YtjaicibmmcpeiaaLgK7
import Derived.Test.YtjaicibmmcpeiaaLgK6
namespace Go.Proofs.Ytjaicibmmcpeiaa
open Go Go.Lg Go.RowKit Go.ChangeShapes Go.WideShapes Go.ChangeAt
set_option linter.unusedVariables false
set_option linter.unusedSimpArgs false
set_option maxHeartbeats 4000000
set_option maxRecDepth 100000
def RngInt64 (x:Int):Prop:=In64 x
def RngInt64S (xs:List Int):Prop:=∀x∈xs,RngInt64 x
def RngSig (x:List Int):Prop:=RngInt64S x
def RngTrans (x:TransT):Prop:=RngInt64 x.sym∧RngInt64S x.args∧RngInt64 x.to
def RngTransS (xs:List TransT):Prop:=∀x∈xs,RngTrans x
def RngAuto (x:AutoT):Prop:=RngInt64 x.states∧RngTransS x.rules∧RngInt64S x.final
section
attribute [local irreducible] SW runL runQ runG runQG FC Ret1
def kp3:List (Nat×List Nat):=[(0,[2,3]),(1,[2,3,5]),(2,[2,3,5]),(3,[2,3,5,21]),(4,[4]),(5,[2,3,5]),(6,[2,3,26]),(7,[4]),(8,[2,3,6,7]),(9,[2,3,6,7,8]),(10,[2,3,6,7,8,9]),(11,[2,3,6,7,8,9,10,11]),(12,[2,3,6,7,8,9,10,11,53]),(13,[4]),(14,[2,3,6,7,8,9,10,11,58]),(15,[4]),(16,[2,3,6,7,8,9,10,11,63]),(17,[4]),(18,[2,3,6,7,8,9,10,11,12]),(19,[2,3,6,7,9,10,11,12]),(20,[2,3,6,7,10,11,12]),(21,[2,3,6,7,10,82]),(22,[4]),(23,[2,3,6,7,10,13]),(24,[2,3,6,7,10,13]),(25,[2,3,6,7,10,13,14]),(26,[2,3,6,7,10,13,14]),(27,[2,3,6,7,10,13,14,90]),(28,[4]),(29,[2,3,6,7,10,13,93]),(30,[4]),(31,[6,7,10,13,15,16]),(32,[10,13,110]),(33,[4]),(34,[10,13,14]),(35,[13,14]),(36,[13,14,115]),(37,[4]),(38,[118]),(39,[4]),(40,[4])]
attribute [go_sem] kp3 Try.results3 Try.ntmps3
theorem fnExactSureAuto_fc (aSig:List Int) (aA:AutoT) (haSig:RngSig aSig) (haA:RngAuto aA):FC S 3 [] [] [] [SigD aSig,AutoD aA] (.bool true) [] []:=by
 have cS:=specSureAuto_fc aSig aA
 have cI:=fun (g:List Nat) (hg:g≠[])=>implSureAuto_fc g hg aSig aA
 have cM:=sureR_mc aSig aA
 generalize (sureR aSig aA).1=rR at cS cI cM
 refine fc_bodyT Try.func3 rfl (by kernel_rfl) (by simp[Try.f3]) rfl fun B hB=>?_
 simp only[Try.ntmps3,enumD,lst0,Nat.reduceAdd]
 refine sw_bnd_aggg 0 0 fun hb0_0=>?_
 refine sw_bnd_aggg 1 1 fun hb1_1=>?_
 refine sw_bnd_aggg 1 2 fun hb1_2=>?_
 repeat' first|exact h.elim|(refine sw_rebaseAt 9 hB rfl fun B1 N hN=>?_;simp only[go_sem,LS.rebase,mapA,kdc])|(refine sw_markA1 hN (i:=N+1) (by omega) markSig_mk rfl rfl (ta_Sig (N+1) _ aSig) rfl rfl rfl rfl (by omega) (by(have:cntSig aSig≤1048576:=(by first|(simp only[cntInt64S];omega)|grind [szd]);have:=mcle_Sig aSig;have:cntAuto aA≤1048576:=(by first|(simp only[cntInt64S];omega)|grind [szd]);have:=mcle_Auto aA;omega)) (by simp) ⟨rfl,rfl,rfl⟩ (by simp) (by(simp only[eraseK,KeepE,KeepX,KeepL,Nat.reduceEqDiff,↓reduceIte,and_true];(repeat' first|exact trivial|exact keep_int _ _ _ _|exact keep_bool _ _ _|exact keep_box _ _ _ _|exact keep_KD _ _ _|exact keep_LT (lt_Int64S _ _) (by omega)|exact keep_LT (lt_TransS _ _) (by omega)|refine And.intro ?_ ?_);done)) (by(simp only[eraseK,KeepE,KeepX,KeepL,Nat.reduceEqDiff,↓reduceIte,and_true];(repeat' first|exact trivial|exact keep_int _ _ _ _|exact keep_bool _ _ _|exact keep_box _ _ _ _|exact keep_KD _ _ _|exact keep_LT (lt_Int64S _ _) (by omega)|exact keep_LT (lt_TransS _ _) (by omega)|refine And.intro ?_ ?_);done)) (by(simp only[eraseK,KeepE,KeepX,KeepL,Nat.reduceEqDiff,↓reduceIte,and_true];(repeat' first|exact trivial|exact keep_int _ _ _ _|exact keep_bool _ _ _|exact keep_box _ _ _ _|exact keep_KD _ _ _|exact keep_LT (lt_Int64S _ _) (by omega)|exact keep_LT (lt_TransS _ _) (by omega)|refine And.intro ?_ ?_);done)) ?_;simp only[go_sem])|(refine sw_markA1 hN (i:=N+2) (by omega) markAuto_mk rfl rfl (ta_Auto (N+2) _ aA) rfl rfl rfl rfl (by omega) (by(have:cntSig aSig≤1048576:=(by first|(simp only[cntInt64S];omega)|grind [szd]);have:=mcle_Sig aSig;have:cntAuto aA≤1048576:=(by first|(simp only[cntInt64S];omega)|grind [szd]);have:=mcle_Auto aA;omega)) (by simp) ⟨rfl,rfl,rfl⟩ (by simp) (by(simp only[eraseK,KeepE,KeepX,KeepL,Nat.reduceEqDiff,↓reduceIte,and_true];(repeat' first|exact trivial|exact keep_int _ _ _ _|exact keep_bool _ _ _|exact keep_box _ _ _ _|exact keep_KD _ _ _|exact keep_LT (lt_Int64S _ _) (by omega)|exact keep_LT (lt_TransS _ _) (by omega)|refine And.intro ?_ ?_);done)) (by(simp only[eraseK,KeepE,KeepX,KeepL,Nat.reduceEqDiff,↓reduceIte,and_true];(repeat' first|exact trivial|exact keep_int _ _ _ _|exact keep_bool _ _ _|exact keep_box _ _ _ _|exact keep_KD _ _ _|exact keep_LT (lt_Int64S _ _) (by omega)|exact keep_LT (lt_TransS _ _) (by omega)|refine And.intro ?_ ?_);done)) (by(simp only[eraseK,KeepE,KeepX,KeepL,Nat.reduceEqDiff,↓reduceIte,and_true];(repeat' first|exact trivial|exact keep_int _ _ _ _|exact keep_bool _ _ _|exact keep_box _ _ _ _|exact keep_KD _ _ _|exact keep_LT (lt_Int64S _ _) (by omega)|exact keep_LT (lt_TransS _ _) (by omega)|refine And.intro ?_ ?_);done)) ?_;simp only[go_sem])|(refine sw_markA2 hN (i:=N+3) (by omega) markAuto_mk rfl rfl (ta_Auto (N+3) _ (rR)) rfl rfl rfl rfl (by omega) (by(have:cntSig aSig≤1048576:=(by first|(simp only[cntInt64S];omega)|grind [szd]);have:=mcle_Sig aSig;have:cntAuto aA≤1048576:=(by first|(simp only[cntInt64S];omega)|grind [szd]);have:=mcle_Auto aA;have:=cM;omega)) (by simp) ⟨rfl,rfl,rfl⟩ (by simp) (by(simp only[eraseK,KeepE,KeepX,KeepL,Nat.reduceEqDiff,↓reduceIte,and_true];(repeat' first|exact trivial|exact keep_int _ _ _ _|exact keep_bool _ _ _|exact keep_box _ _ _ _|exact keep_KD _ _ _|exact keep_LT (lt_Int64S _ _) (by omega)|exact keep_LT (lt_TransS _ _) (by omega)|refine And.intro ?_ ?_);done)) (by(simp only[eraseK,KeepE,KeepX,KeepL,Nat.reduceEqDiff,↓reduceIte,and_true];(repeat' first|exact trivial|exact keep_int _ _ _ _|exact keep_bool _ _ _|exact keep_box _ _ _ _|exact keep_KD _ _ _|exact keep_LT (lt_Int64S _ _) (by omega)|exact keep_LT (lt_TransS _ _) (by omega)|refine And.intro ?_ ?_);done)) (by(simp only[eraseK,KeepE,KeepX,KeepL,Nat.reduceEqDiff,↓reduceIte,and_true];(repeat' first|exact trivial|exact keep_int _ _ _ _|exact keep_bool _ _ _|exact keep_box _ _ _ _|exact keep_KD _ _ _|exact keep_LT (lt_Int64S _ _) (by omega)|exact keep_LT (lt_TransS _ _) (by omega)|refine And.intro ?_ ?_);done)) ?_;simp only[go_sem])|refine sw_n ?_|refine sw_go 0 kp3 fun K hK=>?_|refine sw_goX 0 kp3 11 (id:=8) (by kernel_rfl) fun K hK=>?_|refine sw_goX 0 kp3 11 (id:=31) (by kernel_rfl) fun K hK=>?_|(refine hK.alloc rfl rfl ⟨(by simp only[Nat.reduceLT]),rfl⟩ ?_;simp (disch:=(refine Om.mk ?_;omega)) only[go_sem])|(refine hK.store rfl rfl rfl ⟨⟨(by simp only[go_sem]),(by simp only[go_sem])⟩,(by simp only[go_sem]),(by simp only[go_sem]),(by simp only[go_sem])⟩ ?_;simp (disch:=(refine Om.mk ?_;omega)) only[go_sem])|(refine toF_go ?_;simp (disch:=(refine Om.mk ?_;omega)) only[go_sem])|refine fun (K:KT) (hK:KOk S 0 _ _ _ K)=>?_|refine sw_goD kp3 (by kernel_rfl) fun K hK=>?_|refine runL_g ?_|refine runQ_g ?_|refine sw_retg0 ?_|refine sw_retg ?_|(refine hK.n0 ?_;clear hK K)|refine runG_fk (fun h=>?_) fun h=>?_|refine runQG_fk (fun h=>?_) fun h=>?_|refine sw_condg rfl (fun h=>?_) fun h=>?_|refine hK.skp rfl rfl ?_|refine sw_loopEnd ?_|refine hK.c1 rfl rfl rfl (szSig_fc _ _ (by repeat' (first|apply szd_rng|(constructor<;>omega)))) ?_|refine hK.c1 rfl rfl rfl (szAuto_fc _ _ (by repeat' (first|apply szd_rng|(constructor<;>omega)))) ?_|(refine hK.c0 rfl rfl rfl (FC.args (toSigL_fc [N+1] (by simp) aSig (by first|(simp only[cntInt64S];omega)|grind [szd])) ?le) rfl rfl rfl ?_;case le=>(simp only[go_sem];(repeat' first|exact trivial|exact D.le.refl _|exact KD_le rfl rfl|exact le_Int64SL _ _|exact le_SigL _ _|exact le_TransL _ _|exact le_TransSL _ _|exact le_AutoL _ _|exact D.le.any|refine And.intro ?_ ?_);done))|(refine hK.c0 rfl rfl rfl (FC.args (eqSig_fc aSig aSig) ?le) rfl rfl rfl ?_;case le=>(simp only[go_sem];(repeat' first|exact trivial|exact D.le.refl _|exact KD_le rfl rfl|exact le_Int64SL _ _|exact le_SigL _ _|exact le_TransL _ _|exact le_TransSL _ _|exact le_AutoL _ _|exact D.le.any|refine And.intro ?_ ?_);done))|(refine hK.c0 rfl rfl rfl (FC.args (toAutoL_fc [N+2] (by simp) aA (by first|(simp only[cntInt64S];omega)|grind [szd])) ?le) rfl rfl rfl ?_;case le=>(simp only[go_sem];(repeat' first|exact trivial|exact D.le.refl _|exact KD_le rfl rfl|exact le_Int64SL _ _|exact le_SigL _ _|exact le_TransL _ _|exact le_TransSL _ _|exact le_AutoL _ _|exact D.le.any|refine And.intro ?_ ?_);done))|(refine hK.c0 rfl rfl rfl (FC.args (eqAuto_fc aA aA) ?le) rfl rfl rfl ?_;case le=>(simp only[go_sem];(repeat' first|exact trivial|exact D.le.refl _|exact KD_le rfl rfl|exact le_Int64SL _ _|exact le_SigL _ _|exact le_TransL _ _|exact le_TransSL _ _|exact le_AutoL _ _|exact D.le.any|refine And.intro ?_ ?_);done))|refine hK.c1 rfl rfl rfl (heldA_fc heldAuto_mk (hf_Auto 1 (rR)) (by omega) (by(have:cntSig aSig≤1048576:=(by first|(simp only[cntInt64S];omega)|grind [szd]);have:=mcle_Sig aSig;have:cntAuto aA≤1048576:=(by first|(simp only[cntInt64S];omega)|grind [szd]);have:=mcle_Auto aA;have:=cM;omega))) ?_|(refine hK.c0 rfl rfl rfl (FC.args (eqAuto_fc (rR) (rR)) ?le) rfl rfl rfl ?_;case le=>(simp only[go_sem];(repeat' first|exact trivial|exact D.le.refl _|exact KD_le rfl rfl|exact le_Int64SL _ _|exact le_SigL _ _|exact le_TransL _ _|exact le_TransSL _ _|exact le_AutoL _ _|exact D.le.any|refine And.intro ?_ ?_);done))|(refine hK.c0 rfl rfl rfl (FC.args (cI [N+3] (by simp)) ?le) rfl rfl rfl ?_;case le=>(simp only[go_sem];(repeat' first|exact trivial|exact D.le.refl _|exact KD_le rfl rfl|exact le_Int64SL _ _|exact le_SigL _ _|exact le_TransL _ _|exact le_TransSL _ _|exact le_AutoL _ _|exact D.le.any|refine And.intro ?_ ?_);done))|refine hK.c1 rfl rfl rfl (toSig_fc _ (by first|(simp only[cntInt64S];omega)|grind [szd])) ?_|refine hK.c1 rfl rfl rfl (toAuto_fc _ (by first|(simp only[cntInt64S];omega)|grind [szd])) ?_|refine hK.c1 rfl rfl rfl (cS) ?_|(refine hK.fork rfl rfl rfl ?_ ?_<;>intro h<;>try simp (disch:=(refine Om.mk ?_;omega)) only[go_sem] at h)|with_reducible refine and_o ?_|apply tTT
 all_goals first|omega|exact h trivial|exact absurd rfl h|exact absurd Iff.rfl h|(simp at h;done)
end
theorem own:ownKnob Try.prog.godebug=none:=by kernel_rfl
theorem laidOut:laidOutB Try.prog=true:=by kernel_rfl
theorem wc_Int64S {cs:List D} (h:WC S 22 cs):∃xs:List Int,cs=[.sl .any (xs.map (.int .i64))]∧RngInt64S xs:=wc_ints rfl rfl h
theorem wc_Sig {cs:List D} (h:WC S 24 cs):∃x:List Int,cs=[.sl .any (x.map (.int .i64))]∧RngSig x:=by
 obtain⟨css,rfl,hl,hc⟩:=wc_st (fs:=[(0,22)]) rfl h
 match css,hl with
 | [c0],_ =>
  obtain⟨x0,rfl,h0⟩:=wc_Int64S (hc 0 _ c0 rfl rfl)
  exact⟨x0,rfl,h0⟩
theorem wc_Trans {cs:List D} (h:WC S 124 cs):∃x:TransT,cs=[.int .i64 x.sym,.sl .any (x.args.map (.int .i64)),.int .i64 x.to]∧RngTrans x:=by
 obtain⟨css,rfl,hl,hc⟩:=wc_st (fs:=[(0,2),(1,22),(2,2)]) rfl h
 match css,hl with
 | [c0,c1,c2],_ =>
  obtain⟨x0,rfl,h0⟩:=wc_int rfl (hc 0 _ c0 rfl rfl)
  obtain⟨x1,rfl,h1⟩:=wc_Int64S (hc 1 _ c1 rfl rfl)
  obtain⟨x2,rfl,h2⟩:=wc_int rfl (hc 2 _ c2 rfl rfl)
  exact⟨⟨x0,x1,x2⟩,rfl,⟨in64_wf h0,h1,in64_wf h2⟩⟩
theorem wc_TransS {cs:List D} (h:WC S 25 cs):∃xs:List TransT,cs=[.sl .any (xs.map TransD)]∧RngTransS xs:=by
 refine wc_list rfl tab124 h TransD RngTrans fun ds _ hw=>?_
 obtain⟨x,rfl,hx⟩:=wc_Trans hw
 exact⟨x,rfl,hx⟩
theorem wc_Auto {cs:List D} (h:WC S 27 cs):∃x:AutoT,cs=[.int .i64 x.states,.sl .any (x.rules.map TransD),.sl .any (x.final.map (.int .i64))]∧RngAuto x:=by
 obtain⟨css,rfl,hl,hc⟩:=wc_st (fs:=[(0,2),(1,25),(2,22)]) rfl h
 match css,hl with
 | [c0,c1,c2],_ =>
  obtain⟨x0,rfl,h0⟩:=wc_int rfl (hc 0 _ c0 rfl rfl)
  obtain⟨x1,rfl,h1⟩:=wc_TransS (hc 1 _ c1 rfl rfl)
  obtain⟨x2,rfl,h2⟩:=wc_Int64S (hc 2 _ c2 rfl rfl)
  exact⟨⟨x0,x1,x2⟩,rfl,⟨in64_wf h0,h1,h2⟩⟩
set_option maxRecDepth 100000 in
theorem fnExactSureAuto_lifted (os:Os) (started:os.Started) (H:Type) (enc:TypeId×Value→H) :
  ReturnsInHanded {} Try.checked os 3 .any (Rows.fnExactSureAutoSpec.pre6 enc Try.prog Try.f3 Rows.fnExactSureAutoRow.domain false) (Rows.fnExactSureAutoSpec.post enc Try.prog Try.f3 false true false false):=by
 refine returnsInHanded_of_change (C:=Try.checked) own started (by kernel_rfl) Try.func3
  (ChangeSpec.witness6 (enc:=enc) (C:=Try.checked) false ⟨#[],#[.agg #[.slice none 0 0],.agg #[.int .i64 0,.slice none 0 0,.slice none 0 0]],[]⟩ 12 (by kernel_rfl) (by kernel_rfl) (by kernel_rfl) (by kernel_rfl)) ?_
 intro W base args ds gs before hval hW _ _
 refine law_contract S (fn:=Try.f3) (ts:=[24,27]) (tb:=4) (m:=20) laidOut (by kernel_rfl) (of_decide_eq_true (by kernel_rfl)) (of_decide_eq_true (by kernel_rfl)) (by kernel_rfl) (by kernel_rfl) rfl (fun ds hd=>?_) (fun al hl h=>?_) hval hW
 ·match ds,hd with
  | [_,_],_=>rfl
 ·match al,hl with
  | [a0,a1],_ =>
   obtain⟨i0,c0,e0,_,w0,rfl⟩:=h 0 _ a0 rfl rfl
   cases tab24.symm.trans e0
   obtain⟨i1,c1,e1,_,w1,rfl⟩:=h 1 _ a1 rfl rfl
   cases tab27.symm.trans e1
   obtain⟨x0,rfl,r0⟩:=wc_Sig w0
   obtain⟨x1,rfl,r1⟩:=wc_Auto w1
   exact fnExactSureAuto_fc x0 x1 r0 r1
theorem and_t {a b:Bool} (ha:a=true) (hb:b=true):(a&&b)=true:=by rw[ha,hb];rfl
set_option maxRecDepth 100000 in
theorem jf_heard:Try.pinned.checked.prog.stopsHeard=true:=by kernel_rfl
set_option maxRecDepth 100000 in
theorem jf_enter:Try.pinned.checked.prog.mayEnter=true:=by kernel_rfl
set_option maxRecDepth 100000 in
theorem jf_lift:(Rows.fnExactSureAutoRow.lifted==Try.pinned.checked.prog.liftsFinal)=true:=by kernel_rfl
set_option maxRecDepth 100000 in
theorem jf_make:(Try.pinned.checked.prog.make==some Rows.fnExactSureAutoRow.make)=true:=by kernel_rfl
set_option maxRecDepth 100000 in
theorem jf_all:joinedFacts Try.pinned.checked.prog 3 Try.f3 Rows.fnExactSureAutoSpec Rows.fnExactSureAutoRow=true:=by
 unfold joinedFacts
 exact and_t (and_t (and_t (and_t (and_t (and_t (and_t (and_t (by kernel_rfl) jf_heard) jf_enter) jf_lift) jf_make) (by kernel_rfl)) (by kernel_rfl)) (by kernel_rfl)) (by kernel_rfl)
set_option maxRecDepth 100000 in
theorem fnExactSureAuto_holds:Rows.FnExactSureAutoSaid :=
 OpenClaim.holds_of_wide 3 Try.f3 rfl rfl rfl rfl rfl rfl rfl ⟨rfl,rfl,rfl,rfl,rfl⟩ rfl rfl rfl rfl rfl (by kernel_rfl) Try.func3 jf_all
  (of_decide_eq_true (by kernel_rfl)) (by unfold Func.isWrapper;first|(rw[if_pos (by decide +kernel)];kernel_rfl)|(rw[if_neg (by decide +kernel)];exact⟨rfl,rfl⟩))
  (fun os started H enc _=>fnExactSureAuto_lifted os started H enc)
end Go.Proofs.Ytjaicibmmcpeiaa
