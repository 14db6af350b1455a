import Derived.Test.YtmfmgoceeedonaaGreatRows
import Derived.Test.YtmfmgoceeedonaaGreatG0
import Derived.Test.YtmfmgoceeedonaaGreatG11
import Derived.Test.YtmfmgoceeedonaaGreatG12
import Derived.Test.YtmfmgoceeedonaaGreatG13
import Derived.Test.YtmfmgoceeedonaaGreatLgK7
import Derived.Test.YtmfmgoceeedonaaGreatLgK6
namespace Go.Proofs.YtmfmgoceeedonaaGreat
open Go Go.Lg Go.RowKit Go.ChangeShapes Go.WideShapes Go.ChangeAt
set_option linter.unusedVariables false
set_option linter.unusedSimpArgs false
set_option maxHeartbeats 4000000
set_option maxRecDepth 100000
def RngInt64(x:Int):Prop:=aUM x
def RngInt64S(xs:List Int):Prop:=∀x∈xs,RngInt64 x
def RngSig(x:List Int):Prop:=RngInt64S x
def RngRule(x:RuleT):Prop:=RngInt64S x.l/\RngInt64S x.r
def RngRuleS(xs:List RuleT):Prop:=∀x∈xs,RngRule x
def RngSystem(x:SystemT):Prop:=RngSig x.sig/\RngRuleS x.rules
section
attribute [local irreducible] SW bA bC dM bZ FC dX
def kp3:List (Nat×List Nat):=[(0,[1]),(1,[1,3]),(2,[1,3]),(3,[1,18]),(4,[2]),(5,[1,4,5]),(6,[1,4,5,6]),(7,[1,4,5,6,7,8]),(8,[1,4,5,6,7,8,40]),(9,[2]),(10,[1,4,5,6,7,8,45]),(11,[2]),(12,[1,4,5,6,7,8,9]),(13,[1,4,5,7,8,9]),(14,[1,4,5,7,61]),(15,[2]),(16,[1,4,5,7,10]),(17,[1,4,5,7,10]),(18,[1,4,5,7,10,11]),(19,[1,4,5,7,10,11]),(20,[1,4,5,7,10,11,69]),(21,[2]),(22,[1,4,5,7,10,72]),(23,[2]),(24,[4,5,7,10,12,13]),(25,[7,10,87]),(26,[2]),(27,[7,10,11]),(28,[10,11]),(29,[10,11,92]),(30,[2]),(31,[95]),(32,[2]),(33,[2])]
attribute [go_sem] kp3 Tryz.ntmps3
theorem fnExactTraceOf_fc(aSys:SystemT)(haSys:RngSystem aSys):FC S 3 [] [] [] [bR aSys] (.bool true) [] []:=by
 have cS:=aDV aSys;have cI:=λ(g:List Nat) (hg:g≠[])=>aDb g hg aSys;have cM:=aSr aSys;generalize (uK aSys).1=rR at cS cI cM;refine aUj Tryz.func3 rfl (by kernel_rfl) (by simp[Tryz.f3]) rfl λB hB=>?_;simp only[Tryz.ntmps3,eY,bAy,Nat.reduceAdd];refine b6 0 0 λhb0_0=>?_;refine b6 0 1 λhb0_1=>?_;repeat' first|exact h.elim|(refine aLJ 6 hB rfl λB1 N hN=>?_;simp only[go_sem,LS.rebase,qH,kdc])|(refine aQ9 hN (i:=N+1) (by omega) aF2 rfl rfl (aQo (N+1) _ aSys) rfl rfl rfl rfl (by omega) (by(have:iK aSys≤1048576:=(by first|(simp only[d9];omega)|grind [szd]);have:=uE aSys;omega)) (by simp) ⟨rfl,rfl,rfl⟩ (by simp) (by(simp only[dG,xF,sQ,aAS,Nat.reduceEqDiff,↓reduceIte,and_true];(repeat' first|exact trivial|exact p9 _ _ _ _|exact nO _ _ _|exact qM _ _ _ _|exact wI _ _ _|exact eV (gH _ _) (by omega)|exact eV (nZ _ _) (by omega)|exact eV (oQ _ _) (by omega)|exact eV (iW _ _) (by omega)|refine And.intro ?_ ?_);done)) (by(simp only[dG,xF,sQ,aAS,Nat.reduceEqDiff,↓reduceIte,and_true];(repeat' first|exact trivial|exact p9 _ _ _ _|exact nO _ _ _|exact qM _ _ _ _|exact wI _ _ _|exact eV (gH _ _) (by omega)|exact eV (nZ _ _) (by omega)|exact eV (oQ _ _) (by omega)|exact eV (iW _ _) (by omega)|refine And.intro ?_ ?_);done)) (by(simp only[dG,xF,sQ,aAS,Nat.reduceEqDiff,↓reduceIte,and_true];(repeat' first|exact trivial|exact p9 _ _ _ _|exact nO _ _ _|exact qM _ _ _ _|exact wI _ _ _|exact eV (gH _ _) (by omega)|exact eV (nZ _ _) (by omega)|exact eV (oQ _ _) (by omega)|exact eV (iW _ _) (by omega)|refine And.intro ?_ ?_);done)) ?_;simp only[go_sem])|(refine aSl hN (i:=N+2) (by omega) aCb rfl (iW [N+2] (rR)) rfl (by omega) (by(have:iK aSys≤1048576:=(by first|(simp only[d9];omega)|grind [szd]);have:=uE aSys;have:=cM;omega)) (by simp) ⟨rfl,rfl,rfl⟩ (by simp) (by simp) (by(simp only[dG,xF,sQ,aAS,Nat.reduceEqDiff,↓reduceIte,and_true];(repeat' first|exact trivial|exact p9 _ _ _ _|exact nO _ _ _|exact qM _ _ _ _|exact wI _ _ _|exact eV (gH _ _) (by omega)|exact eV (nZ _ _) (by omega)|exact eV (oQ _ _) (by omega)|exact eV (iW _ _) (by omega)|refine And.intro ?_ ?_);done)) (by(simp only[dG,xF,sQ,aAS,Nat.reduceEqDiff,↓reduceIte,and_true];(repeat' first|exact trivial|exact p9 _ _ _ _|exact nO _ _ _|exact qM _ _ _ _|exact wI _ _ _|exact eV (gH _ _) (by omega)|exact eV (nZ _ _) (by omega)|exact eV (oQ _ _) (by omega)|exact eV (iW _ _) (by omega)|refine And.intro ?_ ?_);done)) (by(simp only[dG,xF,sQ,aAS,Nat.reduceEqDiff,↓reduceIte,and_true];(repeat' first|exact trivial|exact p9 _ _ _ _|exact nO _ _ _|exact qM _ _ _ _|exact wI _ _ _|exact eV (gH _ _) (by omega)|exact eV (nZ _ _) (by omega)|exact eV (oQ _ _) (by omega)|exact eV (iW _ _) (by omega)|refine And.intro ?_ ?_);done)) ?_;simp only[go_sem])|apply aG|refine aE 0 kp3 λK hK=>?_|refine λ(K:KT) (hK:KOk S 0 _ _ _ K)=>?_|refine aU kp3 (by kernel_rfl) λK hK=>?_|refine aB ?_|refine aQ ?_|refine aC ?_|refine gL ?_|(refine hK.n0 ?_;clear hK K)|refine aZ (λh=>?_) λh=>?_|refine bH (λh=>?_) λh=>?_|refine aA rfl (λh=>?_) λh=>?_|refine hK.skp rfl rfl ?_|apply aF|refine hK.c1 rfl rfl rfl (aMd _ _ (by repeat' (first|apply bE|(constructor<;>omega)))) ?_|(refine hK.c0 rfl rfl rfl (FC.args (aIS [N+1] (by simp) aSys (by first|(simp only[d9];omega)|grind [szd])) ?le) rfl rfl rfl ?_;case le=>(simp only[go_sem];(repeat' first|exact trivial|exact D.le.refl _|exact aPm rfl rfl|exact fV _ _|exact aDq _ _|exact aA6 _ _|exact p6 _ _|exact qU _ _|exact aAe _ _|exact nK _ _|exact m8 _ _|exact mM _ _|exact D.le.any|refine And.intro ?_ ?_);done))|(refine hK.c0 rfl rfl rfl (FC.args (aKY aSys aSys) ?le) rfl rfl rfl ?_;case le=>(simp only[go_sem];(repeat' first|exact trivial|exact D.le.refl _|exact aPm rfl rfl|exact fV _ _|exact aDq _ _|exact aA6 _ _|exact p6 _ _|exact qU _ _|exact aAe _ _|exact nK _ _|exact m8 _ _|exact mM _ _|exact D.le.any|refine And.intro ?_ ?_);done))|refine hK.c1 rfl rfl rfl (aXc aBf (by omega) (by(have:iK aSys≤1048576:=(by first|(simp only[d9];omega)|grind [szd]);have:=uE aSys;have:=cM;omega))) ?_|(refine hK.c0 rfl rfl rfl (FC.args (aFs .any .any (rR) (rR)) ?le) rfl rfl rfl ?_;case le=>(simp only[go_sem];(repeat' first|exact trivial|exact D.le.refl _|exact aPm rfl rfl|exact fV _ _|exact aDq _ _|exact aA6 _ _|exact p6 _ _|exact qU _ _|exact aAe _ _|exact nK _ _|exact m8 _ _|exact mM _ _|exact D.le.any|refine And.intro ?_ ?_);done))|(refine hK.c0 rfl rfl rfl (FC.args (cI [N+2] (by simp)) ?le) rfl rfl rfl ?_;case le=>(simp only[go_sem];(repeat' first|exact trivial|exact D.le.refl _|exact aPm rfl rfl|exact fV _ _|exact aDq _ _|exact aA6 _ _|exact p6 _ _|exact qU _ _|exact aAe _ _|exact nK _ _|exact m8 _ _|exact mM _ _|exact D.le.any|refine And.intro ?_ ?_);done))|refine hK.c1 rfl rfl rfl (aLV _ (by first|(simp only[d9];omega)|grind [szd])) ?_|refine hK.c1 rfl rfl rfl (cS) ?_|(refine hK.fork rfl rfl rfl ?_ ?_<;>intro h<;>try simp(disch:=apply aR;omega)only[go_sem] at h)|with_reducible refine aH ?_|apply tTT
 all_goals first|omega|exact h trivial|exact absurd rfl h|exact absurd Iff.rfl h|(simp at h;done)
end
theorem own:ownKnob Tryz.prog.godebug=none:=by kernel_rfl
theorem laidOut:laidOutB Tryz.prog=true:=by kernel_rfl
theorem wc_Int64S{cs:List D}(h:WC S 22 cs):∃xs:List Int,cs=[.sl .any (xs.map (.int .i64))]/\RngInt64S xs:=aWE rfl rfl h
theorem wc_Sig{cs:List D}(h:WC S 24 cs):∃x:List Int,cs=[.sl .any (x.map (.int .i64))]/\RngSig x:=by
 obtain⟨css,rfl,hl,hc⟩:=aT0 (fs:=[(0,22)]) rfl h;match css,hl with
 | [c0],_ =>
  obtain⟨x0,rfl,h0⟩:=wc_Int64S (hc 0 _ c0 rfl rfl);exact⟨x0,rfl,h0⟩
theorem wc_Rule{cs:List D}(h:WC S 74 cs):∃x:RuleT,cs=[.sl .any (x.l.map (.int .i64)),.sl .any (x.r.map (.int .i64))]/\RngRule x:=by
 obtain⟨css,rfl,hl,hc⟩:=aT0 (fs:=[(0,22),(1,22)]) rfl h;match css,hl with
 | [c0,c1],_ =>
  obtain⟨x0,rfl,h0⟩:=wc_Int64S (hc 0 _ c0 rfl rfl);obtain⟨x1,rfl,h1⟩:=wc_Int64S (hc 1 _ c1 rfl rfl);exact⟨⟨x0,x1⟩,rfl,⟨h0,h1⟩⟩
theorem wc_RuleS{cs:List D}(h:WC S 25 cs):∃xs:List RuleT,cs=[.sl .any (xs.map fO)]/\RngRuleS xs:=by
 refine aPn rfl aYa h fO RngRule λds _ hw=>?_;obtain⟨x,rfl,hx⟩:=wc_Rule hw;exact⟨x,rfl,hx⟩
theorem wc_System{cs:List D}(h:WC S 27 cs):∃x:SystemT,cs=[.sl .any (x.sig.map (.int .i64)),.sl .any (x.rules.map fO)]/\RngSystem x:=by
 obtain⟨css,rfl,hl,hc⟩:=aT0 (fs:=[(0,24),(1,25)]) rfl h;match css,hl with
 | [c0,c1],_ =>
  obtain⟨x0,rfl,h0⟩:=wc_Sig (hc 0 _ c0 rfl rfl);obtain⟨x1,rfl,h1⟩:=wc_RuleS (hc 1 _ c1 rfl rfl);exact⟨⟨x0,x1⟩,rfl,⟨h0,h1⟩⟩
set_option maxRecDepth 100000 in
theorem fnExactTraceOf_lifted(os:Os)(started:os.Started)(H:Type)(enc:TypeId×Value->H) :
  ReturnsInHanded {} Tryz.checked os 3 .any (Rows.fnExactTraceOfSpec.pre6 enc Tryz.prog Tryz.f3 Rows.fnExactTraceOfRow.domain false) (Rows.fnExactTraceOfSpec.post enc Tryz.prog Tryz.f3 false true false false):=by
 refine returnsInHanded_of_change (C:=Tryz.checked) own started (by kernel_rfl) Tryz.func3
  (ChangeSpec.witness6 (enc:=enc) (C:=Tryz.checked) false ⟨#[],#[.agg #[.slice none 0 0,.slice none 0 0]],[]⟩ 12 (by kernel_rfl) (by kernel_rfl) (by kernel_rfl) (by kernel_rfl)) ?_
 intro W base args ds gs before hval hW _ _;refine aIA S (fn:=Tryz.f3) (ts:=[27]) (tb:=4) (m:=20) laidOut (by kernel_rfl) (of_decide_eq_true (by kernel_rfl)) (of_decide_eq_true (by kernel_rfl)) (by kernel_rfl) (by kernel_rfl) rfl (λds hd=>?_) (λal hl h=>?_) hval hW
 ·match ds,hd with
  | [_],_=>rfl
 ·match al,hl with
  | [a0],_ =>
   obtain⟨i0,c0,e0,_,w0,rfl⟩:=h 0 _ a0 rfl rfl;cases aXT.symm.trans e0
   obtain⟨x0,rfl,r0⟩:=wc_System w0;exact fnExactTraceOf_fc x0 r0
theorem and_t{a b:Bool}(ha:a=true)(hb:b=true):(a&&b)=true:=by rw[ha,hb];rfl
set_option maxRecDepth 100000 in
theorem jf_heard:Tryz.pinned.checked.prog.stopsHeard=true:=by kernel_rfl
set_option maxRecDepth 100000 in
theorem jf_enter:Tryz.pinned.checked.prog.mayEnter=true:=by kernel_rfl
set_option maxRecDepth 100000 in
theorem jf_lift:(Rows.fnExactTraceOfRow.lifted==Tryz.pinned.checked.prog.liftsFinal)=true:=by kernel_rfl
set_option maxRecDepth 100000 in
theorem jf_make:(Tryz.pinned.checked.prog.make==some Rows.fnExactTraceOfRow.make)=true:=by kernel_rfl
set_option maxRecDepth 100000 in
theorem jf_all:joinedFacts Tryz.pinned.checked.prog 3 Tryz.f3 Rows.fnExactTraceOfSpec Rows.fnExactTraceOfRow=true:=by
 unfold joinedFacts;exact and_t (and_t (and_t (and_t (and_t (and_t (and_t (and_t (by kernel_rfl) jf_heard) jf_enter) jf_lift) jf_make) (by kernel_rfl)) (by kernel_rfl)) (by kernel_rfl)) (by kernel_rfl)
set_option maxRecDepth 100000 in
theorem fnExactTraceOf_holds:Rows.FnExactTraceOfSaid :=
 OpenClaim.holds_of_wide 3 Tryz.f3 rfl rfl rfl rfl rfl rfl rfl ⟨rfl,rfl,rfl,rfl,rfl⟩ rfl rfl rfl rfl rfl (by kernel_rfl) Tryz.func3 jf_all
  (of_decide_eq_true (by kernel_rfl)) (by unfold Func.isWrapper;first|(rw[if_pos (by decide +kernel)];kernel_rfl)|(rw[if_neg (by decide +kernel)];exact⟨rfl,rfl⟩))
  (λos started H enc _=>fnExactTraceOf_lifted os started H enc)
end Go.Proofs.YtmfmgoceeedonaaGreat
