/-
  U07, P26i, P27, A17s, P28, Q1p, K9p, Q5p, K11p, one behind the other.
-/
import Derived.Test.YtpennhjjnlkbiaaGreatG8
import Derived.Test.YtpennhjjnlkbiaaGreatLgK14
import Derived.Test.YtpennhjjnlkbiaaGreatG6
import Derived.Test.YtpennhjjnlkbiaaGreatLgK7
import Derived.Test.YtpennhjjnlkbiaaGreatLgK13
import Derived.Test.YtpennhjjnlkbiaaGreatG3
import Derived.Test.YtpennhjjnlkbiaaGreatG4
namespace Go.Proofs.YtpennhjjnlkbiaaGreat
open Go Go.Lg
set_option linter.unusedSimpArgs false
set_option linter.unusedVariables false
set_option maxHeartbeats 4000000
section
attribute [local irreducible] SW bC bE dF bU FC dO bD
def aFh:List (Nat×List Nat):=[(0,[0,1,2,6]),(1,[0,1,2,6]),(2,[6]),(3,[6])]
attribute [go_sem] aFh
theorem aQQ(id:Nat)(rs:List Int)(g f:Nat)(β β':Bds)(hβ:BOK rs β)(a b:List Int)(hA:XT rs a)(hB:XT rs b)(he:eqM rs g f β a b=some (some β')):FC S 117 [] [(id+1000,uC rs β)] [] [.box (id+1000) 0,.sl .any (a.map (.int .i64)),.sl .any (b.map (.int .i64))] (.bool true) [(id+1000,uC rs β')] []:=by
 obtain⟨_,cE⟩:=(yW rs g id f β a b hβ hA hB).1 β' he
 unfold uC at *
 unfold FC
 refine⟨⟨Tryz.f117,Tryz.func117,by kernel_rfl,rfl⟩,λw G vals hs=>?_⟩
 refine calls_of_wp_defers Tryz.func117 rfl ?_
 have hs0:=aEu (n:=Tryz.f117.ntmps) hs (by simp[Tryz.f117])
 simp only[Tryz.ntmps117,aS,Nat.zero_add,Nat.reduceAdd,List.map_cons,List.map_nil] at hs0 ⊢
 refine wp_seq (aYE (L2:=⟨12,[(0,.box (id+1000) 0),(1,.sl .any (a.map (.int .i64))),(2,.sl .any (b.map (.int .i64))),(6,.box 6 0)],[(id+1000,D.sl .any (rs.map (.int .i64))::β.map bD),(6,[.bool false])],[],[],[id+1000]⟩) hs0 ?_ λG1 a1 w1 hs1=>?_)
 ·refine iS 0 ?_
  refine λ(K:List Oper->LS->Prop) (hK:KOk S 0 _ _ _ K)=>?_
  simp only[go_sem]
  repeat' first|apply aE|apply aJ|refine aI 0 aFh λK hK=>?_|refine λ(K:KT) (hK:KOk S 0 _ _ _ K)=>?_|((first|apply aD|refine aA (aO ?_)|apply aA);simp(disch:=apply aB;omega)only[go_sem,Tryz.results117])|(apply hK.nil;clear hK K;simp only[go_sem])|apply aL|(with_reducible refine And.intro (by first|omega|(simp only[lens];omega)) ?_)|fail
  apply hK.nil
  (refine aC rfl rfl ?_ ?_ ?_ ?_<;>simp(disch:=apply aB;omega)only[go_sem]<;>(try omega))
 refine wp_seq (aYx 1 (L1:=⟨12,[(0,.box (id+1000) 0),(1,.sl .any (a.map (.int .i64))),(2,.sl .any (b.map (.int .i64))),(6,.box 6 0),(7,.fn 139 [.box 6 0])],[(id+1000,D.sl .any (rs.map (.int .i64))::β.map bD),(6,[.bool false])],[],[],[id+1000]⟩) hs1 ?_ λG2 a2 w2 hs2=>?_)
 ·refine iS 0 ?_
  refine λ(K:List Oper->LS->Prop) (hK:KOk S 0 _ _ _ K)=>?_
  simp only[go_sem]
  repeat' first|apply aE|apply aJ|refine aI 0 aFh λK hK=>?_|refine λ(K:KT) (hK:KOk S 0 _ _ _ K)=>?_|((first|apply aD|refine aA (aO ?_)|apply aA);simp(disch:=apply aB;omega)only[go_sem,Tryz.results117])|(apply hK.nil;clear hK K;simp only[go_sem])|apply aL|(with_reducible refine And.intro (by first|omega|(simp only[lens];omega)) ?_)|fail
  apply hK.nil
  (refine aC rfl rfl ?_ ?_ ?_ ?_<;>simp(disch:=apply aB;omega)only[go_sem]<;>(try omega))
 obtain⟨v7,hv7,hr7⟩:=hs2.env 7 _ rfl
 cases hr7 with
 | @fn _ _ vl hl hr =>
 obtain⟨u6,rfl⟩:∃u,vl=[u]:=by
  match vl,hl with
  | [u],_=>exact⟨u,rfl⟩
 have h6:=hr 0 (.box 6 0) u6 rfl rfl
 cases h6 with
 | @box _ _ g0 hb =>
 simp only[List.drop_succ_cons,List.drop_zero]
 refine wpList_step λN hN=>?_
 rw[if_pos (by simp[Region.wanted])]
 unfold Oper.wp
 have hrun:∀(ty:TypeId) (pos:String) (aft:Array Go.Edge),(execOp a2.eval ⟨none,.defer ⟨.value (.tmp 7),#[],#[]⟩,ty,pos,aft,none⟩).run S.P w2=.ok (.defer {target:=.fn (.func 139) #[.pointer (some ⟨g0,0,none⟩)],args:=#[]}) w2:=λ_ _ _=>by
  simp[execOp,Act.eval,hv7,resolve,Deferred.ofValue]
 rw[hrun,Oper.upon_defer]
 refine hN _ _ (wpList_nil ?_)
 rw[hs2.defers]
 have hno:∀(R:Ending->World->Prop),(∀w,¬R .outgrown w)->∀a w,¬bodyPostD S.P Tryz.f117 R .outgrown a w:=λR h a w hx=>h w hx
 refine wp_seq (aYL (L2:=⟨12,[(6,.box 6 0)],[(id+1000,D.sl .any (rs.map (.int .i64))::β'.map bD),(6,[.bool false])],[],[],[id+1000]⟩) hs2 (λa w hx=>by obtain⟨v,_,h,_⟩:=hx;cases h) ?_ λG3 a3 w3 hs3=>?_)
 ·refine iS 0 ?_
  refine λ(K:List Oper->LS->Prop) (hK:KOk S 0 _ _ _ K)=>?_
  simp only[go_sem]
  repeat' first|((refine hK.callB rfl rfl rfl (cE) (by refine⟨⟨?_,?_,?_,?_,?_⟩,⟨?_,?_,?_,?_,?_⟩,?_⟩<;>simp[-List.map_set,LS.getBox,Lg.look,D.ids,D.idsL,dE,eO,LS.clean,D.puOk,D.pu,D.pu1,D.tks,D.tksL,b9,dB,dX,dA,dL,eZ,dJ]) ?_;simp(disch:=apply aB;omega)only[go_sem]))|fail
  apply hK.nil
  (refine aC rfl rfl ?_ ?_ ?_ ?_<;>simp(disch:=apply aB;omega)only[go_sem]<;>(try omega))
 refine wp_seq (aYL (L2:=⟨12,[(6,.box 6 0)],[(id+1000,D.sl .any (rs.map (.int .i64))::β'.map bD),(6,[.bool true])],[],[],[id+1000]⟩) hs3 (λa w hx=>by obtain⟨v,_,h,_⟩:=hx;cases h) ?_ λG4 a4 w4 hs4=>?_)
 ·refine iS 0 ?_
  refine λ(K:List Oper->LS->Prop) (hK:KOk S 0 _ _ _ K)=>?_
  simp only[go_sem]
  repeat' first|apply aE|apply aJ|refine aI 0 aFh λK hK=>?_|refine λ(K:KT) (hK:KOk S 0 _ _ _ K)=>?_|((first|apply aD|refine aA (aO ?_)|apply aA);simp(disch:=apply aB;omega)only[go_sem,Tryz.results117])|(apply hK.nil;clear hK K;simp only[go_sem])|apply aL|(with_reducible refine And.intro (by first|omega|(simp only[lens];omega)) ?_)|fail
  apply hK.nil
  (refine aC rfl rfl ?_ ?_ ?_ ?_<;>simp(disch:=apply aB;omega)only[go_sem]<;>(try omega))
 have hEn:Lg.Enters S.P 139:=⟨Tryz.f139,Tryz.func139,by kernel_rfl,rfl⟩
 refine wp_ret ?_
 refine leaves_cons (f:=139) (args:=#[.pointer (some ⟨g0,0,none⟩)]) (by simp) (by simp[invoke,iY hEn]) ?_
 refine(aH5 ⟨g0,0,none⟩ w4).mono ?_
 rintro e u' w' ⟨rfl,rfl,rfl⟩
 have hRet:Ret S Tryz.f117.results.toList (.bool true) [(id+1000,D.sl .any (rs.map (.int .i64))::β'.map bD)] ⟨12,[(6,.box 6 0)],[(id+1000,D.sl .any (rs.map (.int .i64))::β'.map bD),(6,[.bool true])],[],[],[id+1000]⟩:=by
  rw[Tryz.results117]
  refine aO ?_
  simp only[go_sem]
  all_goals trace_state
 obtain⟨v,hrn,G5,hE⟩:=aNO hs.fixed hs4 hRet
 exact⟨v,hrn,v,G5,rfl,hE⟩
theorem aSj(id:Nat)(rs:List Int)(g f:Nat)(β:Bds)(hβ:BOK rs β)(a b:List Int)(hA:XT rs a)(hB:XT rs b)(he:eqM rs g f β a b=some none):FC S 117 [] [(id+1000,uC rs β)] [] [.box (id+1000) 0,.sl .any (a.map (.int .i64)),.sl .any (b.map (.int .i64))] (.bool false) [] []:=by
 have cX:=(yW rs g id f β a b hβ hA hB).2 he
 unfold uC at *
 unfold FC
 refine⟨⟨Tryz.f117,Tryz.func117,by kernel_rfl,rfl⟩,λw G vals hs=>?_⟩
 refine calls_of_wp_defers Tryz.func117 rfl ?_
 have hs0:=aEu (n:=Tryz.f117.ntmps) hs (by simp[Tryz.f117])
 simp only[Tryz.ntmps117,aS,Nat.zero_add,Nat.reduceAdd,List.map_cons,List.map_nil] at hs0 ⊢
 refine wp_seq (aYE (L2:=⟨12,[(0,.box (id+1000) 0),(1,.sl .any (a.map (.int .i64))),(2,.sl .any (b.map (.int .i64))),(6,.box 6 0)],[(id+1000,D.sl .any (rs.map (.int .i64))::β.map bD),(6,[.bool false])],[],[],[id+1000]⟩) hs0 ?_ λG1 a1 w1 hs1=>?_)
 ·refine iS 0 ?_
  refine λ(K:List Oper->LS->Prop) (hK:KOk S 0 _ _ _ K)=>?_
  simp only[go_sem]
  repeat' first|apply aE|apply aJ|refine aI 0 aFh λK hK=>?_|refine λ(K:KT) (hK:KOk S 0 _ _ _ K)=>?_|((first|apply aD|refine aA (aO ?_)|apply aA);simp(disch:=apply aB;omega)only[go_sem,Tryz.results117])|(apply hK.nil;clear hK K;simp only[go_sem])|apply aL|(with_reducible refine And.intro (by first|omega|(simp only[lens];omega)) ?_)|fail
  apply hK.nil
  (refine aC rfl rfl ?_ ?_ ?_ ?_<;>simp(disch:=apply aB;omega)only[go_sem]<;>(try omega))
 refine wp_seq (aYx 1 (L1:=⟨12,[(0,.box (id+1000) 0),(1,.sl .any (a.map (.int .i64))),(2,.sl .any (b.map (.int .i64))),(6,.box 6 0),(7,.fn 139 [.box 6 0])],[(id+1000,D.sl .any (rs.map (.int .i64))::β.map bD),(6,[.bool false])],[],[],[id+1000]⟩) hs1 ?_ λG2 a2 w2 hs2=>?_)
 ·refine iS 0 ?_
  refine λ(K:List Oper->LS->Prop) (hK:KOk S 0 _ _ _ K)=>?_
  simp only[go_sem]
  repeat' first|apply aE|apply aJ|refine aI 0 aFh λK hK=>?_|refine λ(K:KT) (hK:KOk S 0 _ _ _ K)=>?_|((first|apply aD|refine aA (aO ?_)|apply aA);simp(disch:=apply aB;omega)only[go_sem,Tryz.results117])|(apply hK.nil;clear hK K;simp only[go_sem])|apply aL|(with_reducible refine And.intro (by first|omega|(simp only[lens];omega)) ?_)|fail
  apply hK.nil
  (refine aC rfl rfl ?_ ?_ ?_ ?_<;>simp(disch:=apply aB;omega)only[go_sem]<;>(try omega))
 obtain⟨v7,hv7,hr7⟩:=hs2.env 7 _ rfl
 cases hr7 with
 | @fn _ _ vl hl hr =>
 obtain⟨u6,rfl⟩:∃u,vl=[u]:=by
  match vl,hl with
  | [u],_=>exact⟨u,rfl⟩
 have h6:=hr 0 (.box 6 0) u6 rfl rfl
 cases h6 with
 | @box _ _ g0 hb =>
 simp only[List.drop_succ_cons,List.drop_zero]
 refine wpList_step λN hN=>?_
 rw[if_pos (by simp[Region.wanted])]
 unfold Oper.wp
 have hrun:∀(ty:TypeId) (pos:String) (aft:Array Go.Edge),(execOp a2.eval ⟨none,.defer ⟨.value (.tmp 7),#[],#[]⟩,ty,pos,aft,none⟩).run S.P w2=.ok (.defer {target:=.fn (.func 139) #[.pointer (some ⟨g0,0,none⟩)],args:=#[]}) w2:=λ_ _ _=>by
  simp[execOp,Act.eval,hv7,resolve,Deferred.ofValue]
 rw[hrun,Oper.upon_defer]
 refine hN _ _ (wpList_nil ?_)
 rw[hs2.defers]
 have hEn:Lg.Enters S.P 139:=⟨Tryz.f139,Tryz.func139,by kernel_rfl,rfl⟩
 refine wp_seq (aX9 hs2.defers (λa w hx=>by obtain⟨v,_,h,_⟩:=hx;cases h) ?_)
 refine yP (yP (yP ?_))
 have hs3a:=hs2.put (t:=8) (by show 8<12;decide) (aW hs2 (x:=.tmp 0) (d:=.box (id+1000) 0) rfl)
 have hs3b:=hs3a.put (t:=9) (by show 9<12;decide) (aW hs3a (x:=.tmp 1) (d:=.sl .any (a.map (.int .i64))) rfl)
 have hs3:=hs3b.put (t:=10) (by show 10<12;decide) (aW hs3b (x:=.tmp 2) (d:=.sl .any (b.map (.int .i64))) rfl)
 refine aHK hs3 rfl rfl rfl cX ⟨by simp,by simp[Lg.look,LS.put],by simp⟩ 1000000 (by simp[-List.map_set,LS.put,eK,LS.clean,D.tks,D.tksL,b9,dB,dX,aH4,dJ]) λG4 w4 hs4=>⟨by simp only[eR];exact hs2.defers,?_⟩
 refine leaves_cons (f:=139) (args:=#[.pointer (some ⟨g0,0,none⟩)]) (by simp) (by simp[invoke,iY hEn]) ?_
 have hs5:=hs4.less (L':=⟨12,[(6,.box 6 0)],[(6,[.bool false])],[],[],[id+1000]⟩) (by(refine aC rfl rfl ?_ ?_ ?_ ?_<;>simp(disch:=apply aB;omega)only[go_sem]<;>(try omega)))
 obtain⟨y,hy,hry⟩:=hs2.env 6 (.box 6 0) rfl
 cases hry with
 | @box _ _ g2 hb2 =>
 obtain rfl:g0=g2:=zA (hb.symm.trans hb2)
 obtain⟨x6,hx6,hr6⟩:=hs5.env 6 (.box 6 0) rfl
 have hx:x6=.pointer (some ⟨g0,0,none⟩):=by
  have h1:(((a2.put (some 8) (a2.eval (.tmp 0))).put (some 9) ((a2.put (some 8) (a2.eval (.tmp 0))).eval (.tmp 1))).put (some 10) (((a2.put (some 8) (a2.eval (.tmp 0))).put (some 9) ((a2.put (some 8) (a2.eval (.tmp 0))).eval (.tmp 1))).eval (.tmp 2))).tmps[6]?=a2.tmps[6]?:=by
   simp[Act.put,Array.getElem?_setIfInBounds]
  rw[h1,hy] at hx6
  exact(zA hx6).symm
 subst hx
 cases hr6 with
 | box hb4 =>
 obtain⟨g1,k1,⟨vs,e,e1,e2,e3⟩,k3,k4⟩:=hs5.W.boxes 6 [.bool false] rfl
 obtain rfl:g0=g1:=zA (hb4.symm.trans k1)
 have hv0:vs[0]?=some (.bool false):=by
  have hlt:0<vs.size:=by simp at e2;omega
  have:=e3 0 (.bool false) vs[0] rfl (by simp[hlt])
  generalize hvs:vs[0]=v at this
  cases this
  simp[hlt,hvs]
 have hc:w4.cell? ⟨g0,0,none⟩=some (.bool false):=by
  simp[World.cell?,e1,hv0]
 have hz:w4.frozen? ⟨g0,0,none⟩=false:=by
  simp[World.frozen?,e1]
 refine(aL0 ⟨g0,0,none⟩ false w4 hc hz).mono ?_
 rintro e' u' w' ⟨rfl,rfl,rfl⟩
 have hs6:=lV hs5 (.cells #[] 159) 0
 obtain⟨g5,w5,q1,q2,hs7⟩:=y5 hs6 (id:=6) (off:=0) (cs:=[.bool false]) (new:=[.bool false]) (vl:=[.bool false]) rfl (by simp) rfl (λj d v hd hv=>by
  match j,hd,hv with
  | 0,hd,hv =>
   simp at hd hv
   subst hd;subst hv
   exact .bool) (by simp[Value.oneCell'])
 have hg5:g0=g5:=zA (k1.symm.trans q1)
 subst hg5
 have hw5:w5=(w4.alloc (.cells #[] 159)).setCell ⟨g0,0,none⟩ (.bool false):=by
  have h1:=q2 S.P
  have hblk:g0<w4.heap.size:=World.block_lt_of_cell? w4 ⟨g0,0,none⟩ hc
  have hc2:(w4.alloc (.cells #[] 159)).cell? ⟨g0,0,none⟩=some (.bool false):=(World.cell?_alloc_old w4 _ ⟨g0,0,none⟩ (Nat.ne_of_lt hblk)).trans hc
  have hz2:(w4.alloc (.cells #[] 159)).frozen? ⟨g0,0,none⟩=false:=(World.frozen?_alloc_old w4 _ ⟨g0,0,none⟩ (Nat.ne_of_lt hblk)).trans hz
  simp[storeCells,go_sem,hc2,hz2] at h1
  exact h1.symm
 subst hw5
 have hRet:Ret S Tryz.f117.results.toList (.bool false) [] ⟨12,[(6,.box 6 0)],[(6,[.bool false])],[],[],[id+1000]⟩:=by
  rw[Tryz.results117]
  refine aO ?_
  simp only[go_sem]
  all_goals trace_state
 obtain⟨v,hrn,G8,hE⟩:=aNO hs.fixed hs7 hRet
 exact⟨v,hrn,v,G8,rfl,hE⟩
end
section
attribute [local irreducible] SW bC bE dF bU FC dO toF dP
theorem aJd(rs:List Int):uC rs b0=[.sl .any (rs.map (.int .i64)),.sl .nil [],.sl .nil [],.sl .nil [],.sl .nil [],.sl .nil [],.sl .nil [],.sl .nil [],.sl .nil [],.sl .nil [],.sl .nil [],.sl .nil [],.sl .nil [],.sl .nil [],.sl .nil [],.sl .nil [],.sl .nil [],.sl .nil [],.sl .nil [],.sl .nil [],.sl .nil [],.sl .nil [],.sl .nil [],.sl .nil [],.sl .nil [],.sl .nil [],.sl .nil [],.sl .nil [],.sl .nil [],.sl .nil [],.sl .nil [],.sl .nil [],.sl .nil [],.sl .nil [],.sl .nil [],.sl .nil [],.sl .nil [],.sl .nil [],.sl .nil [],.sl .nil [],.sl .nil [],.sl .nil [],.sl .nil [],.sl .nil [],.sl .nil [],.sl .nil [],.sl .nil [],.sl .nil [],.sl .nil []]:=by
 unfold uC b0
 simp[List.replicate,rT]
theorem aW7{x:SystemT}(hx:b7 x):∀r∈x.rules,1<=r.l.length:=λr hr=>by
 obtain⟨j,hj,rfl⟩:=List.getElem_of_mem hr
 have:=(hx.2 j hj).1.1.2.1.1
 rwa [zD,zB hj] at this
attribute [local irreducible] bD
def aF6:List (Nat×List Nat):=[(0,[3,4,5]),(1,[3,4,5,18]),(2,[6]),(3,[3,5,7,8]),(4,[3,5,7,27]),(5,[6]),(6,[5,7,9]),(7,[6])]
attribute [go_sem] aF6
theorem aGu(x:SystemT)(hx:b7 x)(p q:DepPairT)(hp:jN x.sig p)(hq:jN x.sig q):FC S 88 [] [] [] [bQ x,bK p,bK q] (.bool (tst (qD x p q))) [] []:=by
 have cC:=aOX x p.r hp.1.2 (aW7 hx)
 have hpl:=hp.1.2.2.1
 have hql:=hq.1.1.2.1
 have cW:=aUt q.l (by omega) hq.1.1.ge
 by_cases hh:p.r.getD 0 default=q.l.getD 0 default
 ·by_cases hc:(d9 x p.r 60 0 0).2<=24
  ·have hX:=XT.of (aTO hp.1.2 hc)
   obtain⟨f,r,hr,hri⟩:=aPn hX hq.1.1
   rw[show decide ((((d9 x p.r 60 0 0).2:Nat):Int)<=24)=true from decide_eq_true (by omega)] at cC
   rw[aI1 hh hc hri]
   generalize (d9 x p.r 60 0 0).1=out at *
   cases r with
   | some β' =>
    have cY:=aQQ 1031 x.sig 60 f b0 β' (aKo _) _ _ hX (XT.away hq.1.1) hr
    rw[aJd] at cY
    show FC S 88 [] [] [] [bQ x,bK p,bK q] (.bool true) [] []
    unfold uC at cY
    refine aP Tryz.func88 rfl (by kernel_rfl) (by simp[Tryz.f88]) λB=>?_
    simp only[Tryz.ntmps88,aS,aZ,Nat.reduceAdd]
    repeat' first|((exfalso;omega))|((refine hK.callB rfl rfl rfl (cY) (by refine⟨⟨?_,?_,?_,?_,?_⟩,⟨?_,?_,?_,?_,?_⟩,?_⟩<;>simp[-List.map_set,LS.getBox,Lg.look,D.ids,D.idsL,dE,eO,LS.clean,D.puOk,D.pu,D.pu1,D.tks,D.tksL,b9,dB,dX,dA,dL,eZ,dJ]) ?_;simp(disch:=apply aB;omega)only[go_sem]))|apply aE|apply aJ|refine aI 2000 aF6 λK hK=>?_|refine aY aF6 (by kernel_rfl) λK hK=>?_|((first|apply aD|apply aK|refine aA (aO ?_)|apply aA);simp(disch:=apply aB;omega)only[go_sem,Tryz.results88])|(apply hK.nil;clear hK K;simp only[go_sem])|((first|refine aF rfl ?_ ?_)<;>intro h<;>try simp(disch:=apply aB;omega)only[go_sem] at h)|refine hK.c0 rfl rfl rfl (cC) rfl rfl rfl ?_|refine hK.c0 rfl rfl rfl (cW) rfl rfl rfl ?_|(with_reducible refine And.intro (by first|omega|(simp only[lens];omega)) ?_)|fail
    all_goals trace_state
   | none =>
    have cY:=aSj 1031 x.sig 60 f b0 (aKo _) _ _ hX (XT.away hq.1.1) hr
    rw[aJd] at cY
    show FC S 88 [] [] [] [bQ x,bK p,bK q] (.bool false) [] []
    refine aP Tryz.func88 rfl (by kernel_rfl) (by simp[Tryz.f88]) λB=>?_
    simp only[Tryz.ntmps88,aS,aZ,Nat.reduceAdd]
    repeat' first|((exfalso;omega))|((refine hK.callB rfl rfl rfl (cY) (by refine⟨⟨?_,?_,?_,?_,?_⟩,⟨?_,?_,?_,?_,?_⟩,?_⟩<;>simp[-List.map_set,LS.getBox,Lg.look,D.ids,D.idsL,dE,eO,LS.clean,D.puOk,D.pu,D.pu1,D.tks,D.tksL,b9,dB,dX,dA,dL,eZ,dJ]) ?_;simp(disch:=apply aB;omega)only[go_sem]))|apply aE|apply aJ|refine aI 2000 aF6 λK hK=>?_|refine aY aF6 (by kernel_rfl) λK hK=>?_|((first|apply aD|apply aK|refine aA (aO ?_)|apply aA);simp(disch:=apply aB;omega)only[go_sem,Tryz.results88])|(apply hK.nil;clear hK K;simp only[go_sem])|((first|refine aF rfl ?_ ?_)<;>intro h<;>try simp(disch:=apply aB;omega)only[go_sem] at h)|refine hK.c0 rfl rfl rfl (cC) rfl rfl rfl ?_|refine hK.c0 rfl rfl rfl (cW) rfl rfl rfl ?_|(with_reducible refine And.intro (by first|omega|(simp only[lens];omega)) ?_)|fail
    all_goals trace_state
  ·rw[aE9 hh hc]
   rw[show decide ((((d9 x p.r 60 0 0).2:Nat):Int)<=24)=false from decide_eq_false (by omega)] at cC
   generalize (d9 x p.r 60 0 0).1=out at *
   refine aP Tryz.func88 rfl (by kernel_rfl) (by simp[Tryz.f88]) λB=>?_
   simp only[Tryz.ntmps88,aS,aZ,Nat.reduceAdd]
   repeat' first|((exfalso;omega))|apply aE|apply aJ|refine aI 2000 aF6 λK hK=>?_|refine aY aF6 (by kernel_rfl) λK hK=>?_|((first|apply aD|apply aK|refine aA (aO ?_)|apply aA);simp(disch:=apply aB;omega)only[go_sem,Tryz.results88])|(apply hK.nil;clear hK K;simp only[go_sem])|((first|refine aF rfl ?_ ?_)<;>intro h<;>try simp(disch:=apply aB;omega)only[go_sem] at h)|refine hK.c0 rfl rfl rfl (cC) rfl rfl rfl ?_|(with_reducible refine And.intro (by first|omega|(simp only[lens];omega)) ?_)|fail
 ·rw[aEx hh]
  refine aP Tryz.func88 rfl (by kernel_rfl) (by simp[Tryz.f88]) λB=>?_
  simp only[Tryz.ntmps88,aS,aZ,Nat.reduceAdd]
  repeat' first|((exfalso;omega))|apply aE|refine aI 2000 aF6 λK hK=>?_|refine aY aF6 (by kernel_rfl) λK hK=>?_|((first|apply aD|apply aK|refine aA (aO ?_)|apply aA);simp(disch:=apply aB;omega)only[go_sem,Tryz.results88])|(apply hK.nil;clear hK K;simp only[go_sem])|((first|refine aF rfl ?_ ?_)<;>intro h<;>try simp(disch:=apply aB;omega)only[go_sem] at h)|(with_reducible refine And.intro (by first|omega|(simp only[lens];omega)) ?_)|fail
end
section
attribute [local irreducible] SW bC bE dF bU FC dO toF dP qD
open Classical in
noncomputable def nR(x:SystemT)(P:List DepPairT)(p:Nat):Nat->List Int
 | 0=>[]
 | j+1=>if qD x (P.getD p default) (P.getD j default) then nR x P p j++[(j:Int)] else nR x P p j
noncomputable def eE(x:SystemT)(P:List DepPairT):Nat->List (List Int)
 | 0=>[]
 | i+1=>eE x P i++[nR x P i P.length]
theorem aBd(x:SystemT)(P:List DepPairT)(i:Nat):eE x P (i+1)=eE x P i++[nR x P i P.length]:=rfl
theorem aI9{x:SystemT}{P:List DepPairT}{p j:Nat}(h:qD x (P.getD p default) (P.getD j default)):nR x P p (j+1)=nR x P p j++[(j:Int)]:=if_pos h
theorem aN0{x:SystemT}{P:List DepPairT}{p j:Nat}(h:¬qD x (P.getD p default) (P.getD j default)):nR x P p (j+1)=nR x P p j:=if_neg h
theorem w6(x:SystemT)(P:List DepPairT)(p:Nat):∀j,(nR x P p j).length<=j
 | 0=>zQ _
 | j+1=>by
  have ih:=w6 x P p j
  unfold nR
  split
  ·rw[zK,List.length_singleton];omega
  ·omega
theorem aC7(x:SystemT)(P:List DepPairT)(p:Nat):∀j,∀q∈nR x P p j,0<=q/\q<j
 | 0,q,h=>by cases h
 | j+1,q,h=>by
  unfold nR at h
  split at h
  ·rcases zP.1 h with h|h
   ·have:=aC7 x P p j q h;omega
   ·rw[zN.1 h];omega
  ·have:=aC7 x P p j q h;omega
theorem mB(x:SystemT)(P:List DepPairT):∀i,(eE x P i).length=i
 | 0=>rfl
 | i+1=>by unfold eE;rw[zK,List.length_singleton,mB x P i]
theorem uW(x:SystemT)(P:List DepPairT):∀i j,j<i->(eE x P i).getD j default=nR x P j P.length
 | i+1,j,h=>by
  have hl:=mB x P i
  unfold eE
  rw[zD]
  by_cases e:j<i
  ·rw[zL (by omega),←zD]
   exact uW x P i j e
  ·obtain rfl:j=i:=by omega
   rw[zM (by omega),hl,Nat.sub_self];rfl
attribute [local irreducible] nR
def aG5:List (Nat×List Nat):=[(0,[1,2]),(1,[1,2,5]),(2,[1,2,5,6]),(3,[1,2,5,6,13]),(5,[1,2,5,6,7]),(6,[1,2,5,6,7,8]),(7,[1,2,5,6,7,8,20]),(9,[1,2,5,6,7,8,32]),(10,[1,2,5,6,7,8]),(8,[1,2,5,6,7,8]),(11,[1,2,5,6]),(4,[1,2,5,6]),(12,[4])]
attribute [go_sem] aG5
theorem aHR(x:SystemT)(hx:b7 x)(P:List DepPairT)(hP:∀p∈P,jN x.sig p)(hl:P.length<=64):FC S 47 [] [] [] [bQ x,.sl .any (P.map bK)] (.sl .any ((eE x P P.length).map b6)) [] []:=by
 have hr0:∀p,nR x P p 0=[]:=λp=>by unfold nR;rfl
 refine aP Tryz.func47 rfl (by kernel_rfl) (by simp[Tryz.f47]) λB=>?_
 simp only[Tryz.ntmps47,aS,aZ,Nat.reduceAdd]
 repeat' first|((refine dW 5 41000 22 1 rfl (.inr rfl) rfl ?_;simp only[go_sem]))|apply aE|apply aG|refine aI 0 aG5 λK hK=>?_|((first|apply aD|apply aK|refine aA (aO ?_)|apply aA);simp(disch:=apply aB;omega)only[go_sem,Tryz.results47])|(apply hK.nil;clear hK K;simp only[go_sem])|fail
 refine bG (ι:=Nat) (λi=>[(1,.sl .any (P.map bK)),(2,.box 2 0),(5,.sl (.own 41000 22 1) ((eE x P i).map b6)),(6,.int .i64 i)]) (λ_=>[]) (λ_=>[41000]) (λi=>i<=P.length) (λi=>P.length-i) 0 (by(refine aC rfl rfl ?_ ?_ ?_ ?_<;>simp(disch:=apply aB;omega)only[go_sem]<;>(try omega));all_goals exact⟨rfl,rfl⟩) (by omega) (λi hi=>?_)
 simp only[go_sem]
 have hgl:=mB x P i
 by_cases hil:i<P.length
 ·repeat' first|((exfalso;omega))|((refine dW 7 37000 2 1 rfl (.inr rfl) rfl ?_;simp only[go_sem]))|apply aE|apply aG|apply aJ|refine aI 0 aG5 λK hK=>?_|((first|apply aD|apply aK|refine aA (aO ?_)|apply aA);simp(disch:=apply aB;omega)only[go_sem,Tryz.results47])|(apply hK.nil;clear hK K;simp only[go_sem])|((first|refine aF rfl ?_ ?_)<;>intro h<;>try simp(disch:=apply aB;omega)only[go_sem] at h)|fail
  refine bG (ι:=Nat) (λj=>[(1,.sl .any (P.map bK)),(2,.box 2 0),(5,.sl (.own 41000 22 1) ((eE x P i).map b6)),(6,.int .i64 i),(7,.sl (.own 37000 2 1) ((nR x P i j).map (.int .i64))),(8,.int .i64 j)]) (λ_=>[]) (λ_=>[41000,37000]) (λj=>j<=P.length) (λj=>P.length-j) 0 (by rw[hr0];(refine aC rfl rfl ?_ ?_ ?_ ?_<;>simp(disch:=apply aB;omega)only[go_sem]<;>(try omega));all_goals exact⟨rfl,rfl⟩) (by omega) (λj hj=>?_)
  simp only[go_sem]
  have hrl:=w6 x P i j
  by_cases hjl:j<P.length
  ·have cN:=aBv x hx (P.getD i default) (P.getD j default) (hP _ (bA P i hil)) (hP _ (bA P j hjl))
   by_cases hc:qD x (P.getD i default) (P.getD j default)
   ·rw[bP hc] at cN
    have e:=aI9 hc
    repeat' first|((exfalso;omega))|apply aE|apply aG|apply aM|apply aJ|refine aI 0 aG5 λK hK=>?_|refine aY aG5 (by kernel_rfl) λK hK=>?_|((first|apply aD|apply aK|refine aA (aO ?_)|apply aA);simp(disch:=apply aB;omega)only[go_sem,Tryz.results47])|(apply hK.nil;clear hK K;simp only[go_sem])|((first|refine aF rfl ?_ ?_)<;>intro h<;>try simp(disch:=apply aB;omega)only[go_sem] at h)|apply aL|refine hK.c0 rfl rfl rfl (cN) rfl rfl rfl ?_|(with_reducible refine And.intro (by first|omega|(simp only[lens];omega)) ?_)|fail
    all_goals exact⟨j+1,(by rw[e];(refine aC rfl rfl ?_ ?_ ?_ ?_<;>simp(disch:=apply aB;omega)only[go_sem]<;>(try omega));all_goals first|(simp;done)|trace_state),by omega,by omega⟩
   ·rw[bH hc] at cN
    have e:=aN0 hc
    repeat' first|((exfalso;omega))|apply aE|apply aG|apply aM|apply aJ|refine aI 0 aG5 λK hK=>?_|refine aY aG5 (by kernel_rfl) λK hK=>?_|((first|apply aD|apply aK|refine aA (aO ?_)|apply aA);simp(disch:=apply aB;omega)only[go_sem,Tryz.results47])|(apply hK.nil;clear hK K;simp only[go_sem])|((first|refine aF rfl ?_ ?_)<;>intro h<;>try simp(disch:=apply aB;omega)only[go_sem] at h)|apply aL|refine hK.c0 rfl rfl rfl (cN) rfl rfl rfl ?_|(with_reducible refine And.intro (by first|omega|(simp only[lens];omega)) ?_)|fail
    all_goals exact⟨j+1,(by rw[e];(refine aC rfl rfl ?_ ?_ ?_ ?_<;>simp(disch:=apply aB;omega)only[go_sem]<;>(try omega))),by omega,by omega⟩
  ·obtain rfl:j=P.length:=by omega
   repeat' first|((exfalso;omega))|apply aE|apply aM|refine aI 0 aG5 λK hK=>?_|((first|apply aD|apply aK|refine aA (aO ?_)|apply aA);simp(disch:=apply aB;omega)only[go_sem,Tryz.results47])|(apply hK.nil;clear hK K;simp only[go_sem])|((first|refine aF rfl ?_ ?_)<;>intro h<;>try simp(disch:=apply aB;omega)only[go_sem] at h)|refine aT rfl ?_|apply aL|(with_reducible refine And.intro (by first|omega|(simp only[lens];omega)) ?_)|fail
   all_goals exact⟨i+1,(by rw[aBd];(refine aC rfl rfl ?_ ?_ ?_ ?_<;>simp(disch:=apply aB;omega)only[go_sem]<;>(try omega));all_goals first|(refine⟨?_,?_⟩;(· rw[List.map_append];rfl);(· omega))|trace_state),by omega,by omega⟩
 ·obtain rfl:i=P.length:=by omega
  repeat' first|((exfalso;omega))|apply aE|refine aI 0 aG5 λK hK=>?_|((first|apply aD|apply aK|refine aA (aO ?_)|apply aA);simp(disch:=apply aB;omega)only[go_sem,Tryz.results47])|(apply hK.nil;clear hK K;simp only[go_sem])|((first|refine aF rfl ?_ ?_)<;>intro h<;>try simp(disch:=apply aB;omega)only[go_sem] at h)|refine aT rfl ?_|fail
def nM(G:List (List Int))(cur:D)(k j:Nat):D:=if j=k then cur else if j<k then b6 (G.getD j default) else .sl .nil []
def dH(n:Nat)(G:List (List Int))(cur:D)(k:Nat):List D:=(List.range n).map (nM G cur k)
theorem pO(n:Nat)(G:List (List Int))(cur:D)(k:Nat):(dH n G cur k).length=n:=by unfold dH;simp
theorem aMM{n:Nat}{G:List (List Int)}{cur:D}{k:Nat}(h:Om (k<n)):(List.drop k (dH n G cur k)).head?=some cur:=by
 rw[List.head?_drop,dH,zI,List.getElem?_range h.1]
 simp[nM]
theorem aQX{n:Nat}{G:List (List Int)}{cur:D}{k:Nat}(h:k<n):(dH n G cur k)[k]?=some cur:=by
 rw[dH,zI,List.getElem?_range h]
 simp[nM]
theorem aDH{n:Nat}{G:List (List Int)}{cur:D}{k j:Nat}{d:D}(h:(dH n G cur k)[j]?=some d):j<n/\d=nM G cur k j:=by
 have hj:j<n:=by have:=(zE.1 h).1;rwa [pO] at this
 rw[dH,zI,List.getElem?_range hj] at h
 exact⟨hj,(zA h).symm⟩
theorem aLR{n:Nat}{G:List (List Int)}{cur:D}{k:Nat}(x:D):(dH n G cur k).set k x=dH n G x k:=by
 refine List.ext_getElem (by simp[dH]) λj h1 h2=>?_
 have hj:j<n:=by simpa[dH] using h2
 simp only[dH,List.getElem_set,List.getElem_map,List.getElem_range,nM]
 by_cases e:k=j
 ·subst e;simp
 ·have e':¬j=k:=λh=>e h.symm
  simp[e,e']
theorem aAd(n:Nat)(G:List (List Int))(cur:D)(k:Nat)(p:Nat->Bool):(dH n G cur k).map (D.pu1 p)=dH n G (cur.pu1 p) k:=by
 unfold dH
 rw[List.map_map]
 refine List.map_congr_left λj _=>?_
 simp only[Function.comp,nM]
 split
 ·rfl
 ·split<;>rfl
theorem tF(G:List (List Int))(cur:D)(k:Nat):∀n,D.tksL (dH n G cur k)=if k<n then cur.tks else []
 | 0=>rfl
 | n+1=>by
  have happ:∀a b:List D,D.tksL (a++b)=D.tksL a++D.tksL b:=λa b=>by
   induction a with
   | nil=>rfl
   | cons x r ih=>simp only[List.cons_append,D.tksL,ih,List.append_assoc]
  have ih:=tF G cur k n
  unfold dH at ih ⊢
  rw[List.range_succ,List.map_append,happ,ih]
  by_cases e:n=k
  ·subst e;simp[D.tksL,nM]
  ·have h0:(nM G cur k n).tks=[]:=by
    unfold nM;rw[if_neg e];split<;>rfl
   simp only[List.map_cons,List.map_nil,D.tksL,h0,List.append_nil]
   by_cases h:k<n
   ·rw[if_pos h,if_pos (by omega)]
   ·rw[if_neg h,if_neg (by omega)]
theorem aEK(G:List (List Int))(tk:Tk)(xs:List D)(k:Nat):∀n,D.idsL (dH n G (.sl tk xs) k)=[]
 | 0=>rfl
 | n+1=>by
  have happ:∀a b:List D,D.idsL (a++b)=D.idsL a++D.idsL b:=λa b=>by
   induction a with
   | nil=>rfl
   | cons x r ih=>simp only[List.cons_append,D.idsL,ih,List.append_assoc]
  have ih:=aEK G tk xs k n
  unfold dH at ih ⊢
  rw[List.range_succ,List.map_append,happ,ih]
  have h0:(nM G (.sl tk xs) k n).ids=[]:=by
   unfold nM;split
   ·rfl
   ·split<;>rfl
  simp only[List.map_cons,List.map_nil,D.idsL,h0,List.append_nil]
theorem aKL{n:Nat}{G:List (List Int)}{cur:D}{k:Nat}(h:Om (k<n)):D.tksL (dH n G cur k)=cur.tks:=by rw[tF,if_pos h.1]
theorem aBk(n:Nat)(G:List (List Int))(k:Nat):D.tksL (dH n G (.sl .nil []) k)=[]:=by rw[tF];split<;>rfl
theorem aJp(n:Nat)(G:List (List Int))(xs:List D)(k:Nat):D.tksL (dH n G (.sl .any xs) k)=[]:=by rw[tF];split<;>rfl
theorem aKz(n:Nat):(List.replicate n [D.sl Tk.nil []]).flatten=dH n [] (.sl .nil []) 0:=by
 rw[List.flatten_replicate_singleton]
 refine List.ext_getElem (by simp[dH]) λj h1 h2=>?_
 simp only[dH,List.getElem_map,List.getElem_range,List.getElem_replicate,nM]
 split
 ·rfl
 ·rw[if_neg (by omega)]
theorem aJj{n:Nat}{G:List (List Int)}{row:List Int}{tk:Tk}{k:Nat}(hG:G.length=k)(j:Nat)(c d:D)(hc:(dH n G (.sl tk (row.map (.int .i64))) k)[j]?=some c)(hd:(dH n (G++[row]) (.sl .nil []) (k+1))[j]?=some d):D.le c d:=by
 obtain⟨hj,rfl⟩:=aDH hc
 obtain⟨_,rfl⟩:=aDH hd
 unfold nM
 by_cases e:j=k
 ·subst e
  rw[if_pos rfl,if_neg (by omega),if_pos (by omega),zD,zM (by omega),hG,Nat.sub_self]
  exact .any
 ·rw[if_neg e]
  by_cases h:j<k
  ·rw[if_pos h,if_neg (by omega),if_pos (by omega),zD (l:=G++[row]),zL (by omega),←zD]
   exact .refl _
  ·rw[if_neg h]
   split
   ·exact .refl _
   ·rw[if_neg (by omega)];exact .refl _
theorem aDJ{n:Nat}{G:List (List Int)}{cur:D}(hG:G.length=n):dH n G cur n=G.map b6:=by
 refine List.ext_getElem (by simp[dH,hG]) λj h1 h2=>?_
 have hj:j<n:=by simpa[dH] using h1
 simp only[dH,List.getElem_map,List.getElem_range,nM]
 rw[if_neg (by omega),if_pos hj,zD,zB (by omega)]
 rfl
theorem aLj(G:List (List Int)):flat (G.map b6)=G.map b6:=by
 induction G with
 | nil=>rfl
 | cons y r ih=>simp only[List.map_cons,flat,List.flatMap_cons] at ih ⊢;rw[ih];rfl
attribute [local go_sem] aMM aLR aAd aKL aBk aJp aEK pO
attribute [local irreducible] dH
def aM0:List (Nat×List Nat):=[(0,[1,2]),(1,[1,2,5]),(2,[1,2,5,13,14,15]),(3,[1,2,5,13,14,15,16]),(4,[1,2,5,6,7,13,14,15]),(5,[1,2,5,6,7,13,14,15,20,21,22]),(6,[1,2,5,6,7,13,14,15,20,21,22,23]),(7,[1,2,5,6,7,8,9,13,14,15,20,21,22]),(8,[1,2,5,6,7,8,13,14,15,20,21,22,30]),(9,[1,2,5,6,7,13,14,15,20,21,22]),(10,[1,2,5,6,7,13,14,15,20,21,22]),(11,[1,2,5,13,14,15]),(12,[4])]
attribute [go_sem] aM0
theorem aQ8(x:SystemT)(hx:b7 x)(P:List DepPairT)(hP:∀p∈P,jN x.sig p)(hl:P.length<=64):FC S 52 [] [] [] [bQ x,.sl .any (P.map bK)] (.sl .any ((eE x P P.length).map b6)) [] []:=by
 have hr0:∀p,nR x P p 0=[]:=λp=>by unfold nR;rfl
 refine aP Tryz.func52 rfl (by kernel_rfl) (by simp[Tryz.f52]) λB=>?_
 simp only[Tryz.ntmps52,aS,aZ,Nat.reduceAdd]
 repeat' first|apply aE|apply aG|refine aI 0 aM0 λK hK=>?_|((first|apply aD|refine aA (aO ?_)|apply aA);simp(disch:=apply aB;omega)only[go_sem,Tryz.results52])|(apply hK.nil;clear hK K;simp only[go_sem])|(with_reducible refine And.intro (by first|omega|(simp only[lens];omega)) ?_)|fail
 rw[aKz]
 refine bG (ι:=Nat) (λi=>[(15,.int .i64 i)]) (λi=>[(12,dH P.length (eE x P i) (.sl .nil []) i)]) (λ_=>[]) (λi=>i<=P.length) (λi=>P.length-i) 0 (by(refine aC rfl rfl ?_ ?_ ?_ ?_<;>simp(disch:=apply aB;omega)only[go_sem]<;>(try omega));all_goals first|rfl|exact⟨rfl,rfl⟩|trace_state) (by omega) (λi hi=>?_)
 simp only[go_sem]
 have hgl:=mB x P i
 by_cases hil:i<P.length
 ·repeat' first|((exfalso;omega))|apply aE|apply aG|apply aJ|refine aI 0 aM0 λK hK=>?_|((first|apply aD|refine aA (aO ?_)|apply aA);simp(disch:=apply aB;omega)only[go_sem,Tryz.results52])|(apply hK.nil;clear hK K;simp only[go_sem])|((first|refine aF rfl ?_ ?_)<;>intro h<;>try simp(disch:=apply aB;omega)only[go_sem] at h)|(with_reducible refine And.intro (by first|omega|(simp only[lens];omega)) ?_)|fail
  refine aEP 12 i 40000 2 1 (cs:=dH P.length (eE x P i) (.sl .nil []) i) (by simp[LS.purge,rH,Lg.look,aAd,D.pu1]) (aQX hil) (by simp(disch:=apply aB;omega) [LS.purge,LS.clean,rH,D.pu,D.pu1,D.tks,D.tksL,aAd,aBk]) ?_
  simp(disch:=apply aB;omega)only[go_sem]
  refine bG (ι:=Nat) (λj=>[(22,.int .i64 j)]) (λj=>[(12,dH P.length (eE x P i) (.sl (.own 40000 2 1) ((nR x P i j).map (.int .i64))) i)]) (λ_=>[40000]) (λj=>j<=P.length) (λj=>P.length-j) 0 (by rw[hr0];(refine aC rfl rfl ?_ ?_ ?_ ?_<;>simp(disch:=apply aB;omega)only[go_sem]<;>(try omega));all_goals first|rfl|exact⟨rfl,rfl⟩|trace_state) (by omega) (λj hj=>?_)
  simp(disch:=apply aB;omega)only[go_sem]
  have hrl:=w6 x P i j
  by_cases hjl:j<P.length
  ·have cN:=aGu x hx (P.getD i default) (P.getD j default) (hP _ (bA P i hil)) (hP _ (bA P j hjl))
   by_cases hc:qD x (P.getD i default) (P.getD j default)
   ·rw[bP hc] at cN
    have e:=aI9 hc
    repeat' first|((exfalso;omega))|apply aE|apply aG|apply aM|apply aJ|refine aI 0 aM0 λK hK=>?_|((first|apply aD|refine aA (aO ?_)|apply aA);simp(disch:=apply aB;omega)only[go_sem,Tryz.results52])|(apply hK.nil;clear hK K;simp only[go_sem])|((first|refine aF rfl ?_ ?_)<;>intro h<;>try simp(disch:=apply aB;omega)only[go_sem] at h)|apply aL|refine hK.c0 rfl rfl rfl (cN) rfl rfl rfl ?_|(with_reducible refine And.intro (by first|omega|(simp only[lens];omega)) ?_)|fail
    all_goals exact⟨j+1,(by rw[e];(refine aC rfl rfl ?_ ?_ ?_ ?_<;>simp(disch:=apply aB;omega)only[go_sem]<;>(try omega));all_goals first|(simp;done)|trace_state),by omega,by omega⟩
   ·rw[bH hc] at cN
    have e:=aN0 hc
    repeat' first|((exfalso;omega))|apply aE|apply aG|apply aM|apply aJ|refine aI 0 aM0 λK hK=>?_|((first|apply aD|refine aA (aO ?_)|apply aA);simp(disch:=apply aB;omega)only[go_sem,Tryz.results52])|(apply hK.nil;clear hK K;simp only[go_sem])|((first|refine aF rfl ?_ ?_)<;>intro h<;>try simp(disch:=apply aB;omega)only[go_sem] at h)|apply aL|refine hK.c0 rfl rfl rfl (cN) rfl rfl rfl ?_|(with_reducible refine And.intro (by first|omega|(simp only[lens];omega)) ?_)|fail
    all_goals exact⟨j+1,(by rw[e];(refine aC rfl rfl ?_ ?_ ?_ ?_<;>simp(disch:=apply aB;omega)only[go_sem]<;>(try omega));all_goals first|(simp;done)|trace_state),by omega,by omega⟩
  ·obtain rfl:j=P.length:=by omega
   refine aIK 12 (dH P.length (eE x P i++[nR x P i P.length]) (.sl .nil []) (i+1)) rfl (by rw[pO,pO]) (aJj hgl) ?_
   simp(disch:=apply aB;omega)only[go_sem]
   repeat' first|((exfalso;omega))|apply aE|apply aM|refine aI 0 aM0 λK hK=>?_|((first|apply aD|refine aA (aO ?_)|apply aA);simp(disch:=apply aB;omega)only[go_sem,Tryz.results52])|(apply hK.nil;clear hK K;simp only[go_sem])|((first|refine aF rfl ?_ ?_)<;>intro h<;>try simp(disch:=apply aB;omega)only[go_sem] at h)|refine aT rfl ?_|apply aL|fail
   all_goals exact⟨i+1,(by rw[aBd];(refine aC rfl rfl ?_ ?_ ?_ ?_<;>simp(disch:=apply aB;omega)only[go_sem]<;>(try omega));all_goals first|(simp;done)|trace_state),by omega,by omega⟩
 ·obtain rfl:i=P.length:=by omega
  refine kK 5 1 .any ((eE x P P.length).map b6) rfl rfl (by rw[aDJ hgl];exact(aLj _).symm) (by rw[zC,hgl]) (λd hd=>by obtain⟨y,_,rfl⟩:=zJ.1 hd;rfl) (by rw[aDJ hgl];intro d hd;obtain⟨y,_,rfl⟩:=zJ.1 hd;rfl) (.inl rfl) ?_
  simp only[go_sem]
  repeat' first|((exfalso;omega))|apply aE|refine aI 0 aM0 λK hK=>?_|((first|apply aD|refine aA (aO ?_)|apply aA);simp(disch:=apply aB;omega)only[go_sem,Tryz.results52])|(apply hK.nil;clear hK K;simp only[go_sem])|((first|refine aF rfl ?_ ?_)<;>intro h<;>try simp(disch:=apply aB;omega)only[go_sem] at h)|refine aT rfl ?_|fail
end
section
attribute [local irreducible] SW bC bE dF bU FC dO toF dP fU fD sumF bR
end
section
attribute [local irreducible] SW bC bE dF bU FC dO toF dP qD fE eE
section
variable {set:List Int} {n:Nat}
theorem aJV(h:fG set n):∀d i,i+d+1<set.length->set.getD i default<set.getD (i+d+1) default
 | 0,i,hi=>(h (i+1) hi).2 (by omega)
 | d+1,i,hi=>by
  have h1:=aJV h d i (by omega)
  have h2:=(h (i+(d+1)+1) hi).2 (by omega)
  rw[show i+(d+1)+1-1=i+d+1 by omega] at h2
  omega
theorem pZ(h:fG set n):lR set:=by
 refine List.pairwise_iff_getElem.2 λi j hi hj hij=>?_
 have:=aJV h (j-i-1) i (by omega)
 rw[show i+(j-i-1)+1=j by omega,zD,zD,zB hi,zB hj] at this
 exact this
theorem rL(h:fG set n):∀q∈set,0<=q/\q<n:=λq hq=>by
 obtain⟨j,hj,rfl⟩:=List.getElem_of_mem hq
 have:=(h j hj).1
 rwa [zD,zB hj] at this
theorem aIw(h:fG set n):(c8 set).Nodup:=by
 unfold c8
 refine List.pairwise_map.2 ((pZ h).imp_of_mem λ{a b} ha hb hab=>?_)
 have h1:=rL h a ha
 have h2:=rL h b hb
 omega
end
theorem aH2{x:SystemT}(hP:gC x):(eE x (bL x) (bL x).length).length=(bL x).length/\(∀i<(eE x (bL x) (bL x).length).length,((eE x (bL x) (bL x).length).getD i default).length<=64)/\∀i<(eE x (bL x) (bL x).length).length,∀j<((eE x (bL x) (bL x).length).getD i default).length,0<=((eE x (bL x) (bL x).length).getD i default).getD j default/\((eE x (bL x) (bL x).length).getD i default).getD j default<(bL x).length:=by
 have h64:(bL x).length<=64:=hP.2
 have hl:=mB x (bL x) (bL x).length
 refine⟨hl,λi hi=>?_,λi hi j hj=>?_⟩
 ·rw[uW x (bL x) _ i (by omega)]
  have:=w6 x (bL x) i (bL x).length
  omega
 ·rw[uW x (bL x) _ i (by omega)] at hj ⊢
  exact aC7 x (bL x) i _ _ (bA _ j hj)
end
section
def qB(rs proj:List Int):Prop:=(eA rs/\proj.length=rs.length)/\∀f<rs.length,-1<=proj.getD f default/\proj.getD f default<=rs.getD f default-1
def iU(rs proj t:List Int):List Int:=if proj.getD (t.getD 0 default).toNat default<0 then [] else jW rs t (proj.getD (t.getD 0 default).toNat default).toNat
theorem aHi{rs proj t:List Int}(h:proj.getD (t.getD 0 default).toNat default<0):iU rs proj t=[]:=if_pos h
theorem aDy{rs proj t:List Int}(h:¬proj.getD (t.getD 0 default).toNat default<0):iU rs proj t=jW rs t (proj.getD (t.getD 0 default).toNat default).toNat:=if_neg h
theorem aGP{rs proj t:List Int}(hj:qB rs proj)(hT:aX rs t)(h0:0<=t.getD 0 default):(t.getD 0 default).toNat<proj.length/\(-1<=proj.getD (t.getD 0 default).toNat default/\proj.getD (t.getD 0 default).toNat default<=2)/\(0<=proj.getD (t.getD 0 default).toNat default->(proj.getD (t.getD 0 default).toNat default).toNat<(arS rs (t.getD 0 default)).toNat):=by
 have hl:=hT.low (a:=0) hT.2.1.1
 have hlt:(t.getD 0 default).toNat<rs.length:=by omega
 have h1:=hj.2 _ hlt
 have h2:=hj.1.1.2 _ hlt
 have h3:=j2 (rs:=rs) (n:=t.getD 0 default) ⟨h0,by omega⟩
 have h4:=hj.1.2
 refine⟨by omega,by omega,λh=>?_⟩
 rw[h3];omega
theorem aOt{rs proj t:List Int}(hj:qB rs proj)(hT:aX rs t)(h0:0<=t.getD 0 default)(h:iU rs proj t≠[]):aX rs (iU rs proj t):=by
 obtain⟨h1,h2,h3⟩:=aGP hj hT h0
 rcases Classical.em (proj.getD (t.getD 0 default).toNat default<0) with hn|hn
 ·exact absurd (aHi hn) h
 ·rw[aDy hn]
  exact(iX hT (h3 (by omega))).1
theorem aAT{rs t u:List Int}(hT:aX rs t):m7 rs t 0 u↔t=u∨m7 rs t 1 u:=by
 constructor
 ·rintro⟨a,⟨_,h1⟩,h2⟩
  rcases Nat.eq_zero_or_pos a with rfl|ha
  ·rw[kI hT] at h2;exact .inl h2
  ·exact .inr ⟨a,⟨ha,h1⟩,h2⟩
 ·rintro (rfl|⟨a,⟨_,h1⟩,h2⟩)
  ·exact⟨0,⟨zQ _,hT.2.1.1⟩,kI hT⟩
  ·exact⟨a,⟨Nat.zero_le _,h1⟩,h2⟩
def qI(rs proj:List Int)(p:DepPairT):Prop:=(iU rs proj p.l≠[]/\iU rs proj p.r≠[])/\m7 rs (iU rs proj p.l) 1 (iU rs proj p.r)
def oJ(rs proj:List Int)(p:DepPairT):Prop:=(iU rs proj p.l≠[]/\iU rs proj p.r≠[])/\(iU rs proj p.l=iU rs proj p.r∨m7 rs (iU rs proj p.l) 1 (iU rs proj p.r))
open Classical in
noncomputable def jL(rs:List Int)(P:List DepPairT)(set proj:List Int):Nat->List Int
 | 0=>[]
 | i+1=>if qI rs proj (P.getD (set.getD i default).toNat default) then jL rs P set proj i++[set.getD i default] else jL rs P set proj i
theorem aGq{rs:List Int}{P:List DepPairT}{set proj:List Int}{i:Nat}(h:qI rs proj (P.getD (set.getD i default).toNat default)):jL rs P set proj (i+1)=jL rs P set proj i++[set.getD i default]:=if_pos h
theorem aNX{rs:List Int}{P:List DepPairT}{set proj:List Int}{i:Nat}(h:¬qI rs proj (P.getD (set.getD i default).toNat default)):jL rs P set proj (i+1)=jL rs P set proj i:=if_neg h
theorem aKH(rs:List Int)(P:List DepPairT)(set proj:List Int):∀i,(jL rs P set proj i).length<=i
 | 0=>zQ _
 | i+1=>by
  have ih:=aKH rs P set proj i
  by_cases h:qI rs proj (P.getD (set.getD i default).toNat default)
  ·rw[aGq h,zK];simp;omega
  ·rw[aNX h];omega
def aUI(rs:List Int)(P:List DepPairT)(set proj:List Int):Prop:=∀i<set.length,oJ rs proj (P.getD (set.getD i default).toNat default)
open Classical in
noncomputable def jR(rs:List Int)(P:List DepPairT)(set proj:List Int):List Int×Bool:=if aUI rs P set proj then (jL rs P set proj set.length,true) else ([],false)
theorem aNr{rs:List Int}{P:List DepPairT}{set proj:List Int}(h:aUI rs P set proj):jR rs P set proj=(jL rs P set proj set.length,true):=if_pos h
theorem aR2{rs:List Int}{P:List DepPairT}{set proj:List Int}(h:¬aUI rs P set proj):jR rs P set proj=([],false):=if_neg h
def xF(x:SystemT)(set proj:List Int):Prop:=(gC x/\fG set (bL x).length)/\qB x.sig proj
open Classical in
noncomputable def aJQ(x:SystemT)(set proj:List Int):List Int×Bool:=if xF x set proj then jR x.sig (bL x) set proj else ([],false)
theorem aAb{x:SystemT}{set proj:List Int}(h:xF x set proj):aJQ x set proj=jR x.sig (bL x) set proj:=if_pos h
theorem aRU{x:SystemT}{set proj:List Int}(h:¬xF x set proj):aJQ x set proj=([],false):=if_neg h
def gQ(set gone:List Int):List Int:=set.filter λn=>decide (n∉gone)
theorem aIl{set gone:List Int}{i:Nat}(hi:i<set.length)(h:set.getD i default∉gone):gQ (set.take (i+1)) gone=gQ (set.take i) gone++[set.getD i default]:=by
 unfold gQ
 rw[gY hi,List.filter_append]
 simp only[List.filter_cons,List.filter_nil,decide_eq_true h,if_true]
theorem aN6{set gone:List Int}{i:Nat}(hi:i<set.length)(h:¬set.getD i default∉gone):gQ (set.take (i+1)) gone=gQ (set.take i) gone:=by
 unfold gQ
 rw[gY hi,List.filter_append]
 simp only[List.filter_cons,List.filter_nil,decide_eq_false h,Bool.false_eq_true,if_false,List.append_nil]
theorem oD(set gone:List Int):(gQ set gone).length<=set.length:=List.length_filter_le _ _
theorem aCd{set:List Int}{n:Nat}(hs:lR set)(h:∀q∈set,0<=q/\q<n):fG set n:=λi hi=>by
 refine⟨h _ (bA set i hi),λh0=>?_⟩
 have:=List.pairwise_iff_getElem.1 hs (i-1) i (by omega) hi (by omega)
 rw[zD,zD,zB hi,zB (by omega)]
 exact this
theorem wD{set gone:List Int}{n:Nat}(h:fG set n):fG (gQ set gone) n :=
 aCd ((pZ h).filter _) λq hq=>rL h q (List.mem_filter.1 hq).1
theorem aET{edges:List (List Int)}{set:List Int}{n:Nat}(h:fG set n):∀y∈fE edges set,fG y n:=by
 have key:∀(C:Nat->Nat->Bool) i,∀y∈cmp C set i,∃p qs j,y=qU C p qs j/\qs.Sublist set:=by
  intro C i
  induction i with
  | zero=>intro y hy;cases hy
  | succ i ih =>
   intro y hy
   unfold cmp at hy
   split at hy
   ·rcases zP.1 hy with hy|hy
    ·exact ih y hy
    ·rw[zN.1 hy];exact⟨_,_,_,rfl,List.drop_sublist _ _⟩
   ·exact ih y hy
 intro y hy
 obtain⟨p,qs,j,rfl,hq⟩:=key _ _ y hy
 have hsub:(qU (wM (c8 set) (r0 edges set) set.length) p qs j).Sublist set:=((List.filter_sublist).trans (List.take_sublist j qs)).trans hq
 exact aCd ((pZ h).sublist hsub) λq hq'=>rL h q (hsub.subset hq')
theorem oB{edges:List (List Int)}{set:List Int}:(fE edges set).length<=set.length:=aBL _ _ _
open Classical in
noncomputable def aG0(rs:List Int)(H:Int->Prop)(f:Nat):Int×Int:=if H f then (0,rs.getD f default-1) else (-1,-1)
theorem oL{rs:List Int}{H:Int->Prop}{f:Nat}(h:H f):aG0 rs H f=(0,rs.getD f default-1):=if_pos h
theorem xN{rs:List Int}{H:Int->Prop}{f:Nat}(h:¬H f):aG0 rs H f=(-1,-1):=if_neg h
noncomputable def bsP(rs:List Int)(H:Int->Prop):List (Int×Int):=(List.range rs.length).map (aG0 rs H)
theorem aBJ(rs:List Int)(H:Int->Prop):(bsP rs H).length=rs.length:=by simp[bsP]
theorem aRT{rs:List Int}{H:Int->Prop}{f:Nat}(h:f<rs.length):(bsP rs H).getD f default=aG0 rs H f:=by
 simp[bsP,List.getD,zI,List.getElem?_range h]
def aIV(rs:List Int)(H:Int->Prop)(n:Nat):Prop:=∃f<n,H (f:Int)/\rs.getD f default=0
theorem aLm{rs:List Int}{H:Int->Prop}(hs:eA rs)(h:¬aIV rs H rs.length):∀b∈bsP rs H,b.1<=b.2:=λb hb=>by
 obtain⟨f,hf,rfl⟩:=zJ.1 hb
 have hf:=List.mem_range.1 hf
 have h1:=hs.2 f hf
 by_cases hH:H f
 ·rw[oL hH]
  have:rs.getD f default≠0:=λe=>h ⟨f,hf,hH,e⟩
  show (0:Int)<=rs.getD f default-1
  omega
 ·rw[xN hH];exact Int.le_refl _
theorem tV{rs:List Int}{H:Int->Prop}{l:List Int}(hs:eA rs)(hd:nS (bsP rs H) l):qB rs l:=by
 have hl:l.length=rs.length:=by rw[jG hd,aBJ]
 refine⟨⟨hs,hl⟩,λf hf=>?_⟩
 have h1:=aG7 hd f (by rw[aBJ];exact hf)
 rw[aRT hf] at h1
 have h2:=hs.2 f hf
 by_cases hH:H f
 ·rw[oL hH] at h1
  have h3:0<=l.getD f default/\l.getD f default<=rs.getD f default-1:=h1
  omega
 ·rw[xN hH] at h1
  have h3:-1<=l.getD f default/\l.getD f default<=-1:=h1
  omega
theorem aT4{rs:List Int}{H:Int->Prop}{l:List Int}(hs:eA rs)(hd:nS (bsP rs H) l):∀x∈l,-1<=x/\x<=1000:=λx hx=>by
 obtain⟨i,hi,rfl⟩:=List.getElem_of_mem hx
 have hj:=tV hs hd
 have h1:=hj.2 i (by rw[←hj.1.2];exact hi)
 have h2:=hs.2 i (by rw[←hj.1.2];exact hi)
 rw[zD,zB hi,Option.getD_some] at h1
 omega
def QJ(rs:List Int)(P:List DepPairT)(set l:List Int):Prop:=(jR rs P set l).2=true/\(0:Int)<(jR rs P set l).1.length
open Classical in
noncomputable def gI(rs:List Int)(P:List DepPairT)(set:List Int):Option (List Int) :=
 if aIV rs (fB P set set.length) rs.length then none else fL (QJ rs P set) (gP (bsP rs (fB P set set.length)))
theorem uM{rs:List Int}{P:List DepPairT}{set:List Int}(h:aIV rs (fB P set set.length) rs.length):gI rs P set=none:=if_pos h
theorem aAa{rs:List Int}{P:List DepPairT}{set:List Int}(h:¬aIV rs (fB P set set.length) rs.length):gI rs P set=fL (QJ rs P set) (gP (bsP rs (fB P set set.length))):=if_neg h
def uS:Option (List Int)->List Int×Bool
 | some l=>(l,true)
 | none=>([],false)
open Classical in
noncomputable def uZ(x:SystemT)(set:List Int):List Int×Bool:=if mK x set then uS (gI x.sig (bL x) set) else ([],false)
theorem aCA{x:SystemT}{set:List Int}(h:mK x set):uZ x set=uS (gI x.sig (bL x) set):=if_pos h
theorem aPI{x:SystemT}{set:List Int}(h:¬mK x set):uZ x set=([],false):=if_neg h
noncomputable def aCw(rs:List Int)(H:Int->Prop)(n:Nat):List Int:=(List.range n).map λf=>(aG0 rs H f).1
theorem aEf{rs:List Int}{H:Int->Prop}{f:Nat}(h:H f):aCw rs H (f+1)=aCw rs H f++[0]:=by
 simp[aCw,List.range_succ,oL h]
theorem aHL{rs:List Int}{H:Int->Prop}{f:Nat}(h:¬H f):aCw rs H (f+1)=aCw rs H f++[-1]:=by
 simp[aCw,List.range_succ,xN h]
theorem aR5(rs:List Int)(H:Int->Prop):aCw rs H rs.length=jY (bsP rs H):=by simp[aCw,jY,bsP]
theorem aS7(rs:List Int)(H:Int->Prop)(n:Nat):(aCw rs H n).length=n:=by simp[aCw]
noncomputable def jD(rs:List Int)(H:Int->Prop)(g:Int×Int->Int)(f:Nat):List Int:=(List.range rs.length).map λj=>if j<f then g (aG0 rs H j) else -1
theorem sA(rs:List Int)(H:Int->Prop)(g:Int×Int->Int)(f:Nat):(jD rs H g f).length=rs.length:=by simp[jD]
theorem aC4(rs:List Int)(H:Int->Prop)(g:Int×Int->Int):jD rs H g 0=List.replicate rs.length (-1):=by
 refine List.ext_getElem (by simp[jD]) λj h1 h2=>?_
 simp[jD]
theorem aFk{rs:List Int}{H:Int->Prop}{g:Int×Int->Int}{f:Nat}:(jD rs H g f).set f (g (aG0 rs H f))=jD rs H g (f+1):=by
 refine List.ext_getElem (by simp[jD]) λj h1 h2=>?_
 simp only[jD,List.getElem_set,List.getElem_map,List.getElem_range]
 by_cases e:f=j
 ·subst e;rw[if_pos rfl,if_pos (by omega)]
 ·rw[if_neg e]
  by_cases h:j<f
  ·rw[if_pos h,if_pos (by omega)]
  ·rw[if_neg h,if_neg (by omega)]
theorem aC8{rs:List Int}{H:Int->Prop}{g:Int×Int->Int}{f:Nat}(h:¬H f)(hg:g (-1,-1)=-1):jD rs H g f=jD rs H g (f+1):=by
 refine List.ext_getElem (by simp[jD]) λj h1 h2=>?_
 simp only[jD,List.getElem_map,List.getElem_range]
 by_cases h3:j<f
 ·rw[if_pos h3,if_pos (by omega)]
 ·rw[if_neg h3]
  by_cases h4:j<f+1
  ·obtain rfl:j=f:=by omega
   rw[if_pos h4,xN h,hg]
  ·rw[if_neg h4]
theorem aFe(rs:List Int)(H:Int->Prop)(g:Int×Int->Int):jD rs H g rs.length=(bsP rs H).map g:=by
 refine List.ext_getElem (by simp[jD,bsP]) λj h1 h2=>?_
 simp only[jD,bsP,List.getElem_map,List.getElem_range]
 rw[if_pos (by simpa[jD] using h1)]
theorem r7{rs:List Int}{H:Int->Prop}{g:Int×Int->Int}{f j:Nat}(hj:j<rs.length):(jD rs H g f).getD j default=if j<f then g (aG0 rs H j) else -1:=by
 simp[jD,List.getD,zI,List.getElem?_range hj]
end
section
section
variable {x:SystemT} {gr:List (List Int)} {n:Nat} {list:List PairStepT}
theorem uQ(n:Nat):fG (upTo n) n:=aCd (yN n) λq hq=>(aBR n q).1 hq
def aDM(n i:Nat)(T:List (List Int)):Prop:=(∀y∈T,fG y n)/\T.length<=64*(i+1)
theorem aR8(hn:n<=64):aDM n 0 (fE gr (upTo n)):=by
 refine⟨aET (uQ n),?_⟩
 have:=@oB gr (upTo n)
 have h:(upTo n).length=n:=by simp[upTo]
 omega
theorem aLi(hn:n<=64){i:Nat}{q:List Int}{r:List (List Int)}(h:aDM n i (q::r)){g:List Int}:aDM n (i+1) (fE gr (gQ q g)++r):=by
 have hq:=h.1 q zH
 refine⟨λy hy=>?_,?_⟩
 ·rcases zP.1 hy with hy|hy
  ·exact aET (wD hq) y hy
  ·exact h.1 y (zG _ hy)
 ·have h1:=@oB gr (gQ q g)
  have h2:=oD q g
  have h3:=lN hq
  have h4:=h.2
  rw[zK]
  rw[List.length_cons] at h4
  omega
end
end
section
def rB:List (List Int)->Nat
 | []=>0
 | q::r=>q.length+rB r
theorem aDL:∀A B:List (List Int),rB (A++B)=rB A+rB B
 | [],B=>by simp[rB]
 | a::A,B=>by simp only[List.cons_append,rB,aDL A B];omega
theorem aFR{α:Type}(A B:α->Bool):∀l:List α,(∀x∈l,A x=true->B x=false)->(l.filter A).length+(l.filter B).length=(l.filter λx=>A x||B x).length
 | [],_=>rfl
 | x::l,h=>by
  have ih:=aFR A B l λy hy=>h y (zG _ hy)
  have hx:=h x zH
  cases hA:A x with
  | true =>
   rw[List.filter_cons_of_pos hA,List.filter_cons_of_neg (by rw[hx hA];simp),List.filter_cons_of_pos (by simp[hA])]
   simp only[List.length_cons];omega
  | false =>
   cases hB:B x with
   | true =>
    rw[List.filter_cons_of_neg (by rw[hA];simp),List.filter_cons_of_pos hB,List.filter_cons_of_pos (by simp[hB])]
    simp only[List.length_cons];omega
   | false =>
    rw[List.filter_cons_of_neg (by rw[hA];simp),List.filter_cons_of_neg (by rw[hB];simp),List.filter_cons_of_neg (by simp[hA,hB])]
    exact ih
theorem aOm{C:Nat->Nat->Bool}{set:List Int}(ht:∀a∈c8 set,∀b∈c8 set,∀c∈c8 set,eM C a b=true->eM C c b=true->eM C c a=true) :
  ∀k,k<=set.length->rB (cmp C set k)<=(set.filter λq=>(List.range k).any λi=>tst (okC C set i)&&eM C (set.getD i default).toNat q.toNat).length
 | 0,_=>Nat.zero_le _
 | k+1,hk=>by
  have ih:=aOm ht k (by omega)
  have hin:∀i,i<set.length->(set.getD i default).toNat∈c8 set:=λi hi=>zJ.2 ⟨_,bA set i hi,rfl⟩
  have hstep:(set.filter λq=>(List.range (k+1)).any λi=>tst (okC C set i)&&eM C (set.getD i default).toNat q.toNat)=set.filter λq=>((List.range k).any λi=>tst (okC C set i)&&eM C (set.getD i default).toNat q.toNat)||(tst (okC C set k)&&eM C (set.getD k default).toNat q.toNat):=by
   congr 1;funext q
   rw[List.range_succ,List.any_append];simp
  rw[hstep]
  by_cases h:okC C set k
  ·rw[aBH h,aDL,←aFR _ _ set (λq hq hA=>?_)]
   ·have h1:rB [qU C (set.getD k default).toNat (set.drop k) (set.length-k)]<=(set.filter λq=>tst (okC C set k)&&eM C (set.getD k default).toNat q.toNat).length:=by
     simp only[rB,Nat.add_zero,qU,bP h,Bool.true_and]
     exact(((List.take_sublist _ _).trans (List.drop_sublist k set)).filter _).length_le
    omega
   ·rw[bP h,Bool.true_and]
    obtain⟨i,hi,hi2⟩:=List.any_eq_true.1 hA
    have hi:=List.mem_range.1 hi
    simp only[Bool.and_eq_true] at hi2
    cases hB:eM C (set.getD k default).toNat q.toNat with
    | false=>rfl
    | true =>
     have:=ht _ (hin i (by omega)) q.toNat (zJ.2 ⟨q,hq,rfl⟩) _ (hin k (by omega)) hi2.2 hB
     rw[h.2 i hi] at this
     cases this
  ·rw[aCI h,bH h]
   simpa using ih
theorem aAw{edges:List (List Int)}{set:List Int}:rB (fE edges set)<=set.length:=by
 have htc:∀a∈c8 set,∀b∈c8 set,wM (c8 set) (r0 edges set) set.length a b=true↔TC (r0 edges set) a b:=λa ha b hb=>by
  have:=aV8 (r:=r0 edges set) (ps:=c8 set) (λp q h=>aTL h) ha hb
  rwa [wX] at this
 have hb:∀a∈c8 set,∀b∈c8 set,eM (wM (c8 set) (r0 edges set) set.length) a b=true↔TC (r0 edges set) a b/\TC (r0 edges set) b a:=λa ha b hb=>by
  unfold eM
  rw[Bool.and_eq_true,htc a ha b hb,htc b hb a ha]
 refine Nat.le_trans (aOm (λa ha b hb' c hc h1 h2=>?_) _ (zQ _)) (List.length_filter_le _ _)
 rw[hb a ha b hb'] at h1
 rw[hb c hc b hb'] at h2
 rw[hb c hc a ha]
 exact⟨h2.1.trans h1.2,h1.1.trans h2.2⟩
noncomputable def jH(x:SystemT)(q:List Int):PairStepT×Bool :=
 match gI x.sig (bL x) q with
 | some pr=>(⟨q,pr,[],(jR x.sig (bL x) q pr).1⟩,true)
 | none=>match gZ x (bL x) q with
  | some l=>(⟨q,[],lT x.sig l,(wR x.sig (bL x) q (lT x.sig l)).1⟩,true)
  | none=>(⟨[],[],[],[]⟩,false)
theorem uP{x:SystemT}{q pr:List Int}(h:gI x.sig (bL x) q=some pr):jH x q=(⟨q,pr,[],(jR x.sig (bL x) q pr).1⟩,true):=by unfold jH;rw[h]
theorem uL{x:SystemT}{q l:List Int}(h:gI x.sig (bL x) q=none)(h2:gZ x (bL x) q=some l):jH x q=(⟨q,[],lT x.sig l,(wR x.sig (bL x) q (lT x.sig l)).1⟩,true):=by unfold jH;rw[h,h2]
theorem aDj{x:SystemT}{q:List Int}(h:gI x.sig (bL x) q=none)(h2:gZ x (bL x) q=none):jH x q=(⟨[],[],[],[]⟩,false):=by unfold jH;rw[h,h2]
theorem aOh{q gone:List Int}(h:gone≠[])(hs:∀y∈gone,y∈q):(gQ q gone).length<q.length:=by
 obtain⟨y,r,rfl⟩:=List.exists_cons_of_ne_nil h
 have hy:=hs y zH
 have hf:(λn:Int=>decide (n∉y::r)) y=false:=by simp
 exact List.length_filter_lt_length_iff_exists.2 ⟨y,hy,by simp⟩
theorem aLd(rs:List Int)(P:List DepPairT)(set proj:List Int):∀i<=set.length,∀y∈jL rs P set proj i,y∈set
 | 0,_,y,hy=>by cases hy
 | i+1,hi,y,hy=>by
  by_cases h:qI rs proj (P.getD (set.getD i default).toNat default)
  ·rw[aGq h] at hy
   rcases zP.1 hy with hy|hy
   ·exact aLd rs P set proj i (by omega) y hy
   ·rw[zN.1 hy];exact bA set i (by omega)
  ·rw[aNX h] at hy;exact aLd rs P set proj i (by omega) y hy
theorem aKK(rs:List Int)(P:List DepPairT)(set:List Int)(ps:List PolyT):∀i<=set.length,∀y∈wL rs P set ps i,y∈set
 | 0,_,y,hy=>by cases hy
 | i+1,hi,y,hy=>by
  by_cases h:uA rs ps (P.getD (set.getD i default).toNat default)
  ·rw[aHE h] at hy
   rcases zP.1 hy with hy|hy
   ·exact aKK rs P set ps i (by omega) y hy
   ·rw[zN.1 hy];exact bA set i (by omega)
  ·rw[aNA h] at hy;exact aKK rs P set ps i (by omega) y hy
theorem aKs{rs:List Int}{P:List DepPairT}{q pr:List Int}(h:gI rs P q=some pr):QJ rs P q pr/\¬aIV rs (fB P q q.length) rs.length/\pr∈gP (bsP rs (fB P q q.length)):=by
 by_cases hb:aIV rs (fB P q q.length) rs.length
 ·rw[uM hb] at h;cases h
 ·rw[aAa hb] at h
  exact⟨(l4 h).2,hb,(l4 h).1⟩
theorem aJU{x:SystemT}{P:List DepPairT}{q l:List Int}(h:gZ x P q=some l):QM x P q l/\l∈gP (upD (gL x.sig (fB P q q.length))):=by
 by_cases hp:fR (gL x.sig (fB P q q.length)) (gL x.sig (fB P q q.length)).length<=20000
 ·rw[uT hp] at h
  exact⟨(l4 h).2,(l4 h).1⟩
 ·rw[yV hp] at h;cases h
theorem aLP{x:SystemT}{q:List Int}(h:(jH x q).2=true):(gQ q (jH x q).1.gone).length<q.length:=by
 cases hj:gI x.sig (bL x) q with
 | some pr =>
  rw[uP hj]
  obtain⟨⟨h1,h2⟩,_⟩:=aKs hj
  by_cases hA:aUI x.sig (bL x) q pr
  ·rw[aNr hA] at h2 ⊢
   exact aOh (λe=>by have e:jL x.sig (bL x) q pr q.length=[]:=e;rw[e] at h2;simp at h2) (aLd _ _ _ _ _ (zQ _))
  ·rw[aR2 hA] at h1;cases h1
 | none =>
  cases hm:gZ x (bL x) q with
  | some l =>
   rw[uL hj hm]
   obtain⟨⟨_,hA,hne⟩,_⟩:=aJU hm
   rw[aF5 hA]
   exact aOh hne (aKK _ _ _ _ _ (zQ _))
  | none=>rw[aDj hj hm] at h;cases h
noncomputable def trF(x:SystemT)(gr:List (List Int)):Nat->List (List Int)->List PairStepT->List PairStepT×Bool
 | 0,_,out=>(out,true)
 | _+1,[],out=>(out,true)
 | f+1,q::r,out=>cond (jH x q).2 (trF x gr f (fE gr (gQ q (jH x q).1.gone)++r) (out++[(jH x q).1])) ([],false)
theorem aNI{x:SystemT}{gr:List (List Int)}{f:Nat}{out:List PairStepT}:trF x gr (f+1) [] out=(out,true):=rfl
theorem aOy{x:SystemT}{gr:List (List Int)}{f:Nat}{q:List Int}{r:List (List Int)}{out:List PairStepT}(h:(jH x q).2=true):trF x gr (f+1) (q::r) out=trF x gr f (fE gr (gQ q (jH x q).1.gone)++r) (out++[(jH x q).1]):=by rw[trF,h];rfl
theorem aSx{x:SystemT}{gr:List (List Int)}{f:Nat}{q:List Int}{r:List (List Int)}{out:List PairStepT}(h:(jH x q).2=false):trF x gr (f+1) (q::r) out=([],false):=by rw[trF,h];rfl
theorem aIj{x:SystemT}{gr:List (List Int)}{q:List Int}{r:List (List Int)}(h:(jH x q).2=true):rB (fE gr (gQ q (jH x q).1.gone)++r)<rB (q::r):=by
 have h1:=aLP h
 have h2:=@aAw gr (gQ q (jH x q).1.gone)
 rw[aDL]
 simp only[rB]
 omega
open Classical in
noncomputable def nW(x:SystemT):List PairStepT×Bool:=if gC x then trF x (eE x (bL x) (bL x).length) 65 (fE (eE x (bL x) (bL x).length) (upTo (bL x).length)) [] else ([],false)
theorem aCi{x:SystemT}(h:gC x):nW x=trF x (eE x (bL x) (bL x).length) 65 (fE (eE x (bL x) (bL x).length) (upTo (bL x).length)) []:=if_pos h
theorem aEt{x:SystemT}(h:¬gC x):nW x=([],false):=if_neg h
end
end Go.Proofs.YtpennhjjnlkbiaaGreat
