/-
  U07, P26i, P27, A17s, P28, Q1p, K9p, Q5p, K11p, one behind the other.
-/
import Derived.Test.YtpennhjjnlkbiaaGreatG8
import Derived.Test.YtpennhjjnlkbiaaGreatLgK14
import Derived.Test.YtpennhjjnlkbiaaGreatG6
import Derived.Test.YtpennhjjnlkbiaaGreatLgK7
import Derived.Test.YtpennhjjnlkbiaaGreatLgK13
import Derived.Test.YtpennhjjnlkbiaaGreatG3
import Derived.Test.YtpennhjjnlkbiaaGreatG4
namespace Go.Proofs.YtpennhjjnlkbiaaGreat
open Go Go.Lg
set_option linter.unusedSimpArgs false
set_option linter.unusedVariables false
set_option maxHeartbeats 4000000
section
attribute [local irreducible] SW bC bE dE bU FC dO bD
def aEQ:List (Nat×List Nat):=[(0,[0,1,2,6]),(1,[0,1,2,6]),(2,[6]),(3,[6])]
attribute [go_sem] aEQ
theorem aQQ(id:Nat)(rs:List Int)(g f:Nat)(β β':Bds)(hβ:BOK rs β)(a b:List Int)(hA:XT rs a)(hB:XT rs b)(he:eqM rs g f β a b=some (some β')):FC S 117 [] [(id+1000,uC rs β)] [] [.box (id+1000) 0,.sl .any (a.map (.int .i64)),.sl .any (b.map (.int .i64))] (.bool true) [(id+1000,uC rs β')] []:=by
 obtain⟨_,cE⟩:=(aAO rs g id f β a b hβ hA hB).1 β' he
 unfold uC at *
 unfold FC
 refine⟨⟨Tryz.f117,Tryz.func117,by kernel_rfl,rfl⟩,λw G vals hs=>?_⟩
 refine calls_of_wp_defers Tryz.func117 rfl ?_
 have hs0:=aEu (n:=Tryz.f117.ntmps) hs (by simp[Tryz.f117])
 simp only[Tryz.ntmps117,aS,Nat.zero_add,Nat.reduceAdd,List.map_cons,List.map_nil] at hs0 ⊢
 refine wp_seq (aYx (L2:=⟨12,[(0,.box (id+1000) 0),(1,.sl .any (a.map (.int .i64))),(2,.sl .any (b.map (.int .i64))),(6,.box 6 0)],[(id+1000,D.sl .any (rs.map (.int .i64))::β.map bD),(6,[.bool false])],[],[],[id+1000]⟩) hs0 ?_ λG1 a1 w1 hs1=>?_)
 ·refine iS 0 ?_
  refine λ(K:List Oper->LS->Prop) (hK:KOk S 0 _ _ _ K)=>?_
  simp only[go_sem]
  repeat' first|apply aE|apply aJ|refine aI 0 aEQ λK hK=>?_|refine λ(K:KT) (hK:KOk S 0 _ _ _ K)=>?_|((first|apply aD|refine aA (aO ?_)|apply aA);simp(disch:=apply aB;omega)only[go_sem,Tryz.results117])|(apply hK.nil;clear hK K;simp only[go_sem])|apply aL|(with_reducible refine And.intro (by first|omega|(simp only[lens];omega)) ?_)|fail
  apply hK.nil
  (refine aC rfl rfl ?_ ?_ ?_ ?_<;>simp(disch:=apply aB;omega)only[go_sem]<;>(try omega))
 refine wp_seq (aYI 1 (L1:=⟨12,[(0,.box (id+1000) 0),(1,.sl .any (a.map (.int .i64))),(2,.sl .any (b.map (.int .i64))),(6,.box 6 0),(7,.fn 139 [.box 6 0])],[(id+1000,D.sl .any (rs.map (.int .i64))::β.map bD),(6,[.bool false])],[],[],[id+1000]⟩) hs1 ?_ λG2 a2 w2 hs2=>?_)
 ·refine iS 0 ?_
  refine λ(K:List Oper->LS->Prop) (hK:KOk S 0 _ _ _ K)=>?_
  simp only[go_sem]
  repeat' first|apply aE|apply aJ|refine aI 0 aEQ λK hK=>?_|refine λ(K:KT) (hK:KOk S 0 _ _ _ K)=>?_|((first|apply aD|refine aA (aO ?_)|apply aA);simp(disch:=apply aB;omega)only[go_sem,Tryz.results117])|(apply hK.nil;clear hK K;simp only[go_sem])|apply aL|(with_reducible refine And.intro (by first|omega|(simp only[lens];omega)) ?_)|fail
  apply hK.nil
  (refine aC rfl rfl ?_ ?_ ?_ ?_<;>simp(disch:=apply aB;omega)only[go_sem]<;>(try omega))
 obtain⟨v7,hv7,hr7⟩:=hs2.env 7 _ rfl
 cases hr7 with
 | @fn _ _ vl hl hr =>
 obtain⟨u6,rfl⟩:∃u,vl=[u]:=by
  match vl,hl with
  | [u],_=>exact⟨u,rfl⟩
 have h6:=hr 0 (.box 6 0) u6 rfl rfl
 cases h6 with
 | @box _ _ g0 hb =>
 simp only[List.drop_succ_cons,List.drop_zero]
 refine wpList_step λN hN=>?_
 rw[if_pos (by simp[Region.wanted])]
 unfold Oper.wp
 have hrun:∀(ty:TypeId) (pos:String) (aft:Array Go.Edge),(execOp a2.eval ⟨none,.defer ⟨.value (.tmp 7),#[],#[]⟩,ty,pos,aft,none⟩).run S.P w2=.ok (.defer {target:=.fn (.func 139) #[.pointer (some ⟨g0,0,none⟩)],args:=#[]}) w2:=λ_ _ _=>by
  simp[execOp,Act.eval,hv7,resolve,Deferred.ofValue]
 rw[hrun,Oper.upon_defer]
 refine hN _ _ (wpList_nil ?_)
 rw[hs2.defers]
 have hno:∀(R:Ending->World->Prop),(∀w,¬R .outgrown w)->∀a w,¬bodyPostD S.P Tryz.f117 R .outgrown a w:=λR h a w hx=>h w hx
 refine wp_seq (aYh (L2:=⟨12,[(6,.box 6 0)],[(id+1000,D.sl .any (rs.map (.int .i64))::β'.map bD),(6,[.bool false])],[],[],[id+1000]⟩) hs2 (λa w hx=>by obtain⟨v,_,h,_⟩:=hx;cases h) ?_ λG3 a3 w3 hs3=>?_)
 ·refine iS 0 ?_
  refine λ(K:List Oper->LS->Prop) (hK:KOk S 0 _ _ _ K)=>?_
  simp only[go_sem]
  repeat' first|((refine hK.callB rfl rfl rfl (cE) (by refine⟨⟨?_,?_,?_,?_,?_⟩,⟨?_,?_,?_,?_,?_⟩,?_⟩<;>simp[-List.map_set,LS.getBox,Lg.look,D.ids,D.idsL,dF,eO,LS.clean,D.puOk,D.pu,D.pu1,D.tks,D.tksL,b9,c9,dY,dB,dL,eW,dK]) ?_;simp(disch:=apply aB;omega)only[go_sem]))|fail
  apply hK.nil
  (refine aC rfl rfl ?_ ?_ ?_ ?_<;>simp(disch:=apply aB;omega)only[go_sem]<;>(try omega))
 refine wp_seq (aYh (L2:=⟨12,[(6,.box 6 0)],[(id+1000,D.sl .any (rs.map (.int .i64))::β'.map bD),(6,[.bool true])],[],[],[id+1000]⟩) hs3 (λa w hx=>by obtain⟨v,_,h,_⟩:=hx;cases h) ?_ λG4 a4 w4 hs4=>?_)
 ·refine iS 0 ?_
  refine λ(K:List Oper->LS->Prop) (hK:KOk S 0 _ _ _ K)=>?_
  simp only[go_sem]
  repeat' first|apply aE|apply aJ|refine aI 0 aEQ λK hK=>?_|refine λ(K:KT) (hK:KOk S 0 _ _ _ K)=>?_|((first|apply aD|refine aA (aO ?_)|apply aA);simp(disch:=apply aB;omega)only[go_sem,Tryz.results117])|(apply hK.nil;clear hK K;simp only[go_sem])|apply aL|(with_reducible refine And.intro (by first|omega|(simp only[lens];omega)) ?_)|fail
  apply hK.nil
  (refine aC rfl rfl ?_ ?_ ?_ ?_<;>simp(disch:=apply aB;omega)only[go_sem]<;>(try omega))
 have hEn:Lg.Enters S.P 139:=⟨Tryz.f139,Tryz.func139,by kernel_rfl,rfl⟩
 refine wp_ret ?_
 refine leaves_cons (f:=139) (args:=#[.pointer (some ⟨g0,0,none⟩)]) (by simp) (by simp[invoke,iR hEn]) ?_
 refine(aIH ⟨g0,0,none⟩ w4).mono ?_
 rintro e u' w' ⟨rfl,rfl,rfl⟩
 have hRet:Ret S Tryz.f117.results.toList (.bool true) [(id+1000,D.sl .any (rs.map (.int .i64))::β'.map bD)] ⟨12,[(6,.box 6 0)],[(id+1000,D.sl .any (rs.map (.int .i64))::β'.map bD),(6,[.bool true])],[],[],[id+1000]⟩:=by
  rw[Tryz.results117]
  refine aO ?_
  simp only[go_sem]
  all_goals trace_state
 obtain⟨v,hrn,G5,hE⟩:=aOd hs.fixed hs4 hRet
 exact⟨v,hrn,v,G5,rfl,hE⟩
theorem aUe(id:Nat)(rs:List Int)(g f:Nat)(β:Bds)(hβ:BOK rs β)(a b:List Int)(hA:XT rs a)(hB:XT rs b)(he:eqM rs g f β a b=some none):FC S 117 [] [(id+1000,uC rs β)] [] [.box (id+1000) 0,.sl .any (a.map (.int .i64)),.sl .any (b.map (.int .i64))] (.bool false) [] []:=by
 have cX:=(aAO rs g id f β a b hβ hA hB).2 he
 unfold uC at *
 unfold FC
 refine⟨⟨Tryz.f117,Tryz.func117,by kernel_rfl,rfl⟩,λw G vals hs=>?_⟩
 refine calls_of_wp_defers Tryz.func117 rfl ?_
 have hs0:=aEu (n:=Tryz.f117.ntmps) hs (by simp[Tryz.f117])
 simp only[Tryz.ntmps117,aS,Nat.zero_add,Nat.reduceAdd,List.map_cons,List.map_nil] at hs0 ⊢
 refine wp_seq (aYx (L2:=⟨12,[(0,.box (id+1000) 0),(1,.sl .any (a.map (.int .i64))),(2,.sl .any (b.map (.int .i64))),(6,.box 6 0)],[(id+1000,D.sl .any (rs.map (.int .i64))::β.map bD),(6,[.bool false])],[],[],[id+1000]⟩) hs0 ?_ λG1 a1 w1 hs1=>?_)
 ·refine iS 0 ?_
  refine λ(K:List Oper->LS->Prop) (hK:KOk S 0 _ _ _ K)=>?_
  simp only[go_sem]
  repeat' first|apply aE|apply aJ|refine aI 0 aEQ λK hK=>?_|refine λ(K:KT) (hK:KOk S 0 _ _ _ K)=>?_|((first|apply aD|refine aA (aO ?_)|apply aA);simp(disch:=apply aB;omega)only[go_sem,Tryz.results117])|(apply hK.nil;clear hK K;simp only[go_sem])|apply aL|(with_reducible refine And.intro (by first|omega|(simp only[lens];omega)) ?_)|fail
  apply hK.nil
  (refine aC rfl rfl ?_ ?_ ?_ ?_<;>simp(disch:=apply aB;omega)only[go_sem]<;>(try omega))
 refine wp_seq (aYI 1 (L1:=⟨12,[(0,.box (id+1000) 0),(1,.sl .any (a.map (.int .i64))),(2,.sl .any (b.map (.int .i64))),(6,.box 6 0),(7,.fn 139 [.box 6 0])],[(id+1000,D.sl .any (rs.map (.int .i64))::β.map bD),(6,[.bool false])],[],[],[id+1000]⟩) hs1 ?_ λG2 a2 w2 hs2=>?_)
 ·refine iS 0 ?_
  refine λ(K:List Oper->LS->Prop) (hK:KOk S 0 _ _ _ K)=>?_
  simp only[go_sem]
  repeat' first|apply aE|apply aJ|refine aI 0 aEQ λK hK=>?_|refine λ(K:KT) (hK:KOk S 0 _ _ _ K)=>?_|((first|apply aD|refine aA (aO ?_)|apply aA);simp(disch:=apply aB;omega)only[go_sem,Tryz.results117])|(apply hK.nil;clear hK K;simp only[go_sem])|apply aL|(with_reducible refine And.intro (by first|omega|(simp only[lens];omega)) ?_)|fail
  apply hK.nil
  (refine aC rfl rfl ?_ ?_ ?_ ?_<;>simp(disch:=apply aB;omega)only[go_sem]<;>(try omega))
 obtain⟨v7,hv7,hr7⟩:=hs2.env 7 _ rfl
 cases hr7 with
 | @fn _ _ vl hl hr =>
 obtain⟨u6,rfl⟩:∃u,vl=[u]:=by
  match vl,hl with
  | [u],_=>exact⟨u,rfl⟩
 have h6:=hr 0 (.box 6 0) u6 rfl rfl
 cases h6 with
 | @box _ _ g0 hb =>
 simp only[List.drop_succ_cons,List.drop_zero]
 refine wpList_step λN hN=>?_
 rw[if_pos (by simp[Region.wanted])]
 unfold Oper.wp
 have hrun:∀(ty:TypeId) (pos:String) (aft:Array Go.Edge),(execOp a2.eval ⟨none,.defer ⟨.value (.tmp 7),#[],#[]⟩,ty,pos,aft,none⟩).run S.P w2=.ok (.defer {target:=.fn (.func 139) #[.pointer (some ⟨g0,0,none⟩)],args:=#[]}) w2:=λ_ _ _=>by
  simp[execOp,Act.eval,hv7,resolve,Deferred.ofValue]
 rw[hrun,Oper.upon_defer]
 refine hN _ _ (wpList_nil ?_)
 rw[hs2.defers]
 have hEn:Lg.Enters S.P 139:=⟨Tryz.f139,Tryz.func139,by kernel_rfl,rfl⟩
 refine wp_seq (aYU hs2.defers (λa w hx=>by obtain⟨v,_,h,_⟩:=hx;cases h) ?_)
 refine aAu (aAu (aAu ?_))
 have hs3a:=hs2.put (t:=8) (by show 8<12;decide) (aW hs2 (x:=.tmp 0) (d:=.box (id+1000) 0) rfl)
 have hs3b:=hs3a.put (t:=9) (by show 9<12;decide) (aW hs3a (x:=.tmp 1) (d:=.sl .any (a.map (.int .i64))) rfl)
 have hs3:=hs3b.put (t:=10) (by show 10<12;decide) (aW hs3b (x:=.tmp 2) (d:=.sl .any (b.map (.int .i64))) rfl)
 refine aGI hs3 rfl rfl rfl cX ⟨by simp,by simp[Lg.look,LS.put],by simp⟩ 1000000 (by simp[-List.map_set,LS.put,eK,LS.clean,D.tks,D.tksL,b9,c9,dY,aIU,dK]) λG4 w4 hs4=>⟨by simp only[eQ];exact hs2.defers,?_⟩
 refine leaves_cons (f:=139) (args:=#[.pointer (some ⟨g0,0,none⟩)]) (by simp) (by simp[invoke,iR hEn]) ?_
 have hs5:=hs4.less (L':=⟨12,[(6,.box 6 0)],[(6,[.bool false])],[],[],[id+1000]⟩) (by(refine aC rfl rfl ?_ ?_ ?_ ?_<;>simp(disch:=apply aB;omega)only[go_sem]<;>(try omega)))
 obtain⟨y,hy,hry⟩:=hs2.env 6 (.box 6 0) rfl
 cases hry with
 | @box _ _ g2 hb2 =>
 obtain rfl:g0=g2:=zA (hb.symm.trans hb2)
 obtain⟨x6,hx6,hr6⟩:=hs5.env 6 (.box 6 0) rfl
 have hx:x6=.pointer (some ⟨g0,0,none⟩):=by
  have h1:(((a2.put (some 8) (a2.eval (.tmp 0))).put (some 9) ((a2.put (some 8) (a2.eval (.tmp 0))).eval (.tmp 1))).put (some 10) (((a2.put (some 8) (a2.eval (.tmp 0))).put (some 9) ((a2.put (some 8) (a2.eval (.tmp 0))).eval (.tmp 1))).eval (.tmp 2))).tmps[6]?=a2.tmps[6]?:=by
   simp[Act.put,Array.getElem?_setIfInBounds]
  rw[h1,hy] at hx6
  exact(zA hx6).symm
 subst hx
 cases hr6 with
 | box hb4 =>
 obtain⟨g1,k1,⟨vs,e,e1,e2,e3⟩,k3,k4⟩:=hs5.W.boxes 6 [.bool false] rfl
 obtain rfl:g0=g1:=zA (hb4.symm.trans k1)
 have hv0:vs[0]?=some (.bool false):=by
  have hlt:0<vs.size:=by simp at e2;omega
  have:=e3 0 (.bool false) vs[0] rfl (by simp[hlt])
  generalize hvs:vs[0]=v at this
  cases this
  simp[hlt,hvs]
 have hc:w4.cell? ⟨g0,0,none⟩=some (.bool false):=by
  simp[World.cell?,e1,hv0]
 have hz:w4.frozen? ⟨g0,0,none⟩=false:=by
  simp[World.frozen?,e1]
 refine(aM5 ⟨g0,0,none⟩ false w4 hc hz).mono ?_
 rintro e' u' w' ⟨rfl,rfl,rfl⟩
 have hs6:=lX hs5 (.cells #[] 159) 0
 obtain⟨g5,w5,q1,q2,hs7⟩:=yS hs6 (id:=6) (off:=0) (cs:=[.bool false]) (new:=[.bool false]) (vl:=[.bool false]) rfl (by simp) rfl (λj d v hd hv=>by
  match j,hd,hv with
  | 0,hd,hv =>
   simp at hd hv
   subst hd;subst hv
   exact .bool) (by simp[Value.oneCell'])
 have hg5:g0=g5:=zA (k1.symm.trans q1)
 subst hg5
 have hw5:w5=(w4.alloc (.cells #[] 159)).setCell ⟨g0,0,none⟩ (.bool false):=by
  have h1:=q2 S.P
  have hblk:g0<w4.heap.size:=World.block_lt_of_cell? w4 ⟨g0,0,none⟩ hc
  have hc2:(w4.alloc (.cells #[] 159)).cell? ⟨g0,0,none⟩=some (.bool false):=(World.cell?_alloc_old w4 _ ⟨g0,0,none⟩ (Nat.ne_of_lt hblk)).trans hc
  have hz2:(w4.alloc (.cells #[] 159)).frozen? ⟨g0,0,none⟩=false:=(World.frozen?_alloc_old w4 _ ⟨g0,0,none⟩ (Nat.ne_of_lt hblk)).trans hz
  simp[storeCells,go_sem,hc2,hz2] at h1
  exact h1.symm
 subst hw5
 have hRet:Ret S Tryz.f117.results.toList (.bool false) [] ⟨12,[(6,.box 6 0)],[(6,[.bool false])],[],[],[id+1000]⟩:=by
  rw[Tryz.results117]
  refine aO ?_
  simp only[go_sem]
  all_goals trace_state
 obtain⟨v,hrn,G8,hE⟩:=aOd hs.fixed hs7 hRet
 exact⟨v,hrn,v,G8,rfl,hE⟩
end
section
attribute [local irreducible] SW bC bE dE bU FC dO toF dP
theorem aKn(rs:List Int):uC rs b0=[.sl .any (rs.map (.int .i64)),.sl .nil [],.sl .nil [],.sl .nil [],.sl .nil [],.sl .nil [],.sl .nil [],.sl .nil [],.sl .nil [],.sl .nil [],.sl .nil [],.sl .nil [],.sl .nil [],.sl .nil [],.sl .nil [],.sl .nil [],.sl .nil [],.sl .nil [],.sl .nil [],.sl .nil [],.sl .nil [],.sl .nil [],.sl .nil [],.sl .nil [],.sl .nil [],.sl .nil [],.sl .nil [],.sl .nil [],.sl .nil [],.sl .nil [],.sl .nil [],.sl .nil [],.sl .nil [],.sl .nil [],.sl .nil [],.sl .nil [],.sl .nil [],.sl .nil [],.sl .nil [],.sl .nil [],.sl .nil [],.sl .nil [],.sl .nil [],.sl .nil [],.sl .nil [],.sl .nil [],.sl .nil [],.sl .nil [],.sl .nil []]:=by
 unfold uC b0
 simp[List.replicate,rF]
theorem aWX{x:SystemT}(hx:b7 x):∀r∈x.rules,1≤r.l.length:=λr hr=>by
 obtain⟨j,hj,rfl⟩:=List.getElem_of_mem hr
 have:=(hx.2 j hj).1.1.2.1.1
 rwa [zD,zB hj] at this
attribute [local irreducible] bD
def aFY:List (Nat×List Nat):=[(0,[3,4,5]),(1,[3,4,5,18]),(2,[6]),(3,[3,5,7,8]),(4,[3,5,7,27]),(5,[6]),(6,[5,7,9]),(7,[6])]
attribute [go_sem] aFY
theorem aHG(x:SystemT)(hx:b7 x)(p q:DepPairT)(hp:jN x.sig p)(hq:jN x.sig q):FC S 88 [] [] [] [bP x,bK p,bK q] (.bool (tst (p7 x p q))) [] []:=by
 have cC:=aOS x p.r hp.1.2 (aWX hx)
 have hpl:=hp.1.2.2.1
 have hql:=hq.1.1.2.1
 have cW:=aVx q.l (by omega) hq.1.1.ge
 by_cases hh:p.r.getD 0 default=q.l.getD 0 default
 ·by_cases hc:(eC x p.r 60 0 0).2≤24
  ·have hX:=XT.of (aRw hp.1.2 hc)
   obtain⟨f,r,hr,hri⟩:=aQ1 hX hq.1.1
   rw[show decide ((((eC x p.r 60 0 0).2:Nat):Int)≤24)=true from decide_eq_true (by omega)] at cC
   rw[aJp hh hc hri]
   generalize (eC x p.r 60 0 0).1=out at *
   cases r with
   | some β' =>
    have cY:=aQQ 1031 x.sig 60 f b0 β' (aKu _) _ _ hX (XT.away hq.1.1) hr
    rw[aKn] at cY
    show FC S 88 [] [] [] [bP x,bK p,bK q] (.bool true) [] []
    unfold uC at cY
    refine aP Tryz.func88 rfl (by kernel_rfl) (by simp[Tryz.f88]) λB=>?_
    simp only[Tryz.ntmps88,aS,aZ,Nat.reduceAdd]
    repeat' first|((exfalso;omega))|((refine hK.callB rfl rfl rfl (cY) (by refine⟨⟨?_,?_,?_,?_,?_⟩,⟨?_,?_,?_,?_,?_⟩,?_⟩<;>simp[-List.map_set,LS.getBox,Lg.look,D.ids,D.idsL,dF,eO,LS.clean,D.puOk,D.pu,D.pu1,D.tks,D.tksL,b9,c9,dY,dB,dL,eW,dK]) ?_;simp(disch:=apply aB;omega)only[go_sem]))|apply aE|apply aJ|refine aI 2000 aFY λK hK=>?_|refine aY aFY (by kernel_rfl) λK hK=>?_|((first|apply aD|apply aK|refine aA (aO ?_)|apply aA);simp(disch:=apply aB;omega)only[go_sem,Tryz.results88])|(apply hK.nil;clear hK K;simp only[go_sem])|((first|refine aF rfl ?_ ?_)<;>intro h<;>try simp(disch:=apply aB;omega)only[go_sem] at h)|refine hK.c0 rfl rfl rfl (cC) rfl rfl rfl ?_|refine hK.c0 rfl rfl rfl (cW) rfl rfl rfl ?_|(with_reducible refine And.intro (by first|omega|(simp only[lens];omega)) ?_)|fail
    all_goals trace_state
   | none =>
    have cY:=aUe 1031 x.sig 60 f b0 (aKu _) _ _ hX (XT.away hq.1.1) hr
    rw[aKn] at cY
    show FC S 88 [] [] [] [bP x,bK p,bK q] (.bool false) [] []
    refine aP Tryz.func88 rfl (by kernel_rfl) (by simp[Tryz.f88]) λB=>?_
    simp only[Tryz.ntmps88,aS,aZ,Nat.reduceAdd]
    repeat' first|((exfalso;omega))|((refine hK.callB rfl rfl rfl (cY) (by refine⟨⟨?_,?_,?_,?_,?_⟩,⟨?_,?_,?_,?_,?_⟩,?_⟩<;>simp[-List.map_set,LS.getBox,Lg.look,D.ids,D.idsL,dF,eO,LS.clean,D.puOk,D.pu,D.pu1,D.tks,D.tksL,b9,c9,dY,dB,dL,eW,dK]) ?_;simp(disch:=apply aB;omega)only[go_sem]))|apply aE|apply aJ|refine aI 2000 aFY λK hK=>?_|refine aY aFY (by kernel_rfl) λK hK=>?_|((first|apply aD|apply aK|refine aA (aO ?_)|apply aA);simp(disch:=apply aB;omega)only[go_sem,Tryz.results88])|(apply hK.nil;clear hK K;simp only[go_sem])|((first|refine aF rfl ?_ ?_)<;>intro h<;>try simp(disch:=apply aB;omega)only[go_sem] at h)|refine hK.c0 rfl rfl rfl (cC) rfl rfl rfl ?_|refine hK.c0 rfl rfl rfl (cW) rfl rfl rfl ?_|(with_reducible refine And.intro (by first|omega|(simp only[lens];omega)) ?_)|fail
    all_goals trace_state
  ·rw[aFP hh hc]
   rw[show decide ((((eC x p.r 60 0 0).2:Nat):Int)≤24)=false from decide_eq_false (by omega)] at cC
   generalize (eC x p.r 60 0 0).1=out at *
   refine aP Tryz.func88 rfl (by kernel_rfl) (by simp[Tryz.f88]) λB=>?_
   simp only[Tryz.ntmps88,aS,aZ,Nat.reduceAdd]
   repeat' first|((exfalso;omega))|apply aE|apply aJ|refine aI 2000 aFY λK hK=>?_|refine aY aFY (by kernel_rfl) λK hK=>?_|((first|apply aD|apply aK|refine aA (aO ?_)|apply aA);simp(disch:=apply aB;omega)only[go_sem,Tryz.results88])|(apply hK.nil;clear hK K;simp only[go_sem])|((first|refine aF rfl ?_ ?_)<;>intro h<;>try simp(disch:=apply aB;omega)only[go_sem] at h)|refine hK.c0 rfl rfl rfl (cC) rfl rfl rfl ?_|(with_reducible refine And.intro (by first|omega|(simp only[lens];omega)) ?_)|fail
 ·rw[aFI hh]
  refine aP Tryz.func88 rfl (by kernel_rfl) (by simp[Tryz.f88]) λB=>?_
  simp only[Tryz.ntmps88,aS,aZ,Nat.reduceAdd]
  repeat' first|((exfalso;omega))|apply aE|refine aI 2000 aFY λK hK=>?_|refine aY aFY (by kernel_rfl) λK hK=>?_|((first|apply aD|apply aK|refine aA (aO ?_)|apply aA);simp(disch:=apply aB;omega)only[go_sem,Tryz.results88])|(apply hK.nil;clear hK K;simp only[go_sem])|((first|refine aF rfl ?_ ?_)<;>intro h<;>try simp(disch:=apply aB;omega)only[go_sem] at h)|(with_reducible refine And.intro (by first|omega|(simp only[lens];omega)) ?_)|fail
end
section
attribute [local irreducible] SW bC bE dE bU FC dO toF dP p7
open Classical in
noncomputable def nR(x:SystemT)(P:List DepPairT)(p:Nat):Nat->List Int
 | 0=>[]
 | j+1=>if p7 x (P.getD p default) (P.getD j default) then nR x P p j++[(j:Int)] else nR x P p j
noncomputable def eE(x:SystemT)(P:List DepPairT):Nat->List (List Int)
 | 0=>[]
 | i+1=>eE x P i++[nR x P i P.length]
theorem aBe(x:SystemT)(P:List DepPairT)(i:Nat):eE x P (i+1)=eE x P i++[nR x P i P.length]:=rfl
theorem aJk{x:SystemT}{P:List DepPairT}{p j:Nat}(h:p7 x (P.getD p default) (P.getD j default)):nR x P p (j+1)=nR x P p j++[(j:Int)]:=if_pos h
theorem aNB{x:SystemT}{P:List DepPairT}{p j:Nat}(h:¬p7 x (P.getD p default) (P.getD j default)):nR x P p (j+1)=nR x P p j:=if_neg h
theorem vU(x:SystemT)(P:List DepPairT)(p:Nat):∀j,(nR x P p j).length≤j
 | 0=>zQ _
 | j+1=>by
  have ih:=vU x P p j
  unfold nR
  split
  ·rw[zK,List.length_singleton];omega
  ·omega
theorem aDm(x:SystemT)(P:List DepPairT)(p:Nat):∀j,∀q∈nR x P p j,0≤q/\q<j
 | 0,q,h=>by cases h
 | j+1,q,h=>by
  unfold nR at h
  split at h
  ·rcases zP.1 h with h|h
   ·have:=aDm x P p j q h;omega
   ·rw[zN.1 h];omega
  ·have:=aDm x P p j q h;omega
theorem mJ(x:SystemT)(P:List DepPairT):∀i,(eE x P i).length=i
 | 0=>rfl
 | i+1=>by unfold eE;rw[zK,List.length_singleton,mJ x P i]
theorem uS(x:SystemT)(P:List DepPairT):∀i j,j<i->(eE x P i).getD j default=nR x P j P.length
 | i+1,j,h=>by
  have hl:=mJ x P i
  unfold eE
  rw[zD]
  by_cases e:j<i
  ·rw[zL (by omega),←zD]
   exact uS x P i j e
  ·obtain rfl:j=i:=by omega
   rw[zM (by omega),hl,Nat.sub_self];rfl
attribute [local irreducible] nR
def aGE:List (Nat×List Nat):=[(0,[1,2]),(1,[1,2,5]),(2,[1,2,5,6]),(3,[1,2,5,6,13]),(5,[1,2,5,6,7]),(6,[1,2,5,6,7,8]),(7,[1,2,5,6,7,8,20]),(9,[1,2,5,6,7,8,32]),(10,[1,2,5,6,7,8]),(8,[1,2,5,6,7,8]),(11,[1,2,5,6]),(4,[1,2,5,6]),(12,[4])]
attribute [go_sem] aGE
theorem aJr(x:SystemT)(hx:b7 x)(P:List DepPairT)(hP:∀p∈P,jN x.sig p)(hl:P.length≤64):FC S 47 [] [] [] [bP x,.sl .any (P.map bK)] (.sl .any ((eE x P P.length).map b6)) [] []:=by
 have hr0:∀p,nR x P p 0=[]:=λp=>by unfold nR;rfl
 refine aP Tryz.func47 rfl (by kernel_rfl) (by simp[Tryz.f47]) λB=>?_
 simp only[Tryz.ntmps47,aS,aZ,Nat.reduceAdd]
 repeat' first|((refine dW 5 41000 22 1 rfl (.inr rfl) rfl ?_;simp only[go_sem]))|apply aE|apply aG|refine aI 0 aGE λK hK=>?_|((first|apply aD|apply aK|refine aA (aO ?_)|apply aA);simp(disch:=apply aB;omega)only[go_sem,Tryz.results47])|(apply hK.nil;clear hK K;simp only[go_sem])|fail
 refine bG (ι:=Nat) (λi=>[(1,.sl .any (P.map bK)),(2,.box 2 0),(5,.sl (.own 41000 22 1) ((eE x P i).map b6)),(6,.int .i64 i)]) (λ_=>[]) (λ_=>[41000]) (λi=>i≤P.length) (λi=>P.length-i) 0 (by(refine aC rfl rfl ?_ ?_ ?_ ?_<;>simp(disch:=apply aB;omega)only[go_sem]<;>(try omega));all_goals exact⟨rfl,rfl⟩) (by omega) (λi hi=>?_)
 simp only[go_sem]
 have hgl:=mJ x P i
 by_cases hil:i<P.length
 ·repeat' first|((exfalso;omega))|((refine dW 7 37000 2 1 rfl (.inr rfl) rfl ?_;simp only[go_sem]))|apply aE|apply aG|apply aJ|refine aI 0 aGE λK hK=>?_|((first|apply aD|apply aK|refine aA (aO ?_)|apply aA);simp(disch:=apply aB;omega)only[go_sem,Tryz.results47])|(apply hK.nil;clear hK K;simp only[go_sem])|((first|refine aF rfl ?_ ?_)<;>intro h<;>try simp(disch:=apply aB;omega)only[go_sem] at h)|fail
  refine bG (ι:=Nat) (λj=>[(1,.sl .any (P.map bK)),(2,.box 2 0),(5,.sl (.own 41000 22 1) ((eE x P i).map b6)),(6,.int .i64 i),(7,.sl (.own 37000 2 1) ((nR x P i j).map (.int .i64))),(8,.int .i64 j)]) (λ_=>[]) (λ_=>[41000,37000]) (λj=>j≤P.length) (λj=>P.length-j) 0 (by rw[hr0];(refine aC rfl rfl ?_ ?_ ?_ ?_<;>simp(disch:=apply aB;omega)only[go_sem]<;>(try omega));all_goals exact⟨rfl,rfl⟩) (by omega) (λj hj=>?_)
  simp only[go_sem]
  have hrl:=vU x P i j
  by_cases hjl:j<P.length
  ·have cN:=aBC x hx (P.getD i default) (P.getD j default) (hP _ (bA P i hil)) (hP _ (bA P j hjl))
   by_cases hc:p7 x (P.getD i default) (P.getD j default)
   ·rw[bQ hc] at cN
    have e:=aJk hc
    repeat' first|((exfalso;omega))|apply aE|apply aG|apply aM|apply aJ|refine aI 0 aGE λK hK=>?_|refine aY aGE (by kernel_rfl) λK hK=>?_|((first|apply aD|apply aK|refine aA (aO ?_)|apply aA);simp(disch:=apply aB;omega)only[go_sem,Tryz.results47])|(apply hK.nil;clear hK K;simp only[go_sem])|((first|refine aF rfl ?_ ?_)<;>intro h<;>try simp(disch:=apply aB;omega)only[go_sem] at h)|apply aL|refine hK.c0 rfl rfl rfl (cN) rfl rfl rfl ?_|(with_reducible refine And.intro (by first|omega|(simp only[lens];omega)) ?_)|fail
    all_goals exact⟨j+1,(by rw[e];(refine aC rfl rfl ?_ ?_ ?_ ?_<;>simp(disch:=apply aB;omega)only[go_sem]<;>(try omega));all_goals first|(simp;done)|trace_state),by omega,by omega⟩
   ·rw[bH hc] at cN
    have e:=aNB hc
    repeat' first|((exfalso;omega))|apply aE|apply aG|apply aM|apply aJ|refine aI 0 aGE λK hK=>?_|refine aY aGE (by kernel_rfl) λK hK=>?_|((first|apply aD|apply aK|refine aA (aO ?_)|apply aA);simp(disch:=apply aB;omega)only[go_sem,Tryz.results47])|(apply hK.nil;clear hK K;simp only[go_sem])|((first|refine aF rfl ?_ ?_)<;>intro h<;>try simp(disch:=apply aB;omega)only[go_sem] at h)|apply aL|refine hK.c0 rfl rfl rfl (cN) rfl rfl rfl ?_|(with_reducible refine And.intro (by first|omega|(simp only[lens];omega)) ?_)|fail
    all_goals exact⟨j+1,(by rw[e];(refine aC rfl rfl ?_ ?_ ?_ ?_<;>simp(disch:=apply aB;omega)only[go_sem]<;>(try omega))),by omega,by omega⟩
  ·obtain rfl:j=P.length:=by omega
   repeat' first|((exfalso;omega))|apply aE|apply aM|refine aI 0 aGE λK hK=>?_|((first|apply aD|apply aK|refine aA (aO ?_)|apply aA);simp(disch:=apply aB;omega)only[go_sem,Tryz.results47])|(apply hK.nil;clear hK K;simp only[go_sem])|((first|refine aF rfl ?_ ?_)<;>intro h<;>try simp(disch:=apply aB;omega)only[go_sem] at h)|refine aT rfl ?_|apply aL|(with_reducible refine And.intro (by first|omega|(simp only[lens];omega)) ?_)|fail
   all_goals exact⟨i+1,(by rw[aBe];(refine aC rfl rfl ?_ ?_ ?_ ?_<;>simp(disch:=apply aB;omega)only[go_sem]<;>(try omega));all_goals first|(refine⟨?_,?_⟩;(· rw[List.map_append];rfl);(· omega))|trace_state),by omega,by omega⟩
 ·obtain rfl:i=P.length:=by omega
  repeat' first|((exfalso;omega))|apply aE|refine aI 0 aGE λK hK=>?_|((first|apply aD|apply aK|refine aA (aO ?_)|apply aA);simp(disch:=apply aB;omega)only[go_sem,Tryz.results47])|(apply hK.nil;clear hK K;simp only[go_sem])|((first|refine aF rfl ?_ ?_)<;>intro h<;>try simp(disch:=apply aB;omega)only[go_sem] at h)|refine aT rfl ?_|fail
def nD(G:List (List Int))(cur:D)(k j:Nat):D:=if j=k then cur else if j<k then b6 (G.getD j default) else .sl .nil []
def dH(n:Nat)(G:List (List Int))(cur:D)(k:Nat):List D:=(List.range n).map (nD G cur k)
theorem pY(n:Nat)(G:List (List Int))(cur:D)(k:Nat):(dH n G cur k).length=n:=by unfold dH;simp
theorem aMR{n:Nat}{G:List (List Int)}{cur:D}{k:Nat}(h:Om (k<n)):(List.drop k (dH n G cur k)).head?=some cur:=by
 rw[List.head?_drop,dH,zI,List.getElem?_range h.1]
 simp[nD]
theorem aQo{n:Nat}{G:List (List Int)}{cur:D}{k:Nat}(h:k<n):(dH n G cur k)[k]?=some cur:=by
 rw[dH,zI,List.getElem?_range h]
 simp[nD]
theorem aCL{n:Nat}{G:List (List Int)}{cur:D}{k j:Nat}{d:D}(h:(dH n G cur k)[j]?=some d):j<n/\d=nD G cur k j:=by
 have hj:j<n:=by have:=(zE.1 h).1;rwa [pY] at this
 rw[dH,zI,List.getElem?_range hj] at h
 exact⟨hj,(zA h).symm⟩
theorem aMr{n:Nat}{G:List (List Int)}{cur:D}{k:Nat}(x:D):(dH n G cur k).set k x=dH n G x k:=by
 refine List.ext_getElem (by simp[dH]) λj h1 h2=>?_
 have hj:j<n:=by simpa[dH] using h2
 simp only[dH,List.getElem_set,List.getElem_map,List.getElem_range,nD]
 by_cases e:k=j
 ·subst e;simp
 ·have e':¬j=k:=λh=>e h.symm
  simp[e,e']
theorem aAE(n:Nat)(G:List (List Int))(cur:D)(k:Nat)(p:Nat->Bool):(dH n G cur k).map (D.pu1 p)=dH n G (cur.pu1 p) k:=by
 unfold dH
 rw[List.map_map]
 refine List.map_congr_left λj _=>?_
 simp only[Function.comp,nD]
 split
 ·rfl
 ·split<;>rfl
theorem tM(G:List (List Int))(cur:D)(k:Nat):∀n,D.tksL (dH n G cur k)=if k<n then cur.tks else []
 | 0=>rfl
 | n+1=>by
  have happ:∀a b:List D,D.tksL (a++b)=D.tksL a++D.tksL b:=λa b=>by
   induction a with
   | nil=>rfl
   | cons x r ih=>simp only[List.cons_append,D.tksL,ih,List.append_assoc]
  have ih:=tM G cur k n
  unfold dH at ih ⊢
  rw[List.range_succ,List.map_append,happ,ih]
  by_cases e:n=k
  ·subst e;simp[D.tksL,nD]
  ·have h0:(nD G cur k n).tks=[]:=by
    unfold nD;rw[if_neg e];split<;>rfl
   simp only[List.map_cons,List.map_nil,D.tksL,h0,List.append_nil]
   by_cases h:k<n
   ·rw[if_pos h,if_pos (by omega)]
   ·rw[if_neg h,if_neg (by omega)]
theorem aEL(G:List (List Int))(tk:Tk)(xs:List D)(k:Nat):∀n,D.idsL (dH n G (.sl tk xs) k)=[]
 | 0=>rfl
 | n+1=>by
  have happ:∀a b:List D,D.idsL (a++b)=D.idsL a++D.idsL b:=λa b=>by
   induction a with
   | nil=>rfl
   | cons x r ih=>simp only[List.cons_append,D.idsL,ih,List.append_assoc]
  have ih:=aEL G tk xs k n
  unfold dH at ih ⊢
  rw[List.range_succ,List.map_append,happ,ih]
  have h0:(nD G (.sl tk xs) k n).ids=[]:=by
   unfold nD;split
   ·rfl
   ·split<;>rfl
  simp only[List.map_cons,List.map_nil,D.idsL,h0,List.append_nil]
theorem aL7{n:Nat}{G:List (List Int)}{cur:D}{k:Nat}(h:Om (k<n)):D.tksL (dH n G cur k)=cur.tks:=by rw[tM,if_pos h.1]
theorem aAT(n:Nat)(G:List (List Int))(k:Nat):D.tksL (dH n G (.sl .nil []) k)=[]:=by rw[tM];split<;>rfl
theorem aKz(n:Nat)(G:List (List Int))(xs:List D)(k:Nat):D.tksL (dH n G (.sl .any xs) k)=[]:=by rw[tM];split<;>rfl
theorem aJo(n:Nat):(List.replicate n [D.sl Tk.nil []]).flatten=dH n [] (.sl .nil []) 0:=by
 rw[List.flatten_replicate_singleton]
 refine List.ext_getElem (by simp[dH]) λj h1 h2=>?_
 simp only[dH,List.getElem_map,List.getElem_range,List.getElem_replicate,nD]
 split
 ·rfl
 ·rw[if_neg (by omega)]
theorem aKB{n:Nat}{G:List (List Int)}{row:List Int}{tk:Tk}{k:Nat}(hG:G.length=k)(j:Nat)(c d:D)(hc:(dH n G (.sl tk (row.map (.int .i64))) k)[j]?=some c)(hd:(dH n (G++[row]) (.sl .nil []) (k+1))[j]?=some d):D.le c d:=by
 obtain⟨hj,rfl⟩:=aCL hc
 obtain⟨_,rfl⟩:=aCL hd
 unfold nD
 by_cases e:j=k
 ·subst e
  rw[if_pos rfl,if_neg (by omega),if_pos (by omega),zD,zM (by omega),hG,Nat.sub_self]
  exact .any
 ·rw[if_neg e]
  by_cases h:j<k
  ·rw[if_pos h,if_neg (by omega),if_pos (by omega),zD (l:=G++[row]),zL (by omega),←zD]
   exact .refl _
  ·rw[if_neg h]
   split
   ·exact .refl _
   ·rw[if_neg (by omega)];exact .refl _
theorem aDd{n:Nat}{G:List (List Int)}{cur:D}(hG:G.length=n):dH n G cur n=G.map b6:=by
 refine List.ext_getElem (by simp[dH,hG]) λj h1 h2=>?_
 have hj:j<n:=by simpa[dH] using h1
 simp only[dH,List.getElem_map,List.getElem_range,nD]
 rw[if_neg (by omega),if_pos hj,zD,zB (by omega)]
 rfl
theorem aMa(G:List (List Int)):flat (G.map b6)=G.map b6:=by
 induction G with
 | nil=>rfl
 | cons y r ih=>simp only[List.map_cons,flat,List.flatMap_cons] at ih ⊢;rw[ih];rfl
attribute [local go_sem] aMR aMr aAE aL7 aAT aKz aEL pY
attribute [local irreducible] dH
def aMn:List (Nat×List Nat):=[(0,[1,2]),(1,[1,2,5]),(2,[1,2,5,13,14,15]),(3,[1,2,5,13,14,15,16]),(4,[1,2,5,6,7,13,14,15]),(5,[1,2,5,6,7,13,14,15,20,21,22]),(6,[1,2,5,6,7,13,14,15,20,21,22,23]),(7,[1,2,5,6,7,8,9,13,14,15,20,21,22]),(8,[1,2,5,6,7,8,13,14,15,20,21,22,30]),(9,[1,2,5,6,7,13,14,15,20,21,22]),(10,[1,2,5,6,7,13,14,15,20,21,22]),(11,[1,2,5,13,14,15]),(12,[4])]
attribute [go_sem] aMn
theorem aT6(x:SystemT)(hx:b7 x)(P:List DepPairT)(hP:∀p∈P,jN x.sig p)(hl:P.length≤64):FC S 52 [] [] [] [bP x,.sl .any (P.map bK)] (.sl .any ((eE x P P.length).map b6)) [] []:=by
 have hr0:∀p,nR x P p 0=[]:=λp=>by unfold nR;rfl
 refine aP Tryz.func52 rfl (by kernel_rfl) (by simp[Tryz.f52]) λB=>?_
 simp only[Tryz.ntmps52,aS,aZ,Nat.reduceAdd]
 repeat' first|apply aE|apply aG|refine aI 0 aMn λK hK=>?_|((first|apply aD|refine aA (aO ?_)|apply aA);simp(disch:=apply aB;omega)only[go_sem,Tryz.results52])|(apply hK.nil;clear hK K;simp only[go_sem])|(with_reducible refine And.intro (by first|omega|(simp only[lens];omega)) ?_)|fail
 rw[aJo]
 refine bG (ι:=Nat) (λi=>[(15,.int .i64 i)]) (λi=>[(12,dH P.length (eE x P i) (.sl .nil []) i)]) (λ_=>[]) (λi=>i≤P.length) (λi=>P.length-i) 0 (by(refine aC rfl rfl ?_ ?_ ?_ ?_<;>simp(disch:=apply aB;omega)only[go_sem]<;>(try omega));all_goals first|rfl|exact⟨rfl,rfl⟩|trace_state) (by omega) (λi hi=>?_)
 simp only[go_sem]
 have hgl:=mJ x P i
 by_cases hil:i<P.length
 ·repeat' first|((exfalso;omega))|apply aE|apply aG|apply aJ|refine aI 0 aMn λK hK=>?_|((first|apply aD|refine aA (aO ?_)|apply aA);simp(disch:=apply aB;omega)only[go_sem,Tryz.results52])|(apply hK.nil;clear hK K;simp only[go_sem])|((first|refine aF rfl ?_ ?_)<;>intro h<;>try simp(disch:=apply aB;omega)only[go_sem] at h)|(with_reducible refine And.intro (by first|omega|(simp only[lens];omega)) ?_)|fail
  refine aFv 12 i 40000 2 1 (cs:=dH P.length (eE x P i) (.sl .nil []) i) (by simp[LS.purge,qS,Lg.look,aAE,D.pu1]) (aQo hil) (by simp(disch:=apply aB;omega) [LS.purge,LS.clean,qS,D.pu,D.pu1,D.tks,D.tksL,aAE,aAT]) ?_
  simp(disch:=apply aB;omega)only[go_sem]
  refine bG (ι:=Nat) (λj=>[(22,.int .i64 j)]) (λj=>[(12,dH P.length (eE x P i) (.sl (.own 40000 2 1) ((nR x P i j).map (.int .i64))) i)]) (λ_=>[40000]) (λj=>j≤P.length) (λj=>P.length-j) 0 (by rw[hr0];(refine aC rfl rfl ?_ ?_ ?_ ?_<;>simp(disch:=apply aB;omega)only[go_sem]<;>(try omega));all_goals first|rfl|exact⟨rfl,rfl⟩|trace_state) (by omega) (λj hj=>?_)
  simp(disch:=apply aB;omega)only[go_sem]
  have hrl:=vU x P i j
  by_cases hjl:j<P.length
  ·have cN:=aHG x hx (P.getD i default) (P.getD j default) (hP _ (bA P i hil)) (hP _ (bA P j hjl))
   by_cases hc:p7 x (P.getD i default) (P.getD j default)
   ·rw[bQ hc] at cN
    have e:=aJk hc
    repeat' first|((exfalso;omega))|apply aE|apply aG|apply aM|apply aJ|refine aI 0 aMn λK hK=>?_|((first|apply aD|refine aA (aO ?_)|apply aA);simp(disch:=apply aB;omega)only[go_sem,Tryz.results52])|(apply hK.nil;clear hK K;simp only[go_sem])|((first|refine aF rfl ?_ ?_)<;>intro h<;>try simp(disch:=apply aB;omega)only[go_sem] at h)|apply aL|refine hK.c0 rfl rfl rfl (cN) rfl rfl rfl ?_|(with_reducible refine And.intro (by first|omega|(simp only[lens];omega)) ?_)|fail
    all_goals exact⟨j+1,(by rw[e];(refine aC rfl rfl ?_ ?_ ?_ ?_<;>simp(disch:=apply aB;omega)only[go_sem]<;>(try omega));all_goals first|(simp;done)|trace_state),by omega,by omega⟩
   ·rw[bH hc] at cN
    have e:=aNB hc
    repeat' first|((exfalso;omega))|apply aE|apply aG|apply aM|apply aJ|refine aI 0 aMn λK hK=>?_|((first|apply aD|refine aA (aO ?_)|apply aA);simp(disch:=apply aB;omega)only[go_sem,Tryz.results52])|(apply hK.nil;clear hK K;simp only[go_sem])|((first|refine aF rfl ?_ ?_)<;>intro h<;>try simp(disch:=apply aB;omega)only[go_sem] at h)|apply aL|refine hK.c0 rfl rfl rfl (cN) rfl rfl rfl ?_|(with_reducible refine And.intro (by first|omega|(simp only[lens];omega)) ?_)|fail
    all_goals exact⟨j+1,(by rw[e];(refine aC rfl rfl ?_ ?_ ?_ ?_<;>simp(disch:=apply aB;omega)only[go_sem]<;>(try omega));all_goals first|(simp;done)|trace_state),by omega,by omega⟩
  ·obtain rfl:j=P.length:=by omega
   refine aJj 12 (dH P.length (eE x P i++[nR x P i P.length]) (.sl .nil []) (i+1)) rfl (by rw[pY,pY]) (aKB hgl) ?_
   simp(disch:=apply aB;omega)only[go_sem]
   repeat' first|((exfalso;omega))|apply aE|apply aM|refine aI 0 aMn λK hK=>?_|((first|apply aD|refine aA (aO ?_)|apply aA);simp(disch:=apply aB;omega)only[go_sem,Tryz.results52])|(apply hK.nil;clear hK K;simp only[go_sem])|((first|refine aF rfl ?_ ?_)<;>intro h<;>try simp(disch:=apply aB;omega)only[go_sem] at h)|refine aT rfl ?_|apply aL|fail
   all_goals exact⟨i+1,(by rw[aBe];(refine aC rfl rfl ?_ ?_ ?_ ?_<;>simp(disch:=apply aB;omega)only[go_sem]<;>(try omega));all_goals first|(simp;done)|trace_state),by omega,by omega⟩
 ·obtain rfl:i=P.length:=by omega
  refine kQ 5 1 .any ((eE x P P.length).map b6) rfl rfl (by rw[aDd hgl];exact(aMa _).symm) (by rw[zC,hgl]) (λd hd=>by obtain⟨y,_,rfl⟩:=zJ.1 hd;rfl) (by rw[aDd hgl];intro d hd;obtain⟨y,_,rfl⟩:=zJ.1 hd;rfl) (.inl rfl) ?_
  simp only[go_sem]
  repeat' first|((exfalso;omega))|apply aE|refine aI 0 aMn λK hK=>?_|((first|apply aD|refine aA (aO ?_)|apply aA);simp(disch:=apply aB;omega)only[go_sem,Tryz.results52])|(apply hK.nil;clear hK K;simp only[go_sem])|((first|refine aF rfl ?_ ?_)<;>intro h<;>try simp(disch:=apply aB;omega)only[go_sem] at h)|refine aT rfl ?_|fail
end
section
attribute [local irreducible] SW bC bE dE bU FC dO toF dP fV fD sumF bR
end
section
attribute [local irreducible] SW bC bE dE bU FC dO toF dP p7 fE eE
section
variable {set:List Int} {n:Nat}
theorem aJi(h:fI set n):∀d i,i+d+1<set.length->set.getD i default<set.getD (i+d+1) default
 | 0,i,hi=>(h (i+1) hi).2 (by omega)
 | d+1,i,hi=>by
  have h1:=aJi h d i (by omega)
  have h2:=(h (i+(d+1)+1) hi).2 (by omega)
  rw[show i+(d+1)+1-1=i+d+1 by omega] at h2
  omega
theorem pO(h:fI set n):lQ set:=by
 refine List.pairwise_iff_getElem.2 λi j hi hj hij=>?_
 have:=aJi h (j-i-1) i (by omega)
 rw[show i+(j-i-1)+1=j by omega,zD,zD,zB hi,zB hj] at this
 exact this
theorem rX(h:fI set n):∀q∈set,0≤q/\q<n:=λq hq=>by
 obtain⟨j,hj,rfl⟩:=List.getElem_of_mem hq
 have:=(h j hj).1
 rwa [zD,zB hj] at this
theorem aIR(h:fI set n):(c8 set).Nodup:=by
 unfold c8
 refine List.pairwise_map.2 ((pO h).imp_of_mem λ{a b} ha hb hab=>?_)
 have h1:=rX h a ha
 have h2:=rX h b hb
 omega
end
theorem aIf{x:SystemT}(hP:gH x):(eE x (bL x) (bL x).length).length=(bL x).length/\(∀i<(eE x (bL x) (bL x).length).length,((eE x (bL x) (bL x).length).getD i default).length≤64)/\∀i<(eE x (bL x) (bL x).length).length,∀j<((eE x (bL x) (bL x).length).getD i default).length,0≤((eE x (bL x) (bL x).length).getD i default).getD j default/\((eE x (bL x) (bL x).length).getD i default).getD j default<(bL x).length:=by
 have h64:(bL x).length≤64:=hP.2
 have hl:=mJ x (bL x) (bL x).length
 refine⟨hl,λi hi=>?_,λi hi j hj=>?_⟩
 ·rw[uS x (bL x) _ i (by omega)]
  have:=vU x (bL x) i (bL x).length
  omega
 ·rw[uS x (bL x) _ i (by omega)] at hj ⊢
  exact aDm x (bL x) i _ _ (bA _ j hj)
end
section
def p8(rs proj:List Int):Prop:=(eA rs/\proj.length=rs.length)/\∀f<rs.length,-1≤proj.getD f default/\proj.getD f default≤rs.getD f default-1
def iT(rs proj t:List Int):List Int:=if proj.getD (t.getD 0 default).toNat default<0 then [] else jV rs t (proj.getD (t.getD 0 default).toNat default).toNat
theorem aGh{rs proj t:List Int}(h:proj.getD (t.getD 0 default).toNat default<0):iT rs proj t=[]:=if_pos h
theorem aCZ{rs proj t:List Int}(h:¬proj.getD (t.getD 0 default).toNat default<0):iT rs proj t=jV rs t (proj.getD (t.getD 0 default).toNat default).toNat:=if_neg h
theorem aGz{rs proj t:List Int}(hj:p8 rs proj)(hT:aX rs t)(h0:0≤t.getD 0 default):(t.getD 0 default).toNat<proj.length/\(-1≤proj.getD (t.getD 0 default).toNat default/\proj.getD (t.getD 0 default).toNat default≤2)/\(0≤proj.getD (t.getD 0 default).toNat default->(proj.getD (t.getD 0 default).toNat default).toNat<(arS rs (t.getD 0 default)).toNat):=by
 have hl:=hT.low (a:=0) hT.2.1.1
 have hlt:(t.getD 0 default).toNat<rs.length:=by omega
 have h1:=hj.2 _ hlt
 have h2:=hj.1.1.2 _ hlt
 have h3:=jZ (rs:=rs) (n:=t.getD 0 default) ⟨h0,by omega⟩
 have h4:=hj.1.2
 refine⟨by omega,by omega,λh=>?_⟩
 rw[h3];omega
theorem aN7{rs proj t:List Int}(hj:p8 rs proj)(hT:aX rs t)(h0:0≤t.getD 0 default)(h:iT rs proj t≠[]):aX rs (iT rs proj t):=by
 obtain⟨h1,h2,h3⟩:=aGz hj hT h0
 rcases Classical.em (proj.getD (t.getD 0 default).toNat default<0) with hn|hn
 ·exact absurd (aGh hn) h
 ·rw[aCZ hn]
  exact(i7 hT (h3 (by omega))).1
theorem aBc{rs t u:List Int}(hT:aX rs t):mH rs t 0 u↔t=u∨mH rs t 1 u:=by
 constructor
 ·rintro⟨a,⟨_,h1⟩,h2⟩
  rcases Nat.eq_zero_or_pos a with rfl|ha
  ·rw[kN hT] at h2;exact .inl h2
  ·exact .inr ⟨a,⟨ha,h1⟩,h2⟩
 ·rintro (rfl|⟨a,⟨_,h1⟩,h2⟩)
  ·exact⟨0,⟨zQ _,hT.2.1.1⟩,kN hT⟩
  ·exact⟨a,⟨Nat.zero_le _,h1⟩,h2⟩
def rL(rs proj:List Int)(p:DepPairT):Prop:=(iT rs proj p.l≠[]/\iT rs proj p.r≠[])/\mH rs (iT rs proj p.l) 1 (iT rs proj p.r)
def oH(rs proj:List Int)(p:DepPairT):Prop:=(iT rs proj p.l≠[]/\iT rs proj p.r≠[])/\(iT rs proj p.l=iT rs proj p.r∨mH rs (iT rs proj p.l) 1 (iT rs proj p.r))
open Classical in
noncomputable def jL(rs:List Int)(P:List DepPairT)(set proj:List Int):Nat->List Int
 | 0=>[]
 | i+1=>if rL rs proj (P.getD (set.getD i default).toNat default) then jL rs P set proj i++[set.getD i default] else jL rs P set proj i
theorem aGv{rs:List Int}{P:List DepPairT}{set proj:List Int}{i:Nat}(h:rL rs proj (P.getD (set.getD i default).toNat default)):jL rs P set proj (i+1)=jL rs P set proj i++[set.getD i default]:=if_pos h
theorem aOb{rs:List Int}{P:List DepPairT}{set proj:List Int}{i:Nat}(h:¬rL rs proj (P.getD (set.getD i default).toNat default)):jL rs P set proj (i+1)=jL rs P set proj i:=if_neg h
theorem aMc(rs:List Int)(P:List DepPairT)(set proj:List Int):∀i,(jL rs P set proj i).length≤i
 | 0=>zQ _
 | i+1=>by
  have ih:=aMc rs P set proj i
  by_cases h:rL rs proj (P.getD (set.getD i default).toNat default)
  ·rw[aGv h,zK];simp;omega
  ·rw[aOb h];omega
def aVf(rs:List Int)(P:List DepPairT)(set proj:List Int):Prop:=∀i<set.length,oH rs proj (P.getD (set.getD i default).toNat default)
open Classical in
noncomputable def jR(rs:List Int)(P:List DepPairT)(set proj:List Int):List Int×Bool:=if aVf rs P set proj then (jL rs P set proj set.length,true) else ([],false)
theorem aMi{rs:List Int}{P:List DepPairT}{set proj:List Int}(h:aVf rs P set proj):jR rs P set proj=(jL rs P set proj set.length,true):=if_pos h
theorem aTt{rs:List Int}{P:List DepPairT}{set proj:List Int}(h:¬aVf rs P set proj):jR rs P set proj=([],false):=if_neg h
def xB(x:SystemT)(set proj:List Int):Prop:=(gH x/\fI set (bL x).length)/\p8 x.sig proj
open Classical in
noncomputable def aJZ(x:SystemT)(set proj:List Int):List Int×Bool:=if xB x set proj then jR x.sig (bL x) set proj else ([],false)
theorem aAx{x:SystemT}{set proj:List Int}(h:xB x set proj):aJZ x set proj=jR x.sig (bL x) set proj:=if_pos h
theorem aTr{x:SystemT}{set proj:List Int}(h:¬xB x set proj):aJZ x set proj=([],false):=if_neg h
def gQ(set gone:List Int):List Int:=set.filter λn=>decide (n∉gone)
theorem aIz{set gone:List Int}{i:Nat}(hi:i<set.length)(h:set.getD i default∉gone):gQ (set.take (i+1)) gone=gQ (set.take i) gone++[set.getD i default]:=by
 unfold gQ
 rw[gW hi,List.filter_append]
 simp only[List.filter_cons,List.filter_nil,decide_eq_true h,if_true]
theorem aOa{set gone:List Int}{i:Nat}(hi:i<set.length)(h:¬set.getD i default∉gone):gQ (set.take (i+1)) gone=gQ (set.take i) gone:=by
 unfold gQ
 rw[gW hi,List.filter_append]
 simp only[List.filter_cons,List.filter_nil,decide_eq_false h,Bool.false_eq_true,if_false,List.append_nil]
theorem oN(set gone:List Int):(gQ set gone).length≤set.length:=List.length_filter_le _ _
theorem aCP{set:List Int}{n:Nat}(hs:lQ set)(h:∀q∈set,0≤q/\q<n):fI set n:=λi hi=>by
 refine⟨h _ (bA set i hi),λh0=>?_⟩
 have:=List.pairwise_iff_getElem.1 hs (i-1) i (by omega) hi (by omega)
 rw[zD,zD,zB hi,zB (by omega)]
 exact this
theorem xG{set gone:List Int}{n:Nat}(h:fI set n):fI (gQ set gone) n :=
 aCP ((pO h).filter _) λq hq=>rX h q (List.mem_filter.1 hq).1
theorem aFs{edges:List (List Int)}{set:List Int}{n:Nat}(h:fI set n):∀y∈fE edges set,fI y n:=by
 have key:∀(C:Nat->Nat->Bool) i,∀y∈cmp C set i,∃p qs j,y=qI C p qs j/\qs.Sublist set:=by
  intro C i
  induction i with
  | zero=>intro y hy;cases hy
  | succ i ih =>
   intro y hy
   unfold cmp at hy
   split at hy
   ·rcases zP.1 hy with hy|hy
    ·exact ih y hy
    ·rw[zN.1 hy];exact⟨_,_,_,rfl,List.drop_sublist _ _⟩
   ·exact ih y hy
 intro y hy
 obtain⟨p,qs,j,rfl,hq⟩:=key _ _ y hy
 have hsub:(qI (wM (c8 set) (r0 edges set) set.length) p qs j).Sublist set:=((List.filter_sublist).trans (List.take_sublist j qs)).trans hq
 exact aCP ((pO h).sublist hsub) λq hq'=>rX h q (hsub.subset hq')
theorem oV{edges:List (List Int)}{set:List Int}:(fE edges set).length≤set.length:=aBJ _ _ _
open Classical in
noncomputable def aGP(rs:List Int)(H:Int->Prop)(f:Nat):Int×Int:=if H f then (0,rs.getD f default-1) else (-1,-1)
theorem oD{rs:List Int}{H:Int->Prop}{f:Nat}(h:H f):aGP rs H f=(0,rs.getD f default-1):=if_pos h
theorem vO{rs:List Int}{H:Int->Prop}{f:Nat}(h:¬H f):aGP rs H f=(-1,-1):=if_neg h
noncomputable def bsP(rs:List Int)(H:Int->Prop):List (Int×Int):=(List.range rs.length).map (aGP rs H)
theorem aBG(rs:List Int)(H:Int->Prop):(bsP rs H).length=rs.length:=by simp[bsP]
theorem aTl{rs:List Int}{H:Int->Prop}{f:Nat}(h:f<rs.length):(bsP rs H).getD f default=aGP rs H f:=by
 simp[bsP,List.getD,zI,List.getElem?_range h]
def aJH(rs:List Int)(H:Int->Prop)(n:Nat):Prop:=∃f<n,H (f:Int)/\rs.getD f default=0
theorem aLZ{rs:List Int}{H:Int->Prop}(hs:eA rs)(h:¬aJH rs H rs.length):∀b∈bsP rs H,b.1≤b.2:=λb hb=>by
 obtain⟨f,hf,rfl⟩:=zJ.1 hb
 have hf:=List.mem_range.1 hf
 have h1:=hs.2 f hf
 by_cases hH:H f
 ·rw[oD hH]
  have:rs.getD f default≠0:=λe=>h ⟨f,hf,hH,e⟩
  show (0:Int)≤rs.getD f default-1
  omega
 ·rw[vO hH];exact Int.le_refl _
theorem tB{rs:List Int}{H:Int->Prop}{l:List Int}(hs:eA rs)(hd:nS (bsP rs H) l):p8 rs l:=by
 have hl:l.length=rs.length:=by rw[jB hd,aBG]
 refine⟨⟨hs,hl⟩,λf hf=>?_⟩
 have h1:=aHl hd f (by rw[aBG];exact hf)
 rw[aTl hf] at h1
 have h2:=hs.2 f hf
 by_cases hH:H f
 ·rw[oD hH] at h1
  have h3:0≤l.getD f default/\l.getD f default≤rs.getD f default-1:=h1
  omega
 ·rw[vO hH] at h1
  have h3:-1≤l.getD f default/\l.getD f default≤-1:=h1
  omega
theorem aTB{rs:List Int}{H:Int->Prop}{l:List Int}(hs:eA rs)(hd:nS (bsP rs H) l):∀x∈l,-1≤x/\x≤1000:=λx hx=>by
 obtain⟨i,hi,rfl⟩:=List.getElem_of_mem hx
 have hj:=tB hs hd
 have h1:=hj.2 i (by rw[←hj.1.2];exact hi)
 have h2:=hs.2 i (by rw[←hj.1.2];exact hi)
 rw[zD,zB hi,Option.getD_some] at h1
 omega
def QJ(rs:List Int)(P:List DepPairT)(set l:List Int):Prop:=(jR rs P set l).2=true/\(0:Int)<(jR rs P set l).1.length
open Classical in
noncomputable def gG(rs:List Int)(P:List DepPairT)(set:List Int):Option (List Int) :=
 if aJH rs (fC P set set.length) rs.length then none else fK (QJ rs P set) (gL (bsP rs (fC P set set.length)))
theorem vD{rs:List Int}{P:List DepPairT}{set:List Int}(h:aJH rs (fC P set set.length) rs.length):gG rs P set=none:=if_pos h
theorem aAl{rs:List Int}{P:List DepPairT}{set:List Int}(h:¬aJH rs (fC P set set.length) rs.length):gG rs P set=fK (QJ rs P set) (gL (bsP rs (fC P set set.length))):=if_neg h
def vK:Option (List Int)->List Int×Bool
 | some l=>(l,true)
 | none=>([],false)
open Classical in
noncomputable def vN(x:SystemT)(set:List Int):List Int×Bool:=if m8 x set then vK (gG x.sig (bL x) set) else ([],false)
theorem aDu{x:SystemT}{set:List Int}(h:m8 x set):vN x set=vK (gG x.sig (bL x) set):=if_pos h
theorem aQy{x:SystemT}{set:List Int}(h:¬m8 x set):vN x set=([],false):=if_neg h
noncomputable def aDo(rs:List Int)(H:Int->Prop)(n:Nat):List Int:=(List.range n).map λf=>(aGP rs H f).1
theorem aEl{rs:List Int}{H:Int->Prop}{f:Nat}(h:H f):aDo rs H (f+1)=aDo rs H f++[0]:=by
 simp[aDo,List.range_succ,oD h]
theorem aG1{rs:List Int}{H:Int->Prop}{f:Nat}(h:¬H f):aDo rs H (f+1)=aDo rs H f++[-1]:=by
 simp[aDo,List.range_succ,vO h]
theorem aSM(rs:List Int)(H:Int->Prop):aDo rs H rs.length=jX (bsP rs H):=by simp[aDo,jX,bsP]
theorem aT0(rs:List Int)(H:Int->Prop)(n:Nat):(aDo rs H n).length=n:=by simp[aDo]
noncomputable def jH(rs:List Int)(H:Int->Prop)(g:Int×Int->Int)(f:Nat):List Int:=(List.range rs.length).map λj=>if j<f then g (aGP rs H j) else -1
theorem tP(rs:List Int)(H:Int->Prop)(g:Int×Int->Int)(f:Nat):(jH rs H g f).length=rs.length:=by simp[jH]
theorem aDN(rs:List Int)(H:Int->Prop)(g:Int×Int->Int):jH rs H g 0=List.replicate rs.length (-1):=by
 refine List.ext_getElem (by simp[jH]) λj h1 h2=>?_
 simp[jH]
theorem aE2{rs:List Int}{H:Int->Prop}{g:Int×Int->Int}{f:Nat}:(jH rs H g f).set f (g (aGP rs H f))=jH rs H g (f+1):=by
 refine List.ext_getElem (by simp[jH]) λj h1 h2=>?_
 simp only[jH,List.getElem_set,List.getElem_map,List.getElem_range]
 by_cases e:f=j
 ·subst e;rw[if_pos rfl,if_pos (by omega)]
 ·rw[if_neg e]
  by_cases h:j<f
  ·rw[if_pos h,if_pos (by omega)]
  ·rw[if_neg h,if_neg (by omega)]
theorem aCn{rs:List Int}{H:Int->Prop}{g:Int×Int->Int}{f:Nat}(h:¬H f)(hg:g (-1,-1)=-1):jH rs H g f=jH rs H g (f+1):=by
 refine List.ext_getElem (by simp[jH]) λj h1 h2=>?_
 simp only[jH,List.getElem_map,List.getElem_range]
 by_cases h3:j<f
 ·rw[if_pos h3,if_pos (by omega)]
 ·rw[if_neg h3]
  by_cases h4:j<f+1
  ·obtain rfl:j=f:=by omega
   rw[if_pos h4,vO h,hg]
  ·rw[if_neg h4]
theorem aFK(rs:List Int)(H:Int->Prop)(g:Int×Int->Int):jH rs H g rs.length=(bsP rs H).map g:=by
 refine List.ext_getElem (by simp[jH,bsP]) λj h1 h2=>?_
 simp only[jH,bsP,List.getElem_map,List.getElem_range]
 rw[if_pos (by simpa[jH] using h1)]
theorem sC{rs:List Int}{H:Int->Prop}{g:Int×Int->Int}{f j:Nat}(hj:j<rs.length):(jH rs H g f).getD j default=if j<f then g (aGP rs H j) else -1:=by
 simp[jH,List.getD,zI,List.getElem?_range hj]
end
section
section
variable {x:SystemT} {gr:List (List Int)} {n:Nat} {list:List PairStepT}
theorem vJ(n:Nat):fI (upTo n) n:=aCP (aAK n) λq hq=>(aDH n q).1 hq
def aDr(n i:Nat)(T:List (List Int)):Prop:=(∀y∈T,fI y n)/\T.length≤64*(i+1)
theorem aSE(hn:n≤64):aDr n 0 (fE gr (upTo n)):=by
 refine⟨aFs (vJ n),?_⟩
 have:=@oV gr (upTo n)
 have h:(upTo n).length=n:=by simp[upTo]
 omega
theorem aMw(hn:n≤64){i:Nat}{q:List Int}{r:List (List Int)}(h:aDr n i (q::r)){g:List Int}:aDr n (i+1) (fE gr (gQ q g)++r):=by
 have hq:=h.1 q zH
 refine⟨λy hy=>?_,?_⟩
 ·rcases zP.1 hy with hy|hy
  ·exact aFs (xG hq) y hy
  ·exact h.1 y (zG _ hy)
 ·have h1:=@oV gr (gQ q g)
  have h2:=oN q g
  have h3:=lO hq
  have h4:=h.2
  rw[zK]
  rw[List.length_cons] at h4
  omega
end
end
section
def q9:List (List Int)->Nat
 | []=>0
 | q::r=>q.length+q9 r
theorem aB1:∀A B:List (List Int),q9 (A++B)=q9 A+q9 B
 | [],B=>by simp[q9]
 | a::A,B=>by simp only[List.cons_append,q9,aB1 A B];omega
theorem aE7{α:Type}(A B:α->Bool):∀l:List α,(∀x∈l,A x=true->B x=false)->(l.filter A).length+(l.filter B).length=(l.filter λx=>A x||B x).length
 | [],_=>rfl
 | x::l,h=>by
  have ih:=aE7 A B l λy hy=>h y (zG _ hy)
  have hx:=h x zH
  cases hA:A x with
  | true =>
   rw[List.filter_cons_of_pos hA,List.filter_cons_of_neg (by rw[hx hA];simp),List.filter_cons_of_pos (by simp[hA])]
   simp only[List.length_cons];omega
  | false =>
   cases hB:B x with
   | true =>
    rw[List.filter_cons_of_neg (by rw[hA];simp),List.filter_cons_of_pos hB,List.filter_cons_of_pos (by simp[hB])]
    simp only[List.length_cons];omega
   | false =>
    rw[List.filter_cons_of_neg (by rw[hA];simp),List.filter_cons_of_neg (by rw[hB];simp),List.filter_cons_of_neg (by simp[hA,hB])]
    exact ih
theorem aN9{C:Nat->Nat->Bool}{set:List Int}(ht:∀a∈c8 set,∀b∈c8 set,∀c∈c8 set,eL C a b=true->eL C c b=true->eL C c a=true) :
  ∀k,k≤set.length->q9 (cmp C set k)≤(set.filter λq=>(List.range k).any λi=>tst (okC C set i)&&eL C (set.getD i default).toNat q.toNat).length
 | 0,_=>Nat.zero_le _
 | k+1,hk=>by
  have ih:=aN9 ht k (by omega)
  have hin:∀i,i<set.length->(set.getD i default).toNat∈c8 set:=λi hi=>zJ.2 ⟨_,bA set i hi,rfl⟩
  have hstep:(set.filter λq=>(List.range (k+1)).any λi=>tst (okC C set i)&&eL C (set.getD i default).toNat q.toNat)=set.filter λq=>((List.range k).any λi=>tst (okC C set i)&&eL C (set.getD i default).toNat q.toNat)||(tst (okC C set k)&&eL C (set.getD k default).toNat q.toNat):=by
   congr 1;funext q
   rw[List.range_succ,List.any_append];simp
  rw[hstep]
  by_cases h:okC C set k
  ·rw[aBP h,aB1,←aE7 _ _ set (λq hq hA=>?_)]
   ·have h1:q9 [qI C (set.getD k default).toNat (set.drop k) (set.length-k)]≤(set.filter λq=>tst (okC C set k)&&eL C (set.getD k default).toNat q.toNat).length:=by
     simp only[q9,Nat.add_zero,qI,bQ h,Bool.true_and]
     exact(((List.take_sublist _ _).trans (List.drop_sublist k set)).filter _).length_le
    omega
   ·rw[bQ h,Bool.true_and]
    obtain⟨i,hi,hi2⟩:=List.any_eq_true.1 hA
    have hi:=List.mem_range.1 hi
    simp only[Bool.and_eq_true] at hi2
    cases hB:eL C (set.getD k default).toNat q.toNat with
    | false=>rfl
    | true =>
     have:=ht _ (hin i (by omega)) q.toNat (zJ.2 ⟨q,hq,rfl⟩) _ (hin k (by omega)) hi2.2 hB
     rw[h.2 i hi] at this
     cases this
  ·rw[aC5 h,bH h]
   simpa using ih
theorem yI{edges:List (List Int)}{set:List Int}:q9 (fE edges set)≤set.length:=by
 have htc:∀a∈c8 set,∀b∈c8 set,wM (c8 set) (r0 edges set) set.length a b=true↔TC (r0 edges set) a b:=λa ha b hb=>by
  have:=aWh (r:=r0 edges set) (ps:=c8 set) (λp q h=>aTM h) ha hb
  rwa [vQ] at this
 have hb:∀a∈c8 set,∀b∈c8 set,eL (wM (c8 set) (r0 edges set) set.length) a b=true↔TC (r0 edges set) a b/\TC (r0 edges set) b a:=λa ha b hb=>by
  unfold eL
  rw[Bool.and_eq_true,htc a ha b hb,htc b hb a ha]
 refine Nat.le_trans (aN9 (λa ha b hb' c hc h1 h2=>?_) _ (zQ _)) (List.length_filter_le _ _)
 rw[hb a ha b hb'] at h1
 rw[hb c hc b hb'] at h2
 rw[hb c hc a ha]
 exact⟨h2.1.trans h1.2,h1.1.trans h2.2⟩
noncomputable def jD(x:SystemT)(q:List Int):PairStepT×Bool :=
 match gG x.sig (bL x) q with
 | some pr=>(⟨q,pr,[],(jR x.sig (bL x) q pr).1⟩,true)
 | none=>match gY x (bL x) q with
  | some l=>(⟨q,[],lT x.sig l,(wR x.sig (bL x) q (lT x.sig l)).1⟩,true)
  | none=>(⟨[],[],[],[]⟩,false)
theorem uQ{x:SystemT}{q pr:List Int}(h:gG x.sig (bL x) q=some pr):jD x q=(⟨q,pr,[],(jR x.sig (bL x) q pr).1⟩,true):=by unfold jD;rw[h]
theorem vF{x:SystemT}{q l:List Int}(h:gG x.sig (bL x) q=none)(h2:gY x (bL x) q=some l):jD x q=(⟨q,[],lT x.sig l,(wR x.sig (bL x) q (lT x.sig l)).1⟩,true):=by unfold jD;rw[h,h2]
theorem aCV{x:SystemT}{q:List Int}(h:gG x.sig (bL x) q=none)(h2:gY x (bL x) q=none):jD x q=(⟨[],[],[],[]⟩,false):=by unfold jD;rw[h,h2]
theorem aN8{q gone:List Int}(h:gone≠[])(hs:∀y∈gone,y∈q):(gQ q gone).length<q.length:=by
 obtain⟨y,r,rfl⟩:=List.exists_cons_of_ne_nil h
 have hy:=hs y zH
 have hf:(λn:Int=>decide (n∉y::r)) y=false:=by simp
 exact List.length_filter_lt_length_iff_exists.2 ⟨y,hy,by simp⟩
theorem aNp(rs:List Int)(P:List DepPairT)(set proj:List Int):∀i≤set.length,∀y∈jL rs P set proj i,y∈set
 | 0,_,y,hy=>by cases hy
 | i+1,hi,y,hy=>by
  by_cases h:rL rs proj (P.getD (set.getD i default).toNat default)
  ·rw[aGv h] at hy
   rcases zP.1 hy with hy|hy
   ·exact aNp rs P set proj i (by omega) y hy
   ·rw[zN.1 hy];exact bA set i (by omega)
  ·rw[aOb h] at hy;exact aNp rs P set proj i (by omega) y hy
theorem aKM(rs:List Int)(P:List DepPairT)(set:List Int)(ps:List PolyT):∀i≤set.length,∀y∈wL rs P set ps i,y∈set
 | 0,_,y,hy=>by cases hy
 | i+1,hi,y,hy=>by
  by_cases h:tY rs ps (P.getD (set.getD i default).toNat default)
  ·rw[aHj h] at hy
   rcases zP.1 hy with hy|hy
   ·exact aKM rs P set ps i (by omega) y hy
   ·rw[zN.1 hy];exact bA set i (by omega)
  ·rw[aNv h] at hy;exact aKM rs P set ps i (by omega) y hy
theorem aIe{rs:List Int}{P:List DepPairT}{q pr:List Int}(h:gG rs P q=some pr):QJ rs P q pr/\¬aJH rs (fC P q q.length) rs.length/\pr∈gL (bsP rs (fC P q q.length)):=by
 by_cases hb:aJH rs (fC P q q.length) rs.length
 ·rw[vD hb] at h;cases h
 ·rw[aAl hb] at h
  exact⟨(lW h).2,hb,(lW h).1⟩
theorem aIL{x:SystemT}{P:List DepPairT}{q l:List Int}(h:gY x P q=some l):QM x P q l/\l∈gL (upD (gP x.sig (fC P q q.length))):=by
 by_cases hp:fQ (gP x.sig (fC P q q.length)) (gP x.sig (fC P q q.length)).length≤20000
 ·rw[uL hp] at h
  exact⟨(lW h).2,(lW h).1⟩
 ·rw[aAk hp] at h;cases h
theorem aML{x:SystemT}{q:List Int}(h:(jD x q).2=true):(gQ q (jD x q).1.gone).length<q.length:=by
 cases hj:gG x.sig (bL x) q with
 | some pr =>
  rw[uQ hj]
  obtain⟨⟨h1,h2⟩,_⟩:=aIe hj
  by_cases hA:aVf x.sig (bL x) q pr
  ·rw[aMi hA] at h2 ⊢
   exact aN8 (λe=>by have e:jL x.sig (bL x) q pr q.length=[]:=e;rw[e] at h2;simp at h2) (aNp _ _ _ _ _ (zQ _))
  ·rw[aTt hA] at h1;cases h1
 | none =>
  cases hm:gY x (bL x) q with
  | some l =>
   rw[vF hj hm]
   obtain⟨⟨_,hA,hne⟩,_⟩:=aIL hm
   rw[aGk hA]
   exact aN8 hne (aKM _ _ _ _ _ (zQ _))
  | none=>rw[aCV hj hm] at h;cases h
noncomputable def trF(x:SystemT)(gr:List (List Int)):Nat->List (List Int)->List PairStepT->List PairStepT×Bool
 | 0,_,out=>(out,true)
 | _+1,[],out=>(out,true)
 | f+1,q::r,out=>cond (jD x q).2 (trF x gr f (fE gr (gQ q (jD x q).1.gone)++r) (out++[(jD x q).1])) ([],false)
theorem aND{x:SystemT}{gr:List (List Int)}{f:Nat}{out:List PairStepT}:trF x gr (f+1) [] out=(out,true):=rfl
theorem aNA{x:SystemT}{gr:List (List Int)}{f:Nat}{q:List Int}{r:List (List Int)}{out:List PairStepT}(h:(jD x q).2=true):trF x gr (f+1) (q::r) out=trF x gr f (fE gr (gQ q (jD x q).1.gone)++r) (out++[(jD x q).1]):=by rw[trF,h];rfl
theorem aS7{x:SystemT}{gr:List (List Int)}{f:Nat}{q:List Int}{r:List (List Int)}{out:List PairStepT}(h:(jD x q).2=false):trF x gr (f+1) (q::r) out=([],false):=by rw[trF,h];rfl
theorem aKa{x:SystemT}{gr:List (List Int)}{q:List Int}{r:List (List Int)}(h:(jD x q).2=true):q9 (fE gr (gQ q (jD x q).1.gone)++r)<q9 (q::r):=by
 have h1:=aML h
 have h2:=@yI gr (gQ q (jD x q).1.gone)
 rw[aB1]
 simp only[q9]
 omega
open Classical in
noncomputable def nW(x:SystemT):List PairStepT×Bool:=if gH x then trF x (eE x (bL x) (bL x).length) 65 (fE (eE x (bL x) (bL x).length) (upTo (bL x).length)) [] else ([],false)
theorem aC0{x:SystemT}(h:gH x):nW x=trF x (eE x (bL x) (bL x).length) 65 (fE (eE x (bL x) (bL x).length) (upTo (bL x).length)) []:=if_pos h
theorem aFr{x:SystemT}(h:¬gH x):nW x=([],false):=if_neg h
end
end Go.Proofs.YtpennhjjnlkbiaaGreat
