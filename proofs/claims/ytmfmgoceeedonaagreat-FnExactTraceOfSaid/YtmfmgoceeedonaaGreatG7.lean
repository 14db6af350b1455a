/-
  P19, P26, U06, U07, P26i, P27, A17s, P28, Q1p, K9p, Q5p, one behind the other.
-/
import Derived.Test.YtmfmgoceeedonaaGreatG5
import Derived.Test.YtmfmgoceeedonaaGreatG6
import Derived.Test.YtmfmgoceeedonaaGreatG4
import Derived.Recover
import Derived.Laws.Pointers
import Derived.Laws.NewBlocks
import Derived.Test.YtmfmgoceeedonaaGreatLgK14
import Derived.Test.YtmfmgoceeedonaaGreatLgK7
import Derived.Test.YtmfmgoceeedonaaGreatLgK13
import Derived.Test.YtmfmgoceeedonaaGreatG2
import Derived.Test.YtmfmgoceeedonaaGreatG3
namespace Go.Proofs.YtmfmgoceeedonaaGreat
open Go Go.Lg
set_option linter.unusedSimpArgs false
set_option linter.unusedVariables false
set_option maxHeartbeats 4000000
section
attribute [local irreducible] SW bA bC dM bZ FC dX
theorem aQm{t:List Int}{i:Nat}(h:i<t.length):oZ (t.take (i+1))=oZ (t.take i)++[awF (t.getD i default)]:=by
 have e:t.take (i+1)=t.take i++[t.getD i default]:=by
  rw[List.take_add_one,zB h,zD,zB h];rfl
 rw[e];unfold oZ;rw[List.map_append];rfl
theorem aQZ(t:List Int):(oZ t).length=t.length:=zC _
theorem aWN{n:Int}(h:n<0):awF n=n-24:=by unfold awF;exact if_pos h
theorem aXG{n:Int}(h:¬n<0):awF n=n:=by unfold awF;exact if_neg h
attribute [local irreducible] awF
def aS6:List (Nat×List Nat):=[(0,[0,1]),(1,[0,1,5]),(2,[0,1,5,6]),(3,[0,1,5,6,11]),(5,[0,1,5,6,18]),(6,[0,1,5,6]),(7,[0,1,5,6]),(4,[0,1,5,6]),(8,[4])]
attribute [go_sem] aS6 Tryz.results81 Tryz.ntmps81
theorem aOz(t:List Int)(h1:t.length≤1000)(ht:∀x∈t,-24≤x):FC S 81 [] [] [] [.sl .any (t.map (.int .i64)),.int .i64 24] (.sl .any ((oZ t).map (.int .i64))) [] []:=by
 refine fcb Tryz.func81 λB=>?_;repeat' first|apply aG|refine aE 0 aS6 λK hK=>?_|refine aB ?_|(refine hK.n0 ?_;clear hK K)|apply tTT
 refine eF 5 35000 2 1 rfl (.inr rfl) rfl ?_;simp only[go_sem];refine bG (ι:=Nat) (λi=>[(0,.sl .any (t.map (.int .i64))),(1,.int .i64 24),(6,.int .i64 i),(5,.sl (.own 35000 2 1) ((oZ (t.take i)).map (.int .i64)))]) (λ_=>[]) (λ_=>[35000]) (λi=>i≤t.length) (λi=>t.length-i) 0 cvB (by omega) (λi hi=>?_);simp only[go_sem];have hal:=aQZ (t.take i);rw[List.length_take] at hal;by_cases hil:i<t.length
 ·have hg:=ht _ (aX t i hil);have hs:=aQm hil;by_cases h0:t.getD i default<0
  ·have e:=aWN h0;repeat' first|exact h.elim|(refine kL 28000 35000 rfl rfl ?_;simp only[go_sem])|(exfalso;omega)|apply aG|refine aE 0 aS6 λK hK=>?_|refine aB ?_|(refine hK.n0 ?_;clear hK K)|refine aA rfl (λh=>?_) λh=>?_|apply aF|with_reducible refine aH ?_|apply tTT
   exact⟨i+1,(by(refine aD rfl rfl ?_ ?_ ?_ ?_<;>simp(disch:=apply aR;omega)only[go_sem]<;>(try omega));all_goals first|exact⟨by rw[hs,e],by omega⟩|trace_state),by omega,by omega⟩
  ·have e:=aXG h0;repeat' first|exact h.elim|(exfalso;omega)|apply aG|refine aE 0 aS6 λK hK=>?_|refine aB ?_|(refine hK.n0 ?_;clear hK K)|refine aA rfl (λh=>?_) λh=>?_|apply aF|with_reducible refine aH ?_|apply tTT
   exact⟨i+1,(by(refine aD rfl rfl ?_ ?_ ?_ ?_<;>simp(disch:=apply aR;omega)only[go_sem]<;>(try omega));all_goals first|exact⟨by rw[hs,e],by omega⟩|trace_state),by omega,by omega⟩
 ·repeat' first|exact h.elim|(exfalso;omega)|apply aG|refine aE 0 aS6 λK hK=>?_|refine aB ?_|refine aC ?_|(refine hK.n0 ?_;clear hK K)|refine aA rfl (λh=>?_) λh=>?_|refine aJ rfl ?_|apply tTT
  rw[List.take_of_length_le (by omega)]
end
section
attribute [local irreducible] SW bA bC dM bZ FC dX toF d7 bD
def sP(x:SystemT)(p q:DepPairT):Prop:=p.r.getD 0 default=q.l.getD 0 default/\((eR x p.r 60 0 0).2≤24->aPU x.sig (eR x p.r 60 0 0).1 q.l)
theorem aG9{x:SystemT}{p q:DepPairT}(h:¬p.r.getD 0 default=q.l.getD 0 default):tst (sP x p q)=false:=bV λe=>h e.1
theorem aGy{x:SystemT}{p q:DepPairT}(h:p.r.getD 0 default=q.l.getD 0 default)(hc:¬(eR x p.r 60 0 0).2≤24):tst (sP x p q)=true:=b8 ⟨h,λe=>absurd e hc⟩
theorem aKO{x:SystemT}{p q:DepPairT}(h:p.r.getD 0 default=q.l.getD 0 default)(hc:(eR x p.r 60 0 0).2≤24){r:Bool}(hr:r=true↔aPU x.sig (eR x p.r 60 0 0).1 q.l):tst (sP x p q)=r:=by
 cases r with
 | true=>exact b8 ⟨h,λ_=>hr.1 rfl⟩
 | false=>exact bV λe=>by simpa using hr.2 (e.2 hc)
theorem aZ5:(List.replicate (Int.toNat 48) [D.sl Tk.nil []]).flatten=b0.map bD:=by
 rw[List.flatten_replicate_singleton];unfold b0;rw[List.map_replicate,uO];rfl
attribute [local go_sem] aZ5 fF eH aPX
def aKW:List (Nat×List Nat):=[(0,[3,4,5]),(1,[3,4,5,7,8]),(2,[3,5,7,8,25]),(3,[6]),(4,[3,5,7,27]),(5,[6]),(6,[3,5,7,9]),(7,[6])]
attribute [go_sem] aKW Tryz.results45 Tryz.ntmps45
theorem aDd(x:SystemT)(hx:b9 x)(p q:DepPairT)(hp:kS x.sig p)(hq:kS x.sig q):FC S 45 [] [] [] [bR x,bN p,bN q] (.bool (tst (sP x p q))) [] []:=by
 have cC:=aLw x p.r hp.1.2 hp.2.2 hx;have hpl:=hp.1.2.2.1;have hql:=hq.1.1.2.1;have cW:=aOz q.l (by omega) hq.1.1.ge;by_cases hh:p.r.getD 0 default=q.l.getD 0 default
 ·by_cases hc:(eR x p.r 60 0 0).2≤24
  ·have hX:=XT.of (aUS hp.1.2 hc);obtain⟨n,r,hr,hri⟩:=aRj hX hq.1.1;rw[if_pos hc,b8 hc] at cC;rw[aKO hh hc hri];have cM:=aOO x.sig b0 (aLE _) aOa n _ (oZ q.l) hX (XT.away hq.1.1) r hr;generalize (eR x p.r 60 0 0).1=out at *;refine fcb Tryz.func45 λB=>?_;repeat' first|exact h.elim|(exfalso;omega)|(refine hK.callB rfl rfl rfl (cM) (by refine⟨⟨?_,?_,?_,?_,?_⟩,⟨?_,?_,?_,?_,?_⟩,?_⟩<;>simp[-List.map_set,LS.getBox,Lg.look,D.ids,D.idsL,dQ,fF,LS.clean,D.puOk,D.pu,D.pu1,D.tks,D.tksL,cU,dJ,eH,dI,dW,fR,dR]) ?_;simp(disch:=apply aR;omega)only[go_sem])|apply aG|refine aE 1000 aKW λK hK=>?_|refine iG 1000 aKW 7 (id:=7) (by kernel_rfl) λK hK=>?_|refine λ(K:KT) (hK:KOk S 1000 _ _ _ K)=>?_|refine aU aKW (by kernel_rfl) λK hK=>?_|refine aB ?_|refine aQ ?_|refine aC ?_|(refine hK.n0 ?_;clear hK K)|refine aA rfl (λh=>?_) λh=>?_|refine hK.c1 rfl rfl rfl (cC) ?_|refine hK.c1 rfl rfl rfl (cW) ?_|with_reducible refine aH ?_|apply tTT
   all_goals trace_state
  ·rw[aGy hh hc];rw[if_neg hc,bV hc] at cC;refine fcb Tryz.func45 λB=>?_;repeat' first|exact h.elim|(exfalso;omega)|apply aG|refine aE 1000 aKW λK hK=>?_|refine aU aKW (by kernel_rfl) λK hK=>?_|refine aB ?_|refine aQ ?_|refine aC ?_|(refine hK.n0 ?_;clear hK K)|refine aA rfl (λh=>?_) λh=>?_|refine hK.c1 rfl rfl rfl (cC) ?_|with_reducible refine aH ?_|apply tTT
 ·rw[aG9 hh];generalize hb:tst ((eR x p.r 60 0 0).2≤24)=b at *;generalize (if (eR x p.r 60 0 0).2≤24 then (eR x p.r 60 0 0).1 else [])=zs at *;refine fcb Tryz.func45 λB=>?_;repeat' first|exact h.elim|(exfalso;omega)|apply aG|refine aE 1000 aKW λK hK=>?_|refine aU aKW (by kernel_rfl) λK hK=>?_|refine aB ?_|refine aQ ?_|refine aC ?_|(refine hK.n0 ?_;clear hK K)|refine aA rfl (λh=>?_) λh=>?_|refine hK.c1 rfl rfl rfl (cC) ?_|with_reducible refine aH ?_|apply tTT
end
section
attribute [go_sem] Tryz.results127 Tryz.ntmps127
theorem aMn(p:Addr)(w:World):CallsD Tryz.prog 127 #[.pointer (some p)] .returning w λe u' w'=>e=.returned (.tuple #[])/\u'=.returning/\w'=w:=by
 refine callsD_of_wpS Tryz.func127 rfl λc₀ cs hu=>?_;apply wpS_seq;apply wpS_region;simp[wpOpsS,go_sem,recoverD,hu,Tryz.ntmps127,Exit.thenS];apply wpS_seq;apply wpS_region;simp[wpOpsS,go_sem,recoverD,hu,Tryz.ntmps127,Exit.thenS];refine wpS_cond (t:=false) (by simp[Act.eval,Array.replicate]) ?_;simp only[Bool.false_eq_true,if_false];refine wpS_of_wp (wp_skip ?_);cases c₀;simp_all [bodyPostS,results,Tryz.results127]
theorem aOs(p:Addr)(x:Bool)(w:World)(hc:w.cell? p=some (.bool x))(hz:w.frozen? p=false):CallsD Tryz.prog 127 #[.pointer (some p)] (.panicking (chainE 154)) w λe u' w' =>
  e=.returned (.tuple #[])/\u'=.panicking [{v:=.iface 154 (.agg #[]),recovered:=true}]/\w'=(w.alloc (.cells #[] 154)).setCell p (.bool false):=by
 refine callsD_of_wpS Tryz.func127 rfl λc₀ cs hu=>?_;unfold chainE at hu;have hta:∀w,(Instr.typeAssert (.iface 154 (.agg #[])) 20 154 true).run Tryz.prog w=.ok (.tuple #[.agg #[],.bool true]) w:=λw=>by kernel_rfl
 apply wpS_seq;apply wpS_region;simp[wpOpsS,go_sem,recoverD,hu,Tryz.ntmps127,Exit.thenS];apply wpS_seq;apply wpS_region;simp[wpOpsS,go_sem,recoverD,hu,Tryz.ntmps127,Exit.thenS];refine wpS_cond (t:=true) (by simp[Act.eval,Array.replicate]) ?_;simp only[if_true];apply wpS_seq;apply wpS_seq;apply wpS_region;simp[wpOpsS,go_sem,recoverD,hu,Tryz.ntmps127,Exit.thenS,hta];have hb:p.block<w.heap.size:=World.block_lt_of_cell? w p hc;have hc2:(w.alloc (.cells #[] 154)).cell? p=some (.bool x):=(World.cell?_alloc_old w _ p (Nat.ne_of_lt hb)).trans hc;have hz2:(w.alloc (.cells #[] 154)).frozen? p=false:=(World.frozen?_alloc_old w _ p (Nat.ne_of_lt hb)).trans hz;apply wpS_seq;apply wpS_region;simp[wpOpsS,go_sem,recoverD,hu,Tryz.ntmps127,Exit.thenS];refine wpS_cond (t:=false) (by simp[Act.eval,Array.replicate]) ?_;simp only[Bool.false_eq_true,if_false];refine wpS_of_wp (wp_skip ?_);simp only[Exit.thenS];apply wpS_region;simp[wpOpsS,go_sem,hc2,hz2,bodyPostS,results,Tryz.results127,Tryz.ntmps127]
end
section
attribute [local irreducible] SW bA bC dM bZ FC dX bD
def aHI:List (Nat×List Nat):=[(0,[0,1,2,6]),(1,[0,1,2,6]),(2,[6]),(3,[6])]
attribute [go_sem] aHI Tryz.ntmps100
theorem aRV(id:Nat)(rs:List Int)(g f:Nat)(β β':Bds)(hβ:BOK rs β)(a b:List Int)(hA:XT rs a)(hB:XT rs b)(he:eqM rs g f β a b=some (some β')):FC S 100 [] [(id+1000,uC rs β)] [] [.box (id+1000) 0,.sl .any (a.map (.int .i64)),.sl .any (b.map (.int .i64))] (.bool true) [(id+1000,uC rs β')] []:=by
 obtain⟨_,cE⟩:=(aB4 rs g id f β a b hβ hA hB).1 β' he;unfold uC at *;unfold FC;refine⟨⟨Tryz.f100,Tryz.func100,by kernel_rfl,rfl⟩,λw G vals hs=>?_⟩;refine calls_of_wp_defers Tryz.func100 rfl ?_;have hs0:=aHc (n:=Tryz.f100.ntmps) hs (by simp[Tryz.f100]);simp only[Tryz.ntmps100,eY,Nat.zero_add,Nat.reduceAdd,List.map_cons,List.map_nil] at hs0 ⊢;refine wp_seq (aZX (L2:=⟨12,[(0,.box (id+1000) 0),(1,.sl .any (a.map (.int .i64))),(2,.sl .any (b.map (.int .i64))),(6,.box 6 0)],[(id+1000,D.sl .any (rs.map (.int .i64))::β.map bD),(6,[.bool false])],[],[],[id+1000]⟩) hs0 ?_ λG1 a1 w1 hs1=>?_)
 ·refine j6 0 ?_;refine λ(K:List Oper->LS->Prop) (hK:KOk S 0 _ _ _ K)=>?_;simp only[go_sem];repeat' first|apply aG|refine aE 0 aHI λK hK=>?_|refine λ(K:KT) (hK:KOk S 0 _ _ _ K)=>?_|refine aB ?_|refine aC ?_|refine gL ?_|(refine hK.n0 ?_;clear hK K)|apply aF|with_reducible refine aH ?_|apply tTT
  apply hK.nil
  (refine aD rfl rfl ?_ ?_ ?_ ?_<;>simp(disch:=apply aR;omega)only[go_sem]<;>(try omega))
 refine wp_seq (aZV 1 (L1:=⟨12,[(0,.box (id+1000) 0),(1,.sl .any (a.map (.int .i64))),(2,.sl .any (b.map (.int .i64))),(6,.box 6 0),(7,.fn 127 [.box 6 0])],[(id+1000,D.sl .any (rs.map (.int .i64))::β.map bD),(6,[.bool false])],[],[],[id+1000]⟩) hs1 ?_ λG2 a2 w2 hs2=>?_)
 ·refine j6 0 ?_;refine λ(K:List Oper->LS->Prop) (hK:KOk S 0 _ _ _ K)=>?_;simp only[go_sem];repeat' first|apply aG|refine aE 0 aHI λK hK=>?_|refine λ(K:KT) (hK:KOk S 0 _ _ _ K)=>?_|refine aB ?_|refine aC ?_|refine gL ?_|(refine hK.n0 ?_;clear hK K)|apply aF|with_reducible refine aH ?_|apply tTT
  apply hK.nil
  (refine aD rfl rfl ?_ ?_ ?_ ?_<;>simp(disch:=apply aR;omega)only[go_sem]<;>(try omega))
 obtain⟨v7,hv7,hr7⟩:=hs2.env 7 _ rfl;cases hr7 with
 | @fn _ _ vl hl hr =>
 obtain⟨u6,rfl⟩:∃u,vl=[u]:=by
  match vl,hl with
  | [u],_=>exact⟨u,rfl⟩
 have h6:=hr 0 (.box 6 0) u6 rfl rfl;cases h6 with
 | @box _ _ g0 hb =>
 simp only[List.drop_succ_cons,List.drop_zero];refine wpList_step λN hN=>?_;rw[if_pos (by simp[Region.wanted])];unfold Oper.wp;have hrun:∀(ty:TypeId) (pos:String) (aft:Array Go.Edge),(execOp a2.eval ⟨none,.defer ⟨.value (.tmp 7),#[],#[]⟩,ty,pos,aft,none⟩).run S.P w2=.ok (.defer {target:=.fn (.func 127) #[.pointer (some ⟨g0,0,none⟩)],args:=#[]}) w2:=λ_ _ _=>by
  simp[execOp,Act.eval,hv7,resolve,Deferred.ofValue]
 rw[hrun,Oper.upon_defer];refine hN _ _ (wpList_nil ?_);rw[hs2.defers];have hno:∀(R:Ending->World->Prop),(∀w,¬R .outgrown w)->∀a w,¬bodyPostD S.P Tryz.f100 R .outgrown a w:=λR h a w hx=>h w hx;refine wp_seq (bAm (L2:=⟨12,[(6,.box 6 0)],[(id+1000,D.sl .any (rs.map (.int .i64))::β'.map bD),(6,[.bool false])],[],[],[id+1000]⟩) hs2 (λa w hx=>by obtain⟨v,_,h,_⟩:=hx;cases h) ?_ λG3 a3 w3 hs3=>?_)
 ·refine j6 0 ?_;refine λ(K:List Oper->LS->Prop) (hK:KOk S 0 _ _ _ K)=>?_;simp only[go_sem];repeat' first|(refine hK.callB rfl rfl rfl (cE) (by refine⟨⟨?_,?_,?_,?_,?_⟩,⟨?_,?_,?_,?_,?_⟩,?_⟩<;>simp[-List.map_set,LS.getBox,Lg.look,D.ids,D.idsL,dQ,fF,LS.clean,D.puOk,D.pu,D.pu1,D.tks,D.tksL,cU,dJ,eH,dI,dW,fR,dR]) ?_;simp(disch:=apply aR;omega)only[go_sem])|apply tTT
  apply hK.nil
  (refine aD rfl rfl ?_ ?_ ?_ ?_<;>simp(disch:=apply aR;omega)only[go_sem]<;>(try omega))
 refine wp_seq (bAm (L2:=⟨12,[(6,.box 6 0)],[(id+1000,D.sl .any (rs.map (.int .i64))::β'.map bD),(6,[.bool true])],[],[],[id+1000]⟩) hs3 (λa w hx=>by obtain⟨v,_,h,_⟩:=hx;cases h) ?_ λG4 a4 w4 hs4=>?_)
 ·refine j6 0 ?_;refine λ(K:List Oper->LS->Prop) (hK:KOk S 0 _ _ _ K)=>?_;simp only[go_sem];repeat' first|apply aG|refine aE 0 aHI λK hK=>?_|refine λ(K:KT) (hK:KOk S 0 _ _ _ K)=>?_|refine aB ?_|refine aC ?_|refine gL ?_|(refine hK.n0 ?_;clear hK K)|apply aF|with_reducible refine aH ?_|apply tTT
  apply hK.nil
  (refine aD rfl rfl ?_ ?_ ?_ ?_<;>simp(disch:=apply aR;omega)only[go_sem]<;>(try omega))
 have hEn:Lg.Enters S.P 127:=⟨Tryz.f127,Tryz.func127,by kernel_rfl,rfl⟩;refine wp_ret ?_;refine leaves_cons (f:=127) (args:=#[.pointer (some ⟨g0,0,none⟩)]) (by simp) (by simp[invoke,gW hEn]) ?_;refine(aMn ⟨g0,0,none⟩ w4).mono ?_;rintro e u' w' ⟨rfl,rfl,rfl⟩;have hRet:Ret S Tryz.f100.results.toList (.bool true) [(id+1000,D.sl .any (rs.map (.int .i64))::β'.map bD)] ⟨12,[(6,.box 6 0)],[(id+1000,D.sl .any (rs.map (.int .i64))::β'.map bD),(6,[.bool true])],[],[],[id+1000]⟩:=by
  rw[Tryz.results100];refine aZd ?_;simp only[go_sem];all_goals trace_state
 obtain⟨v,hrn,G5,hE⟩:=aPo hs.fixed hs4 hRet;exact⟨v,hrn,v,G5,rfl,hE⟩
theorem aSP(id:Nat)(rs:List Int)(g f:Nat)(β:Bds)(hβ:BOK rs β)(a b:List Int)(hA:XT rs a)(hB:XT rs b)(he:eqM rs g f β a b=some none):FC S 100 [] [(id+1000,uC rs β)] [] [.box (id+1000) 0,.sl .any (a.map (.int .i64)),.sl .any (b.map (.int .i64))] (.bool false) [] []:=by
 have cX:=(aB4 rs g id f β a b hβ hA hB).2 he;unfold uC at *;unfold FC;refine⟨⟨Tryz.f100,Tryz.func100,by kernel_rfl,rfl⟩,λw G vals hs=>?_⟩;refine calls_of_wp_defers Tryz.func100 rfl ?_;have hs0:=aHc (n:=Tryz.f100.ntmps) hs (by simp[Tryz.f100]);simp only[Tryz.ntmps100,eY,Nat.zero_add,Nat.reduceAdd,List.map_cons,List.map_nil] at hs0 ⊢;refine wp_seq (aZX (L2:=⟨12,[(0,.box (id+1000) 0),(1,.sl .any (a.map (.int .i64))),(2,.sl .any (b.map (.int .i64))),(6,.box 6 0)],[(id+1000,D.sl .any (rs.map (.int .i64))::β.map bD),(6,[.bool false])],[],[],[id+1000]⟩) hs0 ?_ λG1 a1 w1 hs1=>?_)
 ·refine j6 0 ?_;refine λ(K:List Oper->LS->Prop) (hK:KOk S 0 _ _ _ K)=>?_;simp only[go_sem];repeat' first|apply aG|refine aE 0 aHI λK hK=>?_|refine λ(K:KT) (hK:KOk S 0 _ _ _ K)=>?_|refine aB ?_|refine aC ?_|refine gL ?_|(refine hK.n0 ?_;clear hK K)|apply aF|with_reducible refine aH ?_|apply tTT
  apply hK.nil
  (refine aD rfl rfl ?_ ?_ ?_ ?_<;>simp(disch:=apply aR;omega)only[go_sem]<;>(try omega))
 refine wp_seq (aZV 1 (L1:=⟨12,[(0,.box (id+1000) 0),(1,.sl .any (a.map (.int .i64))),(2,.sl .any (b.map (.int .i64))),(6,.box 6 0),(7,.fn 127 [.box 6 0])],[(id+1000,D.sl .any (rs.map (.int .i64))::β.map bD),(6,[.bool false])],[],[],[id+1000]⟩) hs1 ?_ λG2 a2 w2 hs2=>?_)
 ·refine j6 0 ?_;refine λ(K:List Oper->LS->Prop) (hK:KOk S 0 _ _ _ K)=>?_;simp only[go_sem];repeat' first|apply aG|refine aE 0 aHI λK hK=>?_|refine λ(K:KT) (hK:KOk S 0 _ _ _ K)=>?_|refine aB ?_|refine aC ?_|refine gL ?_|(refine hK.n0 ?_;clear hK K)|apply aF|with_reducible refine aH ?_|apply tTT
  apply hK.nil
  (refine aD rfl rfl ?_ ?_ ?_ ?_<;>simp(disch:=apply aR;omega)only[go_sem]<;>(try omega))
 obtain⟨v7,hv7,hr7⟩:=hs2.env 7 _ rfl;cases hr7 with
 | @fn _ _ vl hl hr =>
 obtain⟨u6,rfl⟩:∃u,vl=[u]:=by
  match vl,hl with
  | [u],_=>exact⟨u,rfl⟩
 have h6:=hr 0 (.box 6 0) u6 rfl rfl;cases h6 with
 | @box _ _ g0 hb =>
 simp only[List.drop_succ_cons,List.drop_zero];refine wpList_step λN hN=>?_;rw[if_pos (by simp[Region.wanted])];unfold Oper.wp;have hrun:∀(ty:TypeId) (pos:String) (aft:Array Go.Edge),(execOp a2.eval ⟨none,.defer ⟨.value (.tmp 7),#[],#[]⟩,ty,pos,aft,none⟩).run S.P w2=.ok (.defer {target:=.fn (.func 127) #[.pointer (some ⟨g0,0,none⟩)],args:=#[]}) w2:=λ_ _ _=>by
  simp[execOp,Act.eval,hv7,resolve,Deferred.ofValue]
 rw[hrun,Oper.upon_defer];refine hN _ _ (wpList_nil ?_);rw[hs2.defers];have hEn:Lg.Enters S.P 127:=⟨Tryz.f127,Tryz.func127,by kernel_rfl,rfl⟩;refine wp_seq (aZR hs2.defers (λa w hx=>by obtain⟨v,_,h,_⟩:=hx;cases h) ?_);refine aBK (aBK (aBK ?_));have hs3a:=hs2.put (t:=8) (by show 8<12;decide) (aO hs2 (x:=.tmp 0) (d:=.box (id+1000) 0) rfl);have hs3b:=hs3a.put (t:=9) (by show 9<12;decide) (aO hs3a (x:=.tmp 1) (d:=.sl .any (a.map (.int .i64))) rfl);have hs3:=hs3b.put (t:=10) (by show 10<12;decide) (aO hs3b (x:=.tmp 2) (d:=.sl .any (b.map (.int .i64))) rfl);refine aH1 hs3 rfl rfl rfl cX ⟨by simp,by simp[Lg.look,LS.put],by simp⟩ 1000000 (by simp[-List.map_set,LS.put,eU,LS.clean,D.tks,D.tksL,cU,dJ,eH,aJL,dR]) λG4 w4 hs4=>⟨by simp only[fH];exact hs2.defers,?_⟩;refine leaves_cons (f:=127) (args:=#[.pointer (some ⟨g0,0,none⟩)]) (by simp) (by simp[invoke,gW hEn]) ?_;have hs5:=hs4.less (L':=⟨12,[(6,.box 6 0)],[(6,[.bool false])],[],[],[id+1000]⟩) cvA;obtain⟨y,hy,hry⟩:=hs2.env 6 (.box 6 0) rfl;cases hry with
 | @box _ _ g2 hb2 =>
 obtain rfl:g0=g2:=zA (hb.symm.trans hb2);obtain⟨x6,hx6,hr6⟩:=hs5.env 6 (.box 6 0) rfl;have hx:x6=.pointer (some ⟨g0,0,none⟩):=by
  have h1:(((a2.put (some 8) (a2.eval (.tmp 0))).put (some 9) ((a2.put (some 8) (a2.eval (.tmp 0))).eval (.tmp 1))).put (some 10) (((a2.put (some 8) (a2.eval (.tmp 0))).put (some 9) ((a2.put (some 8) (a2.eval (.tmp 0))).eval (.tmp 1))).eval (.tmp 2))).tmps[6]?=a2.tmps[6]?:=by
   simp[Act.put,Array.getElem?_setIfInBounds]
  rw[h1,hy] at hx6;exact(zA hx6).symm
 subst hx;cases hr6 with
 | box hb4 =>
 obtain⟨g1,k1,⟨vs,e,e1,e2,e3⟩,k3,k4⟩:=hs5.W.boxes 6 [.bool false] rfl;obtain rfl:g0=g1:=zA (hb4.symm.trans k1);have hv0:vs[0]?=some (.bool false):=by
  have hlt:0<vs.size:=by simp at e2;omega
  have:=e3 0 (.bool false) vs[0] rfl (by simp[hlt]);generalize hvs:vs[0]=v at this;cases this;simp[hlt,hvs]
 have hc:w4.cell? ⟨g0,0,none⟩=some (.bool false):=by
  simp[World.cell?,e1,hv0]
 have hz:w4.frozen? ⟨g0,0,none⟩=false:=by
  simp[World.frozen?,e1]
 refine(aOs ⟨g0,0,none⟩ false w4 hc hz).mono ?_;rintro e' u' w' ⟨rfl,rfl,rfl⟩;have hs6:=nI hs5 (.cells #[] 154) 0;obtain⟨g5,w5,q1,q2,hs7⟩:=aBZ hs6 (id:=6) (off:=0) (cs:=[.bool false]) (new:=[.bool false]) (vl:=[.bool false]) rfl (by simp) rfl (λj d v hd hv=>by
  match j,hd,hv with
  | 0,hd,hv =>
   simp at hd hv;subst hd;subst hv;exact .bool) (by simp[Value.oneCell'])
 have hg5:g0=g5:=zA (k1.symm.trans q1);subst hg5;have hw5:w5=(w4.alloc (.cells #[] 154)).setCell ⟨g0,0,none⟩ (.bool false):=by
  have h1:=q2 S.P;have hblk:g0<w4.heap.size:=World.block_lt_of_cell? w4 ⟨g0,0,none⟩ hc;have hc2:(w4.alloc (.cells #[] 154)).cell? ⟨g0,0,none⟩=some (.bool false):=(World.cell?_alloc_old w4 _ ⟨g0,0,none⟩ (Nat.ne_of_lt hblk)).trans hc;have hz2:(w4.alloc (.cells #[] 154)).frozen? ⟨g0,0,none⟩=false:=(World.frozen?_alloc_old w4 _ ⟨g0,0,none⟩ (Nat.ne_of_lt hblk)).trans hz;simp[storeCells,go_sem,hc2,hz2] at h1;exact h1.symm
 subst hw5;have hRet:Ret S Tryz.f100.results.toList (.bool false) [] ⟨12,[(6,.box 6 0)],[(6,[.bool false])],[],[],[id+1000]⟩:=by
  rw[Tryz.results100];refine aZd ?_;simp only[go_sem];all_goals trace_state
 obtain⟨v,hrn,G8,hE⟩:=aPo hs.fixed hs7 hRet;exact⟨v,hrn,v,G8,rfl,hE⟩
end
section
attribute [local irreducible] SW bA bC dM bZ FC dX toF d7
theorem aMh(rs:List Int):uC rs b0=[.sl .any (rs.map (.int .i64)),.sl .nil [],.sl .nil [],.sl .nil [],.sl .nil [],.sl .nil [],.sl .nil [],.sl .nil [],.sl .nil [],.sl .nil [],.sl .nil [],.sl .nil [],.sl .nil [],.sl .nil [],.sl .nil [],.sl .nil [],.sl .nil [],.sl .nil [],.sl .nil [],.sl .nil [],.sl .nil [],.sl .nil [],.sl .nil [],.sl .nil [],.sl .nil [],.sl .nil [],.sl .nil [],.sl .nil [],.sl .nil [],.sl .nil [],.sl .nil [],.sl .nil [],.sl .nil [],.sl .nil [],.sl .nil [],.sl .nil [],.sl .nil [],.sl .nil [],.sl .nil [],.sl .nil [],.sl .nil [],.sl .nil [],.sl .nil [],.sl .nil [],.sl .nil [],.sl .nil [],.sl .nil [],.sl .nil [],.sl .nil []]:=by
 unfold uC b0;simp[List.replicate,uO]
theorem aZm{x:SystemT}(hx:b9 x):∀r∈x.rules,1≤r.l.length:=λr hr=>by
 obtain⟨j,hj,rfl⟩:=List.getElem_of_mem hr;have:=(hx.2 j hj).1.1.2.1.1;rwa [zD,zB hj] at this
attribute [local irreducible] bD
def aHX:List (Nat×List Nat):=[(0,[3,4,5]),(1,[3,4,5,18]),(2,[6]),(3,[3,5,7,8]),(4,[3,5,7,27]),(5,[6]),(6,[5,7,9]),(7,[6])]
attribute [go_sem] aHX Tryz.results57 Tryz.ntmps57
theorem aIm(x:SystemT)(hx:b9 x)(p q:DepPairT)(hp:kS x.sig p)(hq:kS x.sig q):FC S 57 [] [] [] [bR x,bN p,bN q] (.bool (tst (sP x p q))) [] []:=by
 have cC:=aSs x p.r hp.1.2 (aZm hx);have hpl:=hp.1.2.2.1;have hql:=hq.1.1.2.1;have cW:=aXH q.l (by omega) hq.1.1.ge;by_cases hh:p.r.getD 0 default=q.l.getD 0 default
 ·by_cases hc:(eR x p.r 60 0 0).2≤24
  ·have hX:=XT.of (aUS hp.1.2 hc);obtain⟨f,r,hr,hri⟩:=aSm hX hq.1.1;rw[show decide ((((eR x p.r 60 0 0).2:Nat):Int)≤24)=true from decide_eq_true (by omega)] at cC;rw[aKO hh hc hri];generalize (eR x p.r 60 0 0).1=out at *;cases r with
   | some β' =>
    have cY:=aRV 1031 x.sig 60 f b0 β' (aLE _) _ _ hX (XT.away hq.1.1) hr;rw[aMh] at cY;show FC S 57 [] [] [] [bR x,bN p,bN q] (.bool true) [] [];unfold uC at cY;refine fcb Tryz.func57 λB=>?_;repeat' first|exact h.elim|(exfalso;omega)|(refine hK.callB rfl rfl rfl (cY) (by refine⟨⟨?_,?_,?_,?_,?_⟩,⟨?_,?_,?_,?_,?_⟩,?_⟩<;>simp[-List.map_set,LS.getBox,Lg.look,D.ids,D.idsL,dQ,fF,LS.clean,D.puOk,D.pu,D.pu1,D.tks,D.tksL,cU,dJ,eH,dI,dW,fR,dR]) ?_;simp(disch:=apply aR;omega)only[go_sem])|apply aG|refine aE 2000 aHX λK hK=>?_|refine aU aHX (by kernel_rfl) λK hK=>?_|refine aB ?_|refine aQ ?_|refine aC ?_|(refine hK.n0 ?_;clear hK K)|refine aA rfl (λh=>?_) λh=>?_|refine hK.c1 rfl rfl rfl (cC) ?_|refine hK.c1 rfl rfl rfl (cW) ?_|with_reducible refine aH ?_|apply tTT
    all_goals trace_state
   | none =>
    have cY:=aSP 1031 x.sig 60 f b0 (aLE _) _ _ hX (XT.away hq.1.1) hr;rw[aMh] at cY;show FC S 57 [] [] [] [bR x,bN p,bN q] (.bool false) [] [];refine fcb Tryz.func57 λB=>?_;repeat' first|exact h.elim|(exfalso;omega)|(refine hK.callB rfl rfl rfl (cY) (by refine⟨⟨?_,?_,?_,?_,?_⟩,⟨?_,?_,?_,?_,?_⟩,?_⟩<;>simp[-List.map_set,LS.getBox,Lg.look,D.ids,D.idsL,dQ,fF,LS.clean,D.puOk,D.pu,D.pu1,D.tks,D.tksL,cU,dJ,eH,dI,dW,fR,dR]) ?_;simp(disch:=apply aR;omega)only[go_sem])|apply aG|refine aE 2000 aHX λK hK=>?_|refine aU aHX (by kernel_rfl) λK hK=>?_|refine aB ?_|refine aQ ?_|refine aC ?_|(refine hK.n0 ?_;clear hK K)|refine aA rfl (λh=>?_) λh=>?_|refine hK.c1 rfl rfl rfl (cC) ?_|refine hK.c1 rfl rfl rfl (cW) ?_|with_reducible refine aH ?_|apply tTT
    all_goals trace_state
  ·rw[aGy hh hc];rw[show decide ((((eR x p.r 60 0 0).2:Nat):Int)≤24)=false from decide_eq_false (by omega)] at cC;generalize (eR x p.r 60 0 0).1=out at *;refine fcb Tryz.func57 λB=>?_;repeat' first|exact h.elim|(exfalso;omega)|apply aG|refine aE 2000 aHX λK hK=>?_|refine aU aHX (by kernel_rfl) λK hK=>?_|refine aB ?_|refine aQ ?_|refine aC ?_|(refine hK.n0 ?_;clear hK K)|refine aA rfl (λh=>?_) λh=>?_|refine hK.c1 rfl rfl rfl (cC) ?_|with_reducible refine aH ?_|apply tTT
 ·rw[aG9 hh];refine fcb Tryz.func57 λB=>?_;repeat' first|exact h.elim|(exfalso;omega)|apply aG|refine aE 2000 aHX λK hK=>?_|refine aU aHX (by kernel_rfl) λK hK=>?_|refine aB ?_|refine aQ ?_|refine aC ?_|(refine hK.n0 ?_;clear hK K)|refine aA rfl (λh=>?_) λh=>?_|with_reducible refine aH ?_|apply tTT
end
section
attribute [local irreducible] SW bA bC dM bZ FC dX toF d7 sP
open Classical in
noncomputable def pH(x:SystemT)(P:List DepPairT)(p:Nat):Nat->List Int
 | 0=>[]
 | j+1=>if sP x (P.getD p default) (P.getD j default) then pH x P p j++[(j:Int)] else pH x P p j
noncomputable def eG(x:SystemT)(P:List DepPairT):Nat->List (List Int)
 | 0=>[]
 | i+1=>eG x P i++[pH x P i P.length]
theorem aCF(x:SystemT)(P:List DepPairT)(i:Nat):eG x P (i+1)=eG x P i++[pH x P i P.length]:=rfl
theorem aKc{x:SystemT}{P:List DepPairT}{p j:Nat}(h:sP x (P.getD p default) (P.getD j default)):pH x P p (j+1)=pH x P p j++[(j:Int)]:=if_pos h
theorem aO4{x:SystemT}{P:List DepPairT}{p j:Nat}(h:¬sP x (P.getD p default) (P.getD j default)):pH x P p (j+1)=pH x P p j:=if_neg h
theorem aAO(x:SystemT)(P:List DepPairT)(p:Nat):∀j,(pH x P p j).length≤j
 | 0=>zQ _
 | j+1=>by
  have ih:=aAO x P p j;unfold pH;split
  ·rw[zK,List.length_singleton];omega
  ·omega
theorem aDS(x:SystemT)(P:List DepPairT)(p:Nat):∀j,∀q∈pH x P p j,0≤q/\q<j
 | 0,q,h=>by cases h
 | j+1,q,h=>by
  unfold pH at h;split at h
  ·rcases zP.1 h with h|h
   ·have:=aDS x P p j q h;omega
   ·rw[zN.1 h];omega
  ·have:=aDS x P p j q h;omega
theorem oN(x:SystemT)(P:List DepPairT):∀i,(eG x P i).length=i
 | 0=>rfl
 | i+1=>by unfold eG;rw[zK,List.length_singleton,oN x P i]
theorem yB(x:SystemT)(P:List DepPairT):∀i j,j<i->(eG x P i).getD j default=pH x P j P.length
 | i+1,j,h=>by
  have hl:=oN x P i;unfold eG;rw[zD];by_cases e:j<i
  ·rw[zL (by omega),←zD];exact yB x P i j e
  ·obtain rfl:j=i:=by omega
   rw[zM (by omega),hl,Nat.sub_self];rfl
attribute [local irreducible] pH
def aI9:List (Nat×List Nat):=[(0,[1,2]),(1,[1,2,5]),(2,[1,2,5,6]),(3,[1,2,5,6,13]),(5,[1,2,5,6,7]),(6,[1,2,5,6,7,8]),(7,[1,2,5,6,7,8,20]),(9,[1,2,5,6,7,8,32]),(10,[1,2,5,6,7,8]),(8,[1,2,5,6,7,8]),(11,[1,2,5,6]),(4,[1,2,5,6]),(12,[4])]
attribute [go_sem] aI9 Tryz.results16 Tryz.ntmps16
theorem aKJ(x:SystemT)(hx:b9 x)(P:List DepPairT)(hP:∀p∈P,kS x.sig p)(hl:P.length≤64):FC S 16 [] [] [] [bR x,.sl .any (P.map bN)] (.sl .any ((eG x P P.length).map dT)) [] []:=by
 have hr0:∀p,pH x P p 0=[]:=λp=>by unfold pH;rfl
 refine fcb Tryz.func16 λB=>?_;repeat' first|(refine eF 5 41000 22 1 rfl (.inr rfl) rfl ?_;simp only[go_sem])|apply aG|refine aE 0 aI9 λK hK=>?_|refine aB ?_|(refine hK.n0 ?_;clear hK K)|apply tTT
 refine bG (ι:=Nat) (λi=>[(1,.sl .any (P.map bN)),(2,.box 2 0),(5,.sl (.own 41000 22 1) ((eG x P i).map dT)),(6,.int .i64 i)]) (λ_=>[]) (λ_=>[41000]) (λi=>i≤P.length) (λi=>P.length-i) 0 cvB (by omega) (λi hi=>?_);simp only[go_sem];have hgl:=oN x P i;by_cases hil:i<P.length
 ·repeat' first|exact h.elim|(exfalso;omega)|(refine eF 7 37000 2 1 rfl (.inr rfl) rfl ?_;simp only[go_sem])|apply aG|refine aE 0 aI9 λK hK=>?_|refine aB ?_|(refine hK.n0 ?_;clear hK K)|refine aA rfl (λh=>?_) λh=>?_|apply tTT
  refine bG (ι:=Nat) (λj=>[(1,.sl .any (P.map bN)),(2,.box 2 0),(5,.sl (.own 41000 22 1) ((eG x P i).map dT)),(6,.int .i64 i),(7,.sl (.own 37000 2 1) ((pH x P i j).map (.int .i64))),(8,.int .i64 j)]) (λ_=>[]) (λ_=>[41000,37000]) (λj=>j≤P.length) (λj=>P.length-j) 0 (by rw[hr0];(refine aD rfl rfl ?_ ?_ ?_ ?_<;>simp(disch:=apply aR;omega)only[go_sem]<;>(try omega));all_goals exact⟨rfl,rfl⟩) (by omega) (λj hj=>?_);simp only[go_sem];have hrl:=aAO x P i j;by_cases hjl:j<P.length
  ·have cN:=aDd x hx (P.getD i default) (P.getD j default) (hP _ (aX P i hil)) (hP _ (aX P j hjl));by_cases hc:sP x (P.getD i default) (P.getD j default)
   ·rw[b8 hc] at cN;have e:=aKc hc;repeat' first|exact h.elim|(exfalso;omega)|apply aG|refine aE 0 aI9 λK hK=>?_|refine aU aI9 (by kernel_rfl) λK hK=>?_|refine aB ?_|refine aQ ?_|(refine hK.n0 ?_;clear hK K)|refine aA rfl (λh=>?_) λh=>?_|apply aF|refine hK.c1 rfl rfl rfl (cN) ?_|with_reducible refine aH ?_|apply tTT
    all_goals exact⟨j+1,(by rw[e];(refine aD rfl rfl ?_ ?_ ?_ ?_<;>simp(disch:=apply aR;omega)only[go_sem]<;>(try omega));all_goals first|(simp;done)|trace_state),by omega,by omega⟩
   ·rw[bV hc] at cN;have e:=aO4 hc;repeat' first|exact h.elim|(exfalso;omega)|apply aG|refine aE 0 aI9 λK hK=>?_|refine aU aI9 (by kernel_rfl) λK hK=>?_|refine aB ?_|refine aQ ?_|(refine hK.n0 ?_;clear hK K)|refine aA rfl (λh=>?_) λh=>?_|apply aF|refine hK.c1 rfl rfl rfl (cN) ?_|with_reducible refine aH ?_|apply tTT
    all_goals exact⟨j+1,(by rw[e];(refine aD rfl rfl ?_ ?_ ?_ ?_<;>simp(disch:=apply aR;omega)only[go_sem]<;>(try omega))),by omega,by omega⟩
  ·obtain rfl:j=P.length:=by omega
   repeat' first|exact h.elim|(exfalso;omega)|apply aG|refine aE 0 aI9 λK hK=>?_|refine aB ?_|(refine hK.n0 ?_;clear hK K)|refine aA rfl (λh=>?_) λh=>?_|refine aJ rfl ?_|apply aF|with_reducible refine aH ?_|apply tTT
   all_goals exact⟨i+1,(by rw[aCF];(refine aD rfl rfl ?_ ?_ ?_ ?_<;>simp(disch:=apply aR;omega)only[go_sem]<;>(try omega));all_goals first|(refine⟨?_,?_⟩;(· rw[List.map_append];rfl);(· omega))|trace_state),by omega,by omega⟩
 ·obtain rfl:i=P.length:=by omega
  repeat' first|exact h.elim|(exfalso;omega)|apply aG|refine aE 0 aI9 λK hK=>?_|refine aB ?_|refine aC ?_|(refine hK.n0 ?_;clear hK K)|refine aA rfl (λh=>?_) λh=>?_|refine aJ rfl ?_|apply tTT
def o8(G:List (List Int))(cur:D)(k j:Nat):D:=if j=k then cur else if j<k then dT (G.getD j default) else .sl .nil []
def dV(n:Nat)(G:List (List Int))(cur:D)(k:Nat):List D:=(List.range n).map (o8 G cur k)
theorem r8(n:Nat)(G:List (List Int))(cur:D)(k:Nat):(dV n G cur k).length=n:=by unfold dV;simp
theorem aNB{n:Nat}{G:List (List Int)}{cur:D}{k:Nat}(h:Om (k<n)):(List.drop k (dV n G cur k)).head?=some cur:=by
 rw[List.head?_drop,dV,zI,List.getElem?_range h.1];simp[o8]
theorem aQe{n:Nat}{G:List (List Int)}{cur:D}{k:Nat}(h:k<n):(dV n G cur k)[k]?=some cur:=by
 rw[dV,zI,List.getElem?_range h];simp[o8]
theorem aD8{n:Nat}{G:List (List Int)}{cur:D}{k j:Nat}{d:D}(h:(dV n G cur k)[j]?=some d):j<n/\d=o8 G cur k j:=by
 have hj:j<n:=by have:=(zE.1 h).1;rwa [r8] at this
 rw[dV,zI,List.getElem?_range hj] at h;exact⟨hj,(zA h).symm⟩
theorem aNi{n:Nat}{G:List (List Int)}{cur:D}{k:Nat}(x:D):(dV n G cur k).set k x=dV n G x k:=by
 refine List.ext_getElem (by simp[dV]) λj h1 h2=>?_;have hj:j<n:=by simpa[dV] using h2
 simp only[dV,List.getElem_set,List.getElem_map,List.getElem_range,o8];by_cases e:k=j
 ·subst e;simp
 ·have e':¬j=k:=λh=>e h.symm;simp[e,e']
theorem aBg(n:Nat)(G:List (List Int))(cur:D)(k:Nat)(p:Nat->Bool):(dV n G cur k).map (D.pu1 p)=dV n G (cur.pu1 p) k:=by
 unfold dV;rw[List.map_map];refine List.map_congr_left λj _=>?_;simp only[Function.comp,o8];split
 ·rfl
 ·split<;>rfl
theorem aCl(G:List (List Int))(cur:D)(k:Nat):∀n,D.tksL (dV n G cur k)=if k<n then cur.tks else []
 | 0=>rfl
 | n+1=>by
  have happ:∀a b:List D,D.tksL (a++b)=D.tksL a++D.tksL b:=λa b=>by
   induction a with
   | nil=>rfl
   | cons x r ih=>simp only[List.cons_append,D.tksL,ih,List.append_assoc]
  have ih:=aCl G cur k n;unfold dV at ih ⊢;rw[List.range_succ,List.map_append,happ,ih];by_cases e:n=k
  ·subst e;simp[D.tksL,o8]
  ·have h0:(o8 G cur k n).tks=[]:=by
    unfold o8;rw[if_neg e];split<;>rfl
   simp only[List.map_cons,List.map_nil,D.tksL,h0,List.append_nil];by_cases h:k<n
   ·rw[if_pos h,if_pos (by omega)]
   ·rw[if_neg h,if_neg (by omega)]
theorem aHp(G:List (List Int))(tk:Tk)(xs:List D)(k:Nat):∀n,D.idsL (dV n G (.sl tk xs) k)=[]
 | 0=>rfl
 | n+1=>by
  have happ:∀a b:List D,D.idsL (a++b)=D.idsL a++D.idsL b:=λa b=>by
   induction a with
   | nil=>rfl
   | cons x r ih=>simp only[List.cons_append,D.idsL,ih,List.append_assoc]
  have ih:=aHp G tk xs k n;unfold dV at ih ⊢;rw[List.range_succ,List.map_append,happ,ih];have h0:(o8 G (.sl tk xs) k n).ids=[]:=by
   unfold o8;split
   ·rfl
   ·split<;>rfl
  simp only[List.map_cons,List.map_nil,D.idsL,h0,List.append_nil]
theorem aNS{n:Nat}{G:List (List Int)}{cur:D}{k:Nat}(h:Om (k<n)):D.tksL (dV n G cur k)=cur.tks:=by rw[aCl,if_pos h.1]
theorem aC1(n:Nat)(G:List (List Int))(k:Nat):D.tksL (dV n G (.sl .nil []) k)=[]:=by rw[aCl];split<;>rfl
theorem aJN(n:Nat):(List.replicate n [D.sl Tk.nil []]).flatten=dV n [] (.sl .nil []) 0:=by
 rw[List.flatten_replicate_singleton];refine List.ext_getElem (by simp[dV]) λj h1 h2=>?_;simp only[dV,List.getElem_map,List.getElem_range,List.getElem_replicate,o8];split
 ·rfl
 ·rw[if_neg (by omega)]
theorem aKt{n:Nat}{G:List (List Int)}{row:List Int}{tk:Tk}{k:Nat}(hG:G.length=k)(j:Nat)(c d:D)(hc:(dV n G (.sl tk (row.map (.int .i64))) k)[j]?=some c)(hd:(dV n (G++[row]) (.sl .nil []) (k+1))[j]?=some d):D.le c d:=by
 obtain⟨hj,rfl⟩:=aD8 hc;obtain⟨_,rfl⟩:=aD8 hd;unfold o8;by_cases e:j=k
 ·subst e;rw[if_pos rfl,if_neg (by omega),if_pos (by omega),zD,zM (by omega),hG,Nat.sub_self];exact .any
 ·rw[if_neg e];by_cases h:j<k
  ·rw[if_pos h,if_neg (by omega),if_pos (by omega),zD (l:=G++[row]),zL (by omega),←zD];exact .refl _
  ·rw[if_neg h];split
   ·exact .refl _
   ·rw[if_neg (by omega)];exact .refl _
theorem aEN{n:Nat}{G:List (List Int)}{cur:D}(hG:G.length=n):dV n G cur n=G.map dT:=by
 refine List.ext_getElem (by simp[dV,hG]) λj h1 h2=>?_;have hj:j<n:=by simpa[dV] using h1
 simp only[dV,List.getElem_map,List.getElem_range,o8];rw[if_neg (by omega),if_pos hj,zD,zB (by omega)];rfl
theorem aOm(G:List (List Int)):flat (G.map dT)=G.map dT:=by
 induction G with
 | nil=>rfl
 | cons y r ih=>simp only[List.map_cons,flat,List.flatMap_cons] at ih ⊢;rw[ih];rfl
attribute [local go_sem] aNB aNi aBg aNS aC1 aHp r8
attribute [local irreducible] dV
def aNC:List (Nat×List Nat):=[(0,[1,2]),(1,[1,2,5]),(2,[1,2,5,13,14,15]),(3,[1,2,5,13,14,15,16]),(4,[1,2,5,6,7,13,14,15]),(5,[1,2,5,6,7,13,14,15,20,21,22]),(6,[1,2,5,6,7,13,14,15,20,21,22,23]),(7,[1,2,5,6,7,8,9,13,14,15,20,21,22]),(8,[1,2,5,6,7,8,13,14,15,20,21,22,30]),(9,[1,2,5,6,7,13,14,15,20,21,22]),(10,[1,2,5,6,7,13,14,15,20,21,22]),(11,[1,2,5,13,14,15]),(12,[4])]
attribute [go_sem] aNC Tryz.results24 Tryz.ntmps24
theorem aUc(x:SystemT)(hx:b9 x)(P:List DepPairT)(hP:∀p∈P,kS x.sig p)(hl:P.length≤64):FC S 24 [] [] [] [bR x,.sl .any (P.map bN)] (.sl .any ((eG x P P.length).map dT)) [] []:=by
 have hr0:∀p,pH x P p 0=[]:=λp=>by unfold pH;rfl
 refine fcb Tryz.func24 λB=>?_;repeat' first|apply aG|refine aE 0 aNC λK hK=>?_|refine aB ?_|(refine hK.n0 ?_;clear hK K)|with_reducible refine aH ?_|apply tTT
 rw[aJN];refine bG (ι:=Nat) (λi=>[(15,.int .i64 i)]) (λi=>[(12,dV P.length (eG x P i) (.sl .nil []) i)]) (λ_=>[]) (λi=>i≤P.length) (λi=>P.length-i) 0 cvB (by omega) (λi hi=>?_);simp only[go_sem];have hgl:=oN x P i;by_cases hil:i<P.length
 ·repeat' first|exact h.elim|(exfalso;omega)|apply aG|refine aE 0 aNC λK hK=>?_|refine aB ?_|(refine hK.n0 ?_;clear hK K)|refine aA rfl (λh=>?_) λh=>?_|with_reducible refine aH ?_|apply tTT
  refine aGA 12 i 40000 2 1 (cs:=dV P.length (eG x P i) (.sl .nil []) i) (by simp[LS.purge,qH,Lg.look,aBg,D.pu1]) (aQe hil) (by simp(disch:=apply aR;omega) [LS.purge,LS.clean,qH,D.pu,D.pu1,D.tks,D.tksL,aBg,aC1]) ?_;simp(disch:=apply aR;omega)only[go_sem];refine bG (ι:=Nat) (λj=>[(22,.int .i64 j)]) (λj=>[(12,dV P.length (eG x P i) (.sl (.own 40000 2 1) ((pH x P i j).map (.int .i64))) i)]) (λ_=>[40000]) (λj=>j≤P.length) (λj=>P.length-j) 0 (by rw[hr0];(refine aD rfl rfl ?_ ?_ ?_ ?_<;>simp(disch:=apply aR;omega)only[go_sem]<;>(try omega));all_goals first|rfl|exact⟨rfl,rfl⟩|trace_state) (by omega) (λj hj=>?_);simp(disch:=apply aR;omega)only[go_sem];have hrl:=aAO x P i j;by_cases hjl:j<P.length
  ·have cN:=aIm x hx (P.getD i default) (P.getD j default) (hP _ (aX P i hil)) (hP _ (aX P j hjl));by_cases hc:sP x (P.getD i default) (P.getD j default)
   ·rw[b8 hc] at cN;have e:=aKc hc;repeat' first|exact h.elim|(exfalso;omega)|apply aG|refine aE 0 aNC λK hK=>?_|refine aB ?_|(refine hK.n0 ?_;clear hK K)|refine aA rfl (λh=>?_) λh=>?_|apply aF|refine hK.c1 rfl rfl rfl (cN) ?_|with_reducible refine aH ?_|apply tTT
    all_goals exact⟨j+1,(by rw[e];(refine aD rfl rfl ?_ ?_ ?_ ?_<;>simp(disch:=apply aR;omega)only[go_sem]<;>(try omega));all_goals first|(simp;done)|trace_state),by omega,by omega⟩
   ·rw[bV hc] at cN;have e:=aO4 hc;repeat' first|exact h.elim|(exfalso;omega)|apply aG|refine aE 0 aNC λK hK=>?_|refine aB ?_|(refine hK.n0 ?_;clear hK K)|refine aA rfl (λh=>?_) λh=>?_|apply aF|refine hK.c1 rfl rfl rfl (cN) ?_|with_reducible refine aH ?_|apply tTT
    all_goals exact⟨j+1,(by rw[e];(refine aD rfl rfl ?_ ?_ ?_ ?_<;>simp(disch:=apply aR;omega)only[go_sem]<;>(try omega));all_goals first|(simp;done)|trace_state),by omega,by omega⟩
  ·obtain rfl:j=P.length:=by omega
   refine aAm 12 (dV P.length (eG x P i++[pH x P i P.length]) (.sl .nil []) (i+1)) rfl (by rw[r8,r8]) (aKt hgl) ?_;simp(disch:=apply aR;omega)only[go_sem];repeat' first|exact h.elim|(exfalso;omega)|apply aG|refine aE 0 aNC λK hK=>?_|refine aB ?_|(refine hK.n0 ?_;clear hK K)|refine aA rfl (λh=>?_) λh=>?_|refine aJ rfl ?_|apply aF|apply tTT
   all_goals exact⟨i+1,(by rw[aCF];(refine aD rfl rfl ?_ ?_ ?_ ?_<;>simp(disch:=apply aR;omega)only[go_sem]<;>(try omega));all_goals first|(simp;done)|trace_state),by omega,by omega⟩
 ·obtain rfl:i=P.length:=by omega
  refine l6 5 1 .any ((eG x P P.length).map dT) rfl rfl (by rw[aEN hgl];exact(aOm _).symm) (by rw[zC,hgl]) (λd hd=>by obtain⟨y,_,rfl⟩:=zJ.1 hd;rfl) (by rw[aEN hgl];intro d hd;obtain⟨y,_,rfl⟩:=zJ.1 hd;rfl) (.inl rfl) ?_;simp only[go_sem];repeat' first|exact h.elim|(exfalso;omega)|apply aG|refine aE 0 aNC λK hK=>?_|refine aB ?_|refine aC ?_|(refine hK.n0 ?_;clear hK K)|refine aA rfl (λh=>?_) λh=>?_|refine aJ rfl ?_|apply tTT
end
section
attribute [local irreducible] SW bA bC dM bZ FC dX toF d7 iC fZ sumF b5
end
section
attribute [local irreducible] SW bA bC dM bZ FC dX toF d7 sP eK eG
section
variable {set:List Int} {n:Nat}
theorem aKs(h:gA set n):∀d i,i+d+1<set.length->set.getD i default<set.getD (i+d+1) default
 | 0,i,hi=>(h (i+1) hi).2 (by omega)
 | d+1,i,hi=>by
  have h1:=aKs h d i (by omega);have h2:=(h (i+(d+1)+1) hi).2 (by omega);rw[show i+(d+1)+1-1=i+d+1 by omega] at h2;omega
theorem sL(h:gA set n):m6 set:=by
 refine List.pairwise_iff_getElem.2 λi j hi hj hij=>?_;have:=aKs h (j-i-1) i (by omega);rw[show i+(j-i-1)+1=j by omega,zD,zD,zB hi,zB hj] at this;exact this
theorem tX(h:gA set n):∀q∈set,0≤q/\q<n:=λq hq=>by
 obtain⟨j,hj,rfl⟩:=List.getElem_of_mem hq;have:=(h j hj).1;rwa [zD,zB hj] at this
theorem aMe(h:gA set n):(dH set).Nodup:=by
 unfold dH;refine List.pairwise_map.2 ((sL h).imp_of_mem λ{a b} ha hb hab=>?_);have h1:=tX h a ha;have h2:=tX h b hb;omega
end
theorem aLS{x:SystemT}(hP:gK x):(eG x (bI x) (bI x).length).length=(bI x).length/\(∀i<(eG x (bI x) (bI x).length).length,((eG x (bI x) (bI x).length).getD i default).length≤64)/\∀i<(eG x (bI x) (bI x).length).length,∀j<((eG x (bI x) (bI x).length).getD i default).length,0≤((eG x (bI x) (bI x).length).getD i default).getD j default/\((eG x (bI x) (bI x).length).getD i default).getD j default<(bI x).length:=by
 have h64:(bI x).length≤64:=hP.2;have hl:=oN x (bI x) (bI x).length;refine⟨hl,λi hi=>?_,λi hi j hj=>?_⟩
 ·rw[yB x (bI x) _ i (by omega)];have:=aAO x (bI x) i (bI x).length;omega
 ·rw[yB x (bI x) _ i (by omega)] at hj ⊢;exact aDS x (bI x) i _ _ (aX _ j hj)
end
section
def sV(rs proj:List Int):Prop:=(eQ rs/\proj.length=rs.length)/\∀f<rs.length,-1≤proj.getD f default/\proj.getD f default≤rs.getD f default-1
def jX(rs proj t:List Int):List Int:=if proj.getD (t.getD 0 default).toNat default<0 then [] else lC rs t (proj.getD (t.getD 0 default).toNat default).toNat
theorem aH7{rs proj t:List Int}(h:proj.getD (t.getD 0 default).toNat default<0):jX rs proj t=[]:=if_pos h
theorem aEL{rs proj t:List Int}(h:¬proj.getD (t.getD 0 default).toNat default<0):jX rs proj t=lC rs t (proj.getD (t.getD 0 default).toNat default).toNat:=if_neg h
theorem aIz{rs proj t:List Int}(hj:sV rs proj)(hT:aT rs t)(h0:0≤t.getD 0 default):(t.getD 0 default).toNat<proj.length/\(-1≤proj.getD (t.getD 0 default).toNat default/\proj.getD (t.getD 0 default).toNat default≤2)/\(0≤proj.getD (t.getD 0 default).toNat default->(proj.getD (t.getD 0 default).toNat default).toNat<(arS rs (t.getD 0 default)).toNat):=by
 have hl:=hT.low (a:=0) hT.2.1.1;have hlt:(t.getD 0 default).toNat<rs.length:=by omega
 have h1:=hj.2 _ hlt;have h2:=hj.1.1.2 _ hlt;have h3:=lJ (rs:=rs) (n:=t.getD 0 default) ⟨h0,by omega⟩;have h4:=hj.1.2;refine⟨by omega,by omega,λh=>?_⟩;rw[h3];omega
theorem aP1{rs proj t:List Int}(hj:sV rs proj)(hT:aT rs t)(h0:0≤t.getD 0 default)(h:jX rs proj t≠[]):aT rs (jX rs proj t):=by
 obtain⟨h1,h2,h3⟩:=aIz hj hT h0;rcases Classical.em (proj.getD (t.getD 0 default).toNat default<0) with hn|hn
 ·exact absurd (aH7 hn) h
 ·rw[aEL hn];exact(j5 hT (h3 (by omega))).1
theorem aCV{rs t u:List Int}(hT:aT rs t):nT rs t 0 u↔t=u∨nT rs t 1 u:=by
 constructor
 ·rintro⟨a,⟨_,h1⟩,h2⟩;rcases Nat.eq_zero_or_pos a with rfl|ha
  ·rw[mF hT] at h2;exact .inl h2
  ·exact .inr ⟨a,⟨ha,h1⟩,h2⟩
 ·rintro (rfl|⟨a,⟨_,h1⟩,h2⟩)
  ·exact⟨0,⟨zQ _,hT.2.1.1⟩,mF hT⟩
  ·exact⟨a,⟨Nat.zero_le _,h1⟩,h2⟩
def tY(rs proj:List Int)(p:DepPairT):Prop:=(jX rs proj p.l≠[]/\jX rs proj p.r≠[])/\nT rs (jX rs proj p.l) 1 (jX rs proj p.r)
def pO(rs proj:List Int)(p:DepPairT):Prop:=(jX rs proj p.l≠[]/\jX rs proj p.r≠[])/\(jX rs proj p.l=jX rs proj p.r∨nT rs (jX rs proj p.l) 1 (jX rs proj p.r))
open Classical in
noncomputable def jL(rs:List Int)(P:List DepPairT)(set proj:List Int):Nat->List Int
 | 0=>[]
 | i+1=>if tY rs proj (P.getD (set.getD i default).toNat default) then jL rs P set proj i++[set.getD i default] else jL rs P set proj i
theorem aIY{rs:List Int}{P:List DepPairT}{set proj:List Int}{i:Nat}(h:tY rs proj (P.getD (set.getD i default).toNat default)):jL rs P set proj (i+1)=jL rs P set proj i++[set.getD i default]:=if_pos h
theorem aPr{rs:List Int}{P:List DepPairT}{set proj:List Int}{i:Nat}(h:¬tY rs proj (P.getD (set.getD i default).toNat default)):jL rs P set proj (i+1)=jL rs P set proj i:=if_neg h
theorem aJw(rs:List Int)(P:List DepPairT)(set proj:List Int):∀i,(jL rs P set proj i).length≤i
 | 0=>zQ _
 | i+1=>by
  have ih:=aJw rs P set proj i;by_cases h:tY rs proj (P.getD (set.getD i default).toNat default)
  ·rw[aIY h,zK];simp;omega
  ·rw[aPr h];omega
def aU0(rs:List Int)(P:List DepPairT)(set proj:List Int):Prop:=∀i<set.length,pO rs proj (P.getD (set.getD i default).toNat default)
open Classical in
noncomputable def jR(rs:List Int)(P:List DepPairT)(set proj:List Int):List Int×Bool:=if aU0 rs P set proj then (jL rs P set proj set.length,true) else ([],false)
theorem aH6{rs:List Int}{P:List DepPairT}{set proj:List Int}(h:aU0 rs P set proj):jR rs P set proj=(jL rs P set proj set.length,true):=if_pos h
theorem aP5{rs:List Int}{P:List DepPairT}{set proj:List Int}(h:¬aU0 rs P set proj):jR rs P set proj=([],false):=if_neg h
def aA7(x:SystemT)(set proj:List Int):Prop:=(gK x/\gA set (bI x).length)/\sV x.sig proj
open Classical in
noncomputable def aL1(x:SystemT)(set proj:List Int):List Int×Bool:=if aA7 x set proj then jR x.sig (bI x) set proj else ([],false)
theorem aBe{x:SystemT}{set proj:List Int}(h:aA7 x set proj):aL1 x set proj=jR x.sig (bI x) set proj:=if_pos h
theorem aS3{x:SystemT}{set proj:List Int}(h:¬aA7 x set proj):aL1 x set proj=([],false):=if_neg h
def gR(set gone:List Int):List Int:=set.filter λn=>decide (n∉gone)
theorem aKV{set gone:List Int}{i:Nat}(hi:i<set.length)(h:set.getD i default∉gone):gR (set.take (i+1)) gone=gR (set.take i) gone++[set.getD i default]:=by
 unfold gR;rw[iT hi,List.filter_append];simp only[List.filter_cons,List.filter_nil,decide_eq_true h,if_true]
theorem aP4{set gone:List Int}{i:Nat}(hi:i<set.length)(h:¬set.getD i default∉gone):gR (set.take (i+1)) gone=gR (set.take i) gone:=by
 unfold gR;rw[iT hi,List.filter_append];simp only[List.filter_cons,List.filter_nil,decide_eq_false h,Bool.false_eq_true,if_false,List.append_nil]
theorem pT(set gone:List Int):(gR set gone).length≤set.length:=List.length_filter_le _ _
theorem aEW{set:List Int}{n:Nat}(hs:m6 set)(h:∀q∈set,0≤q/\q<n):gA set n:=λi hi=>by
 refine⟨h _ (aX set i hi),λh0=>?_⟩;have:=List.pairwise_iff_getElem.1 hs (i-1) i (by omega) hi (by omega);rw[zD,zD,zB hi,zB (by omega)];exact this
theorem aA9{set gone:List Int}{n:Nat}(h:gA set n):gA (gR set gone) n :=
 aEW ((sL h).filter _) λq hq=>tX h q (List.mem_filter.1 hq).1
theorem aGE{edges:List (List Int)}{set:List Int}{n:Nat}(h:gA set n):∀y∈eK edges set,gA y n:=by
 have key:∀(C:Nat->Nat->Bool) i,∀y∈cmp C set i,∃p qs j,y=uJ C p qs j/\qs.Sublist set:=by
  intro C i;induction i with
  | zero=>intro y hy;cases hy
  | succ i ih =>
   intro y hy;unfold cmp at hy;split at hy
   ·rcases zP.1 hy with hy|hy
    ·exact ih y hy
    ·rw[zN.1 hy];exact⟨_,_,_,rfl,List.drop_sublist _ _⟩
   ·exact ih y hy
 intro y hy;obtain⟨p,qs,j,rfl,hq⟩:=key _ _ y hy;have hsub:(uJ (wM (dH set) (r0 edges set) set.length) p qs j).Sublist set:=((List.filter_sublist).trans (List.take_sublist j qs)).trans hq;exact aEW ((sL h).sublist hsub) λq hq'=>tX h q (hsub.subset hq')
theorem qN{edges:List (List Int)}{set:List Int}:(eK edges set).length≤set.length:=aDy _ _ _
open Classical in
noncomputable def aIt(rs:List Int)(H:Int->Prop)(f:Nat):Int×Int:=if H f then (0,rs.getD f default-1) else (-1,-1)
theorem pY{rs:List Int}{H:Int->Prop}{f:Nat}(h:H f):aIt rs H f=(0,rs.getD f default-1):=if_pos h
theorem aA8{rs:List Int}{H:Int->Prop}{f:Nat}(h:¬H f):aIt rs H f=(-1,-1):=if_neg h
noncomputable def bsP(rs:List Int)(H:Int->Prop):List (Int×Int):=(List.range rs.length).map (aIt rs H)
theorem aDx(rs:List Int)(H:Int->Prop):(bsP rs H).length=rs.length:=by simp[bsP]
theorem aSG{rs:List Int}{H:Int->Prop}{f:Nat}(h:f<rs.length):(bsP rs H).getD f default=aIt rs H f:=by
 simp[bsP,List.getD,zI,List.getElem?_range h]
def aKP(rs:List Int)(H:Int->Prop)(n:Nat):Prop:=∃f<n,H (f:Int)/\rs.getD f default=0
theorem aNw{rs:List Int}{H:Int->Prop}(hs:eQ rs)(h:¬aKP rs H rs.length):∀b∈bsP rs H,b.1≤b.2:=λb hb=>by
 obtain⟨f,hf,rfl⟩:=zJ.1 hb;have hf:=List.mem_range.1 hf;have h1:=hs.2 f hf;by_cases hH:H f
 ·rw[pY hH];have:rs.getD f default≠0:=λe=>h ⟨f,hf,hH,e⟩;show (0:Int)≤rs.getD f default-1;omega
 ·rw[aA8 hH];exact Int.le_refl _
theorem vV{rs:List Int}{H:Int->Prop}{l:List Int}(hs:eQ rs)(hd:pB (bsP rs H) l):sV rs l:=by
 have hl:l.length=rs.length:=by rw[kG hd,aDx]
 refine⟨⟨hs,hl⟩,λf hf=>?_⟩;have h1:=aJF hd f (by rw[aDx];exact hf);rw[aSG hf] at h1;have h2:=hs.2 f hf;by_cases hH:H f
 ·rw[pY hH] at h1;have h3:0≤l.getD f default/\l.getD f default≤rs.getD f default-1:=h1;omega
 ·rw[aA8 hH] at h1;have h3:-1≤l.getD f default/\l.getD f default≤-1:=h1;omega
theorem aUZ{rs:List Int}{H:Int->Prop}{l:List Int}(hs:eQ rs)(hd:pB (bsP rs H) l):∀x∈l,-1≤x/\x≤1000:=λx hx=>by
 obtain⟨i,hi,rfl⟩:=List.getElem_of_mem hx;have hj:=vV hs hd;have h1:=hj.2 i (by rw[←hj.1.2];exact hi);have h2:=hs.2 i (by rw[←hj.1.2];exact hi);rw[zD,zB hi,Option.getD_some] at h1;omega
def QJ(rs:List Int)(P:List DepPairT)(set l:List Int):Prop:=(jR rs P set l).2=true/\(0:Int)<(jR rs P set l).1.length
open Classical in
noncomputable def g9(rs:List Int)(P:List DepPairT)(set:List Int):Option (List Int) :=
 if aKP rs (gB P set set.length) rs.length then none else gI (QJ rs P set) (iO (bsP rs (gB P set set.length)))
theorem xZ{rs:List Int}{P:List DepPairT}{set:List Int}(h:aKP rs (gB P set set.length) rs.length):g9 rs P set=none:=if_pos h
theorem aBV{rs:List Int}{P:List DepPairT}{set:List Int}(h:¬aKP rs (gB P set set.length) rs.length):g9 rs P set=gI (QJ rs P set) (iO (bsP rs (gB P set set.length))):=if_neg h
def xV:Option (List Int)->List Int×Bool
 | some l=>(l,true)
 | none=>([],false)
open Classical in
noncomputable def yI(x:SystemT)(set:List Int):List Int×Bool:=if oD x set then xV (g9 x.sig (bI x) set) else ([],false)
theorem aEP{x:SystemT}{set:List Int}(h:oD x set):yI x set=xV (g9 x.sig (bI x) set):=if_pos h
theorem aQy{x:SystemT}{set:List Int}(h:¬oD x set):yI x set=([],false):=if_neg h
noncomputable def aFd(rs:List Int)(H:Int->Prop)(n:Nat):List Int:=(List.range n).map λf=>(aIt rs H f).1
theorem aFO{rs:List Int}{H:Int->Prop}{f:Nat}(h:H f):aFd rs H (f+1)=aFd rs H f++[0]:=by
 simp[aFd,List.range_succ,pY h]
theorem aIe{rs:List Int}{H:Int->Prop}{f:Nat}(h:¬H f):aFd rs H (f+1)=aFd rs H f++[-1]:=by
 simp[aFd,List.range_succ,aA8 h]
theorem aU9(rs:List Int)(H:Int->Prop):aFd rs H rs.length=lF (bsP rs H):=by simp[aFd,lF,bsP]
theorem aSW(rs:List Int)(H:Int->Prop)(n:Nat):(aFd rs H n).length=n:=by simp[aFd]
noncomputable def kH(rs:List Int)(H:Int->Prop)(g:Int×Int->Int)(f:Nat):List Int:=(List.range rs.length).map λj=>if j<f then g (aIt rs H j) else -1
theorem wE(rs:List Int)(H:Int->Prop)(g:Int×Int->Int)(f:Nat):(kH rs H g f).length=rs.length:=by simp[kH]
theorem aEZ(rs:List Int)(H:Int->Prop)(g:Int×Int->Int):kH rs H g 0=List.replicate rs.length (-1):=by
 refine List.ext_getElem (by simp[kH]) λj h1 h2=>?_;simp[kH]
theorem aHD{rs:List Int}{H:Int->Prop}{g:Int×Int->Int}{f:Nat}:(kH rs H g f).set f (g (aIt rs H f))=kH rs H g (f+1):=by
 refine List.ext_getElem (by simp[kH]) λj h1 h2=>?_;simp only[kH,List.getElem_set,List.getElem_map,List.getElem_range];by_cases e:f=j
 ·subst e;rw[if_pos rfl,if_pos (by omega)]
 ·rw[if_neg e];by_cases h:j<f
  ·rw[if_pos h,if_pos (by omega)]
  ·rw[if_neg h,if_neg (by omega)]
theorem aFo{rs:List Int}{H:Int->Prop}{g:Int×Int->Int}{f:Nat}(h:¬H f)(hg:g (-1,-1)=-1):kH rs H g f=kH rs H g (f+1):=by
 refine List.ext_getElem (by simp[kH]) λj h1 h2=>?_;simp only[kH,List.getElem_map,List.getElem_range];by_cases h3:j<f
 ·rw[if_pos h3,if_pos (by omega)]
 ·rw[if_neg h3];by_cases h4:j<f+1
  ·obtain rfl:j=f:=by omega
   rw[if_pos h4,aA8 h,hg]
  ·rw[if_neg h4]
theorem aHF(rs:List Int)(H:Int->Prop)(g:Int×Int->Int):kH rs H g rs.length=(bsP rs H).map g:=by
 refine List.ext_getElem (by simp[kH,bsP]) λj h1 h2=>?_;simp only[kH,bsP,List.getElem_map,List.getElem_range];rw[if_pos (by simpa[kH] using h1)]
theorem vZ{rs:List Int}{H:Int->Prop}{g:Int×Int->Int}{f j:Nat}(hj:j<rs.length):(kH rs H g f).getD j default=if j<f then g (aIt rs H j) else -1:=by
 simp[kH,List.getD,zI,List.getElem?_range hj]
end
section
section
variable {x:SystemT} {gr:List (List Int)} {n:Nat} {list:List PairStepT}
theorem x8(n:Nat):gA (upTo n) n:=aEW (aCg n) λq hq=>(aEY n q).1 hq
def aCx(n i:Nat)(T:List (List Int)):Prop:=(∀y∈T,gA y n)/\T.length≤64*(i+1)
theorem aNT(hn:n≤64):aCx n 0 (eK gr (upTo n)):=by
 refine⟨aGE (x8 n),?_⟩;have:=@qN gr (upTo n);have h:(upTo n).length=n:=by simp[upTo]
 omega
theorem aIJ(hn:n≤64){i:Nat}{q:List Int}{r:List (List Int)}(h:aCx n i (q::r)){g:List Int}:aCx n (i+1) (eK gr (gR q g)++r):=by
 have hq:=h.1 q zH;refine⟨λy hy=>?_,?_⟩
 ·rcases zP.1 hy with hy|hy
  ·exact aGE (aA9 hq) y hy
  ·exact h.1 y (zG _ hy)
 ·have h1:=@qN gr (gR q g);have h2:=pT q g;have h3:=l5 hq;have h4:=h.2;rw[zK];rw[List.length_cons] at h4;omega
end
end
end Go.Proofs.YtmfmgoceeedonaaGreat
