/-
  A24i, N4, N2p, Str, N5, N6, one behind the other.
-/
import Derived.Test.YtkfkdgginfpdnaaGreatDoorG3
import Derived.Test.YtkfkdgginfpdnaaGreatDoorG4
import Derived.Test.YtkfkdgginfpdnaaGreatDoorLgK10
import Derived.Test.YtkfkdgginfpdnaaGreatDoorG1
import Derived.Lib.ItoaNum
import Derived.Lib.Join
import Derived.Shelf.Strings.OnBuilder
import Derived.Shelf.LaysM
import Derived.Shelf.Strconv.Itoa4
import Derived.Test.YtkfkdgginfpdnaaGreatDoorProg
import Derived.Test.YtkfkdgginfpdnaaGreatDoorLgK23
import Derived.Test.YtkfkdgginfpdnaaGreatDoorLgK22
import Derived.Lib.ItoaLen
section
namespace Go.Proofs.YtkfkdgginfpdnaaGreatDoor
open Go Go.Lg
set_option linter.unusedSimpArgs false
set_option linter.unusedVariables false
set_option maxHeartbeats 4000000
attribute [local irreducible] SW runL runQ runG runQG FC Ret1 RetN toF redoL
attribute [local go_sem] D.ifc
theorem mapR_lbs (N:Nat) (P:List (List Int)):mapR (fun j y=>Int64SL [N,j] y) P=(lbs N id P P.length).map intsT:=by
 simp only[mapR,lbs,List.map_map]
 rfl
theorem mapR_mem {α:Type} [Inhabited α] {g:Nat→α→D} {xs:List α} {P:D→Prop} (h:∀j x,P (g j x)):∀d∈mapR g xs,P d:=fun d hd=>by
 obtain⟨j,_,rfl⟩:=List.mem_map.1 hd
 exact h j _
theorem mapR_snocS {α:Type} [Inhabited α] (g:Nat→α→D) (xs:List α) (x:α):mapR g (xs++[x])=mapR g xs++[g xs.length x]:=by
 unfold mapR
 rw[List.length_append,List.length_singleton,List.range_succ,List.map_append]
 congr 1
 ·refine List.map_congr_left fun j hj=>?_
  have hj:=List.mem_range.1 hj
  simp[List.getD,List.getElem?_append_left hj]
 ·simp[List.getD]
def kp146:List (Nat×List Nat):=[(0,[0,1]),(1,[3])]
attribute [go_sem] kp146 Tryz.results146 Tryz.ntmps146
theorem shapes1_fc (tk:Tk) (t u:List Int):FC S 146 [(9,[.sl tk (t.map (.int .i64))])] [] [] ([IntsD u]++[.box 9 0]) (.bool (tst (u=t))) [] []:=by
 refine fcb Tryz.func146 fun B=>?_
 repeat' first|refine sw_n ?_|refine sw_go 0 kp146 fun K hK=>?_|refine fun (K:KT) (hK:KOk S 0 _ _ _ K)=>?_|refine runL_g ?_|refine sw_retg0 ?_|refine sw_retg ?_|(refine hK.n0 ?_;clear hK K)|refine sw_loopEnd ?_|refine hK.c1 rfl rfl rfl (equalInt64_fc _ _ _ _) ?_|with_reducible refine and_o ?_|apply tTT
def kp103:List (Nat×List Nat):=[(0,[1,2]),(1,[1,2,5]),(2,[2,5,10,11,12]),(3,[2,5,10,11,12,13]),(4,[2,5,7,10,11,12]),(5,[2,5,7,8,10,11,12]),(6,[2,5,7,8,10,11,12,19]),(8,[2,5,7,8,10,11,12,26]),(9,[2,5,7,8,9,10,11,12]),(10,[2,5,7,8,9,10,11,12,35]),(11,[2,5,7,8,10,11,12]),(7,[2,5,7,8,10,11,12]),(12,[2,5,10,11,12]),(13,[5]),(14,[4])]
attribute [go_sem] kp103 Tryz.results103 Tryz.ntmps103
theorem shapesOf_fc (hkit:SortKit S.P 148 149) (p:List Nat) (hp:p≠[]) (rs:List Int) (ls:List (List Int)) (hn:ls.length≤12) (hT:∀i<ls.length,TermOkP rs (ls.getD i default)):FC S 103 [] [] [] [.agg [.sl .any (rs.map (.int .i64))],.sl .any (ls.map IntsD)] (Int64SSL p (srtM (shpA rs ls ls.length))) [] []:=by
 have hLA:=shpA_len (rs:=rs) (ls:=ls) fun i hi=>(hT i hi).2.1.2
 refine fcbF Tryz.func103 fun B N hOff=>?_
 repeat' first|exact h.elim|refine sw_n ?_|refine sw_go 0 kp103 fun K hK=>?_|refine fun (K:KT) (hK:KOk S 0 _ _ _ K)=>?_|refine runL_g ?_|refine sw_retg0 ?_|refine sw_retg ?_|(refine hK.n0 ?_;clear hK K)|refine sw_condg rfl (fun h=>?_) fun h=>?_|refine sw_exit rfl ?_|refine sw_loopEnd ?_|with_reducible refine and_o ?_|((with_reducible refine And.intro ?_ ?_);· first|(intro x hx;subst hx;rfl)|exact upR_mem fun _ _=>rfl|exact mapR_mem fun _ _=>rfl|(intro x;refine And.intro ?_ ?_<;>(intros;subst_vars;rfl)))|apply tTT
 refine sw_tok 5 40000 22 1 rfl (.inl rfl) rfl ?_
 simp only[go_sem]
 refine sw_loopT (ι:=Nat) (fun i=>[(12,.int .i64 i),(5,.sl (.own 40000 22 1) (mapR (fun j y=>Int64SL [N,j] y) (shpA rs ls i)))]) (fun _=>[]) (fun _=>[40000]) (fun i=>i≤ls.length) (fun i=>ls.length-i) 0 cvB (by omega) (fun i hi=>?_)
 simp only[go_sem]
 have hla:=hLA i hi
 by_cases hlt:i<ls.length
 ·have hTi:=hT i hlt
  have hli:=hTi.2.1
  have hA1:shpA rs ls (i+1)=shpM rs (ls.getD i default) (shpA rs ls i) ((ls.getD i default).length-1):=rfl
  repeat' first|exact h.elim|(exfalso;omega)|refine sw_n ?_|refine sw_go 0 kp103 fun K hK=>?_|refine fun (K:KT) (hK:KOk S 0 _ _ _ K)=>?_|refine runL_g ?_|refine sw_retg0 ?_|refine sw_retg ?_|(refine hK.n0 ?_;clear hK K)|refine sw_condg rfl (fun h=>?_) fun h=>?_|refine sw_exit rfl ?_|refine sw_loopEnd ?_|with_reducible refine and_o ?_|((with_reducible refine And.intro ?_ ?_);· first|(intro x hx;subst hx;rfl)|exact upR_mem fun _ _=>rfl|exact mapR_mem fun _ _=>rfl|(intro x;refine And.intro ?_ ?_<;>(intros;subst_vars;rfl)))|apply tTT
  refine sw_loopT (ι:=Nat) (fun j=>[(8,.int .i64 (j+1)),(5,.sl (.own 40000 22 1) (mapR (fun j y=>Int64SL [N,j] y) (shpM rs (ls.getD i default) (shpA rs ls i) j)))]) (fun _=>[]) (fun _=>[40000]) (fun j=>j≤(ls.getD i default).length-1) (fun j=>(ls.getD i default).length-1-j) 0 cvB (by omega) (fun j hj=>?_)
  simp only[go_sem]
  by_cases hjl:j<(ls.getD i default).length-1
  ·have hja:j+1<(ls.getD i default).length:=by omega
   have hS:=subS_ok hTi hja
   have hSl:=hS.2.1
   have cS:=subAt_fc .any .any rs (ls.getD i default) (j+1) hTi hja
   have ez:(((j+1:Nat)):Int)=(j:Int)+1:=by omega
   rw[ez] at cS
   have hQl:=shpM_len rs (ls.getD i default) (shpA rs ls i) j
   have hss:∀a,shpM rs (ls.getD i default) (shpA rs ls i) (j+1)=a→a=shpM rs (ls.getD i default) (shpA rs ls i) (j+1):=fun _ h=>h.symm
   have hs0:shpM rs (ls.getD i default) (shpA rs ls i) (j+1)=if 0≤(ls.getD i default).getD (j+1) default then addS (shpM rs (ls.getD i default) (shpA rs ls i) j) (ren0 (subS rs (ls.getD i default) (j+1))) else shpM rs (ls.getD i default) (shpA rs ls i) j:=rfl
   generalize hQ:shpM rs (ls.getD i default) (shpA rs ls i) j=Q at *
   have cR:=renamedL_fc [N,Q.length] (by simp) .any (subS rs (ls.getD i default) (j+1)) hSl
   generalize hu:ren0 (subS rs (ls.getD i default) (j+1))=u at *
   have cC:FC S 145 [(9,[.sl (.lab [N,Q.length]) (u.map (.int .i64))])] [] [] [.sl (.own 40000 22 1) (mapR (fun j y=>Int64SL [N,j] y) Q),.fn 146 [.box 9 0]] (.bool (tst (∃x∈Q,x=u))) [] []:=FC.args (containsFuncInt64S_fc .any Q (fun x=>x=u) _ _ _ (by simp[Lg.look]) (fun x _=>shapes1_fc (.lab [N,Q.length]) u x)) ⟨le_mapR Q fun j x=>⟨le_Int64SL _ _,trivial⟩,.refl _,trivial⟩
   have hex:(∃x∈Q,x=u)↔u∈Q:=⟨fun⟨x,h1,h2⟩=>h2 ▸ h1,fun h=>⟨u,h,rfl⟩⟩
   rcases Classical.em (0≤(ls.getD i default).getD (j+1) default) with h0|h0
   ·rw[if_pos h0] at hs0
    rcases Classical.em (u∈Q) with hm|hm
    ·have hs1:shpM rs (ls.getD i default) (shpA rs ls i) (j+1)=Q:=by rw[hs0];simp only[addS,if_pos hm]
     repeat' first|exact h.elim|(exfalso;omega)|refine sw_n ?_|refine sw_go 0 kp103 fun K hK=>?_|refine fun (K:KT) (hK:KOk S 0 _ _ _ K)=>?_|refine runL_g ?_|refine sw_retg0 ?_|refine sw_retg ?_|(refine hK.n0 ?_;clear hK K)|refine sw_condg rfl (fun h=>?_) fun h=>?_|refine sw_exit rfl ?_|refine sw_loopEnd ?_|refine hK.c1 rfl rfl rfl (cS) ?_|refine hK.c1 rfl rfl rfl (cR) ?_|refine hK.cR rfl rfl rfl (cC) ?_|with_reducible refine and_o ?_|((with_reducible refine And.intro ?_ ?_);· first|(intro x hx;subst hx;rfl)|exact upR_mem fun _ _=>rfl|exact mapR_mem fun _ _=>rfl|(intro x;refine And.intro ?_ ?_<;>(intros;subst_vars;rfl)))|apply tTT
     all_goals first|(exfalso;omega)|(exfalso;exact absurd (hex.2 hm) (by assumption))|exact⟨j+1,(by(refine covers_mk0 rfl rfl ?_ ?_ ?_ ?_<;>simp (disch:=(refine Om.mk ?_;omega)) only[go_sem]<;>(try omega));rw[hs1];first|exact⟨rfl,by omega⟩|exact⟨by omega,rfl⟩),by omega,by omega⟩
    ·have hs1:shpM rs (ls.getD i default) (shpA rs ls i) (j+1)=Q++[u]:=by rw[hs0];simp only[addS,if_neg hm]
     repeat' first|exact h.elim|(exfalso;omega)|refine sw_n ?_|refine sw_go 0 kp103 fun K hK=>?_|refine fun (K:KT) (hK:KOk S 0 _ _ _ K)=>?_|refine runL_g ?_|refine sw_retg0 ?_|refine sw_retg ?_|(refine hK.n0 ?_;clear hK K)|refine sw_condg rfl (fun h=>?_) fun h=>?_|refine sw_exit rfl ?_|refine sw_loopEnd ?_|refine hK.c1 rfl rfl rfl (cS) ?_|refine hK.c1 rfl rfl rfl (cR) ?_|refine hK.cR rfl rfl rfl (cC) ?_|with_reducible refine and_o ?_|((with_reducible refine And.intro ?_ ?_);· first|(intro x hx;subst hx;rfl)|exact upR_mem fun _ _=>rfl|exact mapR_mem fun _ _=>rfl|(intro x;refine And.intro ?_ ?_<;>(intros;subst_vars;rfl)))|apply tTT
     all_goals first|(exfalso;omega)|(exfalso;exact hm (hex.1 (by assumption)))|exact⟨j+1,(by(refine covers_mk0 rfl rfl ?_ ?_ ?_ ?_<;>simp (disch:=(refine Om.mk ?_;omega)) only[go_sem]<;>(try omega));rw[hs1,mapR_snocS];first|exact⟨rfl,by omega⟩|exact⟨by omega,rfl⟩),by omega,by omega⟩
   ·rw[if_neg h0] at hs0
    repeat' first|exact h.elim|(exfalso;omega)|refine sw_n ?_|refine sw_go 0 kp103 fun K hK=>?_|refine fun (K:KT) (hK:KOk S 0 _ _ _ K)=>?_|refine runL_g ?_|refine sw_retg0 ?_|refine sw_retg ?_|(refine hK.n0 ?_;clear hK K)|refine sw_condg rfl (fun h=>?_) fun h=>?_|refine sw_exit rfl ?_|refine sw_loopEnd ?_|refine hK.c1 rfl rfl rfl (cS) ?_|refine hK.c1 rfl rfl rfl (cR) ?_|refine hK.cR rfl rfl rfl (cC) ?_|with_reducible refine and_o ?_|((with_reducible refine And.intro ?_ ?_);· first|(intro x hx;subst hx;rfl)|exact upR_mem fun _ _=>rfl|exact mapR_mem fun _ _=>rfl|(intro x;refine And.intro ?_ ?_<;>(intros;subst_vars;rfl)))|apply tTT
    all_goals first|(exfalso;omega)|exact⟨j+1,(by(refine covers_mk0 rfl rfl ?_ ?_ ?_ ?_<;>simp (disch:=(refine Om.mk ?_;omega)) only[go_sem]<;>(try omega));rw[hs0];first|exact⟨rfl,by omega⟩|exact⟨by omega,rfl⟩),by omega,by omega⟩
  ·have ej:j=(ls.getD i default).length-1:=by omega
   subst ej
   rw[←hA1]
   repeat' first|exact h.elim|(exfalso;omega)|refine sw_n ?_|refine sw_go 0 kp103 fun K hK=>?_|refine fun (K:KT) (hK:KOk S 0 _ _ _ K)=>?_|refine runL_g ?_|refine sw_retg0 ?_|refine sw_retg ?_|(refine hK.n0 ?_;clear hK K)|refine sw_condg rfl (fun h=>?_) fun h=>?_|refine sw_exit rfl ?_|refine sw_loopEnd ?_|with_reducible refine and_o ?_|((with_reducible refine And.intro ?_ ?_);· first|(intro x hx;subst hx;rfl)|exact upR_mem fun _ _=>rfl|exact mapR_mem fun _ _=>rfl|(intro x;refine And.intro ?_ ?_<;>(intros;subst_vars;rfl)))|apply tTT
   exact⟨i+1,cvA,by omega,by omega⟩
 ·have ei:i=ls.length:=by omega
  subst ei
  repeat' first|exact h.elim|(exfalso;omega)|refine sw_n ?_|refine sw_go 0 kp103 fun K hK=>?_|refine fun (K:KT) (hK:KOk S 0 _ _ _ K)=>?_|refine runL_g ?_|refine sw_retg0 ?_|refine sw_retg ?_|(refine hK.n0 ?_;clear hK K)|refine sw_condg rfl (fun h=>?_) fun h=>?_|refine sw_exit rfl ?_|refine sw_loopEnd ?_|with_reducible refine and_o ?_|((with_reducible refine And.intro ?_ ?_);· first|(intro x hx;subst hx;rfl)|exact upR_mem fun _ _=>rfl|exact mapR_mem fun _ _=>rfl|(intro x;refine And.intro ?_ ?_<;>(intros;subst_vars;rfl)))|apply tTT
  have e:=mapR_lbs N (shpA rs ls ls.length)
  simp only[Int64SL] at e
  rw[e]
  refine hK.raw (LopsW.sortOwn (k:=40000) rfl ⟨_,Tryz.func148,by kernel_rfl,rfl⟩ hkit cmpTm (fun _=>True) (fun x y _ _=>compareTerms_fc .any .any x y) cmpT_ord hOff.1 (by simp) rfl rfl ?_ ?_ (fun qs=>[(5,.sl (.own 40000 22 1) (qs.map intsT))]) (fun _=>[]) ?_ ?_ (by simp only[Nat.reduceLT]) ?_)
  ·exact fun q hq=>⟨trivial,by obtain⟨j,_,rfl⟩:=List.mem_map.1 hq;rfl⟩
  ·rw[lbs_len];omega
  ·exact fun qs q hq=>by obtain rfl:=List.mem_singleton.1 hq;exact⟨_,rfl,.inr ⟨rfl,rfl⟩⟩
  ·exact fun qs q hq=>by cases hq
  intro qs hq1 hq2
  refine LopsW.nil ?_
  simp only[go_sem]
  have e0:qs.map (·.2)=srtM (shpA rs ls ls.length):=by
   refine srtM_of ?_ (List.pairwise_map.2 hq2)
   have:=hq1.map (fun q:Tk×List Int=>q.2)
   rwa [lbs_snd,List.map_id] at this
  refine sw_relab hOff (f:=relF N p (qs.map fun q=>labOf q.1)) relF_ne relF_off [(5,.sl (.own 40000 22 1) (mapR (fun i y=>Int64SL (p++[i]++[0]) y) (srtM (shpA rs ls ls.length))))] [] (fun q hq=>?_) (fun q hq=>by cases hq) ?_
  ·obtain rfl:=List.mem_singleton.1 hq
   refine⟨_,rfl,noPL_of fun d hd=>?_,?_⟩
   ·obtain⟨x,_,rfl⟩:=List.mem_map.1 hd
    exact noPL_of fun d hd=>by obtain⟨y,_,rfl⟩:=List.mem_map.1 hd;rfl
   ·show D.sl _ _=D.sl _ (D.rlL _ (qs.map intsT))
    rw[relab_srt hq1,e0]
  simp only[go_sem]
  refine sw_lab 5 p rfl (by simp) hp ?_
  simp only[go_sem]
  repeat' first|exact h.elim|refine sw_n ?_|refine sw_go 0 kp103 fun K hK=>?_|refine fun (K:KT) (hK:KOk S 0 _ _ _ K)=>?_|refine runL_g ?_|refine sw_retg0 ?_|refine sw_retg ?_|(refine hK.n0 ?_;clear hK K)|refine sw_condg rfl (fun h=>?_) fun h=>?_|refine sw_exit rfl ?_|refine sw_loopEnd ?_|with_reducible refine and_o ?_|((with_reducible refine And.intro ?_ ?_);· first|(intro x hx;subst hx;rfl)|exact upR_mem fun _ _=>rfl|exact mapR_mem fun _ _=>rfl|(intro x;refine And.intro ?_ ?_<;>(intros;subst_vars;rfl)))|apply tTT
  all_goals trace_state
def kp122:List (Nat×List Nat):=[(0,[0]),(1,[0,3]),(2,[3,8,9,10]),(3,[3,8,9,10,11]),(4,[3,5,8,9,10]),(5,[3,8,9,10,15]),(8,[3,8,9,10,15,22,23]),(9,[3,6,8,9,10]),(10,[3,8,9,10]),(6,[3,7,8,9,10]),(7,[3,8,9,10]),(11,[3,8,9,10]),(12,[2])]
attribute [go_sem] kp122 Tryz.results122 Tryz.ntmps122
theorem leftsOf_fc (rs:List RuleT) (hn:rs.length≤12) (hl:∀i<rs.length,(rs.getD i default).l.length≤60):FC S 122 [] [] [] [.sl .any (rs.map RuleD)] (.sl .any ((rs.map (·.l)).map IntsD)) [] []:=by
 refine fcb Tryz.func122 fun B=>?_
 repeat' first|exact h.elim|refine sw_n ?_|refine sw_go 0 kp122 fun K hK=>?_|refine fun (K:KT) (hK:KOk S 0 _ _ _ K)=>?_|refine runL_g ?_|refine sw_retg0 ?_|refine sw_retg ?_|(refine hK.n0 ?_;clear hK K)|refine sw_condg rfl (fun h=>?_) fun h=>?_|refine sw_exit rfl ?_|refine sw_loopEnd ?_|with_reducible refine and_o ?_|((with_reducible refine And.intro ?_ ?_);· first|(intro x hx;subst hx;rfl)|exact upR_mem fun _ _=>rfl|exact mapR_mem fun _ _=>rfl|(intro x;refine And.intro ?_ ?_<;>(intros;subst_vars;rfl)))|apply tTT
 refine sw_tok 3 30000 22 1 rfl (.inl rfl) rfl ?_
 simp only[go_sem]
 refine sw_loopT (ι:=Nat) (fun i=>[(10,.int .i64 i),(3,.sl (.own 30000 22 1) (((rs.map (·.l)).take i).map IntsD))]) (fun _=>[]) (fun _=>[30000]) (fun i=>i≤rs.length) (fun i=>rs.length-i) 0 cvB (by omega) (fun i hi=>?_)
 simp only[go_sem]
 have htl:((rs.map (·.l)).take i).length≤12:=by rw[List.length_take,List.length_map];omega
 by_cases hlt:i<rs.length
 ·have ht:(rs.map (·.l)).take (i+1)=(rs.map (·.l)).take i++[(rs.getD i default).l]:=by
   rw[take_snocQ _ i (by rw[List.length_map];exact hlt)]
   simp[List.getD,List.getElem?_eq_getElem hlt]
  have hli:=hl i hlt
  have cK:=(cloneOwn_fc .any (rs.getD i default).l (by omega)).weak (bx'':=[]) (tk'':=[]) .any (by simp) (by simp)
  repeat' first|exact h.elim|(exfalso;omega)|(refine sw_goAt (id:=5) 0 kp122 1 rfl fun K hK=>?_)|refine sw_n ?_|refine sw_go 0 kp122 fun K hK=>?_|refine fun (K:KT) (hK:KOk S 0 _ _ _ K)=>?_|refine runL_g ?_|refine sw_retg0 ?_|refine sw_retg ?_|(refine hK.n0 ?_;clear hK K)|refine sw_condg rfl (fun h=>?_) fun h=>?_|refine sw_exit rfl ?_|refine sw_loopEnd ?_|with_reducible refine and_o ?_|((with_reducible refine And.intro ?_ ?_);· first|(intro x hx;subst hx;rfl)|exact upR_mem fun _ _=>rfl|exact mapR_mem fun _ _=>rfl|(intro x;refine And.intro ?_ ?_<;>(intros;subst_vars;rfl)))|apply tTT
  refine LopsW.mkIface (fun v w=>run_makeInterface w _ v (by kernel_rfl)) rfl rfl rfl (by simp only[Nat.reduceLT]) (LopsW.nil ?_)
  refine fun (K:List Oper→LS→Prop) (hK:KOk S 0 _ _ _ K)=>?_
  simp only[go_sem]
  repeat' first|exact h.elim|(exfalso;omega)|(refine sw_goAt (id:=8) 0 kp122 0 rfl fun K hK=>?_)|refine sw_n ?_|refine sw_go 0 kp122 fun K hK=>?_|refine fun (K:KT) (hK:KOk S 0 _ _ _ K)=>?_|refine runL_g ?_|refine sw_retg0 ?_|refine sw_retg ?_|(refine hK.n0 ?_;clear hK K)|refine sw_condg rfl (fun h=>?_) fun h=>?_|refine sw_exit rfl ?_|refine sw_loopEnd ?_|with_reducible refine and_o ?_|((with_reducible refine And.intro ?_ ?_);· first|(intro x hx;subst hx;rfl)|exact upR_mem fun _ _=>rfl|exact mapR_mem fun _ _=>rfl|(intro x;refine And.intro ?_ ?_<;>(intros;subst_vars;rfl)))|apply tTT
  refine LopsW.asIface (fun v w=>by kernel_rfl) rfl (by simp only[Nat.reduceLT]) (LopsW.nil ?_)
  refine fun (K:List Oper→LS→Prop) (hK:KOk S 0 _ _ _ K)=>?_
  simp only[go_sem]
  repeat' first|exact h.elim|(exfalso;omega)|refine sw_n ?_|refine sw_go 0 kp122 fun K hK=>?_|refine fun (K:KT) (hK:KOk S 0 _ _ _ K)=>?_|refine runL_g ?_|refine sw_retg0 ?_|refine sw_retg ?_|(refine hK.n0 ?_;clear hK K)|refine sw_condg rfl (fun h=>?_) fun h=>?_|refine sw_exit rfl ?_|refine sw_loopEnd ?_|refine hK.c1 rfl rfl rfl (cK) ?_|with_reducible refine and_o ?_|((with_reducible refine And.intro ?_ ?_);· first|(intro x hx;subst hx;rfl)|exact upR_mem fun _ _=>rfl|exact mapR_mem fun _ _=>rfl|(intro x;refine And.intro ?_ ?_<;>(intros;subst_vars;rfl)))|apply tTT
  exact⟨i+1,(by(refine covers_mk0 rfl rfl ?_ ?_ ?_ ?_<;>simp (disch:=(refine Om.mk ?_;omega)) only[go_sem]<;>(try omega));rw[ht,List.map_append];first|exact⟨rfl,by omega⟩|exact⟨by omega,rfl⟩),by omega,by omega⟩
 ·repeat' first|exact h.elim|(exfalso;omega)|refine sw_n ?_|refine sw_go 0 kp122 fun K hK=>?_|refine fun (K:KT) (hK:KOk S 0 _ _ _ K)=>?_|refine runL_g ?_|refine sw_retg0 ?_|refine sw_retg ?_|(refine hK.n0 ?_;clear hK K)|refine sw_condg rfl (fun h=>?_) fun h=>?_|refine sw_exit rfl ?_|refine sw_loopEnd ?_|with_reducible refine and_o ?_|((with_reducible refine And.intro ?_ ?_);· first|(intro x hx;subst hx;rfl)|exact upR_mem fun _ _=>rfl|exact mapR_mem fun _ _=>rfl|(intro x;refine And.intro ?_ ?_<;>(intros;subst_vars;rfl)))|apply tTT
  rw[List.take_of_length_le (by rw[List.length_map];omega)]
end Go.Proofs.YtkfkdgginfpdnaaGreatDoor
end
section
namespace Go.Proofs.YtkfkdgginfpdnaaGreatDoor
open Go Go.Lg
set_option linter.unusedSimpArgs false
set_option linter.unusedVariables false
set_option maxHeartbeats 4000000
attribute [local irreducible] SW runL runQ runG runQG FC Ret1 RetN toF redoL anyB
attribute [go_sem] formD
theorem place_find (t:List Int):∀xs:List (List Int),placeI t xs=fidx (fun x=>x=t) xs:=fun xs=>by
 by_cases h:t∈xs
 ·have h1:xs.idxOf t<xs.length:=List.idxOf_lt_length_iff.2 h
  have h2:xs[xs.idxOf t]=t:=List.getElem_idxOf h1
  have hg:xs.getD (xs.idxOf t) default=t:=by rw[List.getD_eq_getElem?_getD,List.getElem?_eq_getElem h1];exact h2
  have hmin:∀j<xs.idxOf t,xs.getD j default≠t:=fun j hj e=>by
   have:=List.not_of_lt_findIdx (p:=(·==t)) (xs:=xs) (i:=j) hj
   rw[List.getD_eq_getElem?_getD,List.getElem?_eq_getElem (by omega)] at e
   simp at this e
   exact this e
  rw[placeI_at hmin h1 hg,fidx_at hmin h1 hg]
 ·rw[placeI_none (fun j hj e=>h (by rw[←e];exact getD_mem xs j hj)),fidx_none (fun j hj e=>h (by rw[←e];exact getD_mem xs j hj))]
theorem fit_step {x:FormT} {f:Int} {args:List (List Int)} (he:x.head=f):FitF x f args↔∀j<x.args.length,0≤x.args.getD j default→x.args.getD j default∈args.getD j default:=⟨fun h=>h.2,fun h=>⟨he,h⟩⟩
def kp111:List (Nat×List Nat):=[(0,[1,2,3]),(1,[2,3,12]),(2,[6]),(3,[2,14,15,16]),(4,[2,14,15,16,17]),(5,[2,7,8,14,15,16]),(6,[2,14,15,16,31]),(7,[6]),(8,[2,14,15,16]),(9,[6])]
attribute [go_sem] kp111 Tryz.results111 Tryz.ntmps111
theorem fits_fc (tk:Tk) (x:FormT) (f:Int) (sets:List (List Int)) (h3:x.args.length≤3) (hl:x.head=f→x.args.length≤sets.length):FC S 111 [] [] [] [formD x,.int .i64 f,.sl tk (sets.map IntsD)] (.bool (tst (FitF x f sets))) [] []:=by
 by_cases he:x.head=f
 ·have hl:=hl he
  rw[tst_congr (fit_step he)]
  refine FC.args (args':=[formD x,.int .i64 f,.sl .any (sets.map IntsD)]) ?_ (by simp only[go_sem])
  refine fcb Tryz.func111 fun B=>?_
  refine sw_bndg 2 fun hb2=>?_
  repeat' first|exact h.elim|(exfalso;omega)|refine sw_n ?_|refine sw_go 0 kp111 fun K hK=>?_|refine fun (K:KT) (hK:KOk S 0 _ _ _ K)=>?_|refine runL_g ?_|refine sw_retg0 ?_|refine sw_retg ?_|(refine hK.n0 ?_;clear hK K)|refine runG_fk (fun h=>?_) fun h=>?_|refine sw_condg rfl (fun h=>?_) fun h=>?_|refine hK.skp rfl rfl ?_|refine sw_exit rfl ?_|refine sw_loopEnd ?_|(refine hK.fork rfl rfl rfl ?_ ?_<;>intro h<;>try simp (disch:=(refine Om.mk ?_;omega)) only[go_sem] at h)|with_reducible refine and_o ?_|apply tTT
  refine sw_loopT (ι:=Nat) (fun i=>[(16,.int .i64 i)]) (fun _=>[]) (fun _=>[]) (fun i=>i≤x.args.length∧∀j<i,0≤x.args.getD j default→x.args.getD j default∈sets.getD j default) (fun i=>x.args.length-i) 0 cvB ⟨Nat.zero_le _,fun j hj=>absurd hj (Nat.not_lt_zero _)⟩ (fun i hi=>?_)
  obtain⟨hi,hj⟩:=hi
  simp only[go_sem]
  by_cases hil:i<x.args.length
  ·by_cases h0:0≤x.args.getD i default
   ·by_cases hm:x.args.getD i default∈sets.getD i default
    ·repeat' first|exact h.elim|(exfalso;first|omega|exact absurd hm (by assumption))|refine sw_n ?_|refine sw_go 0 kp111 fun K hK=>?_|refine fun (K:KT) (hK:KOk S 0 _ _ _ K)=>?_|refine runL_g ?_|refine sw_retg0 ?_|refine sw_retg ?_|(refine hK.n0 ?_;clear hK K)|refine runG_fk (fun h=>?_) fun h=>?_|refine sw_condg rfl (fun h=>?_) fun h=>?_|refine hK.skp rfl rfl ?_|refine sw_exit rfl ?_|refine sw_loopEnd ?_|refine hK.c1 rfl rfl rfl (contains_fc _ _ _) ?_|(refine hK.fork rfl rfl rfl ?_ ?_<;>intro h<;>try simp (disch:=(refine Om.mk ?_;omega)) only[go_sem] at h)|with_reducible refine and_o ?_|apply tTT
     all_goals first|(exfalso;first|omega|exact absurd hm (by assumption))|exact⟨i+1,cvA,⟨by omega,upto_succ hj (fun _=>hm)⟩,by omega⟩|trace_state
    ·have hno:¬ ∀j<x.args.length,0≤x.args.getD j default→x.args.getD j default∈sets.getD j default:=fun h=>hm (h i hil h0)
     rw[tst_false hno]
     repeat' first|exact h.elim|(exfalso;first|omega|exact absurd (by assumption) hm)|refine sw_n ?_|refine sw_go 0 kp111 fun K hK=>?_|refine fun (K:KT) (hK:KOk S 0 _ _ _ K)=>?_|refine runL_g ?_|refine sw_retg0 ?_|refine sw_retg ?_|(refine hK.n0 ?_;clear hK K)|refine runG_fk (fun h=>?_) fun h=>?_|refine sw_condg rfl (fun h=>?_) fun h=>?_|refine hK.skp rfl rfl ?_|refine sw_exit rfl ?_|refine sw_loopEnd ?_|refine hK.c1 rfl rfl rfl (contains_fc _ _ _) ?_|(refine hK.fork rfl rfl rfl ?_ ?_<;>intro h<;>try simp (disch:=(refine Om.mk ?_;omega)) only[go_sem] at h)|with_reducible refine and_o ?_|apply tTT
     all_goals first|(exfalso;exact absurd (by assumption) hm)|trace_state
   ·repeat' first|exact h.elim|(exfalso;omega)|refine sw_n ?_|refine sw_go 0 kp111 fun K hK=>?_|refine fun (K:KT) (hK:KOk S 0 _ _ _ K)=>?_|refine runL_g ?_|refine sw_retg0 ?_|refine sw_retg ?_|(refine hK.n0 ?_;clear hK K)|refine runG_fk (fun h=>?_) fun h=>?_|refine sw_condg rfl (fun h=>?_) fun h=>?_|refine hK.skp rfl rfl ?_|refine sw_exit rfl ?_|refine sw_loopEnd ?_|refine hK.c1 rfl rfl rfl (contains_fc _ _ _) ?_|(refine hK.fork rfl rfl rfl ?_ ?_<;>intro h<;>try simp (disch:=(refine Om.mk ?_;omega)) only[go_sem] at h)|with_reducible refine and_o ?_|apply tTT
    all_goals first|(exfalso;omega)|exact⟨i+1,cvA,⟨by omega,upto_succ hj (fun h=>absurd h h0)⟩,by omega⟩|trace_state
  ·obtain rfl:i=x.args.length:=by omega
   rw[tst_true hj]
   repeat' first|exact h.elim|(exfalso;omega)|refine sw_n ?_|refine sw_go 0 kp111 fun K hK=>?_|refine fun (K:KT) (hK:KOk S 0 _ _ _ K)=>?_|refine runL_g ?_|refine sw_retg0 ?_|refine sw_retg ?_|(refine hK.n0 ?_;clear hK K)|refine runG_fk (fun h=>?_) fun h=>?_|refine sw_condg rfl (fun h=>?_) fun h=>?_|refine hK.skp rfl rfl ?_|refine sw_exit rfl ?_|refine sw_loopEnd ?_|(refine hK.fork rfl rfl rfl ?_ ?_<;>intro h<;>try simp (disch:=(refine Om.mk ?_;omega)) only[go_sem] at h)|with_reducible refine and_o ?_|apply tTT
 ·rw[tst_false fun h=>he h.1]
  refine fcb Tryz.func111 fun B=>?_
  repeat' first|exact h.elim|(exfalso;exact he (by assumption))|refine sw_n ?_|refine sw_go 0 kp111 fun K hK=>?_|refine fun (K:KT) (hK:KOk S 0 _ _ _ K)=>?_|refine runL_g ?_|refine sw_retg0 ?_|refine sw_retg ?_|(refine hK.n0 ?_;clear hK K)|refine runG_fk (fun h=>?_) fun h=>?_|refine sw_condg rfl (fun h=>?_) fun h=>?_|refine hK.skp rfl rfl ?_|refine sw_exit rfl ?_|refine sw_loopEnd ?_|(refine hK.fork rfl rfl rfl ?_ ?_<;>intro h<;>try simp (disch:=(refine Om.mk ?_;omega)) only[go_sem] at h)|with_reducible refine and_o ?_|apply tTT
def kp166:List (Nat×List Nat):=[(0,[0,1]),(1,[3])]
attribute [go_sem] kp166 Tryz.results166 Tryz.ntmps166
theorem form1_fc (tk:Tk) (t u:List Int):FC S 166 [(11,[.sl tk (t.map (.int .i64))])] [] [] ([IntsD u]++[.box 11 0]) (.bool (tst (u=t))) [] []:=by
 refine fcb Tryz.func166 fun B=>?_
 repeat' first|refine sw_n ?_|refine sw_go 0 kp166 fun K hK=>?_|refine fun (K:KT) (hK:KOk S 0 _ _ _ K)=>?_|refine runL_g ?_|refine sw_retg0 ?_|refine sw_retg ?_|(refine hK.n0 ?_;clear hK K)|refine sw_loopEnd ?_|refine hK.c1 rfl rfl rfl (equalInt64_fc _ _ _ _) ?_|with_reducible refine and_o ?_|apply tTT
def kp150:List (Nat×List Nat):=[(0,[1,2,3,6]),(1,[1,2,3,6,7]),(2,[1,2,3,6,7,18,19,20]),(3,[1,2,3,6,7,18,19,20,21]),(4,[1,2,3,6,7,9,18,19,20]),(5,[1,2,3,6,7,9,10,18,19,20]),(6,[1,2,3,6,7,9,10,18,19,20,28]),(7,[1,2,3,6,7,11,18,19,20]),(8,[1,2,3,6,7,10,18,19,20]),(9,[1,2,3,6,7,18,19,20]),(10,[1,2,3,6,7,18,19,20]),(11,[6])]
attribute [go_sem] kp150 Tryz.results150 Tryz.ntmps150
theorem formOf_fc (rs:List Int) (SH:List (List Int)) (t:List Int) (hT:TermOkP rs t) (hSH:SH.length≤1000):FC S 150 [] [] [] [.agg [.sl .any (rs.map (.int .i64))],.sl .any (SH.map IntsD),.sl .any (t.map (.int .i64))] (formD (formR rs SH t)) [] []:=by
 have hpl:=hT.2.1
 have hp0:0<t.length:=by omega
 have h3:(argsS rs t 0).length≤3:=by
  rw[argsS_len]
  have:=arS_rng hT.1 (t.getD 0 default)
  omega
 have cA:=argsAt_fc .any .any rs t 0 hT hp0
 have hlt:=argsS_lt hT hp0
 have hfm:formR rs SH t=⟨t.getD 0 default,(argsS rs t 0).map (argF rs SH t)⟩:=rfl
 rw[hfm]
 generalize hA:argsS rs t 0=A at *
 refine fcb Tryz.func150 fun B=>?_
 repeat' first|exact h.elim|(exfalso;omega)|refine sw_n ?_|refine sw_go 0 kp150 fun K hK=>?_|refine fun (K:KT) (hK:KOk S 0 _ _ _ K)=>?_|refine runL_g ?_|refine sw_retg0 ?_|refine sw_retg ?_|(refine hK.n0 ?_;clear hK K)|refine sw_condg rfl (fun h=>?_) fun h=>?_|refine sw_exit rfl ?_|refine sw_loopEnd ?_|refine hK.c1 rfl rfl rfl (cA) ?_|with_reducible refine and_o ?_|((with_reducible refine And.intro ?_ ?_);· first|(intro x hx;subst hx;rfl)|(intro x;refine And.intro ?_ ?_<;>(intros;subst_vars;rfl)))|apply tTT
 refine sw_tokBox 7 1 42000 2 1 rfl rfl rfl ?_
 simp only[go_sem]
 refine sw_loopT (ι:=Nat) (fun i=>[(20,.int .i64 i)]) (fun i=>[(7,[.int .i64 (t.getD 0 default),.sl (.own 42000 2 1) (((A.take i).map (argF rs SH t)).map (.int .i64))])]) (fun _=>[42000]) (fun i=>i≤A.length) (fun i=>A.length-i) 0 cvB (Nat.zero_le _) (fun i hi=>?_)
 simp only[go_sem]
 by_cases hil:i<A.length
 ·have hq:=hlt _ (getD_mem A i hil)
  have hst:(A.take (i+1)).map (argF rs SH t)=(A.take i).map (argF rs SH t)++[argF rs SH t (A.getD i default)]:=by
   rw[List.take_add_one,List.getElem?_eq_getElem hil,List.map_append,List.getD_eq_getElem?_getD,List.getElem?_eq_getElem hil]
   rfl
  have hAi:argF rs SH t (A.getD i default)=if 0≤t.getD (A.getD i default) default then placeI (ren0 (subS rs t (A.getD i default))) SH else -1:=rfl
  have hml:((A.take i).map (argF rs SH t)).length≤3:=by rw[List.length_map,List.length_take];omega
  generalize hM:(A.take i).map (argF rs SH t)=M at *
  have hS:=subS_ok hT hq.2
  have hrl:(ren0 (subS rs t (A.getD i default))).length=(subS rs t (A.getD i default)).length:=by unfold ren0;rw[List.length_map]
  have hSl:=hS.2.1
  have cS:=subAt_fc .any .any rs t (A.getD i default) hT hq.2
  have cR:=renamedL_fc [1] (by simp) .any (subS rs t (A.getD i default)) hSl
  by_cases h0:0≤t.getD (A.getD i default) default
  ·rw[if_pos h0] at hAi
   rw[hAi] at hst
   generalize hu:ren0 (subS rs t (A.getD i default))=u at *
   have cI:=indexFuncInt64S_fc .any SH (fun x=>x=u) 166 [.box 11 0] [(11,[.sl (.lab [1]) (u.map (.int .i64))])] (by simp[Lg.look]) (fun x _=>form1_fc (.lab [1]) u x)
   rw[←place_find] at cI
   have hpg:=(placeI_ge u SH).1
   repeat' first|exact h.elim|(exfalso;omega)|refine sw_n ?_|refine sw_go 0 kp150 fun K hK=>?_|refine fun (K:KT) (hK:KOk S 0 _ _ _ K)=>?_|refine runL_g ?_|refine sw_retg0 ?_|refine sw_retg ?_|(refine hK.n0 ?_;clear hK K)|refine sw_condg rfl (fun h=>?_) fun h=>?_|refine sw_exit rfl ?_|refine sw_loopEnd ?_|refine hK.c1 rfl rfl rfl (cS) ?_|refine hK.c1 rfl rfl rfl (cR) ?_|refine hK.cR rfl rfl rfl (cI) ?_|with_reducible refine and_o ?_|((with_reducible refine And.intro ?_ ?_);· first|(intro x hx;subst hx;rfl)|(intro x;refine And.intro ?_ ?_<;>(intros;subst_vars;rfl)))|apply tTT
   all_goals first|exact⟨i+1,(by(refine covers_mk0 rfl rfl ?_ ?_ ?_ ?_<;>simp (disch:=(refine Om.mk ?_;omega)) only[go_sem]<;>(try omega));all_goals first|(rw[hst,List.map_append];rfl)|(rw[hst,List.map_append];exact⟨rfl,by omega⟩)|(simp[hst];done)|trace_state),by omega,by omega⟩|trace_state
  ·rw[if_neg h0] at hAi
   rw[hAi] at hst
   repeat' first|exact h.elim|(exfalso;omega)|refine sw_n ?_|refine sw_go 0 kp150 fun K hK=>?_|refine fun (K:KT) (hK:KOk S 0 _ _ _ K)=>?_|refine runL_g ?_|refine sw_retg0 ?_|refine sw_retg ?_|(refine hK.n0 ?_;clear hK K)|refine sw_condg rfl (fun h=>?_) fun h=>?_|refine sw_exit rfl ?_|refine sw_loopEnd ?_|refine hK.c1 rfl rfl rfl (cS) ?_|refine hK.c1 rfl rfl rfl (cR) ?_|with_reducible refine and_o ?_|((with_reducible refine And.intro ?_ ?_);· first|(intro x hx;subst hx;rfl)|(intro x;refine And.intro ?_ ?_<;>(intros;subst_vars;rfl)))|apply tTT
   all_goals first|exact⟨i+1,(by(refine covers_mk0 rfl rfl ?_ ?_ ?_ ?_<;>simp (disch:=(refine Om.mk ?_;omega)) only[go_sem]<;>(try omega));all_goals first|(rw[hst,List.map_append];rfl)|(rw[hst,List.map_append];exact⟨rfl,by omega⟩)|(simp[hst];done)|trace_state),by omega,by omega⟩|trace_state
 ·obtain rfl:i=A.length:=by omega
  rw[List.take_of_length_le (Nat.le_refl _)]
  repeat' first|exact h.elim|(exfalso;omega)|refine sw_n ?_|refine sw_go 0 kp150 fun K hK=>?_|refine fun (K:KT) (hK:KOk S 0 _ _ _ K)=>?_|refine runL_g ?_|refine sw_retg0 ?_|refine sw_retg ?_|(refine hK.n0 ?_;clear hK K)|refine sw_condg rfl (fun h=>?_) fun h=>?_|refine sw_exit rfl ?_|refine sw_loopEnd ?_|with_reducible refine and_o ?_|((with_reducible refine And.intro ?_ ?_);· first|(intro x hx;subst hx;rfl)|(intro x;refine And.intro ?_ ?_<;>(intros;subst_vars;rfl)))|apply tTT
def kp104:List (Nat×List Nat):=[(0,[1,2,3]),(1,[1,2,3,7]),(2,[1,3,7,10,11,12]),(3,[1,3,7,10,11,12,13]),(4,[1,3,7,9,10,11,12]),(5,[1,3,7,10,11,12]),(6,[1,3,7,10,11,12]),(7,[6])]
attribute [go_sem] kp104 Tryz.results104 Tryz.ntmps104
theorem formsOf_fc (rs:List Int) (SH ts:List (List Int)) (hT:∀t∈ts,TermOkP rs t) (hSH:SH.length≤1000) (hts:ts.length≤1000):FC S 104 [] [] [] [.agg [.sl .any (rs.map (.int .i64))],.sl .any (SH.map IntsD),.sl .any (ts.map IntsD)] (.sl .any ((ts.map (formR rs SH)).map formD)) [] []:=by
 refine fcb Tryz.func104 fun B=>?_
 repeat' first|exact h.elim|refine sw_n ?_|refine sw_go 0 kp104 fun K hK=>?_|refine fun (K:KT) (hK:KOk S 0 _ _ _ K)=>?_|refine runL_g ?_|refine sw_retg0 ?_|refine sw_retg ?_|(refine hK.n0 ?_;clear hK K)|refine sw_condg rfl (fun h=>?_) fun h=>?_|refine sw_exit rfl ?_|refine sw_loopEnd ?_|with_reducible refine and_o ?_|((with_reducible refine And.intro ?_ ?_);· first|(intro x hx;subst hx;rfl)|(intro x;refine And.intro ?_ ?_<;>(intros;subst_vars;rfl)))|apply tTT
 refine sw_tok 7 23000 151 2 rfl (.inl rfl) rfl ?_
 simp only[go_sem]
 refine sw_loopT (ι:=Nat) (fun i=>[(12,.int .i64 i),(7,.sl (.own 23000 151 2) (((ts.take i).map (formR rs SH)).map formD))]) (fun _=>[]) (fun _=>[23000]) (fun i=>i≤ts.length) (fun i=>ts.length-i) 0 cvB (Nat.zero_le _) (fun i hi=>?_)
 simp only[go_sem]
 by_cases hil:i<ts.length
 ·have cF:=formOf_fc rs SH (ts.getD i default) (hT _ (getD_mem ts i hil)) hSH
  have hst:(ts.take (i+1)).map (formR rs SH)=(ts.take i).map (formR rs SH)++[formR rs SH (ts.getD i default)]:=by
   rw[List.take_add_one,List.getElem?_eq_getElem hil,List.map_append,List.getD_eq_getElem?_getD,List.getElem?_eq_getElem hil]
   rfl
  have hml:((ts.take i).map (formR rs SH)).length≤1000:=by rw[List.length_map,List.length_take];omega
  generalize hM:(ts.take i).map (formR rs SH)=M at *
  repeat' first|exact h.elim|(exfalso;omega)|refine sw_n ?_|refine sw_go 0 kp104 fun K hK=>?_|refine fun (K:KT) (hK:KOk S 0 _ _ _ K)=>?_|refine runL_g ?_|refine sw_retg0 ?_|refine sw_retg ?_|(refine hK.n0 ?_;clear hK K)|refine sw_condg rfl (fun h=>?_) fun h=>?_|refine sw_exit rfl ?_|refine sw_loopEnd ?_|refine hK.c1 rfl rfl rfl (cF) ?_|with_reducible refine and_o ?_|((with_reducible refine And.intro ?_ ?_);· first|(intro x hx;subst hx;rfl)|(intro x;refine And.intro ?_ ?_<;>(intros;subst_vars;rfl)))|apply tTT
  all_goals first|exact⟨i+1,(by(refine covers_mk0 rfl rfl ?_ ?_ ?_ ?_<;>simp (disch:=(refine Om.mk ?_;omega)) only[go_sem]<;>(try omega));all_goals first|(rw[hst,List.map_append];rfl)|(rw[hst,List.map_append];exact⟨rfl,by omega⟩)|trace_state),by omega,by omega⟩|trace_state
 ·obtain rfl:i=ts.length:=by omega
  rw[List.take_of_length_le (Nat.le_refl _)]
  repeat' first|exact h.elim|(exfalso;omega)|refine sw_n ?_|refine sw_go 0 kp104 fun K hK=>?_|refine fun (K:KT) (hK:KOk S 0 _ _ _ K)=>?_|refine runL_g ?_|refine sw_retg0 ?_|refine sw_retg ?_|(refine hK.n0 ?_;clear hK K)|refine sw_condg rfl (fun h=>?_) fun h=>?_|refine sw_exit rfl ?_|refine sw_loopEnd ?_|with_reducible refine and_o ?_|((with_reducible refine And.intro ?_ ?_);· first|(intro x hx;subst hx;rfl)|(intro x;refine And.intro ?_ ?_<;>(intros;subst_vars;rfl)))|apply tTT
end Go.Proofs.YtkfkdgginfpdnaaGreatDoor
end
section
namespace Go.Proofs.YtkfkdgginfpdnaaGreatDoor
open Go Go.Lg
set_option linter.unusedSimpArgs false
set_option linter.unusedVariables false
set_option maxHeartbeats 4000000
theorem dec_small {u:Nat} (h:u<10):Lib.decDigits u=[UInt8.ofNat (48+u)]:=by rw[Lib.decDigits,dif_pos h]
theorem dec_big {u:Nat} (h:¬u<10):Lib.decDigits u=Lib.decDigits (u / 10)++[UInt8.ofNat (48+u%10)]:=by rw[Lib.decDigits,dif_neg h]
theorem dec_ne (u:Nat):Lib.decDigits u≠[]:=by
 by_cases h:u<10
 ·rw[dec_small h];simp
 ·rw[dec_big h];simp
theorem dig_inj {a b:Nat} (ha:a<10) (hb:b<10) (h:UInt8.ofNat (48+a)=UInt8.ofNat (48+b)):a=b:=by
 have h:=congrArg UInt8.toNat h
 simp only[UInt8.toNat_ofNat'] at h
 omega
theorem dec_no44:∀(n u:Nat),u≤n→∀c∈Lib.decDigits u,c≠44
 | n,u,hu,c,hc=>by
  have key:∀d:Nat,d<10→UInt8.ofNat (48+d)≠44:=fun d hd h=>by
   have h:=congrArg UInt8.toNat h
   simp only[UInt8.toNat_ofNat'] at h
   have:(44:UInt8).toNat=44:=rfl
   omega
  by_cases h:u<10
  ·rw[dec_small h] at hc
   rw[List.mem_singleton.1 hc]
   exact key u h
  ·rw[dec_big h] at hc
   cases n with
   | zero=>omega
   | succ n =>
    rcases List.mem_append.1 hc with hc|hc
    ·exact dec_no44 n (u / 10) (by omega) c hc
    ·rw[List.mem_singleton.1 hc]
     exact key _ (Nat.mod_lt _ (by decide))
theorem dec_inj:∀(n u v:Nat),u≤n→Lib.decDigits u=Lib.decDigits v→u=v
 | n,u,v,hu,h=>by
  have hlast:∀ {a b:List UInt8} {x y:UInt8},a++[x]=b++[y]→a=b∧x=y:=fun {a b x y} h=>by
   have:=List.append_inj' h rfl
   exact⟨this.1,by simpa using this.2⟩
  by_cases h1:u<10<;>by_cases h2:v<10
  ·rw[dec_small h1,dec_small h2] at h
   exact dig_inj h1 h2 (by simpa using h)
  ·rw[dec_small h1,dec_big h2,←List.nil_append [UInt8.ofNat (48+u)]] at h
   exact absurd (hlast h).1.symm (dec_ne _)
  ·rw[dec_big h1,dec_small h2,←List.nil_append [UInt8.ofNat (48+v)]] at h
   exact absurd (hlast h).1 (dec_ne _)
  ·rw[dec_big h1,dec_big h2] at h
   obtain⟨q1,q2⟩:=hlast h
   have e2:=dig_inj (Nat.mod_lt _ (by decide)) (Nat.mod_lt _ (by decide)) q2
   cases n with
   | zero=>omega
   | succ n =>
    have e1:=dec_inj n (u / 10) (v / 10) (by omega) q1
    omega
theorem cut44:∀ {a b r s:List UInt8},(∀c∈a,c≠44)→(∀c∈b,c≠44)→(∀c t,r=c::t→c=44)→(∀c t,s=c::t→c=44)→a++r=b++s→a=b∧r=s
 | [],[],r,s,_,_,_,_,h=>⟨rfl,h⟩
 | [],y::b,r,s,_,hb,hr,_,h=>by
  rw[List.nil_append] at h
  exact absurd (hr y (b++s) h) (hb y List.mem_cons_self)
 | x::a,[],r,s,ha,_,_,hs,h=>by
  rw[List.nil_append] at h
  exact absurd (hs x (a++r) h.symm) (ha x List.mem_cons_self)
 | x::a,y::b,r,s,ha,hb,hr,hs,h=>by
  simp only[List.cons_append,List.cons.injEq] at h
  obtain⟨e1,e2⟩:=cut44 (fun c hc=>ha c (List.mem_cons_of_mem _ hc)) (fun c hc=>hb c (List.mem_cons_of_mem _ hc)) hr hs h.2
  exact⟨by rw[h.1,e1],e2⟩
theorem tail44 (r:List (List UInt8)):∀c t,Lib.joinTail [44] r=c::t→c=44:=fun c t h=>by
 cases r with
 | nil=>cases h
 | cons x r =>
  simp only[Lib.joinTail,List.map_cons,List.flatten_cons,List.cons_append,List.nil_append,List.cons.injEq] at h
  exact h.1.symm
theorem tail_inj:∀ {r s:List (List UInt8)},(∀x∈r,∀c∈x,c≠44)→(∀x∈s,∀c∈x,c≠44)→Lib.joinTail [44] r=Lib.joinTail [44] s→r=s
 | [],[],_,_,_=>rfl
 | [],y::s,_,_,h=>by simp[Lib.joinTail] at h
 | x::r,[],_,_,h=>by simp[Lib.joinTail] at h
 | x::r,y::s,hr,hs,h=>by
  have e:∀(z:List UInt8) (q:List (List UInt8)),Lib.joinTail [44] (z::q)=44::(z++Lib.joinTail [44] q):=fun z q=>by simp[Lib.joinTail]
  rw[e,e,List.cons.injEq] at h
  obtain⟨e1,e2⟩:=cut44 (hr x List.mem_cons_self) (hs y List.mem_cons_self) (tail44 r) (tail44 s) h.2
  rw[e1,tail_inj (fun z hz=>hr z (List.mem_cons_of_mem _ hz)) (fun z hz=>hs z (List.mem_cons_of_mem _ hz)) e2]
theorem join_inj {r s:List (List UInt8)} (hr:∀x∈r,x≠[]∧∀c∈x,c≠44) (hs:∀x∈s,x≠[]∧∀c∈x,c≠44) (h:Lib.join r [44]=Lib.join s [44]):r=s:=by
 cases r with
 | nil =>
  cases s with
  | nil=>rfl
  | cons y s =>
   rw[Lib.join_nil,Lib.join_cons] at h
   exact absurd (List.append_eq_nil_iff.1 h.symm).1 (hs y List.mem_cons_self).1
 | cons x r =>
  cases s with
  | nil =>
   rw[Lib.join_nil,Lib.join_cons] at h
   exact absurd (List.append_eq_nil_iff.1 h).1 (hr x List.mem_cons_self).1
  | cons y s =>
   rw[Lib.join_cons,Lib.join_cons] at h
   obtain⟨e1,e2⟩:=cut44 (hr x List.mem_cons_self).2 (hs y List.mem_cons_self).2 (tail44 r) (tail44 s) h
   rw[e1,tail_inj (fun z hz=>(hr z (List.mem_cons_of_mem _ hz)).2) (fun z hz=>(hs z (List.mem_cons_of_mem _ hz)).2) e2]
def numB (n:Int):ByteArray:=⟨(Lib.itoa n).toArray⟩
def txtB (xs:List Int):ByteArray:=⟨(Lib.join ((xs.map numB).map (·.data.toList)) [44]).toArray⟩
theorem txt_inj {xs ys:List Int} (hx:∀x∈xs,0≤x) (hy:∀x∈ys,0≤x) (h:txtB xs=txtB ys):xs=ys:=by
 have h1:∀zs:List Int,(∀z∈zs,0≤z)→(zs.map numB).map (·.data.toList)=zs.map fun z=>Lib.decDigits z.toNat:=fun zs hz=>by
  rw[List.map_map]
  refine List.map_congr_left fun z hm=>?_
  have:=hz z hm
  simp only[Function.comp,numB,Lib.itoa]
  rw[if_neg (by omega)]
 have h2:∀zs:List Int,∀x∈zs.map (fun z=>Lib.decDigits z.toNat),x≠[]∧∀c∈x,c≠44:=fun zs x hm=>by
  obtain⟨z,_,rfl⟩:=List.mem_map.1 hm
  exact⟨dec_ne _,dec_no44 _ _ (Nat.le_refl _)⟩
 have h:=congrArg (fun b:ByteArray=>b.data.toList) h
 simp only[txtB] at h
 rw[h1 xs hx,h1 ys hy] at h
 have e:=join_inj (h2 xs) (h2 ys) (by simpa using h)
 have key:∀ {us bs:List Int},(∀z∈us,0≤z)→(∀z∈bs,0≤z)→us.map (fun z=>Lib.decDigits z.toNat)=bs.map (fun z=>Lib.decDigits z.toNat)→us=bs:=fun {us}=>by
  induction us with
  | nil=>intro bs _ _ h;exact(List.map_eq_nil_iff.1 h.symm).symm
  | cons a us ih =>
   intro bs ha hb h
   cases bs with
   | nil=>cases h
   | cons b bs =>
    simp only[List.map_cons,List.cons.injEq] at h
    have e1:=dec_inj _ _ _ (Nat.le_refl _) h.1
    have h3:=ha a List.mem_cons_self
    have h4:=hb b List.mem_cons_self
    rw[show a=b by omega,ih (fun z hz=>ha z (List.mem_cons_of_mem _ hz)) (fun z hz=>hb z (List.mem_cons_of_mem _ hz)) h.2]
 exact key hx hy e
end Go.Proofs.YtkfkdgginfpdnaaGreatDoor
end
section
namespace Go.Proofs
open Go.Shelf
def Tryz.lays156_ren:Go.Shelf.Ren:=⟨fun|156=>194|165=>197|166=>198|169=>199|240=>201|241=>202|276=>207|277=>208|n=>n,fun|31=>228|9=>9|3=>3|4=>4|0=>0|20=>20|72=>238|76=>242|70=>235|37=>236|75=>241|127=>245|164=>251|5=>5|80=>244|n=>n,fun|n=>n⟩
theorem Tryz.lays156:Go.Proofs.Lays.n156 Tryz.prog Tryz.lays156_ren:={
 mixed:=by kernel_rfl
 f156:=Tryz.func194.trans (congrArg some (by kernel_rfl))
 f165:=Tryz.func197.trans (congrArg some (by kernel_rfl))
 f166:=Tryz.func198.trans (congrArg some (by kernel_rfl))
 f169:=Tryz.func199.trans (congrArg some (by kernel_rfl))
 f240:=Tryz.func201.trans (congrArg some (by kernel_rfl))
 f241:=Tryz.func202.trans (congrArg some (by kernel_rfl))
 f276:=Tryz.func207.trans (congrArg some (by kernel_rfl))
 f277:=Tryz.func208.trans (congrArg some (by kernel_rfl))
 t0:=Tryz.underlying0
 a0:=Tryz.isAgg0
 z0:=Tryz.sizeOf0
 v0:=Tryz.zeroValue0
 t3:=Tryz.underlying3
 a3:=Tryz.isAgg3
 z3:=Tryz.sizeOf3
 v3:=Tryz.zeroValue3
 t4:=Tryz.underlying4
 a4:=Tryz.isAgg4
 z4:=Tryz.sizeOf4
 v4:=Tryz.zeroValue4
 t9:=Tryz.underlying9
 a9:=Tryz.isAgg9
 z9:=Tryz.sizeOf9
 v9:=Tryz.zeroValue9
 t20:=Tryz.underlying20
 a20:=Tryz.isAgg20
 z20:=Tryz.sizeOf20
 v20:=Tryz.zeroValue20
 t31:=Tryz.underlying228
 a31:=Tryz.isAgg228
 z31:=Tryz.sizeOf228
 v31:=Tryz.zeroValue228
 t37:=Tryz.underlying236
 a37:=Tryz.isAgg236
 z37:=Tryz.sizeOf236
 v37:=Tryz.zeroValue236
 t70:=Tryz.underlying235
 a70:=Tryz.isAgg235
 z70:=Tryz.sizeOf235
 v70:=Tryz.zeroValue235
 t72:=Tryz.underlying238
 a72:=Tryz.isAgg238
 z72:=Tryz.sizeOf238
 v72:=Tryz.zeroValue238
 t75:=Tryz.underlying241
 a75:=Tryz.isAgg241
 z75:=Tryz.sizeOf241
 v75:=Tryz.zeroValue241
 t76:=Tryz.underlying242
 a76:=Tryz.isAgg242
 z76:=Tryz.sizeOf242
 v76:=Tryz.zeroValue242
 t127:=Tryz.underlying245
 a127:=Tryz.isAgg245
 z127:=Tryz.sizeOf245
 v127:=Tryz.zeroValue245
 t164:=Tryz.underlying251
 a164:=Tryz.isAgg251
 z164:=Tryz.sizeOf251
 v164:=Tryz.zeroValue251}
theorem Tryz.Builder_Extra_156:Builder.Extra Tryz.prog Tryz.lays156_ren:={
 sizeBuilder:=by kernel_rfl
 liesBuilder:=by kernel_rfl
 t5:=Tryz.underlying5
 a5:=Tryz.isAgg5
 z5:=Tryz.sizeOf5
 v5:=Tryz.zeroValue5
 infoByte:=by kernel_rfl
 cellsByte:=by kernel_rfl
 sizeByte:=by kernel_rfl
 neB5:=by decide}
open Go.RowKit in
theorem Tryz.strings_Join_none (a:Option Addr) (c:Nat) (sep:ByteArray) (w:World) :
  Calls Tryz.prog 194 #[.slice a 0 c,.string sep] w fun e w'=>e=.returned (.string ⟨#[]⟩)∧w'=w:=Any.strings_Join_none Tryz.lays156 Tryz.Builder_Extra_156 a c sep w
open Go.RowKit in
theorem Tryz.strings_Join (bk o c:Nat) (xs:List ByteArray) (sep:ByteArray) (w:World) (hcells:∀(j:Nat) x,xs[j]?=some x→w.cell? ⟨bk,o+j,none⟩=some (.string x)) (hbk:bk<w.heap.size) (hN:xs.length≤140737488355328) (hcap:xs.length≤c) (hlen:(Lib.join (xs.map (·.data.toList)) sep.data.toList).length≤140737488355328) :
  Calls Tryz.prog 194 #[.slice (some ⟨bk,o,none⟩) xs.length c,.string sep] w fun e w'=>e=.returned (.string ⟨(Lib.join (xs.map (·.data.toList)) sep.data.toList).toArray⟩)∧Below w.heap.size w w':=Any.strings_Join Tryz.lays156 Tryz.Builder_Extra_156 bk o c xs sep w hcells hbk hN hcap hlen
def Tryz.laysM173_ren:Go.Shelf.Ren:=⟨fun|173=>196|246=>200|283=>203|284=>204|285=>205|286=>206|129=>182|317=>209|318=>210|319=>211|320=>212|337=>213|338=>214|n=>n,fun|2=>2|3=>3|9=>9|4=>4|171=>247|0=>0|53=>215|37=>236|5=>5|173=>249|212=>256|51=>75|20=>20|213=>257|46=>171|232=>259|233=>260|n=>n,fun|17=>0|18=>2|19=>3|n=>n⟩
theorem Tryz.laysM173:Go.Proofs.LaysM.n173 Tryz.prog Tryz.laysM173_ren:={
 mixed:=by kernel_rfl
 f129:=Tryz.func182.trans (congrArg some (by kernel_rfl))
 f173:=Tryz.func196.trans (congrArg some (by kernel_rfl))
 f246:=Tryz.func200.trans (congrArg some (by kernel_rfl))
 f283:=Tryz.func203.trans (congrArg some (by kernel_rfl))
 f284:=Tryz.func204.trans (congrArg some (by kernel_rfl))
 f285:=Tryz.func205.trans (congrArg some (by kernel_rfl))
 f286:=Tryz.func206.trans (congrArg some (by kernel_rfl))
 f317:=Tryz.func209.trans (congrArg some (by kernel_rfl))
 f318:=Tryz.func210.trans (congrArg some (by kernel_rfl))
 f319:=Tryz.func211.trans (congrArg some (by kernel_rfl))
 f320:=Tryz.func212.trans (congrArg some (by kernel_rfl))
 f337:=Tryz.func213.trans (congrArg some (by kernel_rfl))
 f338:=Tryz.func214.trans (congrArg some (by kernel_rfl))
 t0:=Tryz.underlying0
 a0:=Tryz.isAgg0
 z0:=Tryz.sizeOf0
 v0:=Tryz.zeroValue0
 t2:=Tryz.underlying2
 a2:=Tryz.isAgg2
 z2:=Tryz.sizeOf2
 v2:=Tryz.zeroValue2
 t3:=Tryz.underlying3
 a3:=Tryz.isAgg3
 z3:=Tryz.sizeOf3
 v3:=Tryz.zeroValue3
 t4:=Tryz.underlying4
 a4:=Tryz.isAgg4
 z4:=Tryz.sizeOf4
 v4:=Tryz.zeroValue4
 t5:=Tryz.underlying5
 a5:=Tryz.isAgg5
 z5:=Tryz.sizeOf5
 v5:=Tryz.zeroValue5
 t9:=Tryz.underlying9
 a9:=Tryz.isAgg9
 z9:=Tryz.sizeOf9
 v9:=Tryz.zeroValue9
 t20:=Tryz.underlying20
 a20:=Tryz.isAgg20
 z20:=Tryz.sizeOf20
 v20:=Tryz.zeroValue20
 t37:=Tryz.underlying236
 a37:=Tryz.isAgg236
 z37:=Tryz.sizeOf236
 v37:=Tryz.zeroValue236
 t46:=Tryz.underlying171
 a46:=Tryz.isAgg171
 z46:=Tryz.sizeOf171
 v46:=Tryz.zeroValue171
 t51:=Tryz.underlying75
 a51:=Tryz.isAgg75
 z51:=Tryz.sizeOf75
 v51:=Tryz.zeroValue75
 t53:=Tryz.underlying215
 a53:=Tryz.isAgg215
 z53:=Tryz.sizeOf215
 v53:=Tryz.zeroValue215
 t171:=Tryz.underlying247
 a171:=Tryz.isAgg247
 z171:=Tryz.sizeOf247
 v171:=Tryz.zeroValue247
 t173:=Tryz.underlying249
 a173:=Tryz.isAgg249
 z173:=Tryz.sizeOf249
 v173:=Tryz.zeroValue249
 t212:=Tryz.underlying256
 a212:=Tryz.isAgg256
 z212:=Tryz.sizeOf256
 v212:=Tryz.zeroValue256
 t213:=Tryz.underlying257
 a213:=Tryz.isAgg257
 z213:=Tryz.sizeOf257
 t232:=Tryz.underlying259
 a232:=Tryz.isAgg259
 z232:=Tryz.sizeOf259
 v232:=Tryz.zeroValue259
 t233:=Tryz.underlying260
 a233:=Tryz.isAgg260
 z233:=Tryz.sizeOf260
 v233:=Tryz.zeroValue260
 g17:=by kernel_rfl
 g18:=by kernel_rfl
 g19:=by kernel_rfl
 i0:=by kernel_rfl
 i2:=by kernel_rfl
 i3:=by kernel_rfl
 i4:=by kernel_rfl
 i5:=by kernel_rfl
 i9:=by kernel_rfl
 i20:=by kernel_rfl
 i37:=by kernel_rfl
 i46:=by kernel_rfl
 i51:=by kernel_rfl
 i53:=by kernel_rfl
 i171:=by kernel_rfl
 i173:=by kernel_rfl
 i212:=by kernel_rfl
 i232:=by kernel_rfl
 i233:=by kernel_rfl
 m17:=by kernel_rfl
 m18:=by kernel_rfl
 m19:=by kernel_rfl}
open Go.RowKit Go.Sort Go.Lib in
theorem Tryz.strconv_FormatInt_10 (n:Int) (h0:-9223372036854775808≤n) (h1:n≤9223372036854775807) (w:World) (htab:Lib.TabIs Tryz.prog w "internal/strconv.uint64pow10" .u64 Lib.pow10Tab) :
  Calls Tryz.prog 196 #[.int .i64 n,.int .i64 10] w fun e w'=>e=.returned (.string ⟨(Lib.itoa n).toArray⟩)∧∃k os,w'=grow (w.drewN k) os:=Any.strconv_FormatInt_10 Tryz.laysM173 n h0 h1 w htab
end Go.Proofs
end
section
namespace Go.Proofs.YtkfkdgginfpdnaaGreatDoor
open Go Go.Lg Go.RowKit
set_option linter.unusedSimpArgs false
set_option linter.unusedVariables false
set_option maxHeartbeats 4000000
attribute [local irreducible] SW runL runQ runG runQG FC Ret1 RetN toF redoL anyB
def TabW (w:World):Prop:=Lib.TabIs S.P w "internal/strconv.uint64pow10" .u64 Lib.pow10Tab
theorem below_grow (w:World) (k:Nat) (os:Array Obj):Below w.heap.size w (Go.Sort.grow (w.drewN k) os):=⟨rfl,rfl,rfl,by simp[Go.Sort.grow,World.drewN],fun b hb=>by
 show (w.heap++os)[b]?=w.heap[b]?
 rw[Array.getElem?_append_left hb]⟩
theorem flat_str:∀xs:List ByteArray,flat (xs.map D.str)=xs.map D.str
 | []=>rfl
 | a::r=>by show D.str a::flat (r.map D.str)=_;rw[flat_str r];rfl
theorem formatInt_fc (n:Int) (h0:-9223372036854775808≤n) (h1:n≤9223372036854775807):FCw S TabW 196 [] [] [] [.int .i64 n,.int .i64 10] (.str (numB n)) [] []:=by
 refine fcw_lib (v0:=.string (numB n)) ⟨_,Tryz.func196,by kernel_rfl,rfl⟩ (fun G w=>.str) fun G w vals hT hsz hr=>?_
 obtain⟨x,y,rfl⟩:∃x y,vals=#[x,y]:=by
  match vals,hsz with
  | ⟨[x,y]⟩,_=>exact⟨x,y,rfl⟩
 have hx:=hr 0 _ x rfl rfl
 have hy:=hr 1 _ y rfl rfl
 cases hx;cases hy
 refine(Tryz.strconv_FormatInt_10 n h0 h1 w hT).mono ?_
 rintro e w' ⟨rfl,k,os,rfl⟩
 exact⟨rfl,below_grow w k os⟩
theorem join_fc (tk:Tk) (xs:List ByteArray) (sep:ByteArray) (hN:xs.length≤1000) (hl:(Lib.join (xs.map (·.data.toList)) sep.data.toList).length≤140737488355328):FCw S TabW 194 [] [] [] [.sl tk (xs.map .str),.str sep] (.str ⟨(Lib.join (xs.map (·.data.toList)) sep.data.toList).toArray⟩) [] []:=by
 refine fcw_lib (v0:=.string ⟨(Lib.join (xs.map (·.data.toList)) sep.data.toList).toArray⟩) ⟨_,Tryz.func194,by kernel_rfl,rfl⟩ (fun G w=>.str) fun G w vals hT hsz hr=>?_
 obtain⟨x,y,rfl⟩:∃x y,vals=#[x,y]:=by
  match vals,hsz with
  | ⟨[x,y]⟩,_=>exact⟨x,y,rfl⟩
 have hx:=hr 0 _ x rfl rfl
 have hy:=hr 1 _ y rfl rfl
 cases hy
 cases hx with
 | @sl _ _ A n c b o s hn hc hm ht hA hu hk hst hrr =>
  have hn:n=xs.length:=by rw[hn,List.length_map]
  have hfl:=flat_str xs
  subst hn
  by_cases hx:xs=[]
  ·subst hx
   refine(Tryz.strings_Join_none A c sep w).mono ?_
   rintro e w' ⟨rfl,rfl⟩
   exact⟨rfl,Below.refl _ _⟩
  ·obtain rfl:=hA.resolve_left (by simpa using hx)
   have hcell:∀(j:Nat) x,xs[j]?=some x→w.cell? ⟨b,o+j,none⟩=some (.string x):=fun j x hj=>by
    have h1:(flat (xs.map D.str))[j]?=some (D.str x):=by rw[hfl,List.getElem?_map,hj];rfl
    obtain⟨_,u,h2⟩:=hst j _ h1
    have h3:=hrr j _ u h1 h2
    cases h3
    exact h2
   have hbk:b<w.heap.size:=by
    have h0:0<xs.length:=List.length_pos_iff.2 hx
    exact cell_lt (hcell 0 _ (List.getElem?_eq_getElem h0))
   exact(Tryz.strings_Join b o c xs sep w hcell hbk (by omega) hc hl).mono fun e w' ⟨he,hb⟩=>⟨he,hb⟩
end Go.Proofs.YtkfkdgginfpdnaaGreatDoor
end
section
namespace Go.Proofs.YtkfkdgginfpdnaaGreatDoor
open Go Go.Lg Go.RowKit
set_option linter.unusedSimpArgs false
set_option linter.unusedVariables false
set_option maxHeartbeats 4000000
attribute [local irreducible] SW runL runQ runG runQG FC FCw Ret1 RetN toF redoL anyB
theorem ret_plain {L:LS} {d:D} (h1:d.tks=[]) (h2:∀f,d.mT f=d):RetK d [] 0 L d:=⟨[],d,.refl _,⟨rfl,List.nodup_nil⟩,by simp,by rw[h1];simp,h2 _,by simp⟩
theorem tail_len:∀r:List (List UInt8),(∀x∈r,x.length≤21)→(Lib.joinTail [44] r).length≤22*r.length
 | [],_=>by simp[Lib.joinTail]
 | x::r,h=>by
  have ih:=tail_len r fun y hy=>h y (List.mem_cons_of_mem _ hy)
  have h1:=h x List.mem_cons_self
  have e:Lib.joinTail [44] (x::r)=44::(x++Lib.joinTail [44] r):=by simp[Lib.joinTail]
  rw[e]
  simp only[List.length_cons,List.length_append]
  omega
theorem join_len (xs:List Int) (hx:∀x∈xs,0≤x∧x≤100000) (hl:xs.length≤1000):(Lib.join ((xs.map numB).map (·.data.toList)) (⟨#[44]⟩:ByteArray).data.toList).length≤140737488355328:=by
 have hb:∀y∈(xs.map numB).map (·.data.toList),y.length≤21:=fun y hy=>by
  obtain⟨b,hb,rfl⟩:=List.mem_map.1 hy
  obtain⟨n,hn,rfl⟩:=List.mem_map.1 hb
  have:=hx n hn
  exact Lib.itoa_length_le n (by omega) (by omega)
 have hlen:((xs.map numB).map (·.data.toList)).length=xs.length:=by simp
 generalize (xs.map numB).map (·.data.toList)=l at *
 show (Lib.join l [44]).length≤_
 cases l with
 | nil=>simp[Lib.join_nil]
 | cons x r =>
  rw[Lib.join_cons]
  have h1:=hb x List.mem_cons_self
  have h2:=tail_len r fun y hy=>hb y (List.mem_cons_of_mem _ hy)
  simp only[List.length_cons,List.length_append] at *
  omega
theorem tksL_fill (f:Nat→ByteArray) (z:ByteArray) (i n:Nat):D.tksL (fillL (fun j=>.str (f j)) (.str z) i n)=[]:=by
 unfold fillL
 generalize List.range n=l
 induction l with
 | nil=>rfl
 | cons x r ih =>
  simp only[List.map_cons,D.tksL,ih,List.append_nil]
  split<;>rfl
def kp193:List (Nat×List Nat):=[(0,[0]),(1,[2])]
attribute [go_sem] kp193 Tryz.results193 Tryz.ntmps193
theorem num_fc (n:Int) (h0:0≤n) (h1:n≤100000):FCw S TabW 193 [] [] [] [.int .i64 n] (.str (numB n)) [] []:=by
 refine fcbW Tryz.func193 rfl fun B hw hT hI hpan=>?_
 repeat' first|(refine sw_goAt (id:=1) 0 kp193 1 rfl fun K hK=>?_)|refine sw_n ?_|refine sw_go 0 kp193 fun K hK=>?_|refine fun (K:KT) (hK:KOk S 0 _ _ _ K)=>?_|refine runL_g ?_|refine sw_retg0 ?_|refine sw_retg ?_|(refine hK.n0 ?_;clear hK K)|refine sw_loopEnd ?_|with_reducible refine and_o ?_|apply tTT
 refine LopsW.callW rfl rfl rfl hw hT (formatInt_fc n (by omega) (by omega)) ⟨⟨by simp only[Nat.reduceLT],by simp,by simp,by simp,by simp⟩,⟨by simp[D.ids],by simp,by simp[D.tks],by simp,by simp⟩,rfl⟩ (LopsW.nil ?_)
 refine fun (K:List Oper→LS→Prop) (hK:KOk S 0 _ _ _ K)=>?_
 simp only[go_sem]
 repeat' first|refine sw_n ?_|refine sw_go 0 kp193 fun K hK=>?_|refine fun (K:KT) (hK:KOk S 0 _ _ _ K)=>?_|refine runL_g ?_|refine sw_retg0 ?_|refine sw_retg ?_|(refine hK.n0 ?_;clear hK K)|refine sw_loopEnd ?_|with_reducible refine and_o ?_|apply tTT
 unfold RetN
 simp only[go_sem]
 exact ret_plain rfl fun f=>rfl
def kp184:List (Nat×List Nat):=[(0,[0,1]),(1,[0,1,5]),(2,[1,5,11,12,13]),(3,[1,5,11,12,13,14]),(4,[1,5,6,7,11,12,13]),(5,[1,5,11,12,13]),(6,[1,5,11,12,13]),(7,[4])]
attribute [go_sem] kp184 Tryz.results184 Tryz.ntmps184
theorem numsText_fc (xs:List Int) (hx:∀x∈xs,0≤x∧x≤100000) (hl:xs.length≤1000):FCw S TabW 184 [] [] [] [.sl .any (xs.map (.int .i64)),.str ⟨#[44]⟩] (.str (txtB xs)) [] []:=by
 refine fcbW Tryz.func184 rfl fun B hw hT hI hpan=>?_
 repeat' first|exact h.elim|(exfalso;omega)|refine sw_n ?_|refine sw_go 0 kp184 fun K hK=>?_|refine fun (K:KT) (hK:KOk S 0 _ _ _ K)=>?_|refine runL_g ?_|refine sw_retg0 ?_|refine sw_retg ?_|(refine hK.n0 ?_;clear hK K)|refine sw_condg rfl (fun h=>?_) fun h=>?_|refine sw_exit rfl ?_|refine sw_loopEnd ?_|with_reducible refine and_o ?_|((with_reducible refine And.intro ?_ ?_);· first|(intro x hx;subst hx;rfl)|(intro x;refine And.intro ?_ ?_<;>(intros;subst_vars;rfl)))|apply tTT
 refine sw_loopT (ι:=Nat) (fun i=>[(13,.int .i64 i)]) (fun i=>[(10,fillL (fun j=>.str (numB (xs.getD j default))) (.str ByteArray.empty) i xs.length)]) (fun _=>[]) (fun i=>i≤xs.length) (fun i=>xs.length-i) 0 (by(refine covers_mk0 rfl rfl ?_ ?_ ?_ ?_<;>simp (disch:=(refine Om.mk ?_;omega)) only[go_sem]<;>(try omega));all_goals first|exact fillL_start _ _ _|exact⟨fillL_start _ _ _,rfl⟩|trace_state) (Nat.zero_le _) (fun i hi=>?_)
 simp only[go_sem]
 by_cases hil:i<xs.length
 ·have hxi:=hx _ (getD_mem xs i hil)
  have cN:=num_fc (xs.getD i default) hxi.1 hxi.2
  repeat' first|exact h.elim|(exfalso;omega)|(refine sw_goAt (id:=5) 0 kp184 3 rfl fun K hK=>?_)|refine sw_n ?_|refine sw_go 0 kp184 fun K hK=>?_|refine fun (K:KT) (hK:KOk S 0 _ _ _ K)=>?_|refine runL_g ?_|refine sw_retg0 ?_|refine sw_retg ?_|(refine hK.n0 ?_;clear hK K)|refine sw_condg rfl (fun h=>?_) fun h=>?_|refine sw_exit rfl ?_|refine sw_loopEnd ?_|with_reducible refine and_o ?_|((with_reducible refine And.intro ?_ ?_);· first|(intro x hx;subst hx;rfl)|(intro x;refine And.intro ?_ ?_<;>(intros;subst_vars;rfl)))|apply tTT
  refine LopsW.callW rfl rfl rfl hw hT cN ⟨⟨by simp only[Nat.reduceLT],by simp,by simp,by simp,by simp⟩,⟨by simp[D.ids],by simp,by simp[D.tks],by simp,by simp⟩,by simp[LS.clean,D.tks,tksL_fill]⟩ (LopsW.nil ?_)
  refine fun (K:List Oper→LS→Prop) (hK:KOk S 0 _ _ _ K)=>?_
  simp only[go_sem]
  repeat' first|exact h.elim|(exfalso;omega)|refine sw_n ?_|refine sw_go 0 kp184 fun K hK=>?_|refine fun (K:KT) (hK:KOk S 0 _ _ _ K)=>?_|refine runL_g ?_|refine sw_retg0 ?_|refine sw_retg ?_|(refine hK.n0 ?_;clear hK K)|refine sw_condg rfl (fun h=>?_) fun h=>?_|refine sw_exit rfl ?_|refine sw_loopEnd ?_|with_reducible refine and_o ?_|((with_reducible refine And.intro ?_ ?_);· first|(intro x hx;subst hx;rfl)|(intro x;refine And.intro ?_ ?_<;>(intros;subst_vars;rfl)))|apply tTT
  exact⟨i+1,(by(refine covers_mk0 rfl rfl ?_ ?_ ?_ ?_<;>simp (disch:=(refine Om.mk ?_;omega)) only[go_sem]<;>(try omega));exact fillL_set _ _ _ _),by omega,by omega⟩
 ·obtain rfl:i=xs.length:=by omega
  repeat' first|exact h.elim|(exfalso;omega)|(refine sw_freezeAt 7 5 1 .any (id:=10) (n:=xs.length) ((xs.map numB).map .str) rfl rfl (by rw[fillL_done (g:=fun n=>D.str (numB n)),flat_str,List.map_map];rfl) (by simp) (cells_one fun _=>rfl) (fillL_memOk (fun _=>rfl) rfl) (.inl rfl) ?_;simp only[go_sem])|(refine sw_goAt (id:=7) 0 kp184 2 rfl fun K hK=>?_)|refine sw_n ?_|refine sw_go 0 kp184 fun K hK=>?_|refine fun (K:KT) (hK:KOk S 0 _ _ _ K)=>?_|refine runL_g ?_|refine sw_retg0 ?_|refine sw_retg ?_|(refine hK.n0 ?_;clear hK K)|refine sw_condg rfl (fun h=>?_) fun h=>?_|refine sw_exit rfl ?_|refine sw_loopEnd ?_|with_reducible refine and_o ?_|((with_reducible refine And.intro ?_ ?_);· first|(intro x hx;subst hx;rfl)|(intro x;refine And.intro ?_ ?_<;>(intros;subst_vars;rfl)))|apply tTT
  refine LopsW.callW rfl rfl rfl hw hT (join_fc .any (xs.map numB) ⟨#[44]⟩ (by rw[List.length_map];omega) (join_len xs hx hl)) ⟨⟨by simp only[Nat.reduceLT],by simp,by simp,by simp,by simp⟩,⟨by simp[D.ids],by simp,by simp[D.tks],by simp,by simp⟩,by simp[LS.clean,D.tks]⟩ (LopsW.nil ?_)
  refine fun (K:List Oper→LS→Prop) (hK:KOk S 0 _ _ _ K)=>?_
  simp only[go_sem]
  repeat' first|exact h.elim|refine sw_n ?_|refine sw_go 0 kp184 fun K hK=>?_|refine fun (K:KT) (hK:KOk S 0 _ _ _ K)=>?_|refine runL_g ?_|refine sw_retg0 ?_|refine sw_retg ?_|(refine hK.n0 ?_;clear hK K)|refine sw_condg rfl (fun h=>?_) fun h=>?_|refine sw_exit rfl ?_|refine sw_loopEnd ?_|with_reducible refine and_o ?_|((with_reducible refine And.intro ?_ ?_);· first|(intro x hx;subst hx;rfl)|(intro x;refine And.intro ?_ ?_<;>(intros;subst_vars;rfl)))|apply tTT
  unfold RetN
  simp only[go_sem]
  exact ret_plain rfl fun f=>rfl
def kp168:List (Nat×List Nat):=[(0,[0,2]),(1,[2])]
attribute [go_sem] kp168 Tryz.results168 Tryz.ntmps168
theorem keyOf_fc (xs:List Int) (hx:∀x∈xs,0≤x∧x≤100000) (hl:xs.length≤1000):FCw S TabW 168 [] [] [] [.sl .any (xs.map (.int .i64))] (sKD .i64 (xs.length,txtB xs)) [] []:=by
 refine fcbW Tryz.func168 rfl fun B hw hT hI hpan=>?_
 repeat' first|(exfalso;omega)|(refine sw_goAt (id:=1) 0 kp168 3 rfl fun K hK=>?_)|refine sw_n ?_|refine sw_go 0 kp168 fun K hK=>?_|refine fun (K:KT) (hK:KOk S 0 _ _ _ K)=>?_|refine runL_g ?_|refine sw_retg0 ?_|refine sw_retg ?_|(refine hK.n0 ?_;clear hK K)|refine sw_loopEnd ?_|with_reducible refine and_o ?_|((with_reducible refine And.intro ?_ ?_);· first|(intro x hx;subst hx;rfl)|(intro x;refine And.intro ?_ ?_<;>(intros;subst_vars;rfl)))|apply tTT
 refine LopsW.callW rfl rfl rfl hw hT (numsText_fc xs hx hl) ⟨⟨by simp only[Nat.reduceLT],by simp,by simp,by simp,by simp⟩,⟨by simp[D.ids],by simp,by simp[D.tks],by simp,by simp⟩,by simp[LS.clean,D.tks,D.tksL]⟩ (LopsW.nil ?_)
 refine fun (K:List Oper→LS→Prop) (hK:KOk S 0 _ _ _ K)=>?_
 simp only[go_sem]
 repeat' first|refine sw_n ?_|refine sw_go 0 kp168 fun K hK=>?_|refine fun (K:KT) (hK:KOk S 0 _ _ _ K)=>?_|refine runL_g ?_|refine sw_retg0 ?_|refine sw_retg ?_|(refine hK.n0 ?_;clear hK K)|refine sw_loopEnd ?_|with_reducible refine and_o ?_|((with_reducible refine And.intro ?_ ?_);· first|(intro x hx;subst hx;rfl)|(intro x;refine And.intro ?_ ?_<;>(intros;subst_vars;rfl)))|apply tTT
 unfold RetN
 simp only[go_sem]
 exact ret_plain rfl fun f=>rfl
theorem keyS:KeyS S.P 199 .i64:=⟨by kernel_rfl,_,_,Tryz.underlying199,⟨rfl,rfl⟩,⟨rfl,rfl⟩,⟨by kernel_rfl,by kernel_rfl,by kernel_rfl⟩,by kernel_rfl,by kernel_rfl⟩
theorem goodK {xs:List Int} (hx:∀x∈xs,0≤x∧x≤100000) (hl:xs.length≤1000):GoodK .i64 ((xs.length:Int),txtB xs):=by
 refine⟨?_,?_⟩
 ·have e:(IntKind.i64.min=-9223372036854775808)∧IntKind.i64.max=9223372036854775807:=⟨by decide,by decide⟩
  simp only[Lit.wf,e.1,e.2,Bool.and_eq_true,decide_eq_true_eq]
  omega
 ·have:=join_len xs hx hl
  have e:(txtB xs).size=(Lib.join ((xs.map numB).map (·.data.toList)) [44]).length:=by simp[txtB,ByteArray.size]
  have h2:(140737488355328:Nat)≤maxLen:=by simp[maxLen]
  rw[e]
  exact Nat.le_trans this h2
end Go.Proofs.YtkfkdgginfpdnaaGreatDoor
end
