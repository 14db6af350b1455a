/-
  N3, A28c, A24i, one behind the other.
-/
import Derived.Test.YtcbgmeegbjokpaaGreatDoorG4
import Derived.Test.YtcbgmeegbjokpaaGreatDoorG2
import Derived.Test.YtcbgmeegbjokpaaGreatDoorG1
import Derived.Test.YtcbgmeegbjokpaaGreatDoorLgK10
namespace Go.Proofs.YtcbgmeegbjokpaaGreatDoor
open Go Go.Lg
set_option linter.unusedSimpArgs false
set_option linter.unusedVariables false
set_option maxHeartbeats 4000000
section
attribute [local irreducible] SW runL runQ runG runQG FC Ret1 RetN toF redoL anyB
theorem formR_args (rs:List Int) (SH:List (List Int)) (t:List Int):(formR rs SH t).args.length=(argsS rs t 0).length:=by simp[formR]
theorem formR_get (rs:List Int) (SH:List (List Int)) (t:List Int) {i:Nat} (h:i<(argsS rs t 0).length):(formR rs SH t).args.getD i default=argF rs SH t ((argsS rs t 0).getD i default):=by
 simp[formR,List.getD,h]
def kp84:List (Nat×List Nat):=[(0,[1,2,3,4,5]),(1,[1,2,4,5,18]),(2,[10]),(3,[1,2,4,5,11]),(4,[1,2,4,5,11,12]),(5,[1,2,4,5,11,12,25]),(7,[1,2,4,5,11,12,13]),(8,[1,2,4,5,11,12,50]),(9,[10]),(6,[1,2,4,5,11,12]),(10,[10])]
attribute [go_sem] kp84 Tryz.results84 Tryz.ntmps84
theorem l24Fits_fc (rs:List Int) (SH:List (List Int)) (p:List Int) (f:Int) (sets:List (List Int)) (hT:TermOkP rs p) (hF:FullP rs SH p) (hSH:SH.length≤1000) (hl:p.getD 0 default=f→(argsS rs p 0).length≤sets.length):FC S 84 [] [] [] [.agg [.sl .any (rs.map (.int .i64))],.sl .any (SH.map IntsD),.sl .any (p.map (.int .i64)),.int .i64 f,.sl .any (sets.map IntsD)] (.bool (tst (FitF (formR rs SH p) f sets))) [] []:=by
 have hpl:=hT.2.1
 have hp0:0<p.length:=by omega
 by_cases he:p.getD 0 default=f
 ·have hl:=hl he
  have h3:(argsS rs p 0).length≤3:=by
   rw[argsS_len]
   have:=arS_rng hT.1 (p.getD 0 default)
   omega
  have cA:=l1Args_fc .any .any rs p 0 hT hp0
  have hlt:=argsS_lt hT hp0
  have hg:=fun i (hi:i<(argsS rs p 0).length)=>formR_get rs SH p hi
  have hfit:FitF (formR rs SH p) f sets↔∀j<(argsS rs p 0).length,0≤argF rs SH p ((argsS rs p 0).getD j default)→argF rs SH p ((argsS rs p 0).getD j default)∈sets.getD j default:=by
   unfold FitF
   rw[formR_args]
   refine⟨fun h j hj h0=>?_,fun h=>⟨he,fun j hj h0=>?_⟩⟩
   ·have:=h.2 j hj;rw[hg j hj] at this;exact this h0
   ·rw[hg j hj] at h0 ⊢;exact h j hj h0
  rw[tst_congr hfit]
  generalize hA:argsS rs p 0=A at *
  refine fcb Tryz.func84 fun B=>?_
  repeat' first|exact h.elim|(exfalso;omega)|refine sw_n ?_|refine sw_go 0 kp84 fun K hK=>?_|refine fun (K:KT) (hK:KOk S 0 _ _ _ K)=>?_|refine sw_goD kp84 (by kernel_rfl) fun K hK=>?_|refine runL_g ?_|refine runQ_g ?_|refine sw_retg0 ?_|refine sw_retg ?_|(refine hK.n0 ?_;clear hK K)|refine runG_fk (fun h=>?_) fun h=>?_|refine runQG_fk (fun h=>?_) fun h=>?_|refine sw_condg rfl (fun h=>?_) fun h=>?_|refine hK.skp rfl rfl ?_|refine sw_exit rfl ?_|refine sw_loopEnd ?_|refine hK.c1 rfl rfl rfl (cA) ?_|(refine hK.fork rfl rfl rfl ?_ ?_<;>intro h<;>try simp (disch:=(refine Om.mk ?_;omega)) only[go_sem] at h)|with_reducible refine and_o ?_|apply tTT
  refine sw_loopT (ι:=Nat) (fun i=>[(12,.int .i64 i)]) (fun _=>[]) (fun _=>[]) (fun i=>i≤A.length∧∀j<i,0≤argF rs SH p (A.getD j default)→argF rs SH p (A.getD j default)∈sets.getD j default) (fun i=>A.length-i) 0 cvB ⟨Nat.zero_le _,fun j hj=>absurd hj (Nat.not_lt_zero _)⟩ (fun i hi=>?_)
  obtain⟨hi,hj⟩:=hi
  simp only[go_sem]
  by_cases hil:i<A.length
  ·have hq:=hlt _ (getD_mem A i hil)
   have hfu:=hF _ (by rw[hA];exact getD_mem A i hil)
   have hAi:argF rs SH p (A.getD i default)=if 0≤p.getD (A.getD i default) default then placeI (ren0 (subS rs p (A.getD i default))) SH else -1:=rfl
   have hS:=subS_ok hT hq.2
   have hrh:=ren0_head hS.2.1.1
   rw[(sub_sub hT hq.2).1] at hrh
   have hrl:(ren0 (subS rs p (A.getD i default))).length=(subS rs p (A.getD i default)).length:=by unfold ren0;rw[List.length_map]
   have hSl:=hS.2.1
   have cS:=l1Sub_fc .any .any rs p (A.getD i default) hT hq.2
   have cR:=l2Renamed_fc rs _ hS
   by_cases h0:0≤p.getD (A.getD i default) default
   ·have h00:=hrh.2 h0
    rw[if_pos h0] at hAi
    have hpl:=(placeI_ge (ren0 (subS rs p (A.getD i default))) SH).2.2 (hfu h0)
    by_cases hm:placeI (ren0 (subS rs p (A.getD i default))) SH∈sets.getD i default
    ·repeat' first|exact h.elim|(exfalso;first|omega|exact absurd hm (by assumption))|refine sw_n ?_|refine sw_go 0 kp84 fun K hK=>?_|refine fun (K:KT) (hK:KOk S 0 _ _ _ K)=>?_|refine sw_goD kp84 (by kernel_rfl) fun K hK=>?_|refine runL_g ?_|refine runQ_g ?_|refine sw_retg0 ?_|refine sw_retg ?_|(refine hK.n0 ?_;clear hK K)|refine runG_fk (fun h=>?_) fun h=>?_|refine runQG_fk (fun h=>?_) fun h=>?_|refine sw_condg rfl (fun h=>?_) fun h=>?_|refine hK.skp rfl rfl ?_|refine sw_exit rfl ?_|refine sw_loopEnd ?_|refine hK.c1 rfl rfl rfl (cS) ?_|refine hK.c1 rfl rfl rfl (cR) ?_|refine hK.c1 rfl rfl rfl (termPlace_fc _ _ _ _) ?_|refine hK.c1 rfl rfl rfl (l1Has_fc _ _ _) ?_|(refine hK.fork rfl rfl rfl ?_ ?_<;>intro h<;>try simp (disch:=(refine Om.mk ?_;omega)) only[go_sem] at h)|with_reducible refine and_o ?_|apply tTT
     all_goals first|(exfalso;first|omega|exact absurd hm (by assumption))|exact⟨i+1,cvA,⟨by omega,upto_succ hj (by rw[hAi];exact fun _=>hm)⟩,by omega⟩|trace_state
    ·have hno:¬ ∀j<A.length,0≤argF rs SH p (A.getD j default)→argF rs SH p (A.getD j default)∈sets.getD j default:=fun h=>by
      have h1:=h i hil
      rw[hAi] at h1
      exact hm (h1 hpl)
     rw[tst_false hno]
     repeat' first|exact h.elim|(exfalso;first|omega|exact absurd (by assumption) hm)|refine sw_n ?_|refine sw_go 0 kp84 fun K hK=>?_|refine fun (K:KT) (hK:KOk S 0 _ _ _ K)=>?_|refine sw_goD kp84 (by kernel_rfl) fun K hK=>?_|refine runL_g ?_|refine runQ_g ?_|refine sw_retg0 ?_|refine sw_retg ?_|(refine hK.n0 ?_;clear hK K)|refine runG_fk (fun h=>?_) fun h=>?_|refine runQG_fk (fun h=>?_) fun h=>?_|refine sw_condg rfl (fun h=>?_) fun h=>?_|refine hK.skp rfl rfl ?_|refine sw_exit rfl ?_|refine sw_loopEnd ?_|refine hK.c1 rfl rfl rfl (cS) ?_|refine hK.c1 rfl rfl rfl (cR) ?_|refine hK.c1 rfl rfl rfl (termPlace_fc _ _ _ _) ?_|refine hK.c1 rfl rfl rfl (l1Has_fc _ _ _) ?_|(refine hK.fork rfl rfl rfl ?_ ?_<;>intro h<;>try simp (disch:=(refine Om.mk ?_;omega)) only[go_sem] at h)|with_reducible refine and_o ?_|apply tTT
     all_goals first|(exfalso;first|omega|exact absurd (by assumption) hm)|trace_state
   ·have h00:¬0≤(ren0 (subS rs p (A.getD i default))).getD 0 default:=fun h=>h0 (hrh.1 h)
    rw[if_neg h0] at hAi
    repeat' first|exact h.elim|(exfalso;omega)|refine sw_n ?_|refine sw_go 0 kp84 fun K hK=>?_|refine fun (K:KT) (hK:KOk S 0 _ _ _ K)=>?_|refine sw_goD kp84 (by kernel_rfl) fun K hK=>?_|refine runL_g ?_|refine runQ_g ?_|refine sw_retg0 ?_|refine sw_retg ?_|(refine hK.n0 ?_;clear hK K)|refine runG_fk (fun h=>?_) fun h=>?_|refine runQG_fk (fun h=>?_) fun h=>?_|refine sw_condg rfl (fun h=>?_) fun h=>?_|refine hK.skp rfl rfl ?_|refine sw_exit rfl ?_|refine sw_loopEnd ?_|refine hK.c1 rfl rfl rfl (cS) ?_|refine hK.c1 rfl rfl rfl (cR) ?_|refine hK.c1 rfl rfl rfl (termPlace_fc _ _ _ _) ?_|refine hK.c1 rfl rfl rfl (l1Has_fc _ _ _) ?_|(refine hK.fork rfl rfl rfl ?_ ?_<;>intro h<;>try simp (disch:=(refine Om.mk ?_;omega)) only[go_sem] at h)|with_reducible refine and_o ?_|apply tTT
    all_goals first|(exfalso;omega)|exact⟨i+1,cvA,⟨by omega,upto_succ hj (by rw[hAi];intro h;omega)⟩,by omega⟩|trace_state
  ·obtain rfl:i=A.length:=by omega
   repeat' first|exact h.elim|(exfalso;omega)|refine sw_n ?_|refine sw_go 0 kp84 fun K hK=>?_|refine fun (K:KT) (hK:KOk S 0 _ _ _ K)=>?_|refine sw_goD kp84 (by kernel_rfl) fun K hK=>?_|refine runL_g ?_|refine runQ_g ?_|refine sw_retg0 ?_|refine sw_retg ?_|(refine hK.n0 ?_;clear hK K)|refine runG_fk (fun h=>?_) fun h=>?_|refine runQG_fk (fun h=>?_) fun h=>?_|refine sw_condg rfl (fun h=>?_) fun h=>?_|refine hK.skp rfl rfl ?_|refine sw_exit rfl ?_|refine sw_loopEnd ?_|(refine hK.fork rfl rfl rfl ?_ ?_<;>intro h<;>try simp (disch:=(refine Om.mk ?_;omega)) only[go_sem] at h)|with_reducible refine and_o ?_|apply tTT
   exact hj
 ·rw[tst_false fun h=>he h.1]
  refine fcb Tryz.func84 fun B=>?_
  repeat' first|exact h.elim|(exfalso;exact he (by assumption))|refine sw_n ?_|refine sw_go 0 kp84 fun K hK=>?_|refine fun (K:KT) (hK:KOk S 0 _ _ _ K)=>?_|refine sw_goD kp84 (by kernel_rfl) fun K hK=>?_|refine runL_g ?_|refine runQ_g ?_|refine sw_retg0 ?_|refine sw_retg ?_|(refine hK.n0 ?_;clear hK K)|refine runG_fk (fun h=>?_) fun h=>?_|refine runQG_fk (fun h=>?_) fun h=>?_|refine sw_condg rfl (fun h=>?_) fun h=>?_|refine hK.skp rfl rfl ?_|refine sw_exit rfl ?_|refine sw_loopEnd ?_|(refine hK.fork rfl rfl rfl ?_ ?_<;>intro h<;>try simp (disch:=(refine Om.mk ?_;omega)) only[go_sem] at h)|with_reducible refine and_o ?_|apply tTT
theorem ar_at {rs:List Int} (hs:SigOkP rs) {f:Nat} (hf:f<rs.length):(arS rs (f:Int)).toNat=(rs.getD f default).toNat∧0≤rs.getD f default∧rs.getD f default≤3:=by
 have h:=hs.2 f hf
 refine⟨?_,h⟩
 unfold arS
 rw[if_neg (by omega),if_pos ⟨by omega,by omega⟩,Int.toNat_natCast]
structure ShpOk (rs:List Int) (SH ls:List (List Int)):Prop where
 sg:SigOkP rs
 n:SH.length≤1000
 m:ls.length≤100
 sh:∀t∈SH,TermOkP rs t∧FullP rs SH t
 lf:∀t∈ls,TermOkP rs t∧FullP rs SH t
noncomputable def imgH (rs:List Int) (SH ls:List (List Int)):Nat→List (List Int)→Option (List Int):=imgN (ls.map (formR rs SH)) (SH.map (formR rs SH))
theorem getD_map' {α β:Type} [Inhabited α] [Inhabited β] {g:α→β} {xs:List α} {i:Nat} (h:i<xs.length):(xs.map g).getD i default=g (xs.getD i default):=by
 simp[List.getD,h]
theorem args_len {rs:List Int} {t:List Int} {f:Nat} {n:Nat} (h:n=(arS rs (f:Int)).toNat) (he:t.getD 0 default=(f:Int)):(argsS rs t 0).length≤n:=by
 rw[argsS_len,he];omega
def kp61:List (Nat×List Nat):=[(0,[1,2,3,4]),(1,[1,2,3,4,9]),(2,[1,2,3,4,9,10]),(3,[1,2,3,4,9,10,15]),(5,[1,2,3,4,9,10,26]),(6,[1,2,3,4,9,10]),(4,[1,2,3,4,9,10]),(7,[8])]
attribute [go_sem] kp61 Tryz.results61 Tryz.ntmps61
theorem l24Comes_fc (rs:List Int) (SH ls:List (List Int)) (hO:ShpOk rs SH ls) (f:Nat) (sets:List (List Int)) (hl:sets.length=(arS rs (f:Int)).toNat):FC S 61 [] [] [] [.agg [.sl .any (rs.map (.int .i64))],.sl .any (SH.map IntsD),.int .i64 f,.sl .any (sets.map IntsD)] (.sl .any ((fitsL (SH.map (formR rs SH)) f sets SH.length).map (.int .i64))) [] []:=by
 have hn:=hO.n
 refine fcb Tryz.func61 fun B=>?_
 repeat' first|exact h.elim|refine sw_n ?_|refine sw_go 0 kp61 fun K hK=>?_|refine fun (K:KT) (hK:KOk S 0 _ _ _ K)=>?_|refine sw_goD kp61 (by kernel_rfl) fun K hK=>?_|refine runL_g ?_|refine runQ_g ?_|refine sw_retg0 ?_|refine sw_retg ?_|(refine hK.n0 ?_;clear hK K)|refine sw_condg rfl (fun h=>?_) fun h=>?_|refine sw_exit rfl ?_|refine sw_loopEnd ?_|with_reducible refine and_o ?_|((with_reducible refine And.intro ?_ ?_);· first|(intro x hx;subst hx;rfl)|(intro x;refine And.intro ?_ ?_<;>(intros;subst_vars;rfl)))|apply tTT
 refine sw_tok 9 31000 2 1 rfl (.inr rfl) rfl ?_
 simp only[go_sem]
 refine sw_loopT (ι:=Nat) (fun i=>[(10,.int .i64 i),(9,.sl (.own 31000 2 1) ((fitsL (SH.map (formR rs SH)) f sets i).map (.int .i64)))]) (fun _=>[]) (fun _=>[31000]) (fun i=>i≤SH.length) (fun i=>SH.length-i) 0 cvB (Nat.zero_le _) (fun i hi=>?_)
 simp only[go_sem]
 have hfl:=fitsL_len (SH.map (formR rs SH)) f sets i
 by_cases hil:i<SH.length
 ·have hO1:=hO.sh _ (getD_mem SH i hil)
  have cF:=l24Fits_fc rs SH (SH.getD i default) f sets hO1.1 hO1.2 hn (fun e=>args_len hl e)
  have hgd:=getD_map' (g:=formR rs SH) hil
  by_cases hf:FitF (formR rs SH (SH.getD i default)) f sets
  ·have hs:=fitsL_yes (SF:=SH.map (formR rs SH)) (i:=i) (by rw[hgd];exact hf)
   rw[tst_true hf] at cF
   repeat' first|exact h.elim|(exfalso;omega)|refine sw_n ?_|refine sw_go 0 kp61 fun K hK=>?_|refine fun (K:KT) (hK:KOk S 0 _ _ _ K)=>?_|refine sw_goD kp61 (by kernel_rfl) fun K hK=>?_|refine runL_g ?_|refine runQ_g ?_|refine sw_retg0 ?_|refine sw_retg ?_|(refine hK.n0 ?_;clear hK K)|refine sw_condg rfl (fun h=>?_) fun h=>?_|refine sw_exit rfl ?_|refine sw_loopEnd ?_|refine hK.c1 rfl rfl rfl (cF) ?_|with_reducible refine and_o ?_|((with_reducible refine And.intro ?_ ?_);· first|(intro x hx;subst hx;rfl)|(intro x;refine And.intro ?_ ?_<;>(intros;subst_vars;rfl)))|apply tTT
   all_goals first|exact⟨i+1,(by(refine covers_mk0 rfl rfl ?_ ?_ ?_ ?_<;>simp (disch:=(refine Om.mk ?_;omega)) only[go_sem]<;>(try omega));all_goals first|(rw[hs,List.map_append];rfl)|(rw[hs,List.map_append];exact⟨rfl,by omega⟩)|(simp[hs];done)|trace_state),by omega,by omega⟩|trace_state
  ·have hs:=fitsL_no (SF:=SH.map (formR rs SH)) (i:=i) (by rw[hgd];exact hf)
   rw[tst_false hf] at cF
   repeat' first|exact h.elim|(exfalso;omega)|refine sw_n ?_|refine sw_go 0 kp61 fun K hK=>?_|refine fun (K:KT) (hK:KOk S 0 _ _ _ K)=>?_|refine sw_goD kp61 (by kernel_rfl) fun K hK=>?_|refine runL_g ?_|refine runQ_g ?_|refine sw_retg0 ?_|refine sw_retg ?_|(refine hK.n0 ?_;clear hK K)|refine sw_condg rfl (fun h=>?_) fun h=>?_|refine sw_exit rfl ?_|refine sw_loopEnd ?_|refine hK.c1 rfl rfl rfl (cF) ?_|with_reducible refine and_o ?_|((with_reducible refine And.intro ?_ ?_);· first|(intro x hx;subst hx;rfl)|(intro x;refine And.intro ?_ ?_<;>(intros;subst_vars;rfl)))|apply tTT
   all_goals first|exact⟨i+1,(by(refine covers_mk0 rfl rfl ?_ ?_ ?_ ?_<;>simp (disch:=(refine Om.mk ?_;omega)) only[go_sem]<;>(try omega));all_goals first|(rw[hs];done)|(rw[hs];exact⟨rfl,by omega⟩)|(rw[hs];exact⟨by omega,rfl⟩)|(simp[hs];done)|trace_state),by omega,by omega⟩|trace_state
 ·obtain rfl:i=SH.length:=by omega
  repeat' first|exact h.elim|(exfalso;omega)|refine sw_n ?_|refine sw_go 0 kp61 fun K hK=>?_|refine fun (K:KT) (hK:KOk S 0 _ _ _ K)=>?_|refine sw_goD kp61 (by kernel_rfl) fun K hK=>?_|refine runL_g ?_|refine runQ_g ?_|refine sw_retg0 ?_|refine sw_retg ?_|(refine hK.n0 ?_;clear hK K)|refine sw_condg rfl (fun h=>?_) fun h=>?_|refine sw_exit rfl ?_|refine sw_loopEnd ?_|with_reducible refine and_o ?_|((with_reducible refine And.intro ?_ ?_);· first|(intro x hx;subst hx;rfl)|(intro x;refine And.intro ?_ ?_<;>(intros;subst_vars;rfl)))|apply tTT
def kp58:List (Nat×List Nat):=[(0,[1,2,3,4,5]),(1,[1,2,3,4,5,11]),(2,[1,2,3,4,5,11,15]),(4,[1,2,3,4,5,11,26]),(5,[10]),(3,[1,2,3,4,5,11]),(6,[10])]
attribute [go_sem] kp58 Tryz.results58 Tryz.ntmps58
theorem l24Shut_fc (rs:List Int) (SH ls:List (List Int)) (hO:ShpOk rs SH ls) (f:Nat) (sets:List (List Int)) (hl:sets.length=(arS rs (f:Int)).toNat):FC S 58 [] [] [] [.agg [.sl .any (rs.map (.int .i64))],.sl .any (SH.map IntsD),.sl .any (ls.map IntsD),.int .i64 f,.sl .any (sets.map IntsD)] (.bool (tst (∃x∈ls.map (formR rs SH),FitF x f sets))) [] []:=by
 have hn:=hO.n
 have hm:=hO.m
 have hex:(∃x∈ls.map (formR rs SH),FitF x f sets)↔∃i,i<ls.length∧FitF (formR rs SH (ls.getD i default)) f sets:=by
  constructor
  ·rintro⟨x,hx,h⟩
   obtain⟨t,ht,rfl⟩:=List.mem_map.1 hx
   obtain⟨i,hi,rfl⟩:=List.getElem_of_mem ht
   exact⟨i,hi,by rw[List.getD_eq_getElem?_getD,List.getElem?_eq_getElem hi];exact h⟩
  ·rintro⟨i,hi,h⟩
   exact⟨_,List.mem_map_of_mem (getD_mem ls i hi),h⟩
 rw[tst_congr hex]
 refine fcb Tryz.func58 fun B=>?_
 repeat' first|exact h.elim|refine sw_n ?_|refine sw_go 0 kp58 fun K hK=>?_|refine fun (K:KT) (hK:KOk S 0 _ _ _ K)=>?_|refine sw_goD kp58 (by kernel_rfl) fun K hK=>?_|refine runL_g ?_|refine runQ_g ?_|refine sw_retg0 ?_|refine sw_retg ?_|(refine hK.n0 ?_;clear hK K)|refine sw_condg rfl (fun h=>?_) fun h=>?_|refine sw_exit rfl ?_|refine sw_loopEnd ?_|with_reducible refine and_o ?_|apply tTT
 refine sw_loopT (ι:=Nat) (fun i=>[(11,.int .i64 i)]) (fun _=>[]) (fun _=>[]) (fun i=>i≤ls.length∧∀j<i,¬FitF (formR rs SH (ls.getD j default)) f sets) (fun i=>ls.length-i) 0 cvB ⟨Nat.zero_le _,fun j hj=>absurd hj (Nat.not_lt_zero _)⟩ (fun i hi=>?_)
 obtain⟨hi,hj⟩:=hi
 simp only[go_sem]
 by_cases hil:i<ls.length
 ·have hO1:=hO.lf _ (getD_mem ls i hil)
  have cF:=l24Fits_fc rs SH (ls.getD i default) f sets hO1.1 hO1.2 hn (fun e=>args_len hl e)
  by_cases hf:FitF (formR rs SH (ls.getD i default)) f sets
  ·rw[tst_true hf] at cF
   rw[tst_true ⟨i,hil,hf⟩]
   repeat' first|exact h.elim|(exfalso;omega)|refine sw_n ?_|refine sw_go 0 kp58 fun K hK=>?_|refine fun (K:KT) (hK:KOk S 0 _ _ _ K)=>?_|refine sw_goD kp58 (by kernel_rfl) fun K hK=>?_|refine runL_g ?_|refine runQ_g ?_|refine sw_retg0 ?_|refine sw_retg ?_|(refine hK.n0 ?_;clear hK K)|refine sw_condg rfl (fun h=>?_) fun h=>?_|refine sw_exit rfl ?_|refine sw_loopEnd ?_|refine hK.c1 rfl rfl rfl (cF) ?_|with_reducible refine and_o ?_|apply tTT
  ·rw[tst_false hf] at cF
   repeat' first|exact h.elim|(exfalso;omega)|refine sw_n ?_|refine sw_go 0 kp58 fun K hK=>?_|refine fun (K:KT) (hK:KOk S 0 _ _ _ K)=>?_|refine sw_goD kp58 (by kernel_rfl) fun K hK=>?_|refine runL_g ?_|refine runQ_g ?_|refine sw_retg0 ?_|refine sw_retg ?_|(refine hK.n0 ?_;clear hK K)|refine sw_condg rfl (fun h=>?_) fun h=>?_|refine sw_exit rfl ?_|refine sw_loopEnd ?_|refine hK.c1 rfl rfl rfl (cF) ?_|with_reducible refine and_o ?_|apply tTT
   exact⟨i+1,cvA,⟨by omega,upto_succ hj hf⟩,by omega⟩
 ·obtain rfl:i=ls.length:=by omega
  rw[tst_false (fun⟨j,hj1,hj2⟩=>hj j hj1 hj2)]
  repeat' first|exact h.elim|(exfalso;omega)|refine sw_n ?_|refine sw_go 0 kp58 fun K hK=>?_|refine fun (K:KT) (hK:KOk S 0 _ _ _ K)=>?_|refine sw_goD kp58 (by kernel_rfl) fun K hK=>?_|refine runL_g ?_|refine runQ_g ?_|refine sw_retg0 ?_|refine sw_retg ?_|(refine hK.n0 ?_;clear hK K)|refine sw_condg rfl (fun h=>?_) fun h=>?_|refine sw_exit rfl ?_|refine sw_loopEnd ?_|with_reducible refine and_o ?_|apply tTT
def evY (rs:List Int) (syms:List Nat) (n:Nat):List (Nat×List Int):=syms.flatMap (evF rs n)
theorem evY_cons (rs:List Int) {syms:List Nat} {n i:Nat} (h:i<syms.length):evY rs (syms.drop i) n=evF rs n (syms.getD i default)++evY rs (syms.drop (i+1)) n:=by
 unfold evY
 rw[List.drop_eq_getElem_cons h,List.flatMap_cons]
 simp[List.getD,h]
structure HldN (P:Prop):Prop where
 get:P
theorem mrgN {P Q:Prop} (f:HldN P→Q) (p:P):Q:=f ⟨p⟩
theorem capF_none {I:Nat→List (List Int)→Option (List Int)} {sets:List (List Int)} (f:Nat) (l:List Int) (E:List (Nat×List Int)) (out:List (List Int)) (h16:out.length≤16) (hI:I f (lstS sets l)=none):capF I sets ((f,l)::E) out=capF I sets E out:=by
 have h:capF I sets ((f,l)::E) out=if 16<(stepO I sets out (f,l)).length then (stepO I sets out (f,l),false) else capF I sets E (stepO I sets out (f,l)):=rfl
 have h2:stepO I sets out (f,l)=out:=by unfold stepO;rw[hI]
 rw[h2,if_neg (by omega)] at h
 exact h
theorem iterZ_step {I:Nat→List (List Int)→Option (List Int)} {E:Nat→List (Nat×List Int)} {k:Nat} {s:List (List Int)} {R:List (List Int)×Bool} (h:iterZ I E (k+1) s=R) {nx:List (List Int)} {ok:Bool} (hC:capF I s (E s.length) s=(nx,ok)):(ok=false→R=(s,false))∧(ok=true→nx.length=s.length→R=(s,true))∧(ok=true→nx.length≠s.length→iterZ I E k nx=R):=by
 unfold iterZ at h
 rw[hC] at h
 simp only at h
 refine⟨fun h1=>?_,fun h1 h2=>?_,fun h1 h2=>?_⟩
 ·rw[if_neg (by simp[h1])] at h;exact h.symm
 ·rw[if_pos h1,if_pos h2] at h;exact h.symm
 ·rw[if_pos h1,if_neg h2] at h;exact h
theorem imgH_no {rs:List Int} {SH ls:List (List Int)} {f:Nat} {args:List (List Int)} (h:∃x∈ls.map (formR rs SH),FitF x f args):imgH rs SH ls f args=none:=if_pos h
theorem imgH_yes {rs:List Int} {SH ls:List (List Int)} {f:Nat} {args:List (List Int)} (h:¬ ∃x∈ls.map (formR rs SH),FitF x f args):imgH rs SH ls f args=some (fitsL (SH.map (formR rs SH)) f args SH.length):=by
 unfold imgH imgN
 rw[if_neg h,List.length_map]
def kp55:List (Nat×List Nat):=[(0,[1,2,3,4]),(1,[1,2,3,4,10]),(2,[1,2,3,4,10,11]),(3,[1,2,3,4,10,11,12]),(4,[1,2,3,4,10,11,12,13]),(5,[1,2,3,4,10,11,12,13,28]),(7,[1,2,3,4,10,11,12,13,14]),(8,[1,2,3,4,10,11,12,13,14,44]),(9,[1,2,3,4,10,11,12,13,14,15]),(10,[1,2,3,4,10,11,12,13,14,15,16]),(11,[1,2,3,4,10,11,12,13,14,15,51]),(13,[1,2,3,4,10,11,12,13,14,15,17]),(14,[1,2,3,4,10,11,12,13,14,15,17,66]),(15,[1,2,3,4,10,11,12,13,14,15,18]),(16,[1,2,3,4,10,11,12,13,14,15,18,75]),(17,[1,2,3,4,10,11,12,13,14,15]),(18,[1,2,3,4,10,11,12,13,14,15,82]),(19,[8,9]),(12,[1,2,3,4,10,11,12,13,14,15,16]),(6,[1,2,3,4,10,11,12,13]),(20,[1,2,3,4,10,11,88]),(21,[8,9]),(22,[1,2,3,4,10])]
attribute [go_sem] kp55 Tryz.results55 Tryz.ntmps55
theorem l24Sets_fc (rs:List Int) (SH ls:List (List Int)) (hO:ShpOk rs SH ls) (syms:List Nat) (hsy:∀f∈syms,f<rs.length) (hsl:syms.length≤100):FC S 55 [] [] [] [.agg [.sl .any (rs.map (.int .i64))],.sl .any (SH.map IntsD),.sl .any (ls.map IntsD),.sl .any (syms.map natD)] (.tup [.sl .any ((iterZ (imgH rs SH ls) (evY rs syms) 18 []).1.map IntsD),.bool (iterZ (imgH rs SH ls) (evY rs syms) 18 []).2]) [] []:=by
 have hrl:=hO.sg.1.2
 generalize hR:iterZ (imgH rs SH ls) (evY rs syms) 18 []=R
 refine fcb Tryz.func55 fun B=>?_
 refine sw_bnd_aggg 0 0 fun hb0_0=>?_
 refine sw_bndg 3 fun hb3=>?_
 repeat' first|exact h.elim|refine sw_n ?_|refine sw_go 0 kp55 fun K hK=>?_|refine fun (K:KT) (hK:KOk S 0 _ _ _ K)=>?_|refine runL_g ?_|refine sw_retg0 ?_|refine sw_retg ?_|(refine hK.n0 ?_;clear hK K)|refine runG_fk (fun h=>?_) fun h=>?_|refine sw_condg rfl (fun h=>?_) fun h=>?_|refine hK.skp rfl rfl ?_|refine sw_exit rfl ?_|refine sw_loopEnd ?_|(refine hK.fork rfl rfl rfl ?_ ?_<;>intro h<;>try simp (disch:=(refine Om.mk ?_;omega)) only[go_sem] at h)|with_reducible refine and_o ?_|((with_reducible refine And.intro ?_ ?_);· first|(intro x hx;subst hx;rfl)|(intro x;refine And.intro ?_ ?_<;>(intros;subst_vars;rfl)))|apply tTT
 refine sw_loopT (ι:=Nat×List (List Int)) (fun x=>[(10,.sl .any (x.2.map IntsD))]) (fun _=>[]) (fun _=>[]) (fun x=>(x.2.length≤16∧18≤x.1+x.2.length)∧iterZ (imgH rs SH ls) (evY rs syms) x.1 x.2=R) (fun x=>x.1) (18,[]) cvB ⟨⟨by simp,by simp⟩,hR⟩ (fun x hx=>?_)
 obtain⟨k,sets⟩:=x
 obtain⟨⟨h16,hk⟩,hit⟩:=hx
 dsimp only at h16 hk hit
 simp only[go_sem]
 obtain⟨k,rfl⟩:∃k',k=k'+1:=⟨k-1,by omega⟩
 have hst:=fun nx ok=>iterZ_step hit (nx:=nx) (ok:=ok)
 have hl16:=capF_len (I:=imgH rs SH ls) (sets:=sets) (evY rs syms sets.length) sets h16
 obtain⟨rr,hpre⟩:=capF_pre (I:=imgH rs SH ls) (sets:=sets) (evY rs syms sets.length) sets
 generalize hans:capF (imgH rs SH ls) sets (evY rs syms sets.length) sets=ANS at *
 have hst:=hst ANS.1 ANS.2 rfl
 repeat' first|exact h.elim|(exfalso;omega)|refine sw_n ?_|refine sw_go 0 kp55 fun K hK=>?_|refine fun (K:KT) (hK:KOk S 0 _ _ _ K)=>?_|refine runL_g ?_|refine sw_retg0 ?_|refine sw_retg ?_|(refine hK.n0 ?_;clear hK K)|refine runG_fk (fun h=>?_) fun h=>?_|refine sw_condg rfl (fun h=>?_) fun h=>?_|refine hK.skp rfl rfl ?_|refine sw_exit rfl ?_|refine sw_loopEnd ?_|(refine hK.fork rfl rfl rfl ?_ ?_<;>intro h<;>try simp (disch:=(refine Om.mk ?_;omega)) only[go_sem] at h)|with_reducible refine and_o ?_|((with_reducible refine And.intro ?_ ?_);· first|(intro x hx;subst hx;rfl)|(intro x;refine And.intro ?_ ?_<;>(intros;subst_vars;rfl)))|apply tTT
 refine sw_loopT (ι:=Nat×List (List Int)) (fun p=>[(13,.int .i64 p.1),(11,.sl (.own 23000 22 1) (p.2.map IntsD))]) (fun _=>[]) (fun _=>[23000]) (fun p=>(p.1≤syms.length∧p.2.length≤16)∧capF (imgH rs SH ls) sets (evY rs (syms.drop p.1) sets.length) p.2=ANS) (fun p=>syms.length-p.1) (0,sets) cvB ⟨⟨by simp,h16⟩,hans⟩ (fun p hp=>?_)
 obtain⟨i,out⟩:=p
 obtain⟨⟨hi,ho⟩,hc⟩:=hp
 dsimp only at hi ho hc
 simp only[go_sem]
 by_cases hil:i<syms.length
 ·have hfs:=hsy _ (getD_mem syms i hil)
  obtain⟨har,hr0,hr3⟩:=ar_at hO.sg hfs
  rw[evY_cons rs hil] at hc
  have hnE:((syms.drop (i+1)).flatMap (evF rs sets.length))=evY rs (syms.drop (i+1)) sets.length:=rfl
  by_cases h0:sets.length=0∧0<rs.getD (syms.getD i default) default
  ·rw[show evF rs sets.length (syms.getD i default)=[] from if_pos h0,List.nil_append] at hc
   repeat' first|exact h.elim|(exfalso;omega)|refine sw_n ?_|refine sw_go 0 kp55 fun K hK=>?_|refine fun (K:KT) (hK:KOk S 0 _ _ _ K)=>?_|refine runL_g ?_|refine sw_retg0 ?_|refine sw_retg ?_|(refine hK.n0 ?_;clear hK K)|refine runG_fk (fun h=>?_) fun h=>?_|refine sw_condg rfl (fun h=>?_) fun h=>?_|refine hK.skp rfl rfl ?_|refine sw_exit rfl ?_|refine sw_loopEnd ?_|(refine hK.fork rfl rfl rfl ?_ ?_<;>intro h<;>try simp (disch:=(refine Om.mk ?_;omega)) only[go_sem] at h)|with_reducible refine and_o ?_|((with_reducible refine And.intro ?_ ?_);· first|(intro x hx;subst hx;rfl)|(intro x;refine And.intro ?_ ?_<;>(intros;subst_vars;rfl)))|apply tTT
   all_goals exact⟨(i+1,out),cvB,⟨⟨by dsimp only;omega,ho⟩,hc⟩,by dsimp only;omega⟩
  ·rw[show evF rs sets.length (syms.getD i default)=(digs sets.length (rs.getD (syms.getD i default) default).toNat).map (fun l=>(syms.getD i default,l)) from if_neg h0] at hc
   obtain⟨n,hn⟩:∃n:Nat,rs.getD (syms.getD i default) default=n:=⟨(rs.getD (syms.getD i default) default).toNat,by omega⟩
   have hnt:(rs.getD (syms.getD i default) default).toNat=n:=by omega
   rw[hnt] at hc har
   have hd0:0<sets.length∨n=0:=by omega
   obtain⟨hseq,A0,hA0⟩:=digs_ok hd0
   have hdig:=digs_dig hd0
   rw[hA0] at hseq hdig hc
   apply mrgN
   ·intro key
    repeat' first|exact h.elim|(exfalso;omega)|refine sw_n ?_|refine sw_go 0 kp55 fun K hK=>?_|refine fun (K:KT) (hK:KOk S 0 _ _ _ K)=>?_|refine runL_g ?_|refine sw_retg0 ?_|refine sw_retg ?_|(refine hK.n0 ?_;clear hK K)|refine runG_fk (fun h=>?_) fun h=>?_|refine sw_condg rfl (fun h=>?_) fun h=>?_|refine hK.skp rfl rfl ?_|refine sw_exit rfl ?_|refine sw_loopEnd ?_|(refine hK.fork rfl rfl rfl ?_ ?_<;>intro h<;>try simp (disch:=(refine Om.mk ?_;omega)) only[go_sem] at h)|with_reducible refine and_o ?_|((with_reducible refine And.intro ?_ ?_);· first|(intro x hx;subst hx;rfl)|(intro x;refine And.intro ?_ ?_<;>(intros;subst_vars;rfl)))|apply tTT
    all_goals exact key.get
   rw[hnt]
   refine sw_freeze 15 1 .any ((List.replicate n (0:Int)).map (.int .i64)) rfl rfl (by rw[flatten_one,flat_ints,List.map_replicate]) (by simp) (cells_one fun _=>rfl) (by rw[flatten_one,←List.map_replicate (f:=D.int .i64)];exact memOk_ints _) (.inl rfl) ?_
   simp only[go_sem]
   refine sw_loopT (ι:=(List Int×Bool)×List (List Int)×List (List Int)) (fun p=>[(15,.sl .any (p.1.1.map (.int .i64))),(16,.bool p.1.2),(11,.sl (.own 23000 22 1) (p.2.2.map IntsD))]) (fun _=>[]) (fun _=>[23000]) (fun p=>((p.1.1.length=n∧∀x∈p.1.1,0≤x∧x<sets.length)∧p.2.2.length≤16)∧(p.1.2=true→(SeqD (List.replicate n (0,(sets.length:Int)-1)) (p.1.1::p.2.1)∧∀l∈p.2.1,l.length=n∧∀x∈l,0≤x∧x<sets.length)∧capF (imgH rs SH ls) sets ((p.1.1::p.2.1).map (fun l=>(syms.getD i default,l))++evY rs (syms.drop (i+1)) sets.length) p.2.2=ANS)∧(p.1.2=false→capF (imgH rs SH ls) sets (evY rs (syms.drop (i+1)) sets.length) p.2.2=ANS)) (fun p=>if p.1.2=true then p.2.1.length+1 else 0) ((List.replicate n 0,true),A0,out) (by(refine covers_mk0 rfl rfl ?_ ?_ ?_ ?_<;>simp (disch:=(refine Om.mk ?_;omega)) only[go_sem]<;>(try omega));all_goals first|rfl|exact⟨rfl,rfl⟩|exact⟨rfl,rfl,rfl⟩) ⟨⟨hdig _ List.mem_cons_self,ho⟩,fun _=>⟨⟨hseq,fun l hl=>hdig l (List.mem_cons_of_mem _ hl)⟩,hc⟩,fun h=>by cases h⟩ (fun p hp=>?_)
   obtain⟨⟨l,mr⟩,A,out⟩:=p
   obtain⟨⟨⟨hl1,hl2⟩,ho⟩,hm1,hm2⟩:=hp
   dsimp only at hl1 hl2 ho hm1 hm2
   simp only[go_sem]
   have hbx:∀x∈l,0≤x∧x≤1000:=fun x hx=>by have:=hl2 x hx;omega
   have hget:∀j<l.length,0≤l.getD j default∧l.getD j default<sets.length:=fun j hj=>hl2 _ (getD_mem l j hj)
   cases mr with
   | false =>
    have hm2:=hm2 rfl
    repeat' first|exact h.elim|(exfalso;omega)|refine sw_n ?_|refine sw_go 0 kp55 fun K hK=>?_|refine fun (K:KT) (hK:KOk S 0 _ _ _ K)=>?_|refine runL_g ?_|refine sw_retg0 ?_|refine sw_retg ?_|(refine hK.n0 ?_;clear hK K)|refine runG_fk (fun h=>?_) fun h=>?_|refine sw_condg rfl (fun h=>?_) fun h=>?_|refine hK.skp rfl rfl ?_|refine sw_exit rfl ?_|refine sw_loopEnd ?_|(refine hK.fork rfl rfl rfl ?_ ?_<;>intro h<;>try simp (disch:=(refine Om.mk ?_;omega)) only[go_sem] at h)|with_reducible refine and_o ?_|((with_reducible refine And.intro ?_ ?_);· first|(intro x hx;subst hx;rfl)|(intro x;refine And.intro ?_ ?_<;>(intros;subst_vars;rfl)))|apply tTT
    exact⟨(i+1,out),cvB,⟨⟨by dsimp only;omega,ho⟩,hm2⟩,by dsimp only;omega⟩
   | true =>
    obtain⟨⟨hs,hA1⟩,hcc⟩:=hm1 rfl
    have hlen:=lst_len sets l
    have cL:=l23Listed_fc .any .any sets l (by omega) hget
    have cN:=nextList_fc .any l (sets.length:Int) (by omega) hbx
    have hnx:=loop_next hl1 hl2 hs
    have cH:=l24Shut_fc rs SH ls hO (syms.getD i default) (lstS sets l) (by rw[hlen,hl1,har])
    have cC:=l24Comes_fc rs SH ls hO (syms.getD i default) (lstS sets l) (by rw[hlen,hl1,har])
    rw[List.map_cons,List.cons_append] at hcc
    by_cases hsh:∃x∈ls.map (formR rs SH),FitF x ((syms.getD i default:Nat):Int) (lstS sets l)
    ·rw[tst_true hsh] at cH
     rw[capF_none _ _ _ _ ho (imgH_no hsh)] at hcc
     repeat' first|exact h.elim|(exfalso;omega)|refine sw_n ?_|refine sw_go 0 kp55 fun K hK=>?_|refine fun (K:KT) (hK:KOk S 0 _ _ _ K)=>?_|refine runL_g ?_|refine sw_retg0 ?_|refine sw_retg ?_|(refine hK.n0 ?_;clear hK K)|refine runG_fk (fun h=>?_) fun h=>?_|refine sw_condg rfl (fun h=>?_) fun h=>?_|refine hK.skp rfl rfl ?_|refine sw_exit rfl ?_|refine sw_loopEnd ?_|refine hK.c1 rfl rfl rfl (cL) ?_|refine hK.c1 rfl rfl rfl (cH) ?_|refine hK.c1 rfl rfl rfl (cC) ?_|refine hK.c1 rfl rfl rfl (cN) ?_|(refine hK.fork rfl rfl rfl ?_ ?_<;>intro h<;>try simp (disch:=(refine Om.mk ?_;omega)) only[go_sem] at h)|with_reducible refine and_o ?_|((with_reducible refine And.intro ?_ ?_);· first|(intro x hx;subst hx;rfl)|(intro x;refine And.intro ?_ ?_<;>(intros;subst_vars;rfl)))|apply tTT
     all_goals exact⟨((((nextL (sets.length:Int) l).1,(nextL (sets.length:Int) l).2)),A.tail,out),(by(refine covers_mk0 rfl rfl ?_ ?_ ?_ ?_<;>simp (disch:=(refine Om.mk ?_;omega)) only[go_sem]<;>(try omega));all_goals first|rfl|exact⟨rfl,rfl⟩|exact⟨rfl,rfl,rfl⟩),⟨⟨hnx.1,ho⟩,fun h=>⟨⟨(hnx.2.1 h).1,fun m hm=>hA1 m (List.mem_of_mem_tail hm)⟩,by have e:=(hnx.2.1 h).2;rw[e] at hcc;exact hcc⟩,fun h=>by have:=hnx.2.2 h;dsimp only;rw[this] at hcc;exact hcc⟩,nx_meas hnx⟩
    ·rw[tst_false hsh] at cH
     have hcap:=capF_cap (I:=imgH rs SH ls) (sets:=sets) (syms.getD i default) l (A.map (fun l=>(syms.getD i default,l))++evY rs (syms.drop (i+1)) sets.length) out _ (imgH_yes hsh)
     rw[hcc] at hcap
     have hfl:=fitsL_len (SH.map (formR rs SH)) ((syms.getD i default:Nat):Int) (lstS sets l) SH.length
     generalize hS:fitsL (SH.map (formR rs SH)) ((syms.getD i default:Nat):Int) (lstS sets l) SH.length=s at *
     have hpl:=placeI_ge s out
     have cP:=termPlace_fc (.own 23000 22 1) .any out s
     by_cases hm:s∈out
     ·have hp:=hpl.2.2 hm
      rw[show addQ out s=out from if_pos hm] at hcap
      have hcc:=hcap.2 (by omega)
      repeat' first|exact h.elim|(exfalso;omega)|refine sw_n ?_|refine sw_go 0 kp55 fun K hK=>?_|refine fun (K:KT) (hK:KOk S 0 _ _ _ K)=>?_|refine runL_g ?_|refine sw_retg0 ?_|refine sw_retg ?_|(refine hK.n0 ?_;clear hK K)|refine runG_fk (fun h=>?_) fun h=>?_|refine sw_condg rfl (fun h=>?_) fun h=>?_|refine hK.skp rfl rfl ?_|refine sw_exit rfl ?_|refine sw_loopEnd ?_|refine hK.c1 rfl rfl rfl (cL) ?_|refine hK.c1 rfl rfl rfl (cH) ?_|refine hK.c1 rfl rfl rfl (cC) ?_|refine hK.c1 rfl rfl rfl (cP) ?_|refine hK.c1 rfl rfl rfl (cN) ?_|(refine hK.fork rfl rfl rfl ?_ ?_<;>intro h<;>try simp (disch:=(refine Om.mk ?_;omega)) only[go_sem] at h)|with_reducible refine and_o ?_|((with_reducible refine And.intro ?_ ?_);· first|(intro x hx;subst hx;rfl)|(intro x;refine And.intro ?_ ?_<;>(intros;subst_vars;rfl)))|apply tTT
      all_goals exact⟨((((nextL (sets.length:Int) l).1,(nextL (sets.length:Int) l).2)),A.tail,out),(by(refine covers_mk0 rfl rfl ?_ ?_ ?_ ?_<;>simp (disch:=(refine Om.mk ?_;omega)) only[go_sem]<;>(try omega));all_goals first|rfl|exact⟨rfl,rfl⟩|exact⟨rfl,rfl,rfl⟩),⟨⟨hnx.1,ho⟩,fun h=>⟨⟨(hnx.2.1 h).1,fun m hm=>hA1 m (List.mem_of_mem_tail hm)⟩,by have e:=(hnx.2.1 h).2;rw[e] at hcc;exact hcc.symm⟩,fun h=>by have:=hnx.2.2 h;dsimp only;rw[this] at hcc;exact hcc.symm⟩,nx_meas hnx⟩
     ·have hp:¬0≤placeI s out:=fun h=>hm (hpl.2.1 h)
      rw[show addQ out s=out++[s] from if_neg hm] at hcap
      simp only[List.length_append,List.length_singleton] at hcap
      by_cases h17:16<out.length+1
      ·obtain rfl:=hcap.1 h17
       have hst:=hst.1 rfl
       subst hst
       repeat' first|exact h.elim|(exfalso;omega)|(exfalso;simp only[lens] at *;omega)|(refine sw_renC 80000 23000 rfl rfl ?_;simp only[go_sem])|refine sw_n ?_|refine sw_go 0 kp55 fun K hK=>?_|refine fun (K:KT) (hK:KOk S 0 _ _ _ K)=>?_|refine runL_g ?_|refine sw_retg0 ?_|refine sw_retg ?_|(refine hK.n0 ?_;clear hK K)|refine runG_fk (fun h=>?_) fun h=>?_|refine sw_condg rfl (fun h=>?_) fun h=>?_|refine hK.skp rfl rfl ?_|refine sw_exit rfl ?_|refine sw_loopEnd ?_|refine hK.c1 rfl rfl rfl (cL) ?_|refine hK.c1 rfl rfl rfl (cH) ?_|refine hK.c1 rfl rfl rfl (cC) ?_|refine hK.c1 rfl rfl rfl (cP) ?_|refine hK.c1 rfl rfl rfl (cN) ?_|(refine hK.fork rfl rfl rfl ?_ ?_<;>intro h<;>try simp (disch:=(refine Om.mk ?_;omega)) only[go_sem] at h)|with_reducible refine and_o ?_|((with_reducible refine And.intro ?_ ?_);· first|(intro x hx;subst hx;rfl)|(intro x;refine And.intro ?_ ?_<;>(intros;subst_vars;rfl)))|apply tTT
       all_goals first|(exfalso;simp only[lens] at *;omega)|exact⟨by simp,rfl⟩|rfl|trace_state
      ·have hcc:=hcap.2 h17
       repeat' first|exact h.elim|(exfalso;omega)|(exfalso;simp only[lens] at *;omega)|(refine sw_renC 80000 23000 rfl rfl ?_;simp only[go_sem])|refine sw_n ?_|refine sw_go 0 kp55 fun K hK=>?_|refine fun (K:KT) (hK:KOk S 0 _ _ _ K)=>?_|refine runL_g ?_|refine sw_retg0 ?_|refine sw_retg ?_|(refine hK.n0 ?_;clear hK K)|refine runG_fk (fun h=>?_) fun h=>?_|refine sw_condg rfl (fun h=>?_) fun h=>?_|refine hK.skp rfl rfl ?_|refine sw_exit rfl ?_|refine sw_loopEnd ?_|refine hK.c1 rfl rfl rfl (cL) ?_|refine hK.c1 rfl rfl rfl (cH) ?_|refine hK.c1 rfl rfl rfl (cC) ?_|refine hK.c1 rfl rfl rfl (cP) ?_|refine hK.c1 rfl rfl rfl (cN) ?_|(refine hK.fork rfl rfl rfl ?_ ?_<;>intro h<;>try simp (disch:=(refine Om.mk ?_;omega)) only[go_sem] at h)|with_reducible refine and_o ?_|((with_reducible refine And.intro ?_ ?_);· first|(intro x hx;subst hx;rfl)|(intro x;refine And.intro ?_ ?_<;>(intros;subst_vars;rfl)))|apply tTT
       all_goals try (exfalso;simp only[lens] at *;omega)
       all_goals exact⟨((((nextL (sets.length:Int) l).1,(nextL (sets.length:Int) l).2)),A.tail,out++[s]),(by(refine covers_mk0 rfl rfl ?_ ?_ ?_ ?_<;>simp (disch:=(refine Om.mk ?_;omega)) only[go_sem]<;>(try omega));all_goals first|(rw[List.map_append];rfl)|(rw[List.map_append];exact⟨rfl,rfl⟩)|(rw[List.map_append];exact⟨rfl,rfl,rfl⟩)|trace_state),⟨⟨hnx.1,by first|omega|(simp only[lens];omega)⟩,fun h=>⟨⟨(hnx.2.1 h).1,fun m hm=>hA1 m (List.mem_of_mem_tail hm)⟩,by have e:=(hnx.2.1 h).2;rw[e] at hcc;exact hcc.symm⟩,fun h=>by have:=hnx.2.2 h;dsimp only;rw[this] at hcc;exact hcc.symm⟩,nx_meas hnx⟩
 ·obtain rfl:i=syms.length:=by omega
  have e0:evY rs (syms.drop syms.length) sets.length=[]:=by rw[List.drop_length];rfl
  rw[e0] at hc
  obtain rfl:ANS=(out,true):=hc.symm
  have hst:=hst.2
  by_cases he:out.length=sets.length
  ·have hR:=hst.1 rfl he
   subst hR
   repeat' first|exact h.elim|(exfalso;simp only[lens] at *;omega)|refine sw_n ?_|refine sw_go 0 kp55 fun K hK=>?_|refine fun (K:KT) (hK:KOk S 0 _ _ _ K)=>?_|refine runL_g ?_|refine sw_retg0 ?_|refine sw_retg ?_|(refine hK.n0 ?_;clear hK K)|refine runG_fk (fun h=>?_) fun h=>?_|refine sw_condg rfl (fun h=>?_) fun h=>?_|refine hK.skp rfl rfl ?_|refine sw_exit rfl ?_|refine sw_loopEnd ?_|(refine hK.fork rfl rfl rfl ?_ ?_<;>intro h<;>try simp (disch:=(refine Om.mk ?_;omega)) only[go_sem] at h)|with_reducible refine and_o ?_|((with_reducible refine And.intro ?_ ?_);· first|(intro x hx;subst hx;rfl)|(intro x;refine And.intro ?_ ?_<;>(intros;subst_vars;rfl)))|apply tTT
  ·have hR:=hst.2 rfl he
   have hlt:sets.length<out.length:=by
    have h1:=congrArg List.length hpre
    rw[List.length_append] at h1
    dsimp only at h1
    omega
   repeat' first|exact h.elim|(exfalso;simp only[lens] at *;omega)|refine sw_n ?_|refine sw_go 0 kp55 fun K hK=>?_|refine fun (K:KT) (hK:KOk S 0 _ _ _ K)=>?_|refine runL_g ?_|refine sw_retg0 ?_|refine sw_retg ?_|(refine hK.n0 ?_;clear hK K)|refine runG_fk (fun h=>?_) fun h=>?_|refine sw_condg rfl (fun h=>?_) fun h=>?_|refine hK.skp rfl rfl ?_|refine sw_exit rfl ?_|refine sw_loopEnd ?_|(refine hK.fork rfl rfl rfl ?_ ?_<;>intro h<;>try simp (disch:=(refine Om.mk ?_;omega)) only[go_sem] at h)|with_reducible refine and_o ?_|((with_reducible refine And.intro ?_ ?_);· first|(intro x hx;subst hx;rfl)|(intro x;refine And.intro ?_ ?_<;>(intros;subst_vars;rfl)))|apply tTT
   all_goals exact⟨(k,out),(by(refine covers_mk0 rfl rfl ?_ ?_ ?_ ?_<;>simp (disch:=(refine Om.mk ?_;omega)) only[go_sem]<;>(try omega));all_goals first|rfl|exact⟨rfl,rfl⟩|(simp;done)|trace_state),⟨⟨ho,by dsimp only;omega⟩,hR⟩,Nat.lt_succ_self k⟩
end
section
attribute [local irreducible] SW runL runQ runG runQG FC Ret1 RetN toF redoL
theorem cmpL_neg:∀a b:List Int,cmpL a b<0↔lexB a b=true
 | [],[]=>by simp[cmpL,lexB]
 | [],_::_=>by simp[cmpL,lexB]
 | _::_,[]=>by simp[cmpL,lexB]
 | x::r,y::s=>by
  have ih:=cmpL_neg r s
  simp only[cmpL,lexB]
  by_cases h:x=y
  ·subst h
   have e:cmpI x x=0:=by simp[cmpI]
   rw[if_neg (by simp[e]),if_pos rfl];exact ih
  ·rw[if_neg h]
   unfold cmpI
   by_cases h2:x<y
   ·simp[h2]
   ·have h3:y<x:=by omega
    simp[h2,h3]
def cmpTm (a b:List Int):Int:=if a.length=b.length then cmpL a b else (a.length:Int)-b.length
theorem cmpT_neg (a b:List Int):cmpTm a b<0↔lessT a b=true:=by
 unfold cmpTm lessT
 split
 ·exact cmpL_neg a b
 ·simp only[decide_eq_true_eq];omega
theorem cmpT_ord:(∀x,¬cmpTm x x<0)∧(∀x y z,cmpTm x y<0→cmpTm y z<0→cmpTm x z<0)∧(∀x y z,¬cmpTm x y<0→¬cmpTm y z<0→¬cmpTm x z<0):=by
 refine⟨fun x=>?_,fun x y z=>?_,fun x y z=>?_⟩
 ·rw[cmpT_neg,lessT_irr];simp
 ·rw[cmpT_neg,cmpT_neg,cmpT_neg];exact lessT_trans x y z
 ·rw[cmpT_neg,cmpT_neg,cmpT_neg]
  simp only[Bool.not_eq_true]
  exact lessT_ntrans x y z
theorem srtM_of {xs ys:List (List Int)} (hp:ys.Perm xs) (h:ys.Pairwise fun a b=>¬cmpTm b a<0):ys=srtM xs:=by
 refine srt_uniq (h.imp fun {a b} h=>?_) (srtM_ok xs).2 (hp.trans (srtM_ok xs).1.symm)
 rw[cmpT_neg] at h
 simpa using h
def kp100:List (Nat×List Nat):=[(0,[0,1]),(1,[0,1,9]),(2,[4]),(3,[4])]
attribute [go_sem] kp100 Tryz.results100 Tryz.ntmps100
theorem compareTerms_fc (tk tk':Tk) (a b:List Int):FC S 100 [] [] [] [.sl tk (a.map (.int .i64)),.sl tk' (b.map (.int .i64))] (.int .i64 (cmpTm a b)) [] []:=by
 refine fcb Tryz.func100 fun B=>?_
 refine sw_bndg 0 fun hb0=>?_
 refine sw_bndg 1 fun hb1=>?_
 repeat' first|exact h.elim|refine sw_n ?_|refine sw_go 0 kp100 fun K hK=>?_|refine fun (K:KT) (hK:KOk S 0 _ _ _ K)=>?_|refine runL_g ?_|refine sw_retg0 ?_|refine sw_retg ?_|(refine hK.n0 ?_;clear hK K)|refine sw_condg rfl (fun h=>?_) fun h=>?_|refine sw_loopEnd ?_|refine hK.c1 rfl rfl rfl (compare_fc _ _ _ _) ?_|with_reducible refine and_o ?_|apply tTT
 ·unfold cmpTm;rw[if_neg (by omega)]
 ·unfold cmpTm;rw[if_pos (by omega)]
end
section
attribute [local irreducible] SW runL runQ runG runQG FC Ret1 RetN toF redoL
attribute [local go_sem] D.ifc
theorem mapR_lbs (N:Nat) (P:List (List Int)):mapR (fun j y=>Int64SL [N,j] y) P=(lbs N id P P.length).map intsT:=by
 simp only[mapR,lbs,List.map_map]
 rfl
theorem mapR_mem {α:Type} [Inhabited α] {g:Nat→α→D} {xs:List α} {P:D→Prop} (h:∀j x,P (g j x)):∀d∈mapR g xs,P d:=fun d hd=>by
 obtain⟨j,_,rfl⟩:=List.mem_map.1 hd
 exact h j _
theorem mapR_snocS {α:Type} [Inhabited α] (g:Nat→α→D) (xs:List α) (x:α):mapR g (xs++[x])=mapR g xs++[g xs.length x]:=by
 unfold mapR
 rw[List.length_append,List.length_singleton,List.range_succ,List.map_append]
 congr 1
 ·refine List.map_congr_left fun j hj=>?_
  have hj:=List.mem_range.1 hj
  simp[List.getD,List.getElem?_append_left hj]
 ·simp[List.getD]
def kp97:List (Nat×List Nat):=[(0,[0,1]),(1,[3])]
attribute [go_sem] kp97 Tryz.results97 Tryz.ntmps97
theorem shapes1_fc (tk:Tk) (t u:List Int):FC S 97 [(9,[.sl tk (t.map (.int .i64))])] [] [] ([IntsD u]++[.box 9 0]) (.bool (tst (u=t))) [] []:=by
 refine fcb Tryz.func97 fun B=>?_
 repeat' first|refine sw_n ?_|refine sw_go 0 kp97 fun K hK=>?_|refine fun (K:KT) (hK:KOk S 0 _ _ _ K)=>?_|refine runL_g ?_|refine sw_retg0 ?_|refine sw_retg ?_|(refine hK.n0 ?_;clear hK K)|refine sw_loopEnd ?_|refine hK.c1 rfl rfl rfl (equalInt64_fc _ _ _ _) ?_|with_reducible refine and_o ?_|apply tTT
def kp71:List (Nat×List Nat):=[(0,[1,2]),(1,[1,2,5]),(2,[2,5,10,11,12]),(3,[2,5,10,11,12,13]),(4,[2,5,7,10,11,12]),(5,[2,5,7,8,10,11,12]),(6,[2,5,7,8,10,11,12,19]),(8,[2,5,7,8,10,11,12,26]),(9,[2,5,7,8,9,10,11,12]),(10,[2,5,7,8,9,10,11,12,35]),(11,[2,5,7,8,10,11,12]),(7,[2,5,7,8,10,11,12]),(12,[2,5,10,11,12]),(13,[5]),(14,[4])]
attribute [go_sem] kp71 Tryz.results71 Tryz.ntmps71
theorem shapesOf_fc (hkit:SortKit S.P 99 100) (p:List Nat) (hp:p≠[]) (rs:List Int) (ls:List (List Int)) (hn:ls.length≤12) (hT:∀i<ls.length,TermOkP rs (ls.getD i default)):FC S 71 [] [] [] [.agg [.sl .any (rs.map (.int .i64))],.sl .any (ls.map IntsD)] (Int64SSL p (srtM (shpA rs ls ls.length))) [] []:=by
 have hLA:=shpA_len (rs:=rs) (ls:=ls) fun i hi=>(hT i hi).2.1.2
 refine fcbF Tryz.func71 fun B N hOff=>?_
 repeat' first|exact h.elim|refine sw_n ?_|refine sw_go 0 kp71 fun K hK=>?_|refine fun (K:KT) (hK:KOk S 0 _ _ _ K)=>?_|refine runL_g ?_|refine sw_retg0 ?_|refine sw_retg ?_|(refine hK.n0 ?_;clear hK K)|refine sw_condg rfl (fun h=>?_) fun h=>?_|refine sw_exit rfl ?_|refine sw_loopEnd ?_|with_reducible refine and_o ?_|((with_reducible refine And.intro ?_ ?_);· first|(intro x hx;subst hx;rfl)|exact upR_mem fun _ _=>rfl|exact mapR_mem fun _ _=>rfl|(intro x;refine And.intro ?_ ?_<;>(intros;subst_vars;rfl)))|apply tTT
 refine sw_tok 5 40000 22 1 rfl (.inl rfl) rfl ?_
 simp only[go_sem]
 refine sw_loopT (ι:=Nat) (fun i=>[(12,.int .i64 i),(5,.sl (.own 40000 22 1) (mapR (fun j y=>Int64SL [N,j] y) (shpA rs ls i)))]) (fun _=>[]) (fun _=>[40000]) (fun i=>i≤ls.length) (fun i=>ls.length-i) 0 cvB (by omega) (fun i hi=>?_)
 simp only[go_sem]
 have hla:=hLA i hi
 by_cases hlt:i<ls.length
 ·have hTi:=hT i hlt
  have hli:=hTi.2.1
  have hA1:shpA rs ls (i+1)=shpM rs (ls.getD i default) (shpA rs ls i) ((ls.getD i default).length-1):=rfl
  repeat' first|exact h.elim|(exfalso;omega)|refine sw_n ?_|refine sw_go 0 kp71 fun K hK=>?_|refine fun (K:KT) (hK:KOk S 0 _ _ _ K)=>?_|refine runL_g ?_|refine sw_retg0 ?_|refine sw_retg ?_|(refine hK.n0 ?_;clear hK K)|refine sw_condg rfl (fun h=>?_) fun h=>?_|refine sw_exit rfl ?_|refine sw_loopEnd ?_|with_reducible refine and_o ?_|((with_reducible refine And.intro ?_ ?_);· first|(intro x hx;subst hx;rfl)|exact upR_mem fun _ _=>rfl|exact mapR_mem fun _ _=>rfl|(intro x;refine And.intro ?_ ?_<;>(intros;subst_vars;rfl)))|apply tTT
  refine sw_loopT (ι:=Nat) (fun j=>[(8,.int .i64 (j+1)),(5,.sl (.own 40000 22 1) (mapR (fun j y=>Int64SL [N,j] y) (shpM rs (ls.getD i default) (shpA rs ls i) j)))]) (fun _=>[]) (fun _=>[40000]) (fun j=>j≤(ls.getD i default).length-1) (fun j=>(ls.getD i default).length-1-j) 0 cvB (by omega) (fun j hj=>?_)
  simp only[go_sem]
  by_cases hjl:j<(ls.getD i default).length-1
  ·have hja:j+1<(ls.getD i default).length:=by omega
   have hS:=subS_ok hTi hja
   have hSl:=hS.2.1
   have cS:=subAt_fc .any .any rs (ls.getD i default) (j+1) hTi hja
   have ez:(((j+1:Nat)):Int)=(j:Int)+1:=by omega
   rw[ez] at cS
   have hQl:=shpM_len rs (ls.getD i default) (shpA rs ls i) j
   have hss:∀a,shpM rs (ls.getD i default) (shpA rs ls i) (j+1)=a→a=shpM rs (ls.getD i default) (shpA rs ls i) (j+1):=fun _ h=>h.symm
   have hs0:shpM rs (ls.getD i default) (shpA rs ls i) (j+1)=if 0≤(ls.getD i default).getD (j+1) default then addS (shpM rs (ls.getD i default) (shpA rs ls i) j) (ren0 (subS rs (ls.getD i default) (j+1))) else shpM rs (ls.getD i default) (shpA rs ls i) j:=rfl
   generalize hQ:shpM rs (ls.getD i default) (shpA rs ls i) j=Q at *
   have cR:=renamedL_fc [N,Q.length] (by simp) .any (subS rs (ls.getD i default) (j+1)) hSl
   generalize hu:ren0 (subS rs (ls.getD i default) (j+1))=u at *
   have cC:FC S 96 [(9,[.sl (.lab [N,Q.length]) (u.map (.int .i64))])] [] [] [.sl (.own 40000 22 1) (mapR (fun j y=>Int64SL [N,j] y) Q),.fn 97 [.box 9 0]] (.bool (tst (∃x∈Q,x=u))) [] []:=FC.args (containsFuncInt64S_fc .any Q (fun x=>x=u) _ _ _ (by simp[Lg.look]) (fun x _=>shapes1_fc (.lab [N,Q.length]) u x)) ⟨le_mapR Q fun j x=>⟨le_Int64SL _ _,trivial⟩,.refl _,trivial⟩
   have hex:(∃x∈Q,x=u)↔u∈Q:=⟨fun⟨x,h1,h2⟩=>h2 ▸ h1,fun h=>⟨u,h,rfl⟩⟩
   rcases Classical.em (0≤(ls.getD i default).getD (j+1) default) with h0|h0
   ·rw[if_pos h0] at hs0
    rcases Classical.em (u∈Q) with hm|hm
    ·have hs1:shpM rs (ls.getD i default) (shpA rs ls i) (j+1)=Q:=by rw[hs0];simp only[addS,if_pos hm]
     repeat' first|exact h.elim|(exfalso;omega)|refine sw_n ?_|refine sw_go 0 kp71 fun K hK=>?_|refine fun (K:KT) (hK:KOk S 0 _ _ _ K)=>?_|refine runL_g ?_|refine sw_retg0 ?_|refine sw_retg ?_|(refine hK.n0 ?_;clear hK K)|refine sw_condg rfl (fun h=>?_) fun h=>?_|refine sw_exit rfl ?_|refine sw_loopEnd ?_|refine hK.c1 rfl rfl rfl (cS) ?_|refine hK.c1 rfl rfl rfl (cR) ?_|refine hK.cR rfl rfl rfl (cC) ?_|with_reducible refine and_o ?_|((with_reducible refine And.intro ?_ ?_);· first|(intro x hx;subst hx;rfl)|exact upR_mem fun _ _=>rfl|exact mapR_mem fun _ _=>rfl|(intro x;refine And.intro ?_ ?_<;>(intros;subst_vars;rfl)))|apply tTT
     all_goals first|(exfalso;omega)|(exfalso;exact absurd (hex.2 hm) (by assumption))|exact⟨j+1,(by(refine covers_mk0 rfl rfl ?_ ?_ ?_ ?_<;>simp (disch:=(refine Om.mk ?_;omega)) only[go_sem]<;>(try omega));rw[hs1];first|exact⟨rfl,by omega⟩|exact⟨by omega,rfl⟩),by omega,by omega⟩
    ·have hs1:shpM rs (ls.getD i default) (shpA rs ls i) (j+1)=Q++[u]:=by rw[hs0];simp only[addS,if_neg hm]
     repeat' first|exact h.elim|(exfalso;omega)|refine sw_n ?_|refine sw_go 0 kp71 fun K hK=>?_|refine fun (K:KT) (hK:KOk S 0 _ _ _ K)=>?_|refine runL_g ?_|refine sw_retg0 ?_|refine sw_retg ?_|(refine hK.n0 ?_;clear hK K)|refine sw_condg rfl (fun h=>?_) fun h=>?_|refine sw_exit rfl ?_|refine sw_loopEnd ?_|refine hK.c1 rfl rfl rfl (cS) ?_|refine hK.c1 rfl rfl rfl (cR) ?_|refine hK.cR rfl rfl rfl (cC) ?_|with_reducible refine and_o ?_|((with_reducible refine And.intro ?_ ?_);· first|(intro x hx;subst hx;rfl)|exact upR_mem fun _ _=>rfl|exact mapR_mem fun _ _=>rfl|(intro x;refine And.intro ?_ ?_<;>(intros;subst_vars;rfl)))|apply tTT
     all_goals first|(exfalso;omega)|(exfalso;exact hm (hex.1 (by assumption)))|exact⟨j+1,(by(refine covers_mk0 rfl rfl ?_ ?_ ?_ ?_<;>simp (disch:=(refine Om.mk ?_;omega)) only[go_sem]<;>(try omega));rw[hs1,mapR_snocS];first|exact⟨rfl,by omega⟩|exact⟨by omega,rfl⟩),by omega,by omega⟩
   ·rw[if_neg h0] at hs0
    repeat' first|exact h.elim|(exfalso;omega)|refine sw_n ?_|refine sw_go 0 kp71 fun K hK=>?_|refine fun (K:KT) (hK:KOk S 0 _ _ _ K)=>?_|refine runL_g ?_|refine sw_retg0 ?_|refine sw_retg ?_|(refine hK.n0 ?_;clear hK K)|refine sw_condg rfl (fun h=>?_) fun h=>?_|refine sw_exit rfl ?_|refine sw_loopEnd ?_|refine hK.c1 rfl rfl rfl (cS) ?_|refine hK.c1 rfl rfl rfl (cR) ?_|refine hK.cR rfl rfl rfl (cC) ?_|with_reducible refine and_o ?_|((with_reducible refine And.intro ?_ ?_);· first|(intro x hx;subst hx;rfl)|exact upR_mem fun _ _=>rfl|exact mapR_mem fun _ _=>rfl|(intro x;refine And.intro ?_ ?_<;>(intros;subst_vars;rfl)))|apply tTT
    all_goals first|(exfalso;omega)|exact⟨j+1,(by(refine covers_mk0 rfl rfl ?_ ?_ ?_ ?_<;>simp (disch:=(refine Om.mk ?_;omega)) only[go_sem]<;>(try omega));rw[hs0];first|exact⟨rfl,by omega⟩|exact⟨by omega,rfl⟩),by omega,by omega⟩
  ·have ej:j=(ls.getD i default).length-1:=by omega
   subst ej
   rw[←hA1]
   repeat' first|exact h.elim|(exfalso;omega)|refine sw_n ?_|refine sw_go 0 kp71 fun K hK=>?_|refine fun (K:KT) (hK:KOk S 0 _ _ _ K)=>?_|refine runL_g ?_|refine sw_retg0 ?_|refine sw_retg ?_|(refine hK.n0 ?_;clear hK K)|refine sw_condg rfl (fun h=>?_) fun h=>?_|refine sw_exit rfl ?_|refine sw_loopEnd ?_|with_reducible refine and_o ?_|((with_reducible refine And.intro ?_ ?_);· first|(intro x hx;subst hx;rfl)|exact upR_mem fun _ _=>rfl|exact mapR_mem fun _ _=>rfl|(intro x;refine And.intro ?_ ?_<;>(intros;subst_vars;rfl)))|apply tTT
   exact⟨i+1,cvA,by omega,by omega⟩
 ·have ei:i=ls.length:=by omega
  subst ei
  repeat' first|exact h.elim|(exfalso;omega)|refine sw_n ?_|refine sw_go 0 kp71 fun K hK=>?_|refine fun (K:KT) (hK:KOk S 0 _ _ _ K)=>?_|refine runL_g ?_|refine sw_retg0 ?_|refine sw_retg ?_|(refine hK.n0 ?_;clear hK K)|refine sw_condg rfl (fun h=>?_) fun h=>?_|refine sw_exit rfl ?_|refine sw_loopEnd ?_|with_reducible refine and_o ?_|((with_reducible refine And.intro ?_ ?_);· first|(intro x hx;subst hx;rfl)|exact upR_mem fun _ _=>rfl|exact mapR_mem fun _ _=>rfl|(intro x;refine And.intro ?_ ?_<;>(intros;subst_vars;rfl)))|apply tTT
  have e:=mapR_lbs N (shpA rs ls ls.length)
  simp only[Int64SL] at e
  rw[e]
  refine hK.raw (LopsW.sortOwn (k:=40000) rfl ⟨_,Tryz.func99,by kernel_rfl,rfl⟩ hkit cmpTm (fun _=>True) (fun x y _ _=>compareTerms_fc .any .any x y) cmpT_ord hOff.1 (by simp) rfl rfl ?_ ?_ (fun qs=>[(5,.sl (.own 40000 22 1) (qs.map intsT))]) (fun _=>[]) ?_ ?_ (by simp only[Nat.reduceLT]) ?_)
  ·exact fun q hq=>⟨trivial,by obtain⟨j,_,rfl⟩:=List.mem_map.1 hq;rfl⟩
  ·rw[lbs_len];omega
  ·exact fun qs q hq=>by obtain rfl:=List.mem_singleton.1 hq;exact⟨_,rfl,.inr ⟨rfl,rfl⟩⟩
  ·exact fun qs q hq=>by cases hq
  intro qs hq1 hq2
  refine LopsW.nil ?_
  simp only[go_sem]
  have e0:qs.map (·.2)=srtM (shpA rs ls ls.length):=by
   refine srtM_of ?_ (List.pairwise_map.2 hq2)
   have:=hq1.map (fun q:Tk×List Int=>q.2)
   rwa [lbs_snd,List.map_id] at this
  refine sw_relab hOff (f:=relF N p (qs.map fun q=>labOf q.1)) relF_ne relF_off [(5,.sl (.own 40000 22 1) (mapR (fun i y=>Int64SL (p++[i]++[0]) y) (srtM (shpA rs ls ls.length))))] [] (fun q hq=>?_) (fun q hq=>by cases hq) ?_
  ·obtain rfl:=List.mem_singleton.1 hq
   refine⟨_,rfl,noPL_of fun d hd=>?_,?_⟩
   ·obtain⟨x,_,rfl⟩:=List.mem_map.1 hd
    exact noPL_of fun d hd=>by obtain⟨y,_,rfl⟩:=List.mem_map.1 hd;rfl
   ·show D.sl _ _=D.sl _ (D.rlL _ (qs.map intsT))
    rw[relab_srt hq1,e0]
  simp only[go_sem]
  refine sw_lab 5 p rfl (by simp) hp ?_
  simp only[go_sem]
  repeat' first|exact h.elim|refine sw_n ?_|refine sw_go 0 kp71 fun K hK=>?_|refine fun (K:KT) (hK:KOk S 0 _ _ _ K)=>?_|refine runL_g ?_|refine sw_retg0 ?_|refine sw_retg ?_|(refine hK.n0 ?_;clear hK K)|refine sw_condg rfl (fun h=>?_) fun h=>?_|refine sw_exit rfl ?_|refine sw_loopEnd ?_|with_reducible refine and_o ?_|((with_reducible refine And.intro ?_ ?_);· first|(intro x hx;subst hx;rfl)|exact upR_mem fun _ _=>rfl|exact mapR_mem fun _ _=>rfl|(intro x;refine And.intro ?_ ?_<;>(intros;subst_vars;rfl)))|apply tTT
  all_goals trace_state
def kp70:List (Nat×List Nat):=[(0,[0]),(1,[0,3]),(2,[3,8,9,10]),(3,[3,8,9,10,11]),(4,[3,5,8,9,10]),(5,[3,8,9,10,15]),(8,[3,8,9,10,15,22,23]),(9,[3,6,8,9,10]),(10,[3,8,9,10]),(6,[3,7,8,9,10]),(7,[3,8,9,10]),(11,[3,8,9,10]),(12,[2])]
attribute [go_sem] kp70 Tryz.results70 Tryz.ntmps70
theorem leftsOf_fc (rs:List RuleT) (hn:rs.length≤12) (hl:∀i<rs.length,(rs.getD i default).l.length≤60):FC S 70 [] [] [] [.sl .any (rs.map RuleD)] (.sl .any ((rs.map (·.l)).map IntsD)) [] []:=by
 refine fcb Tryz.func70 fun B=>?_
 repeat' first|exact h.elim|refine sw_n ?_|refine sw_go 0 kp70 fun K hK=>?_|refine fun (K:KT) (hK:KOk S 0 _ _ _ K)=>?_|refine runL_g ?_|refine sw_retg0 ?_|refine sw_retg ?_|(refine hK.n0 ?_;clear hK K)|refine sw_condg rfl (fun h=>?_) fun h=>?_|refine sw_exit rfl ?_|refine sw_loopEnd ?_|with_reducible refine and_o ?_|((with_reducible refine And.intro ?_ ?_);· first|(intro x hx;subst hx;rfl)|exact upR_mem fun _ _=>rfl|exact mapR_mem fun _ _=>rfl|(intro x;refine And.intro ?_ ?_<;>(intros;subst_vars;rfl)))|apply tTT
 refine sw_tok 3 30000 22 1 rfl (.inl rfl) rfl ?_
 simp only[go_sem]
 refine sw_loopT (ι:=Nat) (fun i=>[(10,.int .i64 i),(3,.sl (.own 30000 22 1) (((rs.map (·.l)).take i).map IntsD))]) (fun _=>[]) (fun _=>[30000]) (fun i=>i≤rs.length) (fun i=>rs.length-i) 0 cvB (by omega) (fun i hi=>?_)
 simp only[go_sem]
 have htl:((rs.map (·.l)).take i).length≤12:=by rw[List.length_take,List.length_map];omega
 by_cases hlt:i<rs.length
 ·have ht:(rs.map (·.l)).take (i+1)=(rs.map (·.l)).take i++[(rs.getD i default).l]:=by
   rw[take_snocQ _ i (by rw[List.length_map];exact hlt)]
   simp[List.getD,List.getElem?_eq_getElem hlt]
  have hli:=hl i hlt
  have cK:=(cloneOwn_fc .any (rs.getD i default).l (by omega)).weak (bx'':=[]) (tk'':=[]) .any (by simp) (by simp)
  repeat' first|exact h.elim|(exfalso;omega)|(refine sw_goAt (id:=5) 0 kp70 1 rfl fun K hK=>?_)|refine sw_n ?_|refine sw_go 0 kp70 fun K hK=>?_|refine fun (K:KT) (hK:KOk S 0 _ _ _ K)=>?_|refine runL_g ?_|refine sw_retg0 ?_|refine sw_retg ?_|(refine hK.n0 ?_;clear hK K)|refine sw_condg rfl (fun h=>?_) fun h=>?_|refine sw_exit rfl ?_|refine sw_loopEnd ?_|with_reducible refine and_o ?_|((with_reducible refine And.intro ?_ ?_);· first|(intro x hx;subst hx;rfl)|exact upR_mem fun _ _=>rfl|exact mapR_mem fun _ _=>rfl|(intro x;refine And.intro ?_ ?_<;>(intros;subst_vars;rfl)))|apply tTT
  refine LopsW.mkIface (fun v w=>run_makeInterface w _ v (by kernel_rfl)) rfl rfl rfl (by simp only[Nat.reduceLT]) (LopsW.nil ?_)
  refine fun (K:List Oper→LS→Prop) (hK:KOk S 0 _ _ _ K)=>?_
  simp only[go_sem]
  repeat' first|exact h.elim|(exfalso;omega)|(refine sw_goAt (id:=8) 0 kp70 0 rfl fun K hK=>?_)|refine sw_n ?_|refine sw_go 0 kp70 fun K hK=>?_|refine fun (K:KT) (hK:KOk S 0 _ _ _ K)=>?_|refine runL_g ?_|refine sw_retg0 ?_|refine sw_retg ?_|(refine hK.n0 ?_;clear hK K)|refine sw_condg rfl (fun h=>?_) fun h=>?_|refine sw_exit rfl ?_|refine sw_loopEnd ?_|with_reducible refine and_o ?_|((with_reducible refine And.intro ?_ ?_);· first|(intro x hx;subst hx;rfl)|exact upR_mem fun _ _=>rfl|exact mapR_mem fun _ _=>rfl|(intro x;refine And.intro ?_ ?_<;>(intros;subst_vars;rfl)))|apply tTT
  refine LopsW.asIface (fun v w=>by kernel_rfl) rfl (by simp only[Nat.reduceLT]) (LopsW.nil ?_)
  refine fun (K:List Oper→LS→Prop) (hK:KOk S 0 _ _ _ K)=>?_
  simp only[go_sem]
  repeat' first|exact h.elim|(exfalso;omega)|refine sw_n ?_|refine sw_go 0 kp70 fun K hK=>?_|refine fun (K:KT) (hK:KOk S 0 _ _ _ K)=>?_|refine runL_g ?_|refine sw_retg0 ?_|refine sw_retg ?_|(refine hK.n0 ?_;clear hK K)|refine sw_condg rfl (fun h=>?_) fun h=>?_|refine sw_exit rfl ?_|refine sw_loopEnd ?_|refine hK.c1 rfl rfl rfl (cK) ?_|with_reducible refine and_o ?_|((with_reducible refine And.intro ?_ ?_);· first|(intro x hx;subst hx;rfl)|exact upR_mem fun _ _=>rfl|exact mapR_mem fun _ _=>rfl|(intro x;refine And.intro ?_ ?_<;>(intros;subst_vars;rfl)))|apply tTT
  exact⟨i+1,(by(refine covers_mk0 rfl rfl ?_ ?_ ?_ ?_<;>simp (disch:=(refine Om.mk ?_;omega)) only[go_sem]<;>(try omega));rw[ht,List.map_append];first|exact⟨rfl,by omega⟩|exact⟨by omega,rfl⟩),by omega,by omega⟩
 ·repeat' first|exact h.elim|(exfalso;omega)|refine sw_n ?_|refine sw_go 0 kp70 fun K hK=>?_|refine fun (K:KT) (hK:KOk S 0 _ _ _ K)=>?_|refine runL_g ?_|refine sw_retg0 ?_|refine sw_retg ?_|(refine hK.n0 ?_;clear hK K)|refine sw_condg rfl (fun h=>?_) fun h=>?_|refine sw_exit rfl ?_|refine sw_loopEnd ?_|with_reducible refine and_o ?_|((with_reducible refine And.intro ?_ ?_);· first|(intro x hx;subst hx;rfl)|exact upR_mem fun _ _=>rfl|exact mapR_mem fun _ _=>rfl|(intro x;refine And.intro ?_ ?_<;>(intros;subst_vars;rfl)))|apply tTT
  rw[List.take_of_length_le (by rw[List.length_map];omega)]
end
end Go.Proofs.YtcbgmeegbjokpaaGreatDoor
