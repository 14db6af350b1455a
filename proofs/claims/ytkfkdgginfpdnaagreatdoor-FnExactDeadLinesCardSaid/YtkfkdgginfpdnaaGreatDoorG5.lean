/-
  N3, N3b, A23f, A23g, N14p, N2p, Str, N5, one behind the other.
-/
import Derived.Test.YtkfkdgginfpdnaaGreatDoorG4
import Derived.Test.YtkfkdgginfpdnaaGreatDoorLgK23
import Derived.Test.YtkfkdgginfpdnaaGreatDoorLgK7
import Derived.Test.YtkfkdgginfpdnaaGreatDoorG1
import Derived.Test.YtkfkdgginfpdnaaGreatDoorG2
import Derived.Lib.ItoaNum
import Derived.Lib.Join
import Derived.Shelf.Strings.OnBuilder
import Derived.Shelf.LaysM
import Derived.Shelf.Strconv.Itoa4
import Derived.Test.YtkfkdgginfpdnaaGreatDoorProg
import Derived.Test.YtkfkdgginfpdnaaGreatDoorLgK22
section
namespace Go.Proofs.YtkfkdgginfpdnaaGreatDoor
open Go Go.Lg
set_option linter.unusedSimpArgs false
set_option linter.unusedVariables false
set_option maxHeartbeats 4000000
attribute [local irreducible] SW runL runQ runG runQG FC Ret1 RetN toF redoL anyB
theorem formR_args (rs:List Int) (SH:List (List Int)) (t:List Int):(formR rs SH t).args.length=(argsS rs t 0).length:=by simp[formR]
theorem formR_get (rs:List Int) (SH:List (List Int)) (t:List Int) {i:Nat} (h:i<(argsS rs t 0).length):(formR rs SH t).args.getD i default=argF rs SH t ((argsS rs t 0).getD i default):=by
 simp[formR,List.getD,h]
def kp95:List (Nat×List Nat):=[(0,[1,2,3,4,5]),(1,[1,2,4,5,18]),(2,[10]),(3,[1,2,4,5,11]),(4,[1,2,4,5,11,12]),(5,[1,2,4,5,11,12,25]),(7,[1,2,4,5,11,12,13]),(8,[1,2,4,5,11,12,50]),(9,[10]),(6,[1,2,4,5,11,12]),(10,[10])]
attribute [go_sem] kp95 Tryz.results95 Tryz.ntmps95
theorem l24Fits_fc (rs:List Int) (SH:List (List Int)) (p:List Int) (f:Int) (sets:List (List Int)) (hT:TermOkP rs p) (hF:FullP rs SH p) (hSH:SH.length≤1000) (hl:p.getD 0 default=f→(argsS rs p 0).length≤sets.length):FC S 95 [] [] [] [.agg [.sl .any (rs.map (.int .i64))],.sl .any (SH.map IntsD),.sl .any (p.map (.int .i64)),.int .i64 f,.sl .any (sets.map IntsD)] (.bool (tst (FitF (formR rs SH p) f sets))) [] []:=by
 have hpl:=hT.2.1
 have hp0:0<p.length:=by omega
 by_cases he:p.getD 0 default=f
 ·have hl:=hl he
  have h3:(argsS rs p 0).length≤3:=by
   rw[argsS_len]
   have:=arS_rng hT.1 (p.getD 0 default)
   omega
  have cA:=l1Args_fc .any .any rs p 0 hT hp0
  have hlt:=argsS_lt hT hp0
  have hg:=fun i (hi:i<(argsS rs p 0).length)=>formR_get rs SH p hi
  have hfit:FitF (formR rs SH p) f sets↔∀j<(argsS rs p 0).length,0≤argF rs SH p ((argsS rs p 0).getD j default)→argF rs SH p ((argsS rs p 0).getD j default)∈sets.getD j default:=by
   unfold FitF
   rw[formR_args]
   refine⟨fun h j hj h0=>?_,fun h=>⟨he,fun j hj h0=>?_⟩⟩
   ·have:=h.2 j hj;rw[hg j hj] at this;exact this h0
   ·rw[hg j hj] at h0 ⊢;exact h j hj h0
  rw[tst_congr hfit]
  generalize hA:argsS rs p 0=A at *
  refine fcb Tryz.func95 fun B=>?_
  repeat' first|exact h.elim|(exfalso;omega)|refine sw_n ?_|refine sw_go 0 kp95 fun K hK=>?_|refine fun (K:KT) (hK:KOk S 0 _ _ _ K)=>?_|refine sw_goD kp95 (by kernel_rfl) fun K hK=>?_|refine runL_g ?_|refine runQ_g ?_|refine sw_retg0 ?_|refine sw_retg ?_|(refine hK.n0 ?_;clear hK K)|refine runG_fk (fun h=>?_) fun h=>?_|refine runQG_fk (fun h=>?_) fun h=>?_|refine sw_condg rfl (fun h=>?_) fun h=>?_|refine hK.skp rfl rfl ?_|refine sw_exit rfl ?_|refine sw_loopEnd ?_|refine hK.c1 rfl rfl rfl (cA) ?_|(refine hK.fork rfl rfl rfl ?_ ?_<;>intro h<;>try simp (disch:=(refine Om.mk ?_;omega)) only[go_sem] at h)|with_reducible refine and_o ?_|apply tTT
  refine sw_loopT (ι:=Nat) (fun i=>[(12,.int .i64 i)]) (fun _=>[]) (fun _=>[]) (fun i=>i≤A.length∧∀j<i,0≤argF rs SH p (A.getD j default)→argF rs SH p (A.getD j default)∈sets.getD j default) (fun i=>A.length-i) 0 cvB ⟨Nat.zero_le _,fun j hj=>absurd hj (Nat.not_lt_zero _)⟩ (fun i hi=>?_)
  obtain⟨hi,hj⟩:=hi
  simp only[go_sem]
  by_cases hil:i<A.length
  ·have hq:=hlt _ (getD_mem A i hil)
   have hfu:=hF _ (by rw[hA];exact getD_mem A i hil)
   have hAi:argF rs SH p (A.getD i default)=if 0≤p.getD (A.getD i default) default then placeI (ren0 (subS rs p (A.getD i default))) SH else -1:=rfl
   have hS:=subS_ok hT hq.2
   have hrh:=ren0_head hS.2.1.1
   rw[(sub_sub hT hq.2).1] at hrh
   have hrl:(ren0 (subS rs p (A.getD i default))).length=(subS rs p (A.getD i default)).length:=by unfold ren0;rw[List.length_map]
   have hSl:=hS.2.1
   have cS:=l1Sub_fc .any .any rs p (A.getD i default) hT hq.2
   have cR:=l2Renamed_fc rs _ hS
   by_cases h0:0≤p.getD (A.getD i default) default
   ·have h00:=hrh.2 h0
    rw[if_pos h0] at hAi
    have hpl:=(placeI_ge (ren0 (subS rs p (A.getD i default))) SH).2.2 (hfu h0)
    by_cases hm:placeI (ren0 (subS rs p (A.getD i default))) SH∈sets.getD i default
    ·repeat' first|exact h.elim|(exfalso;first|omega|exact absurd hm (by assumption))|refine sw_n ?_|refine sw_go 0 kp95 fun K hK=>?_|refine fun (K:KT) (hK:KOk S 0 _ _ _ K)=>?_|refine sw_goD kp95 (by kernel_rfl) fun K hK=>?_|refine runL_g ?_|refine runQ_g ?_|refine sw_retg0 ?_|refine sw_retg ?_|(refine hK.n0 ?_;clear hK K)|refine runG_fk (fun h=>?_) fun h=>?_|refine runQG_fk (fun h=>?_) fun h=>?_|refine sw_condg rfl (fun h=>?_) fun h=>?_|refine hK.skp rfl rfl ?_|refine sw_exit rfl ?_|refine sw_loopEnd ?_|refine hK.c1 rfl rfl rfl (cS) ?_|refine hK.c1 rfl rfl rfl (cR) ?_|refine hK.c1 rfl rfl rfl (termPlace_fc _ _ _ _) ?_|refine hK.c1 rfl rfl rfl (l1Has_fc _ _ _) ?_|(refine hK.fork rfl rfl rfl ?_ ?_<;>intro h<;>try simp (disch:=(refine Om.mk ?_;omega)) only[go_sem] at h)|with_reducible refine and_o ?_|apply tTT
     all_goals first|(exfalso;first|omega|exact absurd hm (by assumption))|exact⟨i+1,cvA,⟨by omega,upto_succ hj (by rw[hAi];exact fun _=>hm)⟩,by omega⟩|trace_state
    ·have hno:¬ ∀j<A.length,0≤argF rs SH p (A.getD j default)→argF rs SH p (A.getD j default)∈sets.getD j default:=fun h=>by
      have h1:=h i hil
      rw[hAi] at h1
      exact hm (h1 hpl)
     rw[tst_false hno]
     repeat' first|exact h.elim|(exfalso;first|omega|exact absurd (by assumption) hm)|refine sw_n ?_|refine sw_go 0 kp95 fun K hK=>?_|refine fun (K:KT) (hK:KOk S 0 _ _ _ K)=>?_|refine sw_goD kp95 (by kernel_rfl) fun K hK=>?_|refine runL_g ?_|refine runQ_g ?_|refine sw_retg0 ?_|refine sw_retg ?_|(refine hK.n0 ?_;clear hK K)|refine runG_fk (fun h=>?_) fun h=>?_|refine runQG_fk (fun h=>?_) fun h=>?_|refine sw_condg rfl (fun h=>?_) fun h=>?_|refine hK.skp rfl rfl ?_|refine sw_exit rfl ?_|refine sw_loopEnd ?_|refine hK.c1 rfl rfl rfl (cS) ?_|refine hK.c1 rfl rfl rfl (cR) ?_|refine hK.c1 rfl rfl rfl (termPlace_fc _ _ _ _) ?_|refine hK.c1 rfl rfl rfl (l1Has_fc _ _ _) ?_|(refine hK.fork rfl rfl rfl ?_ ?_<;>intro h<;>try simp (disch:=(refine Om.mk ?_;omega)) only[go_sem] at h)|with_reducible refine and_o ?_|apply tTT
     all_goals first|(exfalso;first|omega|exact absurd (by assumption) hm)|trace_state
   ·have h00:¬0≤(ren0 (subS rs p (A.getD i default))).getD 0 default:=fun h=>h0 (hrh.1 h)
    rw[if_neg h0] at hAi
    repeat' first|exact h.elim|(exfalso;omega)|refine sw_n ?_|refine sw_go 0 kp95 fun K hK=>?_|refine fun (K:KT) (hK:KOk S 0 _ _ _ K)=>?_|refine sw_goD kp95 (by kernel_rfl) fun K hK=>?_|refine runL_g ?_|refine runQ_g ?_|refine sw_retg0 ?_|refine sw_retg ?_|(refine hK.n0 ?_;clear hK K)|refine runG_fk (fun h=>?_) fun h=>?_|refine runQG_fk (fun h=>?_) fun h=>?_|refine sw_condg rfl (fun h=>?_) fun h=>?_|refine hK.skp rfl rfl ?_|refine sw_exit rfl ?_|refine sw_loopEnd ?_|refine hK.c1 rfl rfl rfl (cS) ?_|refine hK.c1 rfl rfl rfl (cR) ?_|refine hK.c1 rfl rfl rfl (termPlace_fc _ _ _ _) ?_|refine hK.c1 rfl rfl rfl (l1Has_fc _ _ _) ?_|(refine hK.fork rfl rfl rfl ?_ ?_<;>intro h<;>try simp (disch:=(refine Om.mk ?_;omega)) only[go_sem] at h)|with_reducible refine and_o ?_|apply tTT
    all_goals first|(exfalso;omega)|exact⟨i+1,cvA,⟨by omega,upto_succ hj (by rw[hAi];intro h;omega)⟩,by omega⟩|trace_state
  ·obtain rfl:i=A.length:=by omega
   repeat' first|exact h.elim|(exfalso;omega)|refine sw_n ?_|refine sw_go 0 kp95 fun K hK=>?_|refine fun (K:KT) (hK:KOk S 0 _ _ _ K)=>?_|refine sw_goD kp95 (by kernel_rfl) fun K hK=>?_|refine runL_g ?_|refine runQ_g ?_|refine sw_retg0 ?_|refine sw_retg ?_|(refine hK.n0 ?_;clear hK K)|refine runG_fk (fun h=>?_) fun h=>?_|refine runQG_fk (fun h=>?_) fun h=>?_|refine sw_condg rfl (fun h=>?_) fun h=>?_|refine hK.skp rfl rfl ?_|refine sw_exit rfl ?_|refine sw_loopEnd ?_|(refine hK.fork rfl rfl rfl ?_ ?_<;>intro h<;>try simp (disch:=(refine Om.mk ?_;omega)) only[go_sem] at h)|with_reducible refine and_o ?_|apply tTT
   exact hj
 ·rw[tst_false fun h=>he h.1]
  refine fcb Tryz.func95 fun B=>?_
  repeat' first|exact h.elim|(exfalso;exact he (by assumption))|refine sw_n ?_|refine sw_go 0 kp95 fun K hK=>?_|refine fun (K:KT) (hK:KOk S 0 _ _ _ K)=>?_|refine sw_goD kp95 (by kernel_rfl) fun K hK=>?_|refine runL_g ?_|refine runQ_g ?_|refine sw_retg0 ?_|refine sw_retg ?_|(refine hK.n0 ?_;clear hK K)|refine runG_fk (fun h=>?_) fun h=>?_|refine runQG_fk (fun h=>?_) fun h=>?_|refine sw_condg rfl (fun h=>?_) fun h=>?_|refine hK.skp rfl rfl ?_|refine sw_exit rfl ?_|refine sw_loopEnd ?_|(refine hK.fork rfl rfl rfl ?_ ?_<;>intro h<;>try simp (disch:=(refine Om.mk ?_;omega)) only[go_sem] at h)|with_reducible refine and_o ?_|apply tTT
theorem ar_at {rs:List Int} (hs:SigOkP rs) {f:Nat} (hf:f<rs.length):(arS rs (f:Int)).toNat=(rs.getD f default).toNat∧0≤rs.getD f default∧rs.getD f default≤3:=by
 have h:=hs.2 f hf
 refine⟨?_,h⟩
 unfold arS
 rw[if_neg (by omega),if_pos ⟨by omega,by omega⟩,Int.toNat_natCast]
structure ShpOk (rs:List Int) (SH ls:List (List Int)):Prop where
 sg:SigOkP rs
 n:SH.length≤1000
 m:ls.length≤100
 sh:∀t∈SH,TermOkP rs t∧FullP rs SH t
 lf:∀t∈ls,TermOkP rs t∧FullP rs SH t
noncomputable def imgH (rs:List Int) (SH ls:List (List Int)):Nat→List (List Int)→Option (List Int):=imgN (ls.map (formR rs SH)) (SH.map (formR rs SH))
theorem getD_map' {α β:Type} [Inhabited α] [Inhabited β] {g:α→β} {xs:List α} {i:Nat} (h:i<xs.length):(xs.map g).getD i default=g (xs.getD i default):=by
 simp[List.getD,h]
theorem args_len {rs:List Int} {t:List Int} {f:Nat} {n:Nat} (h:n=(arS rs (f:Int)).toNat) (he:t.getD 0 default=(f:Int)):(argsS rs t 0).length≤n:=by
 rw[argsS_len,he];omega
def kp92:List (Nat×List Nat):=[(0,[1,2,3,4]),(1,[1,2,3,4,9]),(2,[1,2,3,4,9,10]),(3,[1,2,3,4,9,10,15]),(5,[1,2,3,4,9,10,26]),(6,[1,2,3,4,9,10]),(4,[1,2,3,4,9,10]),(7,[8])]
attribute [go_sem] kp92 Tryz.results92 Tryz.ntmps92
theorem l24Comes_fc (rs:List Int) (SH ls:List (List Int)) (hO:ShpOk rs SH ls) (f:Nat) (sets:List (List Int)) (hl:sets.length=(arS rs (f:Int)).toNat):FC S 92 [] [] [] [.agg [.sl .any (rs.map (.int .i64))],.sl .any (SH.map IntsD),.int .i64 f,.sl .any (sets.map IntsD)] (.sl .any ((fitsL (SH.map (formR rs SH)) f sets SH.length).map (.int .i64))) [] []:=by
 have hn:=hO.n
 refine fcb Tryz.func92 fun B=>?_
 repeat' first|exact h.elim|refine sw_n ?_|refine sw_go 0 kp92 fun K hK=>?_|refine fun (K:KT) (hK:KOk S 0 _ _ _ K)=>?_|refine sw_goD kp92 (by kernel_rfl) fun K hK=>?_|refine runL_g ?_|refine runQ_g ?_|refine sw_retg0 ?_|refine sw_retg ?_|(refine hK.n0 ?_;clear hK K)|refine sw_condg rfl (fun h=>?_) fun h=>?_|refine sw_exit rfl ?_|refine sw_loopEnd ?_|with_reducible refine and_o ?_|((with_reducible refine And.intro ?_ ?_);· first|(intro x hx;subst hx;rfl)|(intro x;refine And.intro ?_ ?_<;>(intros;subst_vars;rfl)))|apply tTT
 refine sw_tok 9 31000 2 1 rfl (.inr rfl) rfl ?_
 simp only[go_sem]
 refine sw_loopT (ι:=Nat) (fun i=>[(10,.int .i64 i),(9,.sl (.own 31000 2 1) ((fitsL (SH.map (formR rs SH)) f sets i).map (.int .i64)))]) (fun _=>[]) (fun _=>[31000]) (fun i=>i≤SH.length) (fun i=>SH.length-i) 0 cvB (Nat.zero_le _) (fun i hi=>?_)
 simp only[go_sem]
 have hfl:=fitsL_len (SH.map (formR rs SH)) f sets i
 by_cases hil:i<SH.length
 ·have hO1:=hO.sh _ (getD_mem SH i hil)
  have cF:=l24Fits_fc rs SH (SH.getD i default) f sets hO1.1 hO1.2 hn (fun e=>args_len hl e)
  have hgd:=getD_map' (g:=formR rs SH) hil
  by_cases hf:FitF (formR rs SH (SH.getD i default)) f sets
  ·have hs:=fitsL_yes (SF:=SH.map (formR rs SH)) (i:=i) (by rw[hgd];exact hf)
   rw[tst_true hf] at cF
   repeat' first|exact h.elim|(exfalso;omega)|refine sw_n ?_|refine sw_go 0 kp92 fun K hK=>?_|refine fun (K:KT) (hK:KOk S 0 _ _ _ K)=>?_|refine sw_goD kp92 (by kernel_rfl) fun K hK=>?_|refine runL_g ?_|refine runQ_g ?_|refine sw_retg0 ?_|refine sw_retg ?_|(refine hK.n0 ?_;clear hK K)|refine sw_condg rfl (fun h=>?_) fun h=>?_|refine sw_exit rfl ?_|refine sw_loopEnd ?_|refine hK.c1 rfl rfl rfl (cF) ?_|with_reducible refine and_o ?_|((with_reducible refine And.intro ?_ ?_);· first|(intro x hx;subst hx;rfl)|(intro x;refine And.intro ?_ ?_<;>(intros;subst_vars;rfl)))|apply tTT
   all_goals first|exact⟨i+1,(by(refine covers_mk0 rfl rfl ?_ ?_ ?_ ?_<;>simp (disch:=(refine Om.mk ?_;omega)) only[go_sem]<;>(try omega));all_goals first|(rw[hs,List.map_append];rfl)|(rw[hs,List.map_append];exact⟨rfl,by omega⟩)|(simp[hs];done)|trace_state),by omega,by omega⟩|trace_state
  ·have hs:=fitsL_no (SF:=SH.map (formR rs SH)) (i:=i) (by rw[hgd];exact hf)
   rw[tst_false hf] at cF
   repeat' first|exact h.elim|(exfalso;omega)|refine sw_n ?_|refine sw_go 0 kp92 fun K hK=>?_|refine fun (K:KT) (hK:KOk S 0 _ _ _ K)=>?_|refine sw_goD kp92 (by kernel_rfl) fun K hK=>?_|refine runL_g ?_|refine runQ_g ?_|refine sw_retg0 ?_|refine sw_retg ?_|(refine hK.n0 ?_;clear hK K)|refine sw_condg rfl (fun h=>?_) fun h=>?_|refine sw_exit rfl ?_|refine sw_loopEnd ?_|refine hK.c1 rfl rfl rfl (cF) ?_|with_reducible refine and_o ?_|((with_reducible refine And.intro ?_ ?_);· first|(intro x hx;subst hx;rfl)|(intro x;refine And.intro ?_ ?_<;>(intros;subst_vars;rfl)))|apply tTT
   all_goals first|exact⟨i+1,(by(refine covers_mk0 rfl rfl ?_ ?_ ?_ ?_<;>simp (disch:=(refine Om.mk ?_;omega)) only[go_sem]<;>(try omega));all_goals first|(rw[hs];done)|(rw[hs];exact⟨rfl,by omega⟩)|(rw[hs];exact⟨by omega,rfl⟩)|(simp[hs];done)|trace_state),by omega,by omega⟩|trace_state
 ·obtain rfl:i=SH.length:=by omega
  repeat' first|exact h.elim|(exfalso;omega)|refine sw_n ?_|refine sw_go 0 kp92 fun K hK=>?_|refine fun (K:KT) (hK:KOk S 0 _ _ _ K)=>?_|refine sw_goD kp92 (by kernel_rfl) fun K hK=>?_|refine runL_g ?_|refine runQ_g ?_|refine sw_retg0 ?_|refine sw_retg ?_|(refine hK.n0 ?_;clear hK K)|refine sw_condg rfl (fun h=>?_) fun h=>?_|refine sw_exit rfl ?_|refine sw_loopEnd ?_|with_reducible refine and_o ?_|((with_reducible refine And.intro ?_ ?_);· first|(intro x hx;subst hx;rfl)|(intro x;refine And.intro ?_ ?_<;>(intros;subst_vars;rfl)))|apply tTT
def kp115:List (Nat×List Nat):=[(0,[1,2,3,4,5]),(1,[1,2,3,4,5,11]),(2,[1,2,3,4,5,11,15]),(4,[1,2,3,4,5,11,26]),(5,[10]),(3,[1,2,3,4,5,11]),(6,[10])]
attribute [go_sem] kp115 Tryz.results115 Tryz.ntmps115
theorem l24Shut_fc (rs:List Int) (SH ls:List (List Int)) (hO:ShpOk rs SH ls) (f:Nat) (sets:List (List Int)) (hl:sets.length=(arS rs (f:Int)).toNat):FC S 115 [] [] [] [.agg [.sl .any (rs.map (.int .i64))],.sl .any (SH.map IntsD),.sl .any (ls.map IntsD),.int .i64 f,.sl .any (sets.map IntsD)] (.bool (tst (∃x∈ls.map (formR rs SH),FitF x f sets))) [] []:=by
 have hn:=hO.n
 have hm:=hO.m
 have hex:(∃x∈ls.map (formR rs SH),FitF x f sets)↔∃i,i<ls.length∧FitF (formR rs SH (ls.getD i default)) f sets:=by
  constructor
  ·rintro⟨x,hx,h⟩
   obtain⟨t,ht,rfl⟩:=List.mem_map.1 hx
   obtain⟨i,hi,rfl⟩:=List.getElem_of_mem ht
   exact⟨i,hi,by rw[List.getD_eq_getElem?_getD,List.getElem?_eq_getElem hi];exact h⟩
  ·rintro⟨i,hi,h⟩
   exact⟨_,List.mem_map_of_mem (getD_mem ls i hi),h⟩
 rw[tst_congr hex]
 refine fcb Tryz.func115 fun B=>?_
 repeat' first|exact h.elim|refine sw_n ?_|refine sw_go 0 kp115 fun K hK=>?_|refine fun (K:KT) (hK:KOk S 0 _ _ _ K)=>?_|refine sw_goD kp115 (by kernel_rfl) fun K hK=>?_|refine runL_g ?_|refine runQ_g ?_|refine sw_retg0 ?_|refine sw_retg ?_|(refine hK.n0 ?_;clear hK K)|refine sw_condg rfl (fun h=>?_) fun h=>?_|refine sw_exit rfl ?_|refine sw_loopEnd ?_|with_reducible refine and_o ?_|apply tTT
 refine sw_loopT (ι:=Nat) (fun i=>[(11,.int .i64 i)]) (fun _=>[]) (fun _=>[]) (fun i=>i≤ls.length∧∀j<i,¬FitF (formR rs SH (ls.getD j default)) f sets) (fun i=>ls.length-i) 0 cvB ⟨Nat.zero_le _,fun j hj=>absurd hj (Nat.not_lt_zero _)⟩ (fun i hi=>?_)
 obtain⟨hi,hj⟩:=hi
 simp only[go_sem]
 by_cases hil:i<ls.length
 ·have hO1:=hO.lf _ (getD_mem ls i hil)
  have cF:=l24Fits_fc rs SH (ls.getD i default) f sets hO1.1 hO1.2 hn (fun e=>args_len hl e)
  by_cases hf:FitF (formR rs SH (ls.getD i default)) f sets
  ·rw[tst_true hf] at cF
   rw[tst_true ⟨i,hil,hf⟩]
   repeat' first|exact h.elim|(exfalso;omega)|refine sw_n ?_|refine sw_go 0 kp115 fun K hK=>?_|refine fun (K:KT) (hK:KOk S 0 _ _ _ K)=>?_|refine sw_goD kp115 (by kernel_rfl) fun K hK=>?_|refine runL_g ?_|refine runQ_g ?_|refine sw_retg0 ?_|refine sw_retg ?_|(refine hK.n0 ?_;clear hK K)|refine sw_condg rfl (fun h=>?_) fun h=>?_|refine sw_exit rfl ?_|refine sw_loopEnd ?_|refine hK.c1 rfl rfl rfl (cF) ?_|with_reducible refine and_o ?_|apply tTT
  ·rw[tst_false hf] at cF
   repeat' first|exact h.elim|(exfalso;omega)|refine sw_n ?_|refine sw_go 0 kp115 fun K hK=>?_|refine fun (K:KT) (hK:KOk S 0 _ _ _ K)=>?_|refine sw_goD kp115 (by kernel_rfl) fun K hK=>?_|refine runL_g ?_|refine runQ_g ?_|refine sw_retg0 ?_|refine sw_retg ?_|(refine hK.n0 ?_;clear hK K)|refine sw_condg rfl (fun h=>?_) fun h=>?_|refine sw_exit rfl ?_|refine sw_loopEnd ?_|refine hK.c1 rfl rfl rfl (cF) ?_|with_reducible refine and_o ?_|apply tTT
   exact⟨i+1,cvA,⟨by omega,upto_succ hj hf⟩,by omega⟩
 ·obtain rfl:i=ls.length:=by omega
  rw[tst_false (fun⟨j,hj1,hj2⟩=>hj j hj1 hj2)]
  repeat' first|exact h.elim|(exfalso;omega)|refine sw_n ?_|refine sw_go 0 kp115 fun K hK=>?_|refine fun (K:KT) (hK:KOk S 0 _ _ _ K)=>?_|refine sw_goD kp115 (by kernel_rfl) fun K hK=>?_|refine runL_g ?_|refine runQ_g ?_|refine sw_retg0 ?_|refine sw_retg ?_|(refine hK.n0 ?_;clear hK K)|refine sw_condg rfl (fun h=>?_) fun h=>?_|refine sw_exit rfl ?_|refine sw_loopEnd ?_|with_reducible refine and_o ?_|apply tTT
def evY (rs:List Int) (syms:List Nat) (n:Nat):List (Nat×List Int):=syms.flatMap (evF rs n)
theorem evY_cons (rs:List Int) {syms:List Nat} {n i:Nat} (h:i<syms.length):evY rs (syms.drop i) n=evF rs n (syms.getD i default)++evY rs (syms.drop (i+1)) n:=by
 unfold evY
 rw[List.drop_eq_getElem_cons h,List.flatMap_cons]
 simp[List.getD,h]
structure HldN (P:Prop):Prop where
 get:P
theorem mrgN {P Q:Prop} (f:HldN P→Q) (p:P):Q:=f ⟨p⟩
theorem capF_none {I:Nat→List (List Int)→Option (List Int)} {sets:List (List Int)} (f:Nat) (l:List Int) (E:List (Nat×List Int)) (out:List (List Int)) (h16:out.length≤16) (hI:I f (lstS sets l)=none):capF I sets ((f,l)::E) out=capF I sets E out:=by
 have h:capF I sets ((f,l)::E) out=if 16<(stepO I sets out (f,l)).length then (stepO I sets out (f,l),false) else capF I sets E (stepO I sets out (f,l)):=rfl
 have h2:stepO I sets out (f,l)=out:=by unfold stepO;rw[hI]
 rw[h2,if_neg (by omega)] at h
 exact h
theorem iterZ_step {I:Nat→List (List Int)→Option (List Int)} {E:Nat→List (Nat×List Int)} {k:Nat} {s:List (List Int)} {R:List (List Int)×Bool} (h:iterZ I E (k+1) s=R) {nx:List (List Int)} {ok:Bool} (hC:capF I s (E s.length) s=(nx,ok)):(ok=false→R=(s,false))∧(ok=true→nx.length=s.length→R=(s,true))∧(ok=true→nx.length≠s.length→iterZ I E k nx=R):=by
 unfold iterZ at h
 rw[hC] at h
 simp only at h
 refine⟨fun h1=>?_,fun h1 h2=>?_,fun h1 h2=>?_⟩
 ·rw[if_neg (by simp[h1])] at h;exact h.symm
 ·rw[if_pos h1,if_pos h2] at h;exact h.symm
 ·rw[if_pos h1,if_neg h2] at h;exact h
theorem imgH_no {rs:List Int} {SH ls:List (List Int)} {f:Nat} {args:List (List Int)} (h:∃x∈ls.map (formR rs SH),FitF x f args):imgH rs SH ls f args=none:=if_pos h
theorem imgH_yes {rs:List Int} {SH ls:List (List Int)} {f:Nat} {args:List (List Int)} (h:¬ ∃x∈ls.map (formR rs SH),FitF x f args):imgH rs SH ls f args=some (fitsL (SH.map (formR rs SH)) f args SH.length):=by
 unfold imgH imgN
 rw[if_neg h,List.length_map]
def kp89:List (Nat×List Nat):=[(0,[1,2,3,4]),(1,[1,2,3,4,10]),(2,[1,2,3,4,10,11]),(3,[1,2,3,4,10,11,12]),(4,[1,2,3,4,10,11,12,13]),(5,[1,2,3,4,10,11,12,13,28]),(7,[1,2,3,4,10,11,12,13,14]),(8,[1,2,3,4,10,11,12,13,14,44]),(9,[1,2,3,4,10,11,12,13,14,15]),(10,[1,2,3,4,10,11,12,13,14,15,16]),(11,[1,2,3,4,10,11,12,13,14,15,51]),(13,[1,2,3,4,10,11,12,13,14,15,17]),(14,[1,2,3,4,10,11,12,13,14,15,17,66]),(15,[1,2,3,4,10,11,12,13,14,15,18]),(16,[1,2,3,4,10,11,12,13,14,15,18,75]),(17,[1,2,3,4,10,11,12,13,14,15]),(18,[1,2,3,4,10,11,12,13,14,15,82]),(19,[8,9]),(12,[1,2,3,4,10,11,12,13,14,15,16]),(6,[1,2,3,4,10,11,12,13]),(20,[1,2,3,4,10,11,88]),(21,[8,9]),(22,[1,2,3,4,10])]
attribute [go_sem] kp89 Tryz.results89 Tryz.ntmps89
theorem l24Sets_fc (rs:List Int) (SH ls:List (List Int)) (hO:ShpOk rs SH ls) (syms:List Nat) (hsy:∀f∈syms,f<rs.length) (hsl:syms.length≤100):FC S 89 [] [] [] [.agg [.sl .any (rs.map (.int .i64))],.sl .any (SH.map IntsD),.sl .any (ls.map IntsD),.sl .any (syms.map natD)] (.tup [.sl .any ((iterZ (imgH rs SH ls) (evY rs syms) 18 []).1.map IntsD),.bool (iterZ (imgH rs SH ls) (evY rs syms) 18 []).2]) [] []:=by
 have hrl:=hO.sg.1.2
 generalize hR:iterZ (imgH rs SH ls) (evY rs syms) 18 []=R
 refine fcb Tryz.func89 fun B=>?_
 refine sw_bnd_aggg 0 0 fun hb0_0=>?_
 refine sw_bndg 3 fun hb3=>?_
 repeat' first|exact h.elim|refine sw_n ?_|refine sw_go 0 kp89 fun K hK=>?_|refine fun (K:KT) (hK:KOk S 0 _ _ _ K)=>?_|refine runL_g ?_|refine sw_retg0 ?_|refine sw_retg ?_|(refine hK.n0 ?_;clear hK K)|refine runG_fk (fun h=>?_) fun h=>?_|refine sw_condg rfl (fun h=>?_) fun h=>?_|refine hK.skp rfl rfl ?_|refine sw_exit rfl ?_|refine sw_loopEnd ?_|(refine hK.fork rfl rfl rfl ?_ ?_<;>intro h<;>try simp (disch:=(refine Om.mk ?_;omega)) only[go_sem] at h)|with_reducible refine and_o ?_|((with_reducible refine And.intro ?_ ?_);· first|(intro x hx;subst hx;rfl)|(intro x;refine And.intro ?_ ?_<;>(intros;subst_vars;rfl)))|apply tTT
 refine sw_loopT (ι:=Nat×List (List Int)) (fun x=>[(10,.sl .any (x.2.map IntsD))]) (fun _=>[]) (fun _=>[]) (fun x=>(x.2.length≤16∧18≤x.1+x.2.length)∧iterZ (imgH rs SH ls) (evY rs syms) x.1 x.2=R) (fun x=>x.1) (18,[]) cvB ⟨⟨by simp,by simp⟩,hR⟩ (fun x hx=>?_)
 obtain⟨k,sets⟩:=x
 obtain⟨⟨h16,hk⟩,hit⟩:=hx
 dsimp only at h16 hk hit
 simp only[go_sem]
 obtain⟨k,rfl⟩:∃k',k=k'+1:=⟨k-1,by omega⟩
 have hst:=fun nx ok=>iterZ_step hit (nx:=nx) (ok:=ok)
 have hl16:=capF_len (I:=imgH rs SH ls) (sets:=sets) (evY rs syms sets.length) sets h16
 obtain⟨rr,hpre⟩:=capF_pre (I:=imgH rs SH ls) (sets:=sets) (evY rs syms sets.length) sets
 generalize hans:capF (imgH rs SH ls) sets (evY rs syms sets.length) sets=ANS at *
 have hst:=hst ANS.1 ANS.2 rfl
 repeat' first|exact h.elim|(exfalso;omega)|refine sw_n ?_|refine sw_go 0 kp89 fun K hK=>?_|refine fun (K:KT) (hK:KOk S 0 _ _ _ K)=>?_|refine runL_g ?_|refine sw_retg0 ?_|refine sw_retg ?_|(refine hK.n0 ?_;clear hK K)|refine runG_fk (fun h=>?_) fun h=>?_|refine sw_condg rfl (fun h=>?_) fun h=>?_|refine hK.skp rfl rfl ?_|refine sw_exit rfl ?_|refine sw_loopEnd ?_|(refine hK.fork rfl rfl rfl ?_ ?_<;>intro h<;>try simp (disch:=(refine Om.mk ?_;omega)) only[go_sem] at h)|with_reducible refine and_o ?_|((with_reducible refine And.intro ?_ ?_);· first|(intro x hx;subst hx;rfl)|(intro x;refine And.intro ?_ ?_<;>(intros;subst_vars;rfl)))|apply tTT
 refine sw_loopT (ι:=Nat×List (List Int)) (fun p=>[(13,.int .i64 p.1),(11,.sl (.own 23000 22 1) (p.2.map IntsD))]) (fun _=>[]) (fun _=>[23000]) (fun p=>(p.1≤syms.length∧p.2.length≤16)∧capF (imgH rs SH ls) sets (evY rs (syms.drop p.1) sets.length) p.2=ANS) (fun p=>syms.length-p.1) (0,sets) cvB ⟨⟨by simp,h16⟩,hans⟩ (fun p hp=>?_)
 obtain⟨i,out⟩:=p
 obtain⟨⟨hi,ho⟩,hc⟩:=hp
 dsimp only at hi ho hc
 simp only[go_sem]
 by_cases hil:i<syms.length
 ·have hfs:=hsy _ (getD_mem syms i hil)
  obtain⟨har,hr0,hr3⟩:=ar_at hO.sg hfs
  rw[evY_cons rs hil] at hc
  have hnE:((syms.drop (i+1)).flatMap (evF rs sets.length))=evY rs (syms.drop (i+1)) sets.length:=rfl
  by_cases h0:sets.length=0∧0<rs.getD (syms.getD i default) default
  ·rw[show evF rs sets.length (syms.getD i default)=[] from if_pos h0,List.nil_append] at hc
   repeat' first|exact h.elim|(exfalso;omega)|refine sw_n ?_|refine sw_go 0 kp89 fun K hK=>?_|refine fun (K:KT) (hK:KOk S 0 _ _ _ K)=>?_|refine runL_g ?_|refine sw_retg0 ?_|refine sw_retg ?_|(refine hK.n0 ?_;clear hK K)|refine runG_fk (fun h=>?_) fun h=>?_|refine sw_condg rfl (fun h=>?_) fun h=>?_|refine hK.skp rfl rfl ?_|refine sw_exit rfl ?_|refine sw_loopEnd ?_|(refine hK.fork rfl rfl rfl ?_ ?_<;>intro h<;>try simp (disch:=(refine Om.mk ?_;omega)) only[go_sem] at h)|with_reducible refine and_o ?_|((with_reducible refine And.intro ?_ ?_);· first|(intro x hx;subst hx;rfl)|(intro x;refine And.intro ?_ ?_<;>(intros;subst_vars;rfl)))|apply tTT
   all_goals exact⟨(i+1,out),cvB,⟨⟨by dsimp only;omega,ho⟩,hc⟩,by dsimp only;omega⟩
  ·rw[show evF rs sets.length (syms.getD i default)=(digs sets.length (rs.getD (syms.getD i default) default).toNat).map (fun l=>(syms.getD i default,l)) from if_neg h0] at hc
   obtain⟨n,hn⟩:∃n:Nat,rs.getD (syms.getD i default) default=n:=⟨(rs.getD (syms.getD i default) default).toNat,by omega⟩
   have hnt:(rs.getD (syms.getD i default) default).toNat=n:=by omega
   rw[hnt] at hc har
   have hd0:0<sets.length∨n=0:=by omega
   obtain⟨hseq,A0,hA0⟩:=digs_ok hd0
   have hdig:=digs_dig hd0
   rw[hA0] at hseq hdig hc
   apply mrgN
   ·intro key
    repeat' first|exact h.elim|(exfalso;omega)|refine sw_n ?_|refine sw_go 0 kp89 fun K hK=>?_|refine fun (K:KT) (hK:KOk S 0 _ _ _ K)=>?_|refine runL_g ?_|refine sw_retg0 ?_|refine sw_retg ?_|(refine hK.n0 ?_;clear hK K)|refine runG_fk (fun h=>?_) fun h=>?_|refine sw_condg rfl (fun h=>?_) fun h=>?_|refine hK.skp rfl rfl ?_|refine sw_exit rfl ?_|refine sw_loopEnd ?_|(refine hK.fork rfl rfl rfl ?_ ?_<;>intro h<;>try simp (disch:=(refine Om.mk ?_;omega)) only[go_sem] at h)|with_reducible refine and_o ?_|((with_reducible refine And.intro ?_ ?_);· first|(intro x hx;subst hx;rfl)|(intro x;refine And.intro ?_ ?_<;>(intros;subst_vars;rfl)))|apply tTT
    all_goals exact key.get
   rw[hnt]
   refine sw_freeze 15 1 .any ((List.replicate n (0:Int)).map (.int .i64)) rfl rfl (by rw[flatten_one,flat_ints,List.map_replicate]) (by simp) (cells_one fun _=>rfl) (by rw[flatten_one,←List.map_replicate (f:=D.int .i64)];exact memOk_ints _) (.inl rfl) ?_
   simp only[go_sem]
   refine sw_loopT (ι:=(List Int×Bool)×List (List Int)×List (List Int)) (fun p=>[(15,.sl .any (p.1.1.map (.int .i64))),(16,.bool p.1.2),(11,.sl (.own 23000 22 1) (p.2.2.map IntsD))]) (fun _=>[]) (fun _=>[23000]) (fun p=>((p.1.1.length=n∧∀x∈p.1.1,0≤x∧x<sets.length)∧p.2.2.length≤16)∧(p.1.2=true→(SeqD (List.replicate n (0,(sets.length:Int)-1)) (p.1.1::p.2.1)∧∀l∈p.2.1,l.length=n∧∀x∈l,0≤x∧x<sets.length)∧capF (imgH rs SH ls) sets ((p.1.1::p.2.1).map (fun l=>(syms.getD i default,l))++evY rs (syms.drop (i+1)) sets.length) p.2.2=ANS)∧(p.1.2=false→capF (imgH rs SH ls) sets (evY rs (syms.drop (i+1)) sets.length) p.2.2=ANS)) (fun p=>if p.1.2=true then p.2.1.length+1 else 0) ((List.replicate n 0,true),A0,out) (by(refine covers_mk0 rfl rfl ?_ ?_ ?_ ?_<;>simp (disch:=(refine Om.mk ?_;omega)) only[go_sem]<;>(try omega));all_goals first|rfl|exact⟨rfl,rfl⟩|exact⟨rfl,rfl,rfl⟩) ⟨⟨hdig _ List.mem_cons_self,ho⟩,fun _=>⟨⟨hseq,fun l hl=>hdig l (List.mem_cons_of_mem _ hl)⟩,hc⟩,fun h=>by cases h⟩ (fun p hp=>?_)
   obtain⟨⟨l,mr⟩,A,out⟩:=p
   obtain⟨⟨⟨hl1,hl2⟩,ho⟩,hm1,hm2⟩:=hp
   dsimp only at hl1 hl2 ho hm1 hm2
   simp only[go_sem]
   have hbx:∀x∈l,0≤x∧x≤1000:=fun x hx=>by have:=hl2 x hx;omega
   have hget:∀j<l.length,0≤l.getD j default∧l.getD j default<sets.length:=fun j hj=>hl2 _ (getD_mem l j hj)
   cases mr with
   | false =>
    have hm2:=hm2 rfl
    repeat' first|exact h.elim|(exfalso;omega)|refine sw_n ?_|refine sw_go 0 kp89 fun K hK=>?_|refine fun (K:KT) (hK:KOk S 0 _ _ _ K)=>?_|refine runL_g ?_|refine sw_retg0 ?_|refine sw_retg ?_|(refine hK.n0 ?_;clear hK K)|refine runG_fk (fun h=>?_) fun h=>?_|refine sw_condg rfl (fun h=>?_) fun h=>?_|refine hK.skp rfl rfl ?_|refine sw_exit rfl ?_|refine sw_loopEnd ?_|(refine hK.fork rfl rfl rfl ?_ ?_<;>intro h<;>try simp (disch:=(refine Om.mk ?_;omega)) only[go_sem] at h)|with_reducible refine and_o ?_|((with_reducible refine And.intro ?_ ?_);· first|(intro x hx;subst hx;rfl)|(intro x;refine And.intro ?_ ?_<;>(intros;subst_vars;rfl)))|apply tTT
    exact⟨(i+1,out),cvB,⟨⟨by dsimp only;omega,ho⟩,hm2⟩,by dsimp only;omega⟩
   | true =>
    obtain⟨⟨hs,hA1⟩,hcc⟩:=hm1 rfl
    have hlen:=lst_len sets l
    have cL:=l23Listed_fc .any .any sets l (by omega) hget
    have cN:=nextList_fc .any l (sets.length:Int) (by omega) hbx
    have hnx:=loop_next hl1 hl2 hs
    have cH:=l24Shut_fc rs SH ls hO (syms.getD i default) (lstS sets l) (by rw[hlen,hl1,har])
    have cC:=l24Comes_fc rs SH ls hO (syms.getD i default) (lstS sets l) (by rw[hlen,hl1,har])
    rw[List.map_cons,List.cons_append] at hcc
    by_cases hsh:∃x∈ls.map (formR rs SH),FitF x ((syms.getD i default:Nat):Int) (lstS sets l)
    ·rw[tst_true hsh] at cH
     rw[capF_none _ _ _ _ ho (imgH_no hsh)] at hcc
     repeat' first|exact h.elim|(exfalso;omega)|refine sw_n ?_|refine sw_go 0 kp89 fun K hK=>?_|refine fun (K:KT) (hK:KOk S 0 _ _ _ K)=>?_|refine runL_g ?_|refine sw_retg0 ?_|refine sw_retg ?_|(refine hK.n0 ?_;clear hK K)|refine runG_fk (fun h=>?_) fun h=>?_|refine sw_condg rfl (fun h=>?_) fun h=>?_|refine hK.skp rfl rfl ?_|refine sw_exit rfl ?_|refine sw_loopEnd ?_|refine hK.c1 rfl rfl rfl (cL) ?_|refine hK.c1 rfl rfl rfl (cH) ?_|refine hK.c1 rfl rfl rfl (cC) ?_|refine hK.c1 rfl rfl rfl (cN) ?_|(refine hK.fork rfl rfl rfl ?_ ?_<;>intro h<;>try simp (disch:=(refine Om.mk ?_;omega)) only[go_sem] at h)|with_reducible refine and_o ?_|((with_reducible refine And.intro ?_ ?_);· first|(intro x hx;subst hx;rfl)|(intro x;refine And.intro ?_ ?_<;>(intros;subst_vars;rfl)))|apply tTT
     all_goals exact⟨((((nextL (sets.length:Int) l).1,(nextL (sets.length:Int) l).2)),A.tail,out),(by(refine covers_mk0 rfl rfl ?_ ?_ ?_ ?_<;>simp (disch:=(refine Om.mk ?_;omega)) only[go_sem]<;>(try omega));all_goals first|rfl|exact⟨rfl,rfl⟩|exact⟨rfl,rfl,rfl⟩),⟨⟨hnx.1,ho⟩,fun h=>⟨⟨(hnx.2.1 h).1,fun m hm=>hA1 m (List.mem_of_mem_tail hm)⟩,by have e:=(hnx.2.1 h).2;rw[e] at hcc;exact hcc⟩,fun h=>by have:=hnx.2.2 h;dsimp only;rw[this] at hcc;exact hcc⟩,nx_meas hnx⟩
    ·rw[tst_false hsh] at cH
     have hcap:=capF_cap (I:=imgH rs SH ls) (sets:=sets) (syms.getD i default) l (A.map (fun l=>(syms.getD i default,l))++evY rs (syms.drop (i+1)) sets.length) out _ (imgH_yes hsh)
     rw[hcc] at hcap
     have hfl:=fitsL_len (SH.map (formR rs SH)) ((syms.getD i default:Nat):Int) (lstS sets l) SH.length
     generalize hS:fitsL (SH.map (formR rs SH)) ((syms.getD i default:Nat):Int) (lstS sets l) SH.length=s at *
     have hpl:=placeI_ge s out
     have cP:=termPlace_fc (.own 23000 22 1) .any out s
     by_cases hm:s∈out
     ·have hp:=hpl.2.2 hm
      rw[show addQ out s=out from if_pos hm] at hcap
      have hcc:=hcap.2 (by omega)
      repeat' first|exact h.elim|(exfalso;omega)|refine sw_n ?_|refine sw_go 0 kp89 fun K hK=>?_|refine fun (K:KT) (hK:KOk S 0 _ _ _ K)=>?_|refine runL_g ?_|refine sw_retg0 ?_|refine sw_retg ?_|(refine hK.n0 ?_;clear hK K)|refine runG_fk (fun h=>?_) fun h=>?_|refine sw_condg rfl (fun h=>?_) fun h=>?_|refine hK.skp rfl rfl ?_|refine sw_exit rfl ?_|refine sw_loopEnd ?_|refine hK.c1 rfl rfl rfl (cL) ?_|refine hK.c1 rfl rfl rfl (cH) ?_|refine hK.c1 rfl rfl rfl (cC) ?_|refine hK.c1 rfl rfl rfl (cP) ?_|refine hK.c1 rfl rfl rfl (cN) ?_|(refine hK.fork rfl rfl rfl ?_ ?_<;>intro h<;>try simp (disch:=(refine Om.mk ?_;omega)) only[go_sem] at h)|with_reducible refine and_o ?_|((with_reducible refine And.intro ?_ ?_);· first|(intro x hx;subst hx;rfl)|(intro x;refine And.intro ?_ ?_<;>(intros;subst_vars;rfl)))|apply tTT
      all_goals exact⟨((((nextL (sets.length:Int) l).1,(nextL (sets.length:Int) l).2)),A.tail,out),(by(refine covers_mk0 rfl rfl ?_ ?_ ?_ ?_<;>simp (disch:=(refine Om.mk ?_;omega)) only[go_sem]<;>(try omega));all_goals first|rfl|exact⟨rfl,rfl⟩|exact⟨rfl,rfl,rfl⟩),⟨⟨hnx.1,ho⟩,fun h=>⟨⟨(hnx.2.1 h).1,fun m hm=>hA1 m (List.mem_of_mem_tail hm)⟩,by have e:=(hnx.2.1 h).2;rw[e] at hcc;exact hcc.symm⟩,fun h=>by have:=hnx.2.2 h;dsimp only;rw[this] at hcc;exact hcc.symm⟩,nx_meas hnx⟩
     ·have hp:¬0≤placeI s out:=fun h=>hm (hpl.2.1 h)
      rw[show addQ out s=out++[s] from if_neg hm] at hcap
      simp only[List.length_append,List.length_singleton] at hcap
      by_cases h17:16<out.length+1
      ·obtain rfl:=hcap.1 h17
       have hst:=hst.1 rfl
       subst hst
       repeat' first|exact h.elim|(exfalso;omega)|(exfalso;simp only[lens] at *;omega)|(refine sw_renC 80000 23000 rfl rfl ?_;simp only[go_sem])|refine sw_n ?_|refine sw_go 0 kp89 fun K hK=>?_|refine fun (K:KT) (hK:KOk S 0 _ _ _ K)=>?_|refine runL_g ?_|refine sw_retg0 ?_|refine sw_retg ?_|(refine hK.n0 ?_;clear hK K)|refine runG_fk (fun h=>?_) fun h=>?_|refine sw_condg rfl (fun h=>?_) fun h=>?_|refine hK.skp rfl rfl ?_|refine sw_exit rfl ?_|refine sw_loopEnd ?_|refine hK.c1 rfl rfl rfl (cL) ?_|refine hK.c1 rfl rfl rfl (cH) ?_|refine hK.c1 rfl rfl rfl (cC) ?_|refine hK.c1 rfl rfl rfl (cP) ?_|refine hK.c1 rfl rfl rfl (cN) ?_|(refine hK.fork rfl rfl rfl ?_ ?_<;>intro h<;>try simp (disch:=(refine Om.mk ?_;omega)) only[go_sem] at h)|with_reducible refine and_o ?_|((with_reducible refine And.intro ?_ ?_);· first|(intro x hx;subst hx;rfl)|(intro x;refine And.intro ?_ ?_<;>(intros;subst_vars;rfl)))|apply tTT
       all_goals first|(exfalso;simp only[lens] at *;omega)|exact⟨by simp,rfl⟩|rfl|trace_state
      ·have hcc:=hcap.2 h17
       repeat' first|exact h.elim|(exfalso;omega)|(exfalso;simp only[lens] at *;omega)|(refine sw_renC 80000 23000 rfl rfl ?_;simp only[go_sem])|refine sw_n ?_|refine sw_go 0 kp89 fun K hK=>?_|refine fun (K:KT) (hK:KOk S 0 _ _ _ K)=>?_|refine runL_g ?_|refine sw_retg0 ?_|refine sw_retg ?_|(refine hK.n0 ?_;clear hK K)|refine runG_fk (fun h=>?_) fun h=>?_|refine sw_condg rfl (fun h=>?_) fun h=>?_|refine hK.skp rfl rfl ?_|refine sw_exit rfl ?_|refine sw_loopEnd ?_|refine hK.c1 rfl rfl rfl (cL) ?_|refine hK.c1 rfl rfl rfl (cH) ?_|refine hK.c1 rfl rfl rfl (cC) ?_|refine hK.c1 rfl rfl rfl (cP) ?_|refine hK.c1 rfl rfl rfl (cN) ?_|(refine hK.fork rfl rfl rfl ?_ ?_<;>intro h<;>try simp (disch:=(refine Om.mk ?_;omega)) only[go_sem] at h)|with_reducible refine and_o ?_|((with_reducible refine And.intro ?_ ?_);· first|(intro x hx;subst hx;rfl)|(intro x;refine And.intro ?_ ?_<;>(intros;subst_vars;rfl)))|apply tTT
       all_goals try (exfalso;simp only[lens] at *;omega)
       all_goals exact⟨((((nextL (sets.length:Int) l).1,(nextL (sets.length:Int) l).2)),A.tail,out++[s]),(by(refine covers_mk0 rfl rfl ?_ ?_ ?_ ?_<;>simp (disch:=(refine Om.mk ?_;omega)) only[go_sem]<;>(try omega));all_goals first|(rw[List.map_append];rfl)|(rw[List.map_append];exact⟨rfl,rfl⟩)|(rw[List.map_append];exact⟨rfl,rfl,rfl⟩)|trace_state),⟨⟨hnx.1,by first|omega|(simp only[lens];omega)⟩,fun h=>⟨⟨(hnx.2.1 h).1,fun m hm=>hA1 m (List.mem_of_mem_tail hm)⟩,by have e:=(hnx.2.1 h).2;rw[e] at hcc;exact hcc.symm⟩,fun h=>by have:=hnx.2.2 h;dsimp only;rw[this] at hcc;exact hcc.symm⟩,nx_meas hnx⟩
 ·obtain rfl:i=syms.length:=by omega
  have e0:evY rs (syms.drop syms.length) sets.length=[]:=by rw[List.drop_length];rfl
  rw[e0] at hc
  obtain rfl:ANS=(out,true):=hc.symm
  have hst:=hst.2
  by_cases he:out.length=sets.length
  ·have hR:=hst.1 rfl he
   subst hR
   repeat' first|exact h.elim|(exfalso;simp only[lens] at *;omega)|refine sw_n ?_|refine sw_go 0 kp89 fun K hK=>?_|refine fun (K:KT) (hK:KOk S 0 _ _ _ K)=>?_|refine runL_g ?_|refine sw_retg0 ?_|refine sw_retg ?_|(refine hK.n0 ?_;clear hK K)|refine runG_fk (fun h=>?_) fun h=>?_|refine sw_condg rfl (fun h=>?_) fun h=>?_|refine hK.skp rfl rfl ?_|refine sw_exit rfl ?_|refine sw_loopEnd ?_|(refine hK.fork rfl rfl rfl ?_ ?_<;>intro h<;>try simp (disch:=(refine Om.mk ?_;omega)) only[go_sem] at h)|with_reducible refine and_o ?_|((with_reducible refine And.intro ?_ ?_);· first|(intro x hx;subst hx;rfl)|(intro x;refine And.intro ?_ ?_<;>(intros;subst_vars;rfl)))|apply tTT
  ·have hR:=hst.2 rfl he
   have hlt:sets.length<out.length:=by
    have h1:=congrArg List.length hpre
    rw[List.length_append] at h1
    dsimp only at h1
    omega
   repeat' first|exact h.elim|(exfalso;simp only[lens] at *;omega)|refine sw_n ?_|refine sw_go 0 kp89 fun K hK=>?_|refine fun (K:KT) (hK:KOk S 0 _ _ _ K)=>?_|refine runL_g ?_|refine sw_retg0 ?_|refine sw_retg ?_|(refine hK.n0 ?_;clear hK K)|refine runG_fk (fun h=>?_) fun h=>?_|refine sw_condg rfl (fun h=>?_) fun h=>?_|refine hK.skp rfl rfl ?_|refine sw_exit rfl ?_|refine sw_loopEnd ?_|(refine hK.fork rfl rfl rfl ?_ ?_<;>intro h<;>try simp (disch:=(refine Om.mk ?_;omega)) only[go_sem] at h)|with_reducible refine and_o ?_|((with_reducible refine And.intro ?_ ?_);· first|(intro x hx;subst hx;rfl)|(intro x;refine And.intro ?_ ?_<;>(intros;subst_vars;rfl)))|apply tTT
   all_goals exact⟨(k,out),(by(refine covers_mk0 rfl rfl ?_ ?_ ?_ ?_<;>simp (disch:=(refine Om.mk ?_;omega)) only[go_sem]<;>(try omega));all_goals first|rfl|exact⟨rfl,rfl⟩|(simp;done)|trace_state),⟨⟨ho,by dsimp only;omega⟩,hR⟩,Nat.lt_succ_self k⟩
theorem place_idx {s:List Int} {xs:List (List Int)} (h:s∈xs):placeI s xs=(xs.idxOf s:Nat):=by
 have h1:xs.idxOf s<xs.length:=List.idxOf_lt_length_iff.2 h
 have h2:xs[xs.idxOf s]=s:=List.getElem_idxOf h1
 have hg:xs.getD (xs.idxOf s) default=s:=by rw[List.getD_eq_getElem?_getD,List.getElem?_eq_getElem h1];exact h2
 refine placeI_at (fun j hj e=>?_) h1 hg
 have:=List.not_of_lt_findIdx (p:=(·==s)) (xs:=xs) (i:=j) hj
 rw[List.getD_eq_getElem?_getD,List.getElem?_eq_getElem (by omega)] at e
 simp at this e
 exact this e
attribute [go_sem] Tryz.results62 Tryz.ntmps62
attribute [go_sem] Tryz.results64 Tryz.ntmps64
attribute [go_sem] Tryz.results25 Tryz.ntmps25
end Go.Proofs.YtkfkdgginfpdnaaGreatDoor
end
section
namespace Go.Proofs.YtkfkdgginfpdnaaGreatDoor
open Go Go.Lg
set_option linter.unusedSimpArgs false
set_option linter.unusedVariables false
set_option maxHeartbeats 4000000
end Go.Proofs.YtkfkdgginfpdnaaGreatDoor
end
section
namespace Go.Proofs.YtkfkdgginfpdnaaGreatDoor
open Go Go.Lg
set_option linter.unusedSimpArgs false
set_option linter.unusedVariables false
set_option maxHeartbeats 4000000
attribute [local irreducible] SW runL runQ runG runQG FC Ret1 RetN toF redoL
attribute [go_sem] Tryz.results78 Tryz.ntmps78
end Go.Proofs.YtkfkdgginfpdnaaGreatDoor
end
section
namespace Go.Proofs.YtkfkdgginfpdnaaGreatDoor
open Go Go.Lg
set_option linter.unusedSimpArgs false
set_option linter.unusedVariables false
set_option maxHeartbeats 4000000
section
variable {I:Nat→List (List Int)→Option (List Int)} {sets:List (List Int)}
end
end Go.Proofs.YtkfkdgginfpdnaaGreatDoor
end
section
namespace Go.Proofs.YtkfkdgginfpdnaaGreatDoor
open Go Go.Lg
set_option linter.unusedSimpArgs false
set_option linter.unusedVariables false
set_option maxHeartbeats 4000000
theorem dec_small {u:Nat} (h:u<10):Lib.decDigits u=[UInt8.ofNat (48+u)]:=by rw[Lib.decDigits,dif_pos h]
theorem dec_big {u:Nat} (h:¬u<10):Lib.decDigits u=Lib.decDigits (u / 10)++[UInt8.ofNat (48+u%10)]:=by rw[Lib.decDigits,dif_neg h]
theorem dec_ne (u:Nat):Lib.decDigits u≠[]:=by
 by_cases h:u<10
 ·rw[dec_small h];simp
 ·rw[dec_big h];simp
theorem dig_inj {a b:Nat} (ha:a<10) (hb:b<10) (h:UInt8.ofNat (48+a)=UInt8.ofNat (48+b)):a=b:=by
 have h:=congrArg UInt8.toNat h
 simp only[UInt8.toNat_ofNat'] at h
 omega
theorem dec_no44:∀(n u:Nat),u≤n→∀c∈Lib.decDigits u,c≠44
 | n,u,hu,c,hc=>by
  have key:∀d:Nat,d<10→UInt8.ofNat (48+d)≠44:=fun d hd h=>by
   have h:=congrArg UInt8.toNat h
   simp only[UInt8.toNat_ofNat'] at h
   have:(44:UInt8).toNat=44:=rfl
   omega
  by_cases h:u<10
  ·rw[dec_small h] at hc
   rw[List.mem_singleton.1 hc]
   exact key u h
  ·rw[dec_big h] at hc
   cases n with
   | zero=>omega
   | succ n =>
    rcases List.mem_append.1 hc with hc|hc
    ·exact dec_no44 n (u / 10) (by omega) c hc
    ·rw[List.mem_singleton.1 hc]
     exact key _ (Nat.mod_lt _ (by decide))
theorem dec_inj:∀(n u v:Nat),u≤n→Lib.decDigits u=Lib.decDigits v→u=v
 | n,u,v,hu,h=>by
  have hlast:∀ {a b:List UInt8} {x y:UInt8},a++[x]=b++[y]→a=b∧x=y:=fun {a b x y} h=>by
   have:=List.append_inj' h rfl
   exact⟨this.1,by simpa using this.2⟩
  by_cases h1:u<10<;>by_cases h2:v<10
  ·rw[dec_small h1,dec_small h2] at h
   exact dig_inj h1 h2 (by simpa using h)
  ·rw[dec_small h1,dec_big h2,←List.nil_append [UInt8.ofNat (48+u)]] at h
   exact absurd (hlast h).1.symm (dec_ne _)
  ·rw[dec_big h1,dec_small h2,←List.nil_append [UInt8.ofNat (48+v)]] at h
   exact absurd (hlast h).1 (dec_ne _)
  ·rw[dec_big h1,dec_big h2] at h
   obtain⟨q1,q2⟩:=hlast h
   have e2:=dig_inj (Nat.mod_lt _ (by decide)) (Nat.mod_lt _ (by decide)) q2
   cases n with
   | zero=>omega
   | succ n =>
    have e1:=dec_inj n (u / 10) (v / 10) (by omega) q1
    omega
theorem cut44:∀ {a b r s:List UInt8},(∀c∈a,c≠44)→(∀c∈b,c≠44)→(∀c t,r=c::t→c=44)→(∀c t,s=c::t→c=44)→a++r=b++s→a=b∧r=s
 | [],[],r,s,_,_,_,_,h=>⟨rfl,h⟩
 | [],y::b,r,s,_,hb,hr,_,h=>by
  rw[List.nil_append] at h
  exact absurd (hr y (b++s) h) (hb y List.mem_cons_self)
 | x::a,[],r,s,ha,_,_,hs,h=>by
  rw[List.nil_append] at h
  exact absurd (hs x (a++r) h.symm) (ha x List.mem_cons_self)
 | x::a,y::b,r,s,ha,hb,hr,hs,h=>by
  simp only[List.cons_append,List.cons.injEq] at h
  obtain⟨e1,e2⟩:=cut44 (fun c hc=>ha c (List.mem_cons_of_mem _ hc)) (fun c hc=>hb c (List.mem_cons_of_mem _ hc)) hr hs h.2
  exact⟨by rw[h.1,e1],e2⟩
theorem tail44 (r:List (List UInt8)):∀c t,Lib.joinTail [44] r=c::t→c=44:=fun c t h=>by
 cases r with
 | nil=>cases h
 | cons x r =>
  simp only[Lib.joinTail,List.map_cons,List.flatten_cons,List.cons_append,List.nil_append,List.cons.injEq] at h
  exact h.1.symm
theorem tail_inj:∀ {r s:List (List UInt8)},(∀x∈r,∀c∈x,c≠44)→(∀x∈s,∀c∈x,c≠44)→Lib.joinTail [44] r=Lib.joinTail [44] s→r=s
 | [],[],_,_,_=>rfl
 | [],y::s,_,_,h=>by simp[Lib.joinTail] at h
 | x::r,[],_,_,h=>by simp[Lib.joinTail] at h
 | x::r,y::s,hr,hs,h=>by
  have e:∀(z:List UInt8) (q:List (List UInt8)),Lib.joinTail [44] (z::q)=44::(z++Lib.joinTail [44] q):=fun z q=>by simp[Lib.joinTail]
  rw[e,e,List.cons.injEq] at h
  obtain⟨e1,e2⟩:=cut44 (hr x List.mem_cons_self) (hs y List.mem_cons_self) (tail44 r) (tail44 s) h.2
  rw[e1,tail_inj (fun z hz=>hr z (List.mem_cons_of_mem _ hz)) (fun z hz=>hs z (List.mem_cons_of_mem _ hz)) e2]
theorem join_inj {r s:List (List UInt8)} (hr:∀x∈r,x≠[]∧∀c∈x,c≠44) (hs:∀x∈s,x≠[]∧∀c∈x,c≠44) (h:Lib.join r [44]=Lib.join s [44]):r=s:=by
 cases r with
 | nil =>
  cases s with
  | nil=>rfl
  | cons y s =>
   rw[Lib.join_nil,Lib.join_cons] at h
   exact absurd (List.append_eq_nil_iff.1 h.symm).1 (hs y List.mem_cons_self).1
 | cons x r =>
  cases s with
  | nil =>
   rw[Lib.join_nil,Lib.join_cons] at h
   exact absurd (List.append_eq_nil_iff.1 h).1 (hr x List.mem_cons_self).1
  | cons y s =>
   rw[Lib.join_cons,Lib.join_cons] at h
   obtain⟨e1,e2⟩:=cut44 (hr x List.mem_cons_self).2 (hs y List.mem_cons_self).2 (tail44 r) (tail44 s) h
   rw[e1,tail_inj (fun z hz=>(hr z (List.mem_cons_of_mem _ hz)).2) (fun z hz=>(hs z (List.mem_cons_of_mem _ hz)).2) e2]
def numB (n:Int):ByteArray:=⟨(Lib.itoa n).toArray⟩
def txtB (xs:List Int):ByteArray:=⟨(Lib.join ((xs.map numB).map (·.data.toList)) [44]).toArray⟩
theorem txt_inj {xs ys:List Int} (hx:∀x∈xs,0≤x) (hy:∀x∈ys,0≤x) (h:txtB xs=txtB ys):xs=ys:=by
 have h1:∀zs:List Int,(∀z∈zs,0≤z)→(zs.map numB).map (·.data.toList)=zs.map fun z=>Lib.decDigits z.toNat:=fun zs hz=>by
  rw[List.map_map]
  refine List.map_congr_left fun z hm=>?_
  have:=hz z hm
  simp only[Function.comp,numB,Lib.itoa]
  rw[if_neg (by omega)]
 have h2:∀zs:List Int,∀x∈zs.map (fun z=>Lib.decDigits z.toNat),x≠[]∧∀c∈x,c≠44:=fun zs x hm=>by
  obtain⟨z,_,rfl⟩:=List.mem_map.1 hm
  exact⟨dec_ne _,dec_no44 _ _ (Nat.le_refl _)⟩
 have h:=congrArg (fun b:ByteArray=>b.data.toList) h
 simp only[txtB] at h
 rw[h1 xs hx,h1 ys hy] at h
 have e:=join_inj (h2 xs) (h2 ys) (by simpa using h)
 have key:∀ {us bs:List Int},(∀z∈us,0≤z)→(∀z∈bs,0≤z)→us.map (fun z=>Lib.decDigits z.toNat)=bs.map (fun z=>Lib.decDigits z.toNat)→us=bs:=fun {us}=>by
  induction us with
  | nil=>intro bs _ _ h;exact(List.map_eq_nil_iff.1 h.symm).symm
  | cons a us ih =>
   intro bs ha hb h
   cases bs with
   | nil=>cases h
   | cons b bs =>
    simp only[List.map_cons,List.cons.injEq] at h
    have e1:=dec_inj _ _ _ (Nat.le_refl _) h.1
    have h3:=ha a List.mem_cons_self
    have h4:=hb b List.mem_cons_self
    rw[show a=b by omega,ih (fun z hz=>ha z (List.mem_cons_of_mem _ hz)) (fun z hz=>hb z (List.mem_cons_of_mem _ hz)) h.2]
 exact key hx hy e
end Go.Proofs.YtkfkdgginfpdnaaGreatDoor
end
section
namespace Go.Proofs
open Go.Shelf
def Tryz.lays156_ren:Go.Shelf.Ren:=⟨fun|156=>194|165=>197|166=>198|169=>199|240=>201|241=>202|276=>207|277=>208|n=>n,fun|31=>228|9=>9|3=>3|4=>4|0=>0|20=>20|72=>238|76=>242|70=>235|37=>236|75=>241|127=>245|164=>251|5=>5|80=>244|n=>n,fun|n=>n⟩
theorem Tryz.lays156:Go.Proofs.Lays.n156 Tryz.prog Tryz.lays156_ren:={
 mixed:=by kernel_rfl
 f156:=Tryz.func194.trans (congrArg some (by kernel_rfl))
 f165:=Tryz.func197.trans (congrArg some (by kernel_rfl))
 f166:=Tryz.func198.trans (congrArg some (by kernel_rfl))
 f169:=Tryz.func199.trans (congrArg some (by kernel_rfl))
 f240:=Tryz.func201.trans (congrArg some (by kernel_rfl))
 f241:=Tryz.func202.trans (congrArg some (by kernel_rfl))
 f276:=Tryz.func207.trans (congrArg some (by kernel_rfl))
 f277:=Tryz.func208.trans (congrArg some (by kernel_rfl))
 t0:=Tryz.underlying0
 a0:=Tryz.isAgg0
 z0:=Tryz.sizeOf0
 v0:=Tryz.zeroValue0
 t3:=Tryz.underlying3
 a3:=Tryz.isAgg3
 z3:=Tryz.sizeOf3
 v3:=Tryz.zeroValue3
 t4:=Tryz.underlying4
 a4:=Tryz.isAgg4
 z4:=Tryz.sizeOf4
 v4:=Tryz.zeroValue4
 t9:=Tryz.underlying9
 a9:=Tryz.isAgg9
 z9:=Tryz.sizeOf9
 v9:=Tryz.zeroValue9
 t20:=Tryz.underlying20
 a20:=Tryz.isAgg20
 z20:=Tryz.sizeOf20
 v20:=Tryz.zeroValue20
 t31:=Tryz.underlying228
 a31:=Tryz.isAgg228
 z31:=Tryz.sizeOf228
 v31:=Tryz.zeroValue228
 t37:=Tryz.underlying236
 a37:=Tryz.isAgg236
 z37:=Tryz.sizeOf236
 v37:=Tryz.zeroValue236
 t70:=Tryz.underlying235
 a70:=Tryz.isAgg235
 z70:=Tryz.sizeOf235
 v70:=Tryz.zeroValue235
 t72:=Tryz.underlying238
 a72:=Tryz.isAgg238
 z72:=Tryz.sizeOf238
 v72:=Tryz.zeroValue238
 t75:=Tryz.underlying241
 a75:=Tryz.isAgg241
 z75:=Tryz.sizeOf241
 v75:=Tryz.zeroValue241
 t76:=Tryz.underlying242
 a76:=Tryz.isAgg242
 z76:=Tryz.sizeOf242
 v76:=Tryz.zeroValue242
 t127:=Tryz.underlying245
 a127:=Tryz.isAgg245
 z127:=Tryz.sizeOf245
 v127:=Tryz.zeroValue245
 t164:=Tryz.underlying251
 a164:=Tryz.isAgg251
 z164:=Tryz.sizeOf251
 v164:=Tryz.zeroValue251}
theorem Tryz.Builder_Extra_156:Builder.Extra Tryz.prog Tryz.lays156_ren:={
 sizeBuilder:=by kernel_rfl
 liesBuilder:=by kernel_rfl
 t5:=Tryz.underlying5
 a5:=Tryz.isAgg5
 z5:=Tryz.sizeOf5
 v5:=Tryz.zeroValue5
 infoByte:=by kernel_rfl
 cellsByte:=by kernel_rfl
 sizeByte:=by kernel_rfl
 neB5:=by decide}
open Go.RowKit in
theorem Tryz.strings_Join_none (a:Option Addr) (c:Nat) (sep:ByteArray) (w:World) :
  Calls Tryz.prog 194 #[.slice a 0 c,.string sep] w fun e w'=>e=.returned (.string ⟨#[]⟩)∧w'=w:=Any.strings_Join_none Tryz.lays156 Tryz.Builder_Extra_156 a c sep w
open Go.RowKit in
theorem Tryz.strings_Join (bk o c:Nat) (xs:List ByteArray) (sep:ByteArray) (w:World) (hcells:∀(j:Nat) x,xs[j]?=some x→w.cell? ⟨bk,o+j,none⟩=some (.string x)) (hbk:bk<w.heap.size) (hN:xs.length≤140737488355328) (hcap:xs.length≤c) (hlen:(Lib.join (xs.map (·.data.toList)) sep.data.toList).length≤140737488355328) :
  Calls Tryz.prog 194 #[.slice (some ⟨bk,o,none⟩) xs.length c,.string sep] w fun e w'=>e=.returned (.string ⟨(Lib.join (xs.map (·.data.toList)) sep.data.toList).toArray⟩)∧Below w.heap.size w w':=Any.strings_Join Tryz.lays156 Tryz.Builder_Extra_156 bk o c xs sep w hcells hbk hN hcap hlen
def Tryz.laysM173_ren:Go.Shelf.Ren:=⟨fun|173=>196|246=>200|283=>203|284=>204|285=>205|286=>206|129=>182|317=>209|318=>210|319=>211|320=>212|337=>213|338=>214|n=>n,fun|2=>2|3=>3|9=>9|4=>4|171=>247|0=>0|53=>215|37=>236|5=>5|173=>249|212=>256|51=>75|20=>20|213=>257|46=>171|232=>259|233=>260|n=>n,fun|17=>0|18=>2|19=>3|n=>n⟩
theorem Tryz.laysM173:Go.Proofs.LaysM.n173 Tryz.prog Tryz.laysM173_ren:={
 mixed:=by kernel_rfl
 f129:=Tryz.func182.trans (congrArg some (by kernel_rfl))
 f173:=Tryz.func196.trans (congrArg some (by kernel_rfl))
 f246:=Tryz.func200.trans (congrArg some (by kernel_rfl))
 f283:=Tryz.func203.trans (congrArg some (by kernel_rfl))
 f284:=Tryz.func204.trans (congrArg some (by kernel_rfl))
 f285:=Tryz.func205.trans (congrArg some (by kernel_rfl))
 f286:=Tryz.func206.trans (congrArg some (by kernel_rfl))
 f317:=Tryz.func209.trans (congrArg some (by kernel_rfl))
 f318:=Tryz.func210.trans (congrArg some (by kernel_rfl))
 f319:=Tryz.func211.trans (congrArg some (by kernel_rfl))
 f320:=Tryz.func212.trans (congrArg some (by kernel_rfl))
 f337:=Tryz.func213.trans (congrArg some (by kernel_rfl))
 f338:=Tryz.func214.trans (congrArg some (by kernel_rfl))
 t0:=Tryz.underlying0
 a0:=Tryz.isAgg0
 z0:=Tryz.sizeOf0
 v0:=Tryz.zeroValue0
 t2:=Tryz.underlying2
 a2:=Tryz.isAgg2
 z2:=Tryz.sizeOf2
 v2:=Tryz.zeroValue2
 t3:=Tryz.underlying3
 a3:=Tryz.isAgg3
 z3:=Tryz.sizeOf3
 v3:=Tryz.zeroValue3
 t4:=Tryz.underlying4
 a4:=Tryz.isAgg4
 z4:=Tryz.sizeOf4
 v4:=Tryz.zeroValue4
 t5:=Tryz.underlying5
 a5:=Tryz.isAgg5
 z5:=Tryz.sizeOf5
 v5:=Tryz.zeroValue5
 t9:=Tryz.underlying9
 a9:=Tryz.isAgg9
 z9:=Tryz.sizeOf9
 v9:=Tryz.zeroValue9
 t20:=Tryz.underlying20
 a20:=Tryz.isAgg20
 z20:=Tryz.sizeOf20
 v20:=Tryz.zeroValue20
 t37:=Tryz.underlying236
 a37:=Tryz.isAgg236
 z37:=Tryz.sizeOf236
 v37:=Tryz.zeroValue236
 t46:=Tryz.underlying171
 a46:=Tryz.isAgg171
 z46:=Tryz.sizeOf171
 v46:=Tryz.zeroValue171
 t51:=Tryz.underlying75
 a51:=Tryz.isAgg75
 z51:=Tryz.sizeOf75
 v51:=Tryz.zeroValue75
 t53:=Tryz.underlying215
 a53:=Tryz.isAgg215
 z53:=Tryz.sizeOf215
 v53:=Tryz.zeroValue215
 t171:=Tryz.underlying247
 a171:=Tryz.isAgg247
 z171:=Tryz.sizeOf247
 v171:=Tryz.zeroValue247
 t173:=Tryz.underlying249
 a173:=Tryz.isAgg249
 z173:=Tryz.sizeOf249
 v173:=Tryz.zeroValue249
 t212:=Tryz.underlying256
 a212:=Tryz.isAgg256
 z212:=Tryz.sizeOf256
 v212:=Tryz.zeroValue256
 t213:=Tryz.underlying257
 a213:=Tryz.isAgg257
 z213:=Tryz.sizeOf257
 t232:=Tryz.underlying259
 a232:=Tryz.isAgg259
 z232:=Tryz.sizeOf259
 v232:=Tryz.zeroValue259
 t233:=Tryz.underlying260
 a233:=Tryz.isAgg260
 z233:=Tryz.sizeOf260
 v233:=Tryz.zeroValue260
 g17:=by kernel_rfl
 g18:=by kernel_rfl
 g19:=by kernel_rfl
 i0:=by kernel_rfl
 i2:=by kernel_rfl
 i3:=by kernel_rfl
 i4:=by kernel_rfl
 i5:=by kernel_rfl
 i9:=by kernel_rfl
 i20:=by kernel_rfl
 i37:=by kernel_rfl
 i46:=by kernel_rfl
 i51:=by kernel_rfl
 i53:=by kernel_rfl
 i171:=by kernel_rfl
 i173:=by kernel_rfl
 i212:=by kernel_rfl
 i232:=by kernel_rfl
 i233:=by kernel_rfl
 m17:=by kernel_rfl
 m18:=by kernel_rfl
 m19:=by kernel_rfl}
open Go.RowKit Go.Sort Go.Lib in
theorem Tryz.strconv_FormatInt_10 (n:Int) (h0:-9223372036854775808≤n) (h1:n≤9223372036854775807) (w:World) (htab:Lib.TabIs Tryz.prog w "internal/strconv.uint64pow10" .u64 Lib.pow10Tab) :
  Calls Tryz.prog 196 #[.int .i64 n,.int .i64 10] w fun e w'=>e=.returned (.string ⟨(Lib.itoa n).toArray⟩)∧∃k os,w'=grow (w.drewN k) os:=Any.strconv_FormatInt_10 Tryz.laysM173 n h0 h1 w htab
end Go.Proofs
end
section
namespace Go.Proofs.YtkfkdgginfpdnaaGreatDoor
open Go Go.Lg Go.RowKit
set_option linter.unusedSimpArgs false
set_option linter.unusedVariables false
set_option maxHeartbeats 4000000
attribute [local irreducible] SW runL runQ runG runQG FC Ret1 RetN toF redoL anyB
def TabW (w:World):Prop:=Lib.TabIs S.P w "internal/strconv.uint64pow10" .u64 Lib.pow10Tab
theorem below_grow (w:World) (k:Nat) (os:Array Obj):Below w.heap.size w (Go.Sort.grow (w.drewN k) os):=⟨rfl,rfl,rfl,by simp[Go.Sort.grow,World.drewN],fun b hb=>by
 show (w.heap++os)[b]?=w.heap[b]?
 rw[Array.getElem?_append_left hb]⟩
theorem flat_str:∀xs:List ByteArray,flat (xs.map D.str)=xs.map D.str
 | []=>rfl
 | a::r=>by show D.str a::flat (r.map D.str)=_;rw[flat_str r];rfl
theorem formatInt_fc (n:Int) (h0:-9223372036854775808≤n) (h1:n≤9223372036854775807):FCw S TabW 196 [] [] [] [.int .i64 n,.int .i64 10] (.str (numB n)) [] []:=by
 refine fcw_lib (v0:=.string (numB n)) ⟨_,Tryz.func196,by kernel_rfl,rfl⟩ (fun G w=>.str) fun G w vals hT hsz hr=>?_
 obtain⟨x,y,rfl⟩:∃x y,vals=#[x,y]:=by
  match vals,hsz with
  | ⟨[x,y]⟩,_=>exact⟨x,y,rfl⟩
 have hx:=hr 0 _ x rfl rfl
 have hy:=hr 1 _ y rfl rfl
 cases hx;cases hy
 refine(Tryz.strconv_FormatInt_10 n h0 h1 w hT).mono ?_
 rintro e w' ⟨rfl,k,os,rfl⟩
 exact⟨rfl,below_grow w k os⟩
theorem join_fc (tk:Tk) (xs:List ByteArray) (sep:ByteArray) (hN:xs.length≤1000) (hl:(Lib.join (xs.map (·.data.toList)) sep.data.toList).length≤140737488355328):FCw S TabW 194 [] [] [] [.sl tk (xs.map .str),.str sep] (.str ⟨(Lib.join (xs.map (·.data.toList)) sep.data.toList).toArray⟩) [] []:=by
 refine fcw_lib (v0:=.string ⟨(Lib.join (xs.map (·.data.toList)) sep.data.toList).toArray⟩) ⟨_,Tryz.func194,by kernel_rfl,rfl⟩ (fun G w=>.str) fun G w vals hT hsz hr=>?_
 obtain⟨x,y,rfl⟩:∃x y,vals=#[x,y]:=by
  match vals,hsz with
  | ⟨[x,y]⟩,_=>exact⟨x,y,rfl⟩
 have hx:=hr 0 _ x rfl rfl
 have hy:=hr 1 _ y rfl rfl
 cases hy
 cases hx with
 | @sl _ _ A n c b o s hn hc hm ht hA hu hk hst hrr =>
  have hn:n=xs.length:=by rw[hn,List.length_map]
  have hfl:=flat_str xs
  subst hn
  by_cases hx:xs=[]
  ·subst hx
   refine(Tryz.strings_Join_none A c sep w).mono ?_
   rintro e w' ⟨rfl,rfl⟩
   exact⟨rfl,Below.refl _ _⟩
  ·obtain rfl:=hA.resolve_left (by simpa using hx)
   have hcell:∀(j:Nat) x,xs[j]?=some x→w.cell? ⟨b,o+j,none⟩=some (.string x):=fun j x hj=>by
    have h1:(flat (xs.map D.str))[j]?=some (D.str x):=by rw[hfl,List.getElem?_map,hj];rfl
    obtain⟨_,u,h2⟩:=hst j _ h1
    have h3:=hrr j _ u h1 h2
    cases h3
    exact h2
   have hbk:b<w.heap.size:=by
    have h0:0<xs.length:=List.length_pos_iff.2 hx
    exact cell_lt (hcell 0 _ (List.getElem?_eq_getElem h0))
   exact(Tryz.strings_Join b o c xs sep w hcell hbk (by omega) hc hl).mono fun e w' ⟨he,hb⟩=>⟨he,hb⟩
end Go.Proofs.YtkfkdgginfpdnaaGreatDoor
end
