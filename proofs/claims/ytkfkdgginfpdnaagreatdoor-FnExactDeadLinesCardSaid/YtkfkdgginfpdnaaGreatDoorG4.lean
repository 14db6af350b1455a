/-
  A24, N1p, S2a, one behind the other.
-/
import Derived.Test.YtkfkdgginfpdnaaGreatDoorG2
import Derived.Test.YtkfkdgginfpdnaaGreatDoorG3
import Derived.Test.YtkfkdgginfpdnaaGreatDoorG1
import Derived.Test.YtkfkdgginfpdnaaGreatDoorLgK10
namespace Go.Proofs.YtkfkdgginfpdnaaGreatDoor
open Go Go.Lg
set_option linter.unusedSimpArgs false
set_option linter.unusedVariables false
set_option maxHeartbeats 4000000
section
attribute [local irreducible] SW runL runQ runG runQG FC Ret1 RetN toF redoL
open Classical in
noncomputable def addS (Q:List (List Int)) (t:List Int):List (List Int):=if t∈Q then Q else Q++[t]
noncomputable def shpM (rs l:List Int) (P:List (List Int)):Nat→List (List Int)
 | 0=>P
 | j+1=>if 0≤l.getD (j+1) default then addS (shpM rs l P j) (ren0 (subS rs l (j+1))) else shpM rs l P j
noncomputable def shpA (rs:List Int) (ls:List (List Int)):Nat→List (List Int)
 | 0=>[]
 | i+1=>shpM rs (ls.getD i default) (shpA rs ls i) ((ls.getD i default).length-1)
theorem addS_len (Q:List (List Int)) (t:List Int):(addS Q t).length≤Q.length+1:=by
 unfold addS;split<;>simp
theorem shpM_len (rs l:List Int) (P:List (List Int)):∀j,(shpM rs l P j).length≤P.length+j
 | 0=>by simp[shpM]
 | j+1=>by
  have ih:=shpM_len rs l P j
  have:=addS_len (shpM rs l P j) (ren0 (subS rs l (j+1)))
  unfold shpM;split<;>omega
theorem shpA_len {rs:List Int} {ls:List (List Int)} (h:∀i<ls.length,(ls.getD i default).length≤60):∀i,i≤ls.length→(shpA rs ls i).length≤60*i
 | 0,_=>by simp[shpA]
 | i+1,hi=>by
  have ih:=shpA_len (rs:=rs) h i (by omega)
  have h1:=shpM_len rs (ls.getD i default) (shpA rs ls i) ((ls.getD i default).length-1)
  have h2:=h i (by omega)
  simp only[shpA];omega
theorem ren0_head {u:List Int} (h:1≤u.length):0≤(ren0 u).getD 0 default↔0≤u.getD 0 default:=by
 cases u with
 | nil=>simp at h
 | cons a r =>
  simp only[ren0,List.map_cons,List.getD_cons_zero,codeI]
  split
  ·rename_i h0;exact⟨fun _=>h0,fun _=>h0⟩
  ·rename_i h0
   constructor
   ·intro h1;omega
   ·intro h1;exact absurd h1 h0
theorem mem_srtM {xs:List (List Int)} {t:List Int}:t∈srtM xs↔t∈xs:=(srtM_ok xs).1.mem_iff
open Classical in
noncomputable def placeI (t:List Int):List (List Int)→Int
 | []=>-1
 | x::r=>if x=t then 0 else if placeI t r=-1 then -1 else placeI t r+1
theorem placeI_ge (t:List Int):∀xs:List (List Int),-1≤placeI t xs∧(0≤placeI t xs↔t∈xs)
 | []=>by simp[placeI]
 | x::r=>by
  obtain⟨h1,h2⟩:=placeI_ge t r
  unfold placeI
  by_cases e:x=t
  ·rw[if_pos e];subst e;simp
  ·rw[if_neg e]
   split
   ·rename_i h3
    have:t∉r:=fun hm=>by have:=h2.2 hm;omega
    simp[this,Ne.symm e]
   ·rename_i h3
    have:t∈r:=h2.1 (by omega)
    simp[this];omega
theorem placeI_at {t:List Int}:∀ {xs:List (List Int)} {i:Nat},(∀j<i,xs.getD j default≠t)→i<xs.length→xs.getD i default=t→placeI t xs=i
 | [],_,_,h,_=>by simp at h
 | x::r,0,_,_,h=>by
  simp only[List.getD_cons_zero] at h
  simp[placeI,h]
 | x::r,i+1,h1,h2,h3=>by
  have h0:=h1 0 (by omega)
  simp only[List.getD_cons_zero] at h0
  have ih:=placeI_at (t:=t) (xs:=r) (i:=i) (fun j hj=>by have:=h1 (j+1) (by omega);simpa only[List.getD_cons_succ] using this) (by simpa using h2) (by simpa only[List.getD_cons_succ] using h3)
  unfold placeI
  rw[if_neg h0,ih,if_neg (by omega)];omega
theorem placeI_none {t:List Int} {xs:List (List Int)} (h:∀j<xs.length,xs.getD j default≠t):placeI t xs=-1:=by
 have h1:=placeI_ge t xs
 have:t∉xs:=fun hm=>by
  obtain⟨j,hj,e⟩:=List.getElem_of_mem hm
  exact h j hj (by rw[List.getD_eq_getElem?_getD,List.getElem?_eq_getElem hj,Option.getD_some,e])
 have:¬0≤placeI t xs:=fun h2=>this (h1.2.1 h2)
 omega
def kp91:List (Nat×List Nat):=[(0,[0,1]),(1,[0,1,5]),(2,[0,1,5,9]),(4,[0,1,5,17]),(5,[4]),(3,[0,1,5]),(6,[4])]
attribute [go_sem] kp91 Tryz.results91 Tryz.ntmps91
theorem termPlace_fc (tk tk':Tk) (xs:List (List Int)) (t:List Int):FC S 91 [] [] [] [.sl tk (xs.map IntsD),.sl tk' (t.map (.int .i64))] (.int .i64 (placeI t xs)) [] []:=by
 refine fcb Tryz.func91 fun B=>?_
 refine sw_bndg 0 fun hb0=>?_
 refine sw_bndg 1 fun hb1=>?_
 repeat' first|exact h.elim|refine sw_n ?_|refine sw_go 0 kp91 fun K hK=>?_|refine fun (K:KT) (hK:KOk S 0 _ _ _ K)=>?_|refine runL_g ?_|refine sw_retg0 ?_|refine sw_retg ?_|(refine hK.n0 ?_;clear hK K)|refine sw_condg rfl (fun h=>?_) fun h=>?_|refine sw_exit rfl ?_|refine sw_loopEnd ?_|with_reducible refine and_o ?_|apply tTT
 refine sw_loopU (ι:=Nat) (fun i=>[(5,.int .i64 i)]) (fun _=>[]) (fun i=>i≤xs.length∧(∀j<i,xs.getD j default≠t)) (fun i=>xs.length-i) 0 cvA ⟨by omega,?_⟩ (fun i ⟨hi,hj⟩=>?_)
 rotate_left
 simp only[go_sem]
 repeat' first|exact h.elim|refine sw_n ?_|refine sw_go 0 kp91 fun K hK=>?_|refine fun (K:KT) (hK:KOk S 0 _ _ _ K)=>?_|refine runL_g ?_|refine sw_retg0 ?_|refine sw_retg ?_|(refine hK.n0 ?_;clear hK K)|refine sw_condg rfl (fun h=>?_) fun h=>?_|refine sw_exit rfl ?_|refine sw_loopEnd ?_|refine hK.c1 rfl rfl rfl (specSameTerm_fc _ _ _ _) ?_|with_reducible refine and_o ?_|apply tTT
 ·exact(placeI_at hj (by omega) h).symm
 ·exact⟨i+1,by(refine covers_mk0 rfl rfl ?_ ?_ ?_ ?_<;>simp (disch:=(refine Om.mk ?_;omega)) only[go_sem]<;>(try omega)),⟨by omega,upto_succ hj (by assumption)⟩,by omega⟩
 ·exact(placeI_none fun j hj'=>hj j (by omega)).symm
 ·intro j hj';omega
def kp63:List (Nat×List Nat):=[(0,[1,2]),(1,[1,2,5]),(2,[1,2,5,6]),(3,[1,2,5,6,13]),(5,[1,2,5,6,7]),(6,[1,2,5,6,7,22]),(8,[1,2,5,6,7,8]),(9,[1,2,5,6,7,8,42]),(10,[1,2,5,6,7]),(7,[1,2,5,6,7]),(4,[1,2,5,6]),(11,[4])]
attribute [go_sem] kp63 Tryz.results63 Tryz.ntmps63
theorem l24Shapes_fc (rs:List Int) (ls:List (List Int)) (hn:ls.length≤12) (hT:∀i<ls.length,TermOkP rs (ls.getD i default)):FC S 63 [] [] [] [.agg [.sl .any (rs.map (.int .i64))],.sl .any (ls.map IntsD)] (.sl .any ((srtM (shpA rs ls ls.length)).map IntsD)) [] []:=by
 have hLA:=shpA_len (rs:=rs) (ls:=ls) fun i hi=>(hT i hi).2.1.2
 refine fcb Tryz.func63 fun B=>?_
 repeat' first|exact h.elim|refine sw_n ?_|refine sw_go 0 kp63 fun K hK=>?_|refine fun (K:KT) (hK:KOk S 0 _ _ _ K)=>?_|refine sw_goD kp63 (by kernel_rfl) fun K hK=>?_|refine runL_g ?_|refine runQ_g ?_|refine sw_retg0 ?_|refine sw_retg ?_|(refine hK.n0 ?_;clear hK K)|refine runG_fk (fun h=>?_) fun h=>?_|refine runQG_fk (fun h=>?_) fun h=>?_|refine sw_condg rfl (fun h=>?_) fun h=>?_|refine hK.skp rfl rfl ?_|refine sw_exit rfl ?_|refine sw_loopEnd ?_|(refine hK.fork rfl rfl rfl ?_ ?_<;>intro h<;>try simp (disch:=(refine Om.mk ?_;omega)) only[go_sem] at h)|with_reducible refine and_o ?_|((with_reducible refine And.intro ?_ ?_);· first|(intro x hx;subst hx;rfl)|(intro x;refine And.intro ?_ ?_<;>(intros;subst_vars;rfl)))|apply tTT
 refine sw_loopU (ι:=Nat) (fun i=>[(6,.int .i64 i),(5,.sl .any ((srtM (shpA rs ls i)).map IntsD))]) (fun _=>[]) (fun i=>i≤ls.length∧(True)) (fun i=>ls.length-i) 0 cvB ⟨by omega,?_⟩ (fun i ⟨hi,hj⟩=>?_)
 rotate_left
 simp only[go_sem]
 have hla:=hLA i hi
 by_cases hlt:i<ls.length
 ·have hTi:=hT i hlt
  have hli:=hTi.2.1
  have hA1:shpA rs ls (i+1)=shpM rs (ls.getD i default) (shpA rs ls i) ((ls.getD i default).length-1):=rfl
  repeat' first|exact h.elim|(exfalso;omega)|refine sw_n ?_|refine sw_go 0 kp63 fun K hK=>?_|refine fun (K:KT) (hK:KOk S 0 _ _ _ K)=>?_|refine sw_goD kp63 (by kernel_rfl) fun K hK=>?_|refine runL_g ?_|refine runQ_g ?_|refine sw_retg0 ?_|refine sw_retg ?_|(refine hK.n0 ?_;clear hK K)|refine runG_fk (fun h=>?_) fun h=>?_|refine runQG_fk (fun h=>?_) fun h=>?_|refine sw_condg rfl (fun h=>?_) fun h=>?_|refine hK.skp rfl rfl ?_|refine sw_exit rfl ?_|refine sw_loopEnd ?_|(refine hK.fork rfl rfl rfl ?_ ?_<;>intro h<;>try simp (disch:=(refine Om.mk ?_;omega)) only[go_sem] at h)|with_reducible refine and_o ?_|((with_reducible refine And.intro ?_ ?_);· first|(intro x hx;subst hx;rfl)|(intro x;refine And.intro ?_ ?_<;>(intros;subst_vars;rfl)))|apply tTT
  refine sw_loopT (ι:=Nat) (fun j=>[(7,.int .i64 (j+1)),(5,.sl .any ((srtM (shpM rs (ls.getD i default) (shpA rs ls i) j)).map IntsD))]) (fun _=>[]) (fun _=>[]) (fun j=>j≤(ls.getD i default).length-1) (fun j=>(ls.getD i default).length-1-j) 0 cvB (by omega) (fun j hj=>?_)
  simp only[go_sem]
  by_cases hjl:j<(ls.getD i default).length-1
  ·have hja:j+1<(ls.getD i default).length:=by omega
   have hS:=subS_ok hTi hja
   have hSl:=hS.2.1
   have hrh:=ren0_head hSl.1
   rw[(sub_sub hTi hja).1] at hrh
   have hrl:(ren0 (subS rs (ls.getD i default) (j+1))).length=(subS rs (ls.getD i default) (j+1)).length:=by unfold ren0;rw[List.length_map]
   have cS:=l1Sub_fc .any .any rs (ls.getD i default) (j+1) hTi hja
   have ez:(((j+1:Nat)):Int)=(j:Int)+1:=by omega
   rw[ez] at cS
   have cR:=l2Renamed_fc rs _ hS
   have hQl:=shpM_len rs (ls.getD i default) (shpA rs ls i) j
   have hq2:(srtM (shpM rs (ls.getD i default) (shpA rs ls i) j)).length≤3000:=by rw[srtM_len];omega
   have hpl:=placeI_ge (ren0 (subS rs (ls.getD i default) (j+1))) (srtM (shpM rs (ls.getD i default) (shpA rs ls i) j))
   rw[mem_srtM] at hpl
   rcases Classical.em (0≤(ls.getD i default).getD (j+1) default) with h0|h0
   ·have h00:=hrh.2 h0
    rcases Classical.em (ren0 (subS rs (ls.getD i default) (j+1))∈shpM rs (ls.getD i default) (shpA rs ls i) j) with hm|hm
    ·have hs1:shpM rs (ls.getD i default) (shpA rs ls i) (j+1)=shpM rs (ls.getD i default) (shpA rs ls i) j:=by simp only[shpM,if_pos h0,addS,if_pos hm]
     have hp1:=hpl.2.2 hm
     repeat' first|exact h.elim|refine sw_n ?_|refine sw_go 0 kp63 fun K hK=>?_|refine fun (K:KT) (hK:KOk S 0 _ _ _ K)=>?_|refine sw_goD kp63 (by kernel_rfl) fun K hK=>?_|refine runL_g ?_|refine runQ_g ?_|refine sw_retg0 ?_|refine sw_retg ?_|(refine hK.n0 ?_;clear hK K)|refine runG_fk (fun h=>?_) fun h=>?_|refine runQG_fk (fun h=>?_) fun h=>?_|refine sw_condg rfl (fun h=>?_) fun h=>?_|refine hK.skp rfl rfl ?_|refine sw_exit rfl ?_|refine sw_loopEnd ?_|refine hK.c1 rfl rfl rfl (cS) ?_|refine hK.c1 rfl rfl rfl (cR) ?_|refine hK.c1 rfl rfl rfl (termPlace_fc _ _ _ _) ?_|refine hK.c1 rfl rfl rfl (l28Insert_fc _ _ _ hq2) ?_|(refine hK.fork rfl rfl rfl ?_ ?_<;>intro h<;>try simp (disch:=(refine Om.mk ?_;omega)) only[go_sem] at h)|with_reducible refine and_o ?_|((with_reducible refine And.intro ?_ ?_);· first|(intro x hx;subst hx;rfl)|(intro x;refine And.intro ?_ ?_<;>(intros;subst_vars;rfl)))|apply tTT
     all_goals first|(exfalso;omega)|exact⟨j+1,(by(refine covers_mk0 rfl rfl ?_ ?_ ?_ ?_<;>simp (disch:=(refine Om.mk ?_;omega)) only[go_sem]<;>(try omega));rw[hs1];first|exact⟨rfl,by omega⟩|exact⟨by omega,rfl⟩),by omega,by omega⟩
    ·have hs1:shpM rs (ls.getD i default) (shpA rs ls i) (j+1)=shpM rs (ls.getD i default) (shpA rs ls i) j++[ren0 (subS rs (ls.getD i default) (j+1))]:=by simp only[shpM,if_pos h0,addS,if_neg hm]
     have hp1:¬0≤placeI (ren0 (subS rs (ls.getD i default) (j+1))) (srtM (shpM rs (ls.getD i default) (shpA rs ls i) j)):=fun h=>hm (hpl.2.1 h)
     repeat' first|exact h.elim|refine sw_n ?_|refine sw_go 0 kp63 fun K hK=>?_|refine fun (K:KT) (hK:KOk S 0 _ _ _ K)=>?_|refine sw_goD kp63 (by kernel_rfl) fun K hK=>?_|refine runL_g ?_|refine runQ_g ?_|refine sw_retg0 ?_|refine sw_retg ?_|(refine hK.n0 ?_;clear hK K)|refine runG_fk (fun h=>?_) fun h=>?_|refine runQG_fk (fun h=>?_) fun h=>?_|refine sw_condg rfl (fun h=>?_) fun h=>?_|refine hK.skp rfl rfl ?_|refine sw_exit rfl ?_|refine sw_loopEnd ?_|refine hK.c1 rfl rfl rfl (cS) ?_|refine hK.c1 rfl rfl rfl (cR) ?_|refine hK.c1 rfl rfl rfl (termPlace_fc _ _ _ _) ?_|refine hK.c1 rfl rfl rfl (l28Insert_fc _ _ _ hq2) ?_|(refine hK.fork rfl rfl rfl ?_ ?_<;>intro h<;>try simp (disch:=(refine Om.mk ?_;omega)) only[go_sem] at h)|with_reducible refine and_o ?_|((with_reducible refine And.intro ?_ ?_);· first|(intro x hx;subst hx;rfl)|(intro x;refine And.intro ?_ ?_<;>(intros;subst_vars;rfl)))|apply tTT
     all_goals first|(exfalso;omega)|exact⟨j+1,(by(refine covers_mk0 rfl rfl ?_ ?_ ?_ ?_<;>simp (disch:=(refine Om.mk ?_;omega)) only[go_sem]<;>(try omega));rw[hs1,srtM_snoc];first|exact⟨rfl,by omega⟩|exact⟨by omega,rfl⟩),by omega,by omega⟩
   ·have hs1:shpM rs (ls.getD i default) (shpA rs ls i) (j+1)=shpM rs (ls.getD i default) (shpA rs ls i) j:=by simp only[shpM,if_neg h0]
    have h00:¬0≤(ren0 (subS rs (ls.getD i default) (j+1))).getD 0 default:=fun h=>h0 (hrh.1 h)
    repeat' first|exact h.elim|refine sw_n ?_|refine sw_go 0 kp63 fun K hK=>?_|refine fun (K:KT) (hK:KOk S 0 _ _ _ K)=>?_|refine sw_goD kp63 (by kernel_rfl) fun K hK=>?_|refine runL_g ?_|refine runQ_g ?_|refine sw_retg0 ?_|refine sw_retg ?_|(refine hK.n0 ?_;clear hK K)|refine runG_fk (fun h=>?_) fun h=>?_|refine runQG_fk (fun h=>?_) fun h=>?_|refine sw_condg rfl (fun h=>?_) fun h=>?_|refine hK.skp rfl rfl ?_|refine sw_exit rfl ?_|refine sw_loopEnd ?_|refine hK.c1 rfl rfl rfl (cS) ?_|refine hK.c1 rfl rfl rfl (cR) ?_|refine hK.c1 rfl rfl rfl (termPlace_fc _ _ _ _) ?_|refine hK.c1 rfl rfl rfl (l28Insert_fc _ _ _ hq2) ?_|(refine hK.fork rfl rfl rfl ?_ ?_<;>intro h<;>try simp (disch:=(refine Om.mk ?_;omega)) only[go_sem] at h)|with_reducible refine and_o ?_|((with_reducible refine And.intro ?_ ?_);· first|(intro x hx;subst hx;rfl)|(intro x;refine And.intro ?_ ?_<;>(intros;subst_vars;rfl)))|apply tTT
    all_goals first|(exfalso;omega)|exact⟨j+1,(by(refine covers_mk0 rfl rfl ?_ ?_ ?_ ?_<;>simp (disch:=(refine Om.mk ?_;omega)) only[go_sem]<;>(try omega));rw[hs1];first|exact⟨rfl,by omega⟩|exact⟨by omega,rfl⟩),by omega,by omega⟩
  ·have ej:j=(ls.getD i default).length-1:=by omega
   subst ej
   rw[←hA1]
   repeat' first|exact h.elim|(exfalso;omega)|refine sw_n ?_|refine sw_go 0 kp63 fun K hK=>?_|refine fun (K:KT) (hK:KOk S 0 _ _ _ K)=>?_|refine sw_goD kp63 (by kernel_rfl) fun K hK=>?_|refine runL_g ?_|refine runQ_g ?_|refine sw_retg0 ?_|refine sw_retg ?_|(refine hK.n0 ?_;clear hK K)|refine runG_fk (fun h=>?_) fun h=>?_|refine runQG_fk (fun h=>?_) fun h=>?_|refine sw_condg rfl (fun h=>?_) fun h=>?_|refine hK.skp rfl rfl ?_|refine sw_exit rfl ?_|refine sw_loopEnd ?_|(refine hK.fork rfl rfl rfl ?_ ?_<;>intro h<;>try simp (disch:=(refine Om.mk ?_;omega)) only[go_sem] at h)|with_reducible refine and_o ?_|((with_reducible refine And.intro ?_ ?_);· first|(intro x hx;subst hx;rfl)|(intro x;refine And.intro ?_ ?_<;>(intros;subst_vars;rfl)))|apply tTT
   exact⟨i+1,cvA,by omega,by omega⟩
 ·repeat' first|exact h.elim|(exfalso;omega)|refine sw_n ?_|refine sw_go 0 kp63 fun K hK=>?_|refine fun (K:KT) (hK:KOk S 0 _ _ _ K)=>?_|refine sw_goD kp63 (by kernel_rfl) fun K hK=>?_|refine runL_g ?_|refine runQ_g ?_|refine sw_retg0 ?_|refine sw_retg ?_|(refine hK.n0 ?_;clear hK K)|refine runG_fk (fun h=>?_) fun h=>?_|refine runQG_fk (fun h=>?_) fun h=>?_|refine sw_condg rfl (fun h=>?_) fun h=>?_|refine hK.skp rfl rfl ?_|refine sw_exit rfl ?_|refine sw_loopEnd ?_|(refine hK.fork rfl rfl rfl ?_ ?_<;>intro h<;>try simp (disch:=(refine Om.mk ?_;omega)) only[go_sem] at h)|with_reducible refine and_o ?_|((with_reducible refine And.intro ?_ ?_);· first|(intro x hx;subst hx;rfl)|(intro x;refine And.intro ?_ ?_<;>(intros;subst_vars;rfl)))|apply tTT
  rw[show i=ls.length by omega]
 all_goals trivial
attribute [go_sem] Tryz.results114 Tryz.ntmps114
attribute [go_sem] Tryz.results121 Tryz.ntmps121
attribute [go_sem] Tryz.results68 Tryz.ntmps68
attribute [go_sem] Tryz.results60 Tryz.ntmps60
attribute [go_sem] Tryz.results61 Tryz.ntmps61
structure FormT where
 head:Int
 args:List Int
 deriving Inhabited,DecidableEq
def formD (x:FormT):D:=.agg [.int .i64 x.head,.sl .any (x.args.map (.int .i64))]
noncomputable def argF (rs:List Int) (SH:List (List Int)) (t:List Int) (q:Nat):Int:=if 0≤t.getD q default then placeI (ren0 (subS rs t q)) SH else -1
noncomputable def formR (rs:List Int) (SH:List (List Int)) (t:List Int):FormT:=⟨t.getD 0 default,(argsS rs t 0).map (argF rs SH t)⟩
def FitF (x:FormT) (f:Int) (args:List (List Int)):Prop:=x.head=f∧∀j<x.args.length,0≤x.args.getD j default→x.args.getD j default∈args.getD j default
def FullP (rs:List Int) (SH:List (List Int)) (t:List Int):Prop:=∀q∈argsS rs t 0,0≤t.getD q default→ren0 (subS rs t q)∈SH
theorem addS_has (Q:List (List Int)) (t:List Int):t∈addS Q t∧∀x∈Q,x∈addS Q t:=by
 unfold addS
 split
 ·exact⟨by assumption,fun x hx=>hx⟩
 ·exact⟨by simp,fun x hx=>List.mem_append_left _ hx⟩
theorem addS_of {Q:List (List Int)} {t x:List Int} (h:x∈addS Q t):x∈Q∨x=t:=by
 unfold addS at h
 split at h
 ·exact .inl h
 ·rcases List.mem_append.1 h with h|h
  ·exact .inl h
  ·exact .inr (List.mem_singleton.1 h)
theorem shpM_sub {rs l:List Int} {P:List (List Int)}:∀n,∀x∈P,x∈shpM rs l P n
 | 0,x,h=>h
 | n+1,x,h=>by
  have ih:=shpM_sub (rs:=rs) (l:=l) n x h
  unfold shpM
  split
  ·exact(addS_has _ _).2 _ ih
  ·exact ih
theorem shpM_has {rs l:List Int} {P:List (List Int)}:∀n p,1≤p→p≤n→0≤l.getD p default→ren0 (subS rs l p)∈shpM rs l P n
 | 0,p,h1,h2,_=>by omega
 | n+1,p,h1,h2,h3=>by
  by_cases e:p=n+1
  ·subst e
   unfold shpM
   rw[if_pos h3]
   exact(addS_has _ _).1
  ·have ih:=shpM_has (rs:=rs) (l:=l) (P:=P) n p h1 (by omega) h3
   unfold shpM
   split
   ·exact(addS_has _ _).2 _ ih
   ·exact ih
theorem shpM_of {rs l:List Int} {P:List (List Int)}:∀n,∀x∈shpM rs l P n,x∈P∨∃p,1≤p∧p≤n∧0≤l.getD p default∧x=ren0 (subS rs l p)
 | 0,x,h=>.inl h
 | n+1,x,h=>by
  unfold shpM at h
  split at h
  ·rename_i h0
   rcases addS_of h with h|h
   ·rcases shpM_of n x h with h|⟨p,h1,h2,h3,h4⟩
    ·exact .inl h
    ·exact .inr ⟨p,h1,by omega,h3,h4⟩
   ·exact .inr ⟨n+1,by omega,Nat.le_refl _,h0,h⟩
  ·rcases shpM_of n x h with h|⟨p,h1,h2,h3,h4⟩
   ·exact .inl h
   ·exact .inr ⟨p,h1,by omega,h3,h4⟩
theorem shpA_has {rs:List Int} {ls:List (List Int)}:∀n i,i<n→∀p,1≤p→p<(ls.getD i default).length→0≤(ls.getD i default).getD p default→ren0 (subS rs (ls.getD i default) p)∈shpA rs ls n
 | 0,i,h,_,_,_,_=>by omega
 | n+1,i,h,p,h1,h2,h3=>by
  unfold shpA
  by_cases e:i=n
  ·subst e
   exact shpM_has _ p h1 (by omega) h3
  ·exact shpM_sub _ _ (shpA_has n i (by omega) p h1 h2 h3)
theorem shpA_of {rs:List Int} {ls:List (List Int)}:∀n,∀x∈shpA rs ls n,∃i p,i<n∧1≤p∧p<(ls.getD i default).length∧0≤(ls.getD i default).getD p default∧x=ren0 (subS rs (ls.getD i default) p)
 | 0,x,h=>by cases h
 | n+1,x,h=>by
  unfold shpA at h
  rcases shpM_of _ x h with h|⟨p,h1,h2,h3,h4⟩
  ·obtain⟨i,p,h0,h⟩:=shpA_of n x h
   exact⟨i,p,by omega,h⟩
  ·refine⟨n,p,by omega,h1,?_,h3,h4⟩
   omega
theorem idx_injN:∀ {s:List Int} {n m:Int},n∈s→m∈s→s.idxOf n=s.idxOf m→n=m
 | [],_,_,hn,_,_=>by cases hn
 | x::s,n,m,hn,hm,e=>by
  rw[List.idxOf_cons,List.idxOf_cons] at e
  by_cases h1:x=n
  ·by_cases h2:x=m
   ·rw[←h1,h2]
   ·rw[beq_iff_eq.2 h1,beq_eq_false_iff_ne.2 h2] at e
    simp at e
  ·by_cases h2:x=m
   ·rw[beq_iff_eq.2 h2,beq_eq_false_iff_ne.2 h1] at e
    simp at e
   ·rw[beq_eq_false_iff_ne.2 h1,beq_eq_false_iff_ne.2 h2] at e
    simp only[cond_false,Nat.add_right_cancel_iff] at e
    exact idx_injN ((List.mem_cons.1 hn).resolve_left (fun h=>h1 h.symm)) ((List.mem_cons.1 hm).resolve_left (fun h=>h2 h.symm)) e
theorem code_signN (s:List Int) (n:Int):0≤codeI s n↔0≤n:=by
 unfold codeI
 split<;>omega
theorem code_injN {s:List Int} {n m:Int} (hn:n<0→n∈s) (hm:m<0→m∈s) (e:codeI s n=codeI s m):n=m:=by
 unfold codeI at e
 split at e<;>split at e
 ·exact e
 ·omega
 ·omega
 ·exact idx_injN (hn (by omega)) (hm (by omega)) (by omega)
theorem scan_map {rs:List Int} {f:Int→Int}:∀(t:List Int) (need:Int) (i:Nat),(∀n∈t,arS rs (f n)=arS rs n)→scan rs (t.map f) need i=scan rs t need i
 | [],_,_,_=>rfl
 | n::t,need,i,h=>by
  have h0:=h n List.mem_cons_self
  have ih:=fun need i=>scan_map (rs:=rs) (f:=f) t need i fun m hm=>h m (List.mem_cons_of_mem _ hm)
  simp only[List.map_cons,scan,h0,ih]
theorem endS_map {rs t:List Int} {f:Int→Int} (h:∀n∈t,arS rs (f n)=arS rs n) (a:Nat):endS rs (t.map f) a=endS rs t a:=by
 unfold endS
 rw[←List.map_drop]
 exact scan_map _ _ _ fun n hn=>h n (List.mem_of_mem_drop hn)
theorem begS_map {rs t:List Int} {f:Int→Int} (h:∀n∈t,arS rs (f n)=arS rs n):∀k a,begS rs (t.map f) k a=begS rs t k a
 | 0,a=>rfl
 | k+1,a=>by
  simp only[begS,endS_map h,begS_map h k]
theorem subS_map {rs t:List Int} {f:Int→Int} (h:∀n∈t,arS rs (f n)=arS rs n) (a:Nat):subS rs (t.map f) a=(subS rs t a).map f:=by
 unfold subS
 rw[endS_map h,←List.map_take,←List.map_drop]
theorem getD_mapf {t:List Int} {f:Int→Int} {a:Nat} (h:a<t.length):(t.map f).getD a default=f (t.getD a default):=by
 simp[List.getD,h]
theorem argsS_map {rs t:List Int} {f:Int→Int} (h:∀n∈t,arS rs (f n)=arS rs n) {a:Nat} (ha:a<t.length):argsS rs (t.map f) a=argsS rs t a:=by
 unfold argsS
 rw[getD_mapf ha,h _ (getD_mem t a ha),begS_map h]
theorem code_ar {rs u:List Int} (h:TermOkP rs u):∀n∈u,arS rs (codeI (seenS [] u) n)=arS rs n:=fun n hn=>by
 have hl:=seen0_len h.ge
 unfold codeI
 split
 ·rfl
 ·rename_i h0
  have:=List.idxOf_lt_length_of_mem (seenS_mem u [] n hn (by omega))
  rw[arS_var ⟨h.ge n hn,by omega⟩,arS_var ⟨by omega,by omega⟩]
theorem ren0_sub {u v:List Int} (h:∀n∈v,n∈u):ren0 (v.map (codeI (seenS [] u)))=ren0 v:=by
 have h:=renL_map (f:=codeI (seenS [] u)) v [] (fun n _=>code_signN _ n) (fun n hn m hm e=>code_injN (fun h0=>seenS_mem u [] n (h n (by simpa using hn)) h0) (fun h0=>seenS_mem u [] m (h m (by simpa using hm)) h0) e) (fun n _ h0=>by unfold codeI;rw[if_pos h0])
 simp only[renL,List.map_nil,List.cons.injEq] at h
 exact h.1
theorem mem_sub {rs t:List Int} {a:Nat}:∀n∈subS rs t a,n∈t:=fun n hn=>by
 unfold subS at hn
 exact List.mem_of_mem_take (List.mem_of_mem_drop hn)
theorem full_left {rs:List Int} {ls:List (List Int)} (hT:∀i<ls.length,TermOkP rs (ls.getD i default)) {SH:List (List Int)} (hS:∀x,x∈SH↔x∈shpA rs ls ls.length) {i:Nat} (hi:i<ls.length):FullP rs SH (ls.getD i default):=fun q hq h0=>by
 have h1:=argsS_lt (hT i hi) (a:=0) (by have:=(hT i hi).2.1.1;omega) q hq
 exact(hS _).2 (shpA_has _ i hi q (by omega) h1.2 h0)
theorem full_shape {rs:List Int} {ls:List (List Int)} (hT:∀i<ls.length,TermOkP rs (ls.getD i default)) {SH:List (List Int)} (hS:∀x,x∈SH↔x∈shpA rs ls ls.length):∀t∈SH,TermOkP rs t∧FullP rs SH t∧t.length≤60:=fun t ht=>by
 obtain⟨i,p,hi,h1,h2,h3,rfl⟩:=shpA_of _ t ((hS t).1 ht)
 have hl:=hT i hi
 have key:=fun p=>shpA_has (rs:=rs) (ls:=ls) ls.length i hi p
 generalize ls.getD i default=l at *
 have hu:=subS_ok hl h2
 have hok:=ren0_ok hu
 refine⟨hok,fun q hq h0=>?_,hok.2.1.2⟩
 have har:=code_ar hu
 have hul:0<(subS rs l p).length:=by have:=hu.2.1.1;omega
 rw[show ren0 (subS rs l p)=(subS rs l p).map (codeI (seenS [] (subS rs l p))) from rfl] at hq h0 ⊢
 rw[argsS_map har hul] at hq
 have hq2:=argsS_lt hu hul q hq
 rw[getD_mapf hq2.2,code_signN] at h0
 rw[subS_map har,ren0_sub fun n hn=>mem_sub n hn]
 obtain⟨j,hj,rfl⟩:=List.getElem_of_mem hq
 have hjl:j<(arS rs ((subS rs l p).getD 0 default)).toNat:=by rw[←argsS_len];exact hj
 have hg:=argsS_get rs (subS rs l p) 0 j hjl
 rw[List.getD_eq_getElem?_getD,List.getElem?_eq_getElem hj,Option.getD_some] at hg
 obtain⟨s1,s2⟩:=sub_sub hl h2
 rw[s1] at hjl
 have hs:=s2 j hjl
 rw[hg] at h0 hq2 ⊢
 have hq3:nthB rs l (p+1) j∈argsS rs l p:=by
  rw[←argsS_get rs l p j hjl]
  exact getD_mem _ _ (by rw[argsS_len];exact hjl)
 have hq4:=argsS_lt hl h2 _ hq3
 rw[hs]
 refine(hS _).2 (key _ (by omega) hq4.2 ?_)
 have e1:=(sub_sub hu hq2.2).1
 have e2:=(sub_sub hl hq4.2).1
 rw[hs] at e1
 rw[←e2,e1]
 exact h0
open Classical in
noncomputable def fitsL (SF:List FormT) (f:Int) (args:List (List Int)) (i:Nat):List Int:=((List.range i).filter fun j=>decide (FitF (SF.getD j default) f args)).map fun (j:Nat)=>(j:Int)
open Classical in
theorem fitsL_yes {SF:List FormT} {f:Int} {args:List (List Int)} {i:Nat} (h:FitF (SF.getD i default) f args):fitsL SF f args (i+1)=fitsL SF f args i++[(i:Int)]:=by
 unfold fitsL
 have e:([i].filter fun j=>decide (FitF (SF.getD j default) f args))=[i]:=by
  rw[List.filter_cons,if_pos (decide_eq_true h)];rfl
 rw[List.range_succ,List.filter_append,List.map_append,e]
 rfl
open Classical in
theorem fitsL_no {SF:List FormT} {f:Int} {args:List (List Int)} {i:Nat} (h:¬FitF (SF.getD i default) f args):fitsL SF f args (i+1)=fitsL SF f args i:=by
 unfold fitsL
 have e:([i].filter fun j=>decide (FitF (SF.getD j default) f args))=[]:=by
  rw[List.filter_cons,if_neg (by simpa using h)];rfl
 rw[List.range_succ,List.filter_append,List.map_append,e]
 simp
open Classical in
theorem fitsL_len (SF:List FormT) (f:Int) (args:List (List Int)) (i:Nat):(fitsL SF f args i).length≤i:=by
 unfold fitsL
 rw[List.length_map]
 exact Nat.le_trans (List.length_filter_le _ _) (by simp)
open Classical in
theorem fitsL_rng {SF:List FormT} {f:Int} {args:List (List Int)} {i:Nat}:∀x∈fitsL SF f args i,0≤x∧x<i:=fun x hx=>by
 unfold fitsL at hx
 obtain⟨j,hj,rfl⟩:=List.mem_map.1 hx
 have:=List.mem_range.1 (List.mem_filter.1 hj).1
 omega
open Classical in
noncomputable def imgN (LF SF:List FormT) (f:Nat) (args:List (List Int)):Option (List Int):=if ∃x∈LF,FitF x (f:Int) args then none else some (fitsL SF (f:Int) args SF.length)
end
section
attribute [local irreducible] SW runL runQ runG runQG FC Ret1 RetN toF redoL anyB
theorem lst_snoc (sets:List (List Int)) {l:List Int} {i:Nat} (hi:i<l.length):lstS sets (l.take (i+1))=lstS sets (l.take i)++[sets.getD (l.getD i default).toNat default]:=by
 have e:l.take (i+1)=l.take i++[l.getD i default]:=by
  rw[List.take_add_one,List.getElem?_eq_getElem hi,List.getD_eq_getElem?_getD,List.getElem?_eq_getElem hi];rfl
 rw[e]
 simp only[lstS,List.map_append,List.map_cons,List.map_nil]
theorem lst_len (sets:List (List Int)) (l:List Int):(lstS sets l).length=l.length:=by simp[lstS]
def kp49:List (Nat×List Nat):=[(0,[0,1]),(1,[0,1,5]),(2,[0,1,5,6]),(3,[0,1,5,6,11]),(5,[0,1,5,6]),(4,[0,1,5,6]),(6,[4])]
attribute [go_sem] kp49 Tryz.results49 Tryz.ntmps49
theorem l23Listed_fc (tk tk1:Tk) (sets:List (List Int)) (l:List Int) (hl:l.length≤100) (hi:∀i<l.length,0≤l.getD i default∧l.getD i default<sets.length):FC S 49 [] [] [] [.sl tk (sets.map IntsD),.sl tk1 (l.map (.int .i64))] (.sl .any ((lstS sets l).map IntsD)) [] []:=by
 refine FC.args (args':=[.sl .any (sets.map IntsD),.sl .any (l.map (.int .i64))]) ?_ (by simp only[go_sem])
 refine fcb Tryz.func49 fun B=>?_
 refine sw_bndg 1 fun hb1=>?_
 repeat' first|exact h.elim|refine sw_n ?_|refine sw_go 0 kp49 fun K hK=>?_|refine fun (K:KT) (hK:KOk S 0 _ _ _ K)=>?_|refine runL_g ?_|refine sw_retg0 ?_|refine sw_retg ?_|(refine hK.n0 ?_;clear hK K)|refine sw_condg rfl (fun h=>?_) fun h=>?_|refine sw_exit rfl ?_|refine sw_loopEnd ?_|with_reducible refine and_o ?_|((with_reducible refine And.intro ?_ ?_);· first|(intro x hx;subst hx;rfl)|(intro x;refine And.intro ?_ ?_<;>(intros;subst_vars;rfl)))|apply tTT
 refine sw_tok 5 24000 22 1 rfl (.inr rfl) rfl ?_
 simp only[go_sem]
 refine sw_loopT (ι:=Nat) (fun i=>[(6,.int .i64 i),(5,.sl (.own 24000 22 1) ((lstS sets (l.take i)).map IntsD))]) (fun _=>[]) (fun _=>[24000]) (fun i=>i≤l.length) (fun i=>l.length-i) 0 cvB (by omega) (fun i hi2=>?_)
 simp only[go_sem]
 have hll:=lst_len sets (l.take i)
 rw[List.length_take] at hll
 by_cases hlt:i<l.length
 ·have hx:=hi i hlt
  have hs:=lst_snoc sets hlt
  repeat' first|exact h.elim|(exfalso;omega)|refine sw_n ?_|refine sw_go 0 kp49 fun K hK=>?_|refine fun (K:KT) (hK:KOk S 0 _ _ _ K)=>?_|refine runL_g ?_|refine sw_retg0 ?_|refine sw_retg ?_|(refine hK.n0 ?_;clear hK K)|refine sw_condg rfl (fun h=>?_) fun h=>?_|refine sw_exit rfl ?_|refine sw_loopEnd ?_|with_reducible refine and_o ?_|((with_reducible refine And.intro ?_ ?_);· first|(intro x hx;subst hx;rfl)|(intro x;refine And.intro ?_ ?_<;>(intros;subst_vars;rfl)))|apply tTT
  exact⟨i+1,(by(refine covers_mk0 rfl rfl ?_ ?_ ?_ ?_<;>simp (disch:=(refine Om.mk ?_;omega)) only[go_sem]<;>(try omega));rw[hs,List.map_append];first|exact⟨rfl,by omega⟩|exact⟨by omega,rfl⟩),by omega,by omega⟩
 ·repeat' first|exact h.elim|(exfalso;omega)|refine sw_n ?_|refine sw_go 0 kp49 fun K hK=>?_|refine fun (K:KT) (hK:KOk S 0 _ _ _ K)=>?_|refine runL_g ?_|refine sw_retg0 ?_|refine sw_retg ?_|(refine hK.n0 ?_;clear hK K)|refine sw_condg rfl (fun h=>?_) fun h=>?_|refine sw_exit rfl ?_|refine sw_loopEnd ?_|with_reducible refine and_o ?_|((with_reducible refine And.intro ?_ ?_);· first|(intro x hx;subst hx;rfl)|(intro x;refine And.intro ?_ ?_<;>(intros;subst_vars;rfl)))|apply tTT
  rw[List.take_of_length_le (by omega)]
def evF (rs:List Int) (n f:Nat):List (Nat×List Int):=if n=0∧0<rs.getD f default then [] else (digs n (rs.getD f default).toNat).map fun l=>(f,l)
theorem capF_cap {I:Nat→List (List Int)→Option (List Int)} {sets:List (List Int)} (f:Nat) (l:List Int) (E:List (Nat×List Int)) (out:List (List Int)) (s:List Int) (hI:I f (lstS sets l)=some s):(16<(addQ out s).length→capF I sets ((f,l)::E) out=(addQ out s,false))∧(¬16<(addQ out s).length→capF I sets ((f,l)::E) out=capF I sets E (addQ out s)):=by
 have h:capF I sets ((f,l)::E) out=if 16<(stepO I sets out (f,l)).length then (stepO I sets out (f,l),false) else capF I sets E (stepO I sets out (f,l)):=rfl
 have h2:stepO I sets out (f,l)=addQ out s:=by unfold stepO;rw[hI]
 rw[h2] at h
 exact⟨fun h1=>by rw[h,if_pos h1],fun h1=>by rw[h,if_neg h1]⟩
theorem loop_next {N n:Nat} {l:List Int} {A:List (List Int)} (hl:l.length=n) (hv:∀x∈l,0≤x∧x<N) (hs:SeqD (List.replicate n (0,(N:Int)-1)) (l::A)):((nextL N l).1.length=n∧∀x∈(nextL N l).1,0≤x∧x<N)∧((nextL N l).2=true→SeqD (List.replicate n (0,(N:Int)-1)) ((nextL N l).1::A.tail)∧A=(nextL N l).1::A.tail)∧((nextL N l).2=false→A=[]):=by
 have hn1:N=0→n=0:=fun h0=>by
  cases l with
  | nil=>simpa using hl.symm
  | cons x r=>have:=hv x List.mem_cons_self;omega
 have hlen:(nextL N l).1.length=n:=by
  unfold nextL
  rw[List.length_reverse,nextR_len,List.length_reverse]
  exact hl
 have hok:=fun h=>(nextR_ok (s:=N) h (l:=l.reverse) (fun x hx=>hv x (List.mem_reverse.1 hx))).1
 have hval:∀x∈(nextL N l).1,0≤x∧x<N:=fun x hx=>by
  rcases Nat.eq_zero_or_pos N with h0|h0
  ·rw[hn1 h0] at hlen
   rw[List.length_eq_zero_iff.1 hlen] at hx
   cases hx
  ·exact hok h0 x (List.mem_reverse.1 hx)
 refine⟨⟨hlen,hval⟩,?_⟩
 rcases digs_next hl hs with⟨h1,h2⟩|⟨m,A',h1,h2⟩
 ·exact⟨fun h=>(by rw[h2] at h;cases h),fun _=>h1⟩
 ·rw[h1] at hs
  rw[h2,h1]
  exact⟨fun _=>⟨hs.2,rfl⟩,fun h=>(by cases h)⟩
theorem nx_meas {N:Nat} {l:List Int} {A:List (List Int)} {P:Prop} {Q:Prop} (h:P∧((nextL N l).2=true→Q∧A=(nextL N l).1::A.tail)∧((nextL N l).2=false→A=[])):(if (nextL N l).2=true then A.tail.length+1 else 0)<A.length+1:=by
 split
 ·rename_i h1
  have:=(h.2.1 h1).2
  have h3:=congrArg List.length this
  simp only[List.length_cons] at h3
  omega
 ·omega
end
end Go.Proofs.YtkfkdgginfpdnaaGreatDoor
