/-
  P27, A17s, P28, Q1p, Q5p, Q2, Q2s, one behind the other.
-/
import Derived.Test.YtohnfgligddanaaGreatG10
import Derived.Test.YtohnfgligddanaaGreatLgK7
import Derived.Test.YtohnfgligddanaaGreatLgK13
import Derived.Test.YtohnfgligddanaaGreatG4
import Derived.Test.YtohnfgligddanaaGreatG5
section
namespace Go.Proofs.YtohnfgligddanaaGreat
open Go Go.Lg
set_option linter.unusedSimpArgs false
set_option linter.unusedVariables false
set_option maxHeartbeats 4000000
attribute [local irreducible] SW runL runQ runG runQG FC Ret1 toF redoL ConnP
open Classical in
noncomputable def rowG (x:SystemT) (P:List DepPairT) (p:Nat):Nat→List Int
 | 0=>[]
 | j+1=>if ConnP x (P.getD p default) (P.getD j default) then rowG x P p j++[(j:Int)] else rowG x P p j
noncomputable def graphG (x:SystemT) (P:List DepPairT):Nat→List (List Int)
 | 0=>[]
 | i+1=>graphG x P i++[rowG x P i P.length]
theorem graphG_succ (x:SystemT) (P:List DepPairT) (i:Nat):graphG x P (i+1)=graphG x P i++[rowG x P i P.length]:=rfl
theorem rowG_yes {x:SystemT} {P:List DepPairT} {p j:Nat} (h:ConnP x (P.getD p default) (P.getD j default)):rowG x P p (j+1)=rowG x P p j++[(j:Int)]:=if_pos h
theorem rowG_no {x:SystemT} {P:List DepPairT} {p j:Nat} (h:¬ConnP x (P.getD p default) (P.getD j default)):rowG x P p (j+1)=rowG x P p j:=if_neg h
theorem rowG_len (x:SystemT) (P:List DepPairT) (p:Nat):∀j,(rowG x P p j).length≤j
 | 0=>Nat.le_refl _
 | j+1=>by
  have ih:=rowG_len x P p j
  unfold rowG
  split
  ·rw[List.length_append,List.length_singleton];omega
  ·omega
theorem rowG_mem (x:SystemT) (P:List DepPairT) (p:Nat):∀j,∀q∈rowG x P p j,0≤q∧q<j
 | 0,q,h=>by cases h
 | j+1,q,h=>by
  unfold rowG at h
  split at h
  ·rcases List.mem_append.1 h with h|h
   ·have:=rowG_mem x P p j q h;omega
   ·rw[List.mem_singleton.1 h];omega
  ·have:=rowG_mem x P p j q h;omega
theorem graphG_len (x:SystemT) (P:List DepPairT):∀i,(graphG x P i).length=i
 | 0=>rfl
 | i+1=>by unfold graphG;rw[List.length_append,List.length_singleton,graphG_len x P i]
theorem graphG_get (x:SystemT) (P:List DepPairT):∀i j,j<i→(graphG x P i).getD j default=rowG x P j P.length
 | i+1,j,h=>by
  have hl:=graphG_len x P i
  unfold graphG
  rw[List.getD_eq_getElem?_getD]
  by_cases e:j<i
  ·rw[List.getElem?_append_left (by omega),←List.getD_eq_getElem?_getD]
   exact graphG_get x P i j e
  ·obtain rfl:j=i:=by omega
   rw[List.getElem?_append_right (by omega),hl,Nat.sub_self];rfl
attribute [local irreducible] rowG
def kp16:List (Nat×List Nat):=[(0,[1,2]),(1,[1,2,5]),(2,[1,2,5,6]),(3,[1,2,5,6,13]),(5,[1,2,5,6,7]),(6,[1,2,5,6,7,8]),(7,[1,2,5,6,7,8,20]),(9,[1,2,5,6,7,8,32]),(10,[1,2,5,6,7,8]),(8,[1,2,5,6,7,8]),(11,[1,2,5,6]),(4,[1,2,5,6]),(12,[4])]
attribute [go_sem] kp16
theorem l18Graph_fc (x:SystemT) (hx:SystemOkP x) (P:List DepPairT) (hP:∀p∈P,PrOk x.sig p) (hl:P.length≤64):FC S 16 [] [] [] [SystemD x,.sl .any (P.map DepPairD)] (.sl .any ((graphG x P P.length).map IntsD)) [] []:=by
 have hr0:∀p,rowG x P p 0=[]:=fun p=>by unfold rowG;rfl
 refine fc_body Tryz.func16 rfl (by kernel_rfl) (by simp[Tryz.f16]) fun B=>?_
 simp only[Tryz.ntmps16,enumD,lst0,Nat.reduceAdd]
 repeat' first|((refine sw_tok 5 41000 22 1 rfl (.inr rfl) rfl ?_;simp only[go_sem]))|refine sw_seq ?_|refine sw_block ?_|refine sw_go 0 kp16 fun K hK=>?_|((first|refine runL_go ?_|refine runQ_go ?_|refine sw_ret (ret0 ?_)|refine sw_ret ?_);simp (disch:=(refine Om.mk ?_;omega)) only[go_sem,Tryz.results16])|(refine hK.nil ?_;clear hK K;simp only[go_sem])|fail
 refine sw_loopT (ι:=Nat) (fun i=>[(1,.sl .any (P.map DepPairD)),(2,.box 2 0),(5,.sl (.own 41000 22 1) ((graphG x P i).map IntsD)),(6,.int .i64 i)]) (fun _=>[]) (fun _=>[41000]) (fun i=>i≤P.length) (fun i=>P.length-i) 0 (by(refine covers_mk0 rfl rfl ?_ ?_ ?_ ?_<;>simp (disch:=(refine Om.mk ?_;omega)) only[go_sem]<;>(try omega));all_goals exact⟨rfl,rfl⟩) (by omega) (fun i hi=>?_)
 simp only[go_sem]
 have hgl:=graphG_len x P i
 by_cases hil:i<P.length
 ·repeat' first|((exfalso;omega))|((refine sw_tok 7 37000 2 1 rfl (.inr rfl) rfl ?_;simp only[go_sem]))|refine sw_seq ?_|refine sw_block ?_|refine sw_skip ?_|refine sw_go 0 kp16 fun K hK=>?_|((first|refine runL_go ?_|refine runQ_go ?_|refine sw_ret (ret0 ?_)|refine sw_ret ?_);simp (disch:=(refine Om.mk ?_;omega)) only[go_sem,Tryz.results16])|(refine hK.nil ?_;clear hK K;simp only[go_sem])|((first|refine sw_cond rfl ?_ ?_)<;>intro h<;>try simp (disch:=(refine Om.mk ?_;omega)) only[go_sem] at h)|fail
  refine sw_loopT (ι:=Nat) (fun j=>[(1,.sl .any (P.map DepPairD)),(2,.box 2 0),(5,.sl (.own 41000 22 1) ((graphG x P i).map IntsD)),(6,.int .i64 i),(7,.sl (.own 37000 2 1) ((rowG x P i j).map (.int .i64))),(8,.int .i64 j)]) (fun _=>[]) (fun _=>[41000,37000]) (fun j=>j≤P.length) (fun j=>P.length-j) 0 (by rw[hr0];(refine covers_mk0 rfl rfl ?_ ?_ ?_ ?_<;>simp (disch:=(refine Om.mk ?_;omega)) only[go_sem]<;>(try omega));all_goals exact⟨rfl,rfl⟩) (by omega) (fun j hj=>?_)
  simp only[go_sem]
  have hrl:=rowG_len x P i j
  by_cases hjl:j<P.length
  ·have cN:=l17Connected_fc x hx (P.getD i default) (P.getD j default) (hP _ (getD_mem P i hil)) (hP _ (getD_mem P j hjl))
   by_cases hc:ConnP x (P.getD i default) (P.getD j default)
   ·rw[tst_true hc] at cN
    have e:=rowG_yes hc
    repeat' first|((exfalso;omega))|refine sw_seq ?_|refine sw_block ?_|refine sw_inBlock ?_|refine sw_skip ?_|refine sw_go 0 kp16 fun K hK=>?_|refine sw_goD kp16 (by kernel_rfl) fun K hK=>?_|((first|refine runL_go ?_|refine runQ_go ?_|refine sw_ret (ret0 ?_)|refine sw_ret ?_);simp (disch:=(refine Om.mk ?_;omega)) only[go_sem,Tryz.results16])|(refine hK.nil ?_;clear hK K;simp only[go_sem])|((first|refine sw_cond rfl ?_ ?_)<;>intro h<;>try simp (disch:=(refine Om.mk ?_;omega)) only[go_sem] at h)|refine sw_loopEnd ?_|refine hK.c0 rfl rfl rfl (cN) rfl rfl rfl ?_|(with_reducible refine And.intro (by first|omega|(simp only[lens];omega)) ?_)|fail
    all_goals exact⟨j+1,(by rw[e];(refine covers_mk0 rfl rfl ?_ ?_ ?_ ?_<;>simp (disch:=(refine Om.mk ?_;omega)) only[go_sem]<;>(try omega));all_goals first|(simp;done)|trace_state),by omega,by omega⟩
   ·rw[tst_false hc] at cN
    have e:=rowG_no hc
    repeat' first|((exfalso;omega))|refine sw_seq ?_|refine sw_block ?_|refine sw_inBlock ?_|refine sw_skip ?_|refine sw_go 0 kp16 fun K hK=>?_|refine sw_goD kp16 (by kernel_rfl) fun K hK=>?_|((first|refine runL_go ?_|refine runQ_go ?_|refine sw_ret (ret0 ?_)|refine sw_ret ?_);simp (disch:=(refine Om.mk ?_;omega)) only[go_sem,Tryz.results16])|(refine hK.nil ?_;clear hK K;simp only[go_sem])|((first|refine sw_cond rfl ?_ ?_)<;>intro h<;>try simp (disch:=(refine Om.mk ?_;omega)) only[go_sem] at h)|refine sw_loopEnd ?_|refine hK.c0 rfl rfl rfl (cN) rfl rfl rfl ?_|(with_reducible refine And.intro (by first|omega|(simp only[lens];omega)) ?_)|fail
    all_goals exact⟨j+1,(by rw[e];(refine covers_mk0 rfl rfl ?_ ?_ ?_ ?_<;>simp (disch:=(refine Om.mk ?_;omega)) only[go_sem]<;>(try omega))),by omega,by omega⟩
  ·obtain rfl:j=P.length:=by omega
   repeat' first|((exfalso;omega))|refine sw_seq ?_|refine sw_inBlock ?_|refine sw_go 0 kp16 fun K hK=>?_|((first|refine runL_go ?_|refine runQ_go ?_|refine sw_ret (ret0 ?_)|refine sw_ret ?_);simp (disch:=(refine Om.mk ?_;omega)) only[go_sem,Tryz.results16])|(refine hK.nil ?_;clear hK K;simp only[go_sem])|((first|refine sw_cond rfl ?_ ?_)<;>intro h<;>try simp (disch:=(refine Om.mk ?_;omega)) only[go_sem] at h)|refine sw_exit rfl ?_|refine sw_loopEnd ?_|(with_reducible refine And.intro (by first|omega|(simp only[lens];omega)) ?_)|fail
   all_goals exact⟨i+1,(by rw[graphG_succ];(refine covers_mk0 rfl rfl ?_ ?_ ?_ ?_<;>simp (disch:=(refine Om.mk ?_;omega)) only[go_sem]<;>(try omega));all_goals first|(refine⟨?_,?_⟩;(· rw[List.map_append];rfl);(· omega))|trace_state),by omega,by omega⟩
 ·obtain rfl:i=P.length:=by omega
  repeat' first|((exfalso;omega))|refine sw_seq ?_|refine sw_go 0 kp16 fun K hK=>?_|((first|refine runL_go ?_|refine runQ_go ?_|refine sw_ret (ret0 ?_)|refine sw_ret ?_);simp (disch:=(refine Om.mk ?_;omega)) only[go_sem,Tryz.results16])|(refine hK.nil ?_;clear hK K;simp only[go_sem])|((first|refine sw_cond rfl ?_ ?_)<;>intro h<;>try simp (disch:=(refine Om.mk ?_;omega)) only[go_sem] at h)|refine sw_exit rfl ?_|fail
def cellR (G:List (List Int)) (cur:D) (k j:Nat):D:=if j=k then cur else if j<k then IntsD (G.getD j default) else .sl .nil []
def cellsR (n:Nat) (G:List (List Int)) (cur:D) (k:Nat):List D:=(List.range n).map (cellR G cur k)
theorem cellsR_len (n:Nat) (G:List (List Int)) (cur:D) (k:Nat):(cellsR n G cur k).length=n:=by unfold cellsR;simp
theorem cellsR_cur {n:Nat} {G:List (List Int)} {cur:D} {k:Nat} (h:Om (k<n)):(List.drop k (cellsR n G cur k)).head?=some cur:=by
 rw[List.head?_drop,cellsR,List.getElem?_map,List.getElem?_range h.1]
 simp[cellR]
theorem cellsR_at {n:Nat} {G:List (List Int)} {cur:D} {k:Nat} (h:k<n):(cellsR n G cur k)[k]?=some cur:=by
 rw[cellsR,List.getElem?_map,List.getElem?_range h]
 simp[cellR]
theorem cellsR_get {n:Nat} {G:List (List Int)} {cur:D} {k j:Nat} {d:D} (h:(cellsR n G cur k)[j]?=some d):j<n∧d=cellR G cur k j:=by
 have hj:j<n:=by have:=(List.getElem?_eq_some_iff.1 h).1;rwa [cellsR_len] at this
 rw[cellsR,List.getElem?_map,List.getElem?_range hj] at h
 exact⟨hj,(Option.some.inj h).symm⟩
theorem cellsR_set {n:Nat} {G:List (List Int)} {cur:D} {k:Nat} (x:D):(cellsR n G cur k).set k x=cellsR n G x k:=by
 refine List.ext_getElem (by simp[cellsR]) fun j h1 h2=>?_
 have hj:j<n:=by simpa[cellsR] using h2
 simp only[cellsR,List.getElem_set,List.getElem_map,List.getElem_range,cellR]
 by_cases e:k=j
 ·subst e;simp
 ·have e':¬j=k:=fun h=>e h.symm
  simp[e,e']
theorem cellsR_pu (n:Nat) (G:List (List Int)) (cur:D) (k:Nat) (p:Nat→Bool):(cellsR n G cur k).map (D.pu1 p)=cellsR n G (cur.pu1 p) k:=by
 unfold cellsR
 rw[List.map_map]
 refine List.map_congr_left fun j _=>?_
 simp only[Function.comp,cellR]
 split
 ·rfl
 ·split<;>rfl
theorem tksR_part (G:List (List Int)) (cur:D) (k:Nat):∀n,D.tksL (cellsR n G cur k)=if k<n then cur.tks else []
 | 0=>rfl
 | n+1=>by
  have happ:∀a b:List D,D.tksL (a++b)=D.tksL a++D.tksL b:=fun a b=>by
   induction a with
   | nil=>rfl
   | cons x r ih=>simp only[List.cons_append,D.tksL,ih,List.append_assoc]
  have ih:=tksR_part G cur k n
  unfold cellsR at ih ⊢
  rw[List.range_succ,List.map_append,happ,ih]
  by_cases e:n=k
  ·subst e;simp[D.tksL,cellR]
  ·have h0:(cellR G cur k n).tks=[]:=by
    unfold cellR;rw[if_neg e];split<;>rfl
   simp only[List.map_cons,List.map_nil,D.tksL,h0,List.append_nil]
   by_cases h:k<n
   ·rw[if_pos h,if_pos (by omega)]
   ·rw[if_neg h,if_neg (by omega)]
theorem idsR_part (G:List (List Int)) (tk:Tk) (xs:List D) (k:Nat):∀n,D.idsL (cellsR n G (.sl tk xs) k)=[]
 | 0=>rfl
 | n+1=>by
  have happ:∀a b:List D,D.idsL (a++b)=D.idsL a++D.idsL b:=fun a b=>by
   induction a with
   | nil=>rfl
   | cons x r ih=>simp only[List.cons_append,D.idsL,ih,List.append_assoc]
  have ih:=idsR_part G tk xs k n
  unfold cellsR at ih ⊢
  rw[List.range_succ,List.map_append,happ,ih]
  have h0:(cellR G (.sl tk xs) k n).ids=[]:=by
   unfold cellR;split
   ·rfl
   ·split<;>rfl
  simp only[List.map_cons,List.map_nil,D.idsL,h0,List.append_nil]
theorem cellsR_tks {n:Nat} {G:List (List Int)} {cur:D} {k:Nat} (h:Om (k<n)):D.tksL (cellsR n G cur k)=cur.tks:=by rw[tksR_part,if_pos h.1]
theorem cellsR_tksN (n:Nat) (G:List (List Int)) (k:Nat):D.tksL (cellsR n G (.sl .nil []) k)=[]:=by rw[tksR_part];split<;>rfl
theorem cellsR_tksA (n:Nat) (G:List (List Int)) (xs:List D) (k:Nat):D.tksL (cellsR n G (.sl .any xs) k)=[]:=by rw[tksR_part];split<;>rfl
theorem cellsR_zero (n:Nat):(List.replicate n [D.sl Tk.nil []]).flatten=cellsR n [] (.sl .nil []) 0:=by
 rw[List.flatten_replicate_singleton]
 refine List.ext_getElem (by simp[cellsR]) fun j h1 h2=>?_
 simp only[cellsR,List.getElem_map,List.getElem_range,List.getElem_replicate,cellR]
 split
 ·rfl
 ·rw[if_neg (by omega)]
theorem cellsR_next {n:Nat} {G:List (List Int)} {row:List Int} {tk:Tk} {k:Nat} (hG:G.length=k) (j:Nat) (c d:D) (hc:(cellsR n G (.sl tk (row.map (.int .i64))) k)[j]?=some c) (hd:(cellsR n (G++[row]) (.sl .nil []) (k+1))[j]?=some d):D.le c d:=by
 obtain⟨hj,rfl⟩:=cellsR_get hc
 obtain⟨_,rfl⟩:=cellsR_get hd
 unfold cellR
 by_cases e:j=k
 ·subst e
  rw[if_pos rfl,if_neg (by omega),if_pos (by omega),List.getD_eq_getElem?_getD,List.getElem?_append_right (by omega),hG,Nat.sub_self]
  exact .any
 ·rw[if_neg e]
  by_cases h:j<k
  ·rw[if_pos h,if_neg (by omega),if_pos (by omega),List.getD_eq_getElem?_getD (l:=G++[row]),List.getElem?_append_left (by omega),←List.getD_eq_getElem?_getD]
   exact .refl _
  ·rw[if_neg h]
   split
   ·exact .refl _
   ·rw[if_neg (by omega)];exact .refl _
theorem cellsR_end {n:Nat} {G:List (List Int)} {cur:D} (hG:G.length=n):cellsR n G cur n=G.map IntsD:=by
 refine List.ext_getElem (by simp[cellsR,hG]) fun j h1 h2=>?_
 have hj:j<n:=by simpa[cellsR] using h1
 simp only[cellsR,List.getElem_map,List.getElem_range,cellR]
 rw[if_neg (by omega),if_pos hj,List.getD_eq_getElem?_getD,List.getElem?_eq_getElem (by omega)]
 rfl
theorem flat_intsG (G:List (List Int)):flat (G.map IntsD)=G.map IntsD:=by
 induction G with
 | nil=>rfl
 | cons y r ih=>simp only[List.map_cons,flat,List.flatMap_cons] at ih ⊢;rw[ih];rfl
attribute [local go_sem] cellsR_cur cellsR_set cellsR_pu cellsR_tks cellsR_tksN cellsR_tksA idsR_part cellsR_len
attribute [local irreducible] cellsR
def kp46:List (Nat×List Nat):=[(0,[1,2]),(1,[1,2,5]),(2,[1,2,5,13,14,15]),(3,[1,2,5,13,14,15,16]),(4,[1,2,5,6,7,13,14,15]),(5,[1,2,5,6,7,13,14,15,20,21,22]),(6,[1,2,5,6,7,13,14,15,20,21,22,23]),(7,[1,2,5,6,7,8,9,13,14,15,20,21,22]),(8,[1,2,5,6,7,8,13,14,15,20,21,22,30]),(9,[1,2,5,6,7,13,14,15,20,21,22]),(10,[1,2,5,6,7,13,14,15,20,21,22]),(11,[1,2,5,13,14,15]),(12,[4])]
attribute [go_sem] kp46
theorem graph_fc (x:SystemT) (hx:SystemOkP x) (P:List DepPairT) (hP:∀p∈P,PrOk x.sig p) (hl:P.length≤64):FC S 46 [] [] [] [SystemD x,.sl .any (P.map DepPairD)] (.sl .any ((graphG x P P.length).map IntsD)) [] []:=by
 have hr0:∀p,rowG x P p 0=[]:=fun p=>by unfold rowG;rfl
 refine fc_body Tryz.func46 rfl (by kernel_rfl) (by simp[Tryz.f46]) fun B=>?_
 simp only[Tryz.ntmps46,enumD,lst0,Nat.reduceAdd]
 repeat' first|refine sw_seq ?_|refine sw_block ?_|refine sw_go 0 kp46 fun K hK=>?_|((first|refine runL_go ?_|refine sw_ret (ret0 ?_)|refine sw_ret ?_);simp (disch:=(refine Om.mk ?_;omega)) only[go_sem,Tryz.results46])|(refine hK.nil ?_;clear hK K;simp only[go_sem])|(with_reducible refine And.intro (by first|omega|(simp only[lens];omega)) ?_)|fail
 rw[cellsR_zero]
 refine sw_loopT (ι:=Nat) (fun i=>[(15,.int .i64 i)]) (fun i=>[(12,cellsR P.length (graphG x P i) (.sl .nil []) i)]) (fun _=>[]) (fun i=>i≤P.length) (fun i=>P.length-i) 0 (by(refine covers_mk0 rfl rfl ?_ ?_ ?_ ?_<;>simp (disch:=(refine Om.mk ?_;omega)) only[go_sem]<;>(try omega));all_goals first|rfl|exact⟨rfl,rfl⟩|trace_state) (by omega) (fun i hi=>?_)
 simp only[go_sem]
 have hgl:=graphG_len x P i
 by_cases hil:i<P.length
 ·repeat' first|((exfalso;omega))|refine sw_seq ?_|refine sw_block ?_|refine sw_skip ?_|refine sw_go 0 kp46 fun K hK=>?_|((first|refine runL_go ?_|refine sw_ret (ret0 ?_)|refine sw_ret ?_);simp (disch:=(refine Om.mk ?_;omega)) only[go_sem,Tryz.results46])|(refine hK.nil ?_;clear hK K;simp only[go_sem])|((first|refine sw_cond rfl ?_ ?_)<;>intro h<;>try simp (disch:=(refine Om.mk ?_;omega)) only[go_sem] at h)|(with_reducible refine And.intro (by first|omega|(simp only[lens];omega)) ?_)|fail
  refine sw_tokBox 12 i 40000 2 1 (cs:=cellsR P.length (graphG x P i) (.sl .nil []) i) (by simp[LS.purge,mapA,Lg.look,cellsR_pu,D.pu1]) (cellsR_at hil) (by simp (disch:=(refine Om.mk ?_;omega)) [LS.purge,LS.clean,mapA,D.pu,D.pu1,D.tks,D.tksL,cellsR_pu,cellsR_tksN]) ?_
  simp (disch:=(refine Om.mk ?_;omega)) only[go_sem]
  refine sw_loopT (ι:=Nat) (fun j=>[(22,.int .i64 j)]) (fun j=>[(12,cellsR P.length (graphG x P i) (.sl (.own 40000 2 1) ((rowG x P i j).map (.int .i64))) i)]) (fun _=>[40000]) (fun j=>j≤P.length) (fun j=>P.length-j) 0 (by rw[hr0];(refine covers_mk0 rfl rfl ?_ ?_ ?_ ?_<;>simp (disch:=(refine Om.mk ?_;omega)) only[go_sem]<;>(try omega));all_goals first|rfl|exact⟨rfl,rfl⟩|trace_state) (by omega) (fun j hj=>?_)
  simp (disch:=(refine Om.mk ?_;omega)) only[go_sem]
  have hrl:=rowG_len x P i j
  by_cases hjl:j<P.length
  ·have cN:=connected_fc x hx (P.getD i default) (P.getD j default) (hP _ (getD_mem P i hil)) (hP _ (getD_mem P j hjl))
   by_cases hc:ConnP x (P.getD i default) (P.getD j default)
   ·rw[tst_true hc] at cN
    have e:=rowG_yes hc
    repeat' first|((exfalso;omega))|refine sw_seq ?_|refine sw_block ?_|refine sw_inBlock ?_|refine sw_skip ?_|refine sw_go 0 kp46 fun K hK=>?_|((first|refine runL_go ?_|refine sw_ret (ret0 ?_)|refine sw_ret ?_);simp (disch:=(refine Om.mk ?_;omega)) only[go_sem,Tryz.results46])|(refine hK.nil ?_;clear hK K;simp only[go_sem])|((first|refine sw_cond rfl ?_ ?_)<;>intro h<;>try simp (disch:=(refine Om.mk ?_;omega)) only[go_sem] at h)|refine sw_loopEnd ?_|refine hK.c0 rfl rfl rfl (cN) rfl rfl rfl ?_|(with_reducible refine And.intro (by first|omega|(simp only[lens];omega)) ?_)|fail
    all_goals exact⟨j+1,(by rw[e];(refine covers_mk0 rfl rfl ?_ ?_ ?_ ?_<;>simp (disch:=(refine Om.mk ?_;omega)) only[go_sem]<;>(try omega));all_goals first|(simp;done)|trace_state),by omega,by omega⟩
   ·rw[tst_false hc] at cN
    have e:=rowG_no hc
    repeat' first|((exfalso;omega))|refine sw_seq ?_|refine sw_block ?_|refine sw_inBlock ?_|refine sw_skip ?_|refine sw_go 0 kp46 fun K hK=>?_|((first|refine runL_go ?_|refine sw_ret (ret0 ?_)|refine sw_ret ?_);simp (disch:=(refine Om.mk ?_;omega)) only[go_sem,Tryz.results46])|(refine hK.nil ?_;clear hK K;simp only[go_sem])|((first|refine sw_cond rfl ?_ ?_)<;>intro h<;>try simp (disch:=(refine Om.mk ?_;omega)) only[go_sem] at h)|refine sw_loopEnd ?_|refine hK.c0 rfl rfl rfl (cN) rfl rfl rfl ?_|(with_reducible refine And.intro (by first|omega|(simp only[lens];omega)) ?_)|fail
    all_goals exact⟨j+1,(by rw[e];(refine covers_mk0 rfl rfl ?_ ?_ ?_ ?_<;>simp (disch:=(refine Om.mk ?_;omega)) only[go_sem]<;>(try omega));all_goals first|(simp;done)|trace_state),by omega,by omega⟩
  ·obtain rfl:j=P.length:=by omega
   refine sw_boxLe 12 (cellsR P.length (graphG x P i++[rowG x P i P.length]) (.sl .nil []) (i+1)) rfl (by rw[cellsR_len,cellsR_len]) (cellsR_next hgl) ?_
   simp (disch:=(refine Om.mk ?_;omega)) only[go_sem]
   repeat' first|((exfalso;omega))|refine sw_seq ?_|refine sw_inBlock ?_|refine sw_go 0 kp46 fun K hK=>?_|((first|refine runL_go ?_|refine sw_ret (ret0 ?_)|refine sw_ret ?_);simp (disch:=(refine Om.mk ?_;omega)) only[go_sem,Tryz.results46])|(refine hK.nil ?_;clear hK K;simp only[go_sem])|((first|refine sw_cond rfl ?_ ?_)<;>intro h<;>try simp (disch:=(refine Om.mk ?_;omega)) only[go_sem] at h)|refine sw_exit rfl ?_|refine sw_loopEnd ?_|fail
   all_goals exact⟨i+1,(by rw[graphG_succ];(refine covers_mk0 rfl rfl ?_ ?_ ?_ ?_<;>simp (disch:=(refine Om.mk ?_;omega)) only[go_sem]<;>(try omega));all_goals first|(simp;done)|trace_state),by omega,by omega⟩
 ·obtain rfl:i=P.length:=by omega
  refine sw_freeze 5 1 .any ((graphG x P P.length).map IntsD) rfl rfl (by rw[cellsR_end hgl];exact(flat_intsG _).symm) (by rw[List.length_map,hgl]) (fun d hd=>by obtain⟨y,_,rfl⟩:=List.mem_map.1 hd;rfl) (by rw[cellsR_end hgl];intro d hd;obtain⟨y,_,rfl⟩:=List.mem_map.1 hd;rfl) (.inl rfl) ?_
  simp only[go_sem]
  repeat' first|((exfalso;omega))|refine sw_seq ?_|refine sw_go 0 kp46 fun K hK=>?_|((first|refine runL_go ?_|refine sw_ret (ret0 ?_)|refine sw_ret ?_);simp (disch:=(refine Om.mk ?_;omega)) only[go_sem,Tryz.results46])|(refine hK.nil ?_;clear hK K;simp only[go_sem])|((first|refine sw_cond rfl ?_ ?_)<;>intro h<;>try simp (disch:=(refine Om.mk ?_;omega)) only[go_sem] at h)|refine sw_exit rfl ?_|fail
end Go.Proofs.YtohnfgligddanaaGreat
end
section
namespace Go.Proofs.YtohnfgligddanaaGreat
open Go Go.Lg
set_option linter.unusedSimpArgs false
set_option linter.unusedVariables false
set_option maxHeartbeats 4000000
attribute [local irreducible] SW runL runQ runG runQG FC Ret1 toF redoL anyB addJ sumF formM
end Go.Proofs.YtohnfgligddanaaGreat
end
section
namespace Go.Proofs.YtohnfgligddanaaGreat
open Go Go.Lg
set_option linter.unusedSimpArgs false
set_option linter.unusedVariables false
set_option maxHeartbeats 4000000
attribute [local irreducible] SW runL runQ runG runQG FC Ret1 toF redoL ConnP partsR graphG
section
variable {set:List Int} {n:Nat}
theorem setPP_lt (h:SetPP set n):∀d i,i+d+1<set.length→set.getD i default<set.getD (i+d+1) default
 | 0,i,hi=>(h (i+1) hi).2 (by omega)
 | d+1,i,hi=>by
  have h1:=setPP_lt h d i (by omega)
  have h2:=(h (i+(d+1)+1) hi).2 (by omega)
  rw[show i+(d+1)+1-1=i+d+1 by omega] at h2
  omega
theorem setPP_sort (h:SetPP set n):SortP set:=by
 refine List.pairwise_iff_getElem.2 fun i j hi hj hij=>?_
 have:=setPP_lt h (j-i-1) i (by omega)
 rw[show i+(j-i-1)+1=j by omega,List.getD_eq_getElem?_getD,List.getD_eq_getElem?_getD,List.getElem?_eq_getElem hi,List.getElem?_eq_getElem hj] at this
 exact this
theorem setPP_in (h:SetPP set n):∀q∈set,0≤q∧q<n:=fun q hq=>by
 obtain⟨j,hj,rfl⟩:=List.getElem_of_mem hq
 have:=(h j hj).1
 rwa [List.getD_eq_getElem?_getD,List.getElem?_eq_getElem hj] at this
theorem setPP_nodup (h:SetPP set n):(natS set).Nodup:=by
 unfold natS
 refine List.pairwise_map.2 ((setPP_sort h).imp_of_mem fun {a b} ha hb hab=>?_)
 have h1:=setPP_in h a ha
 have h2:=setPP_in h b hb
 omega
end
theorem graph_ok {x:SystemT} (hP:PairsP x):(graphG x (allP x) (allP x).length).length=(allP x).length∧(∀i<(graphG x (allP x) (allP x).length).length,((graphG x (allP x) (allP x).length).getD i default).length≤64)∧∀i<(graphG x (allP x) (allP x).length).length,∀j<((graphG x (allP x) (allP x).length).getD i default).length,0≤((graphG x (allP x) (allP x).length).getD i default).getD j default∧((graphG x (allP x) (allP x).length).getD i default).getD j default<(allP x).length:=by
 have h64:(allP x).length≤64:=hP.2
 have hl:=graphG_len x (allP x) (allP x).length
 refine⟨hl,fun i hi=>?_,fun i hi j hj=>?_⟩
 ·rw[graphG_get x (allP x) _ i (by omega)]
  have:=rowG_len x (allP x) i (allP x).length
  omega
 ·rw[graphG_get x (allP x) _ i (by omega)] at hj ⊢
  exact rowG_mem x (allP x) i _ _ (getD_mem _ j hj)
end Go.Proofs.YtohnfgligddanaaGreat
end
section
namespace Go.Proofs.YtohnfgligddanaaGreat
open Go Go.Lg
set_option linter.unusedVariables false
def ProjP (rs proj:List Int):Prop:=(SigOkP rs∧proj.length=rs.length)∧∀f<rs.length,-1≤proj.getD f default∧proj.getD f default≤rs.getD f default-1
def pArg (rs proj t:List Int):List Int:=if proj.getD (t.getD 0 default).toNat default<0 then [] else argU rs t (proj.getD (t.getD 0 default).toNat default).toNat
theorem pArg_no {rs proj t:List Int} (h:proj.getD (t.getD 0 default).toNat default<0):pArg rs proj t=[]:=if_pos h
theorem pArg_yes {rs proj t:List Int} (h:¬proj.getD (t.getD 0 default).toNat default<0):pArg rs proj t=argU rs t (proj.getD (t.getD 0 default).toNat default).toNat:=if_neg h
theorem pArg_at {rs proj t:List Int} (hj:ProjP rs proj) (hT:TermOkP rs t) (h0:0≤t.getD 0 default):(t.getD 0 default).toNat<proj.length∧(-1≤proj.getD (t.getD 0 default).toNat default∧proj.getD (t.getD 0 default).toNat default≤2)∧(0≤proj.getD (t.getD 0 default).toNat default→(proj.getD (t.getD 0 default).toNat default).toNat<(arS rs (t.getD 0 default)).toNat):=by
 have hl:=hT.low (a:=0) hT.2.1.1
 have hlt:(t.getD 0 default).toNat<rs.length:=by omega
 have h1:=hj.2 _ hlt
 have h2:=hj.1.1.2 _ hlt
 have h3:=arS_sym (rs:=rs) (n:=t.getD 0 default) ⟨h0,by omega⟩
 have h4:=hj.1.2
 refine⟨by omega,by omega,fun h=>?_⟩
 rw[h3];omega
theorem pArg_ok {rs proj t:List Int} (hj:ProjP rs proj) (hT:TermOkP rs t) (h0:0≤t.getD 0 default) (h:pArg rs proj t≠[]):TermOkP rs (pArg rs proj t):=by
 obtain⟨h1,h2,h3⟩:=pArg_at hj hT h0
 rcases Classical.em (proj.getD (t.getD 0 default).toNat default<0) with hn|hn
 ·exact absurd (pArg_no hn) h
 ·rw[pArg_yes hn]
  exact(argU_ok hT (h3 (by omega))).1
theorem hasSub_zero {rs t u:List Int} (hT:TermOkP rs t):HasSub rs t 0 u↔t=u∨HasSub rs t 1 u:=by
 constructor
 ·rintro⟨a,⟨_,h1⟩,h2⟩
  rcases Nat.eq_zero_or_pos a with rfl|ha
  ·rw[subS_zeroU hT] at h2;exact .inl h2
  ·exact .inr ⟨a,⟨ha,h1⟩,h2⟩
 ·rintro (rfl|⟨a,⟨_,h1⟩,h2⟩)
  ·exact⟨0,⟨Nat.le_refl _,hT.2.1.1⟩,subS_zeroU hT⟩
  ·exact⟨a,⟨Nat.zero_le _,h1⟩,h2⟩
def JLess (rs proj:List Int) (p:DepPairT):Prop:=(pArg rs proj p.l≠[]∧pArg rs proj p.r≠[])∧HasSub rs (pArg rs proj p.l) 1 (pArg rs proj p.r)
def JMost (rs proj:List Int) (p:DepPairT):Prop:=(pArg rs proj p.l≠[]∧pArg rs proj p.r≠[])∧(pArg rs proj p.l=pArg rs proj p.r∨HasSub rs (pArg rs proj p.l) 1 (pArg rs proj p.r))
open Classical in
noncomputable def jL (rs:List Int) (P:List DepPairT) (set proj:List Int):Nat→List Int
 | 0=>[]
 | i+1=>if JLess rs proj (P.getD (set.getD i default).toNat default) then jL rs P set proj i++[set.getD i default] else jL rs P set proj i
theorem jL_yes {rs:List Int} {P:List DepPairT} {set proj:List Int} {i:Nat} (h:JLess rs proj (P.getD (set.getD i default).toNat default)):jL rs P set proj (i+1)=jL rs P set proj i++[set.getD i default]:=if_pos h
theorem jL_no {rs:List Int} {P:List DepPairT} {set proj:List Int} {i:Nat} (h:¬JLess rs proj (P.getD (set.getD i default).toNat default)):jL rs P set proj (i+1)=jL rs P set proj i:=if_neg h
theorem jL_len (rs:List Int) (P:List DepPairT) (set proj:List Int):∀i,(jL rs P set proj i).length≤i
 | 0=>Nat.le_refl _
 | i+1=>by
  have ih:=jL_len rs P set proj i
  by_cases h:JLess rs proj (P.getD (set.getD i default).toNat default)
  ·rw[jL_yes h,List.length_append];simp;omega
  ·rw[jL_no h];omega
def JAll (rs:List Int) (P:List DepPairT) (set proj:List Int):Prop:=∀i<set.length,JMost rs proj (P.getD (set.getD i default).toNat default)
open Classical in
noncomputable def jR (rs:List Int) (P:List DepPairT) (set proj:List Int):List Int×Bool:=if JAll rs P set proj then (jL rs P set proj set.length,true) else ([],false)
theorem jR_yes {rs:List Int} {P:List DepPairT} {set proj:List Int} (h:JAll rs P set proj):jR rs P set proj=(jL rs P set proj set.length,true):=if_pos h
theorem jR_no {rs:List Int} {P:List DepPairT} {set proj:List Int} (h:¬JAll rs P set proj):jR rs P set proj=([],false):=if_neg h
def ProjectP (x:SystemT) (set proj:List Int):Prop:=(PairsP x∧SetPP set (allP x).length)∧ProjP x.sig proj
open Classical in
noncomputable def projR (x:SystemT) (set proj:List Int):List Int×Bool:=if ProjectP x set proj then jR x.sig (allP x) set proj else ([],false)
theorem projR_yes {x:SystemT} {set proj:List Int} (h:ProjectP x set proj):projR x set proj=jR x.sig (allP x) set proj:=if_pos h
theorem projR_no {x:SystemT} {set proj:List Int} (h:¬ProjectP x set proj):projR x set proj=([],false):=if_neg h
def lessL (set gone:List Int):List Int:=set.filter fun n=>decide (n∉gone)
theorem less_yes {set gone:List Int} {i:Nat} (hi:i<set.length) (h:set.getD i default∉gone):lessL (set.take (i+1)) gone=lessL (set.take i) gone++[set.getD i default]:=by
 unfold lessL
 rw[take_snocP hi,List.filter_append]
 simp only[List.filter_cons,List.filter_nil,decide_eq_true h,if_true]
theorem less_no {set gone:List Int} {i:Nat} (hi:i<set.length) (h:¬set.getD i default∉gone):lessL (set.take (i+1)) gone=lessL (set.take i) gone:=by
 unfold lessL
 rw[take_snocP hi,List.filter_append]
 simp only[List.filter_cons,List.filter_nil,decide_eq_false h,Bool.false_eq_true,if_false,List.append_nil]
theorem less_len (set gone:List Int):(lessL set gone).length≤set.length:=List.length_filter_le _ _
theorem setPP_of {set:List Int} {n:Nat} (hs:SortP set) (h:∀q∈set,0≤q∧q<n):SetPP set n:=fun i hi=>by
 refine⟨h _ (getD_mem set i hi),fun h0=>?_⟩
 have:=List.pairwise_iff_getElem.1 hs (i-1) i (by omega) hi (by omega)
 rw[List.getD_eq_getElem?_getD,List.getD_eq_getElem?_getD,List.getElem?_eq_getElem hi,List.getElem?_eq_getElem (by omega)]
 exact this
theorem less_set {set gone:List Int} {n:Nat} (h:SetPP set n):SetPP (lessL set gone) n :=
 setPP_of ((setPP_sort h).filter _) fun q hq=>setPP_in h q (List.mem_filter.1 hq).1
theorem parts_set {edges:List (List Int)} {set:List Int} {n:Nat} (h:SetPP set n):∀y∈partsR edges set,SetPP y n:=by
 have key:∀(C:Nat→Nat→Bool) i,∀y∈cmp C set i,∃p qs j,y=prtJ C p qs j∧qs.Sublist set:=by
  intro C i
  induction i with
  | zero=>intro y hy;cases hy
  | succ i ih =>
   intro y hy
   unfold cmp at hy
   split at hy
   ·rcases List.mem_append.1 hy with hy|hy
    ·exact ih y hy
    ·rw[List.mem_singleton.1 hy];exact⟨_,_,_,rfl,List.drop_sublist _ _⟩
   ·exact ih y hy
 intro y hy
 obtain⟨p,qs,j,rfl,hq⟩:=key _ _ y hy
 have hsub:(prtJ (wM (natS set) (r0 edges set) set.length) p qs j).Sublist set:=((List.filter_sublist).trans (List.take_sublist j qs)).trans hq
 exact setPP_of ((setPP_sort h).sublist hsub) fun q hq'=>setPP_in h q (hsub.subset hq')
theorem parts_len {edges:List (List Int)} {set:List Int}:(partsR edges set).length≤set.length:=cmp_len _ _ _
end Go.Proofs.YtohnfgligddanaaGreat
end
section
namespace Go.Proofs.YtohnfgligddanaaGreat
open Go Go.Lg
set_option linter.unusedVariables false
noncomputable def goneR (x:SystemT) (s:PairStepT):List Int×Bool:=if s.proj≠[]∧s.polys≠[] then ([],false) else if s.proj≠[] then projR x s.part s.proj else weighR x s.part s.polys
theorem goneR_two {x:SystemT} {s:PairStepT} (h1:s.proj≠[]) (h2:s.polys≠[]):goneR x s=([],false):=if_pos ⟨h1,h2⟩
theorem goneR_proj {x:SystemT} {s:PairStepT} (h1:s.proj≠[]) (h2:s.polys=[]):goneR x s=projR x s.part s.proj:=by
 unfold goneR
 rw[if_neg (fun h=>h.2 h2),if_pos h1]
theorem goneR_poly {x:SystemT} {s:PairStepT} (h1:s.proj=[]):goneR x s=weighR x s.part s.polys:=by
 unfold goneR
 rw[if_neg (fun h=>h.1 h1),if_neg (fun h=>h h1)]
def StepP (x:SystemT) (q:List Int) (s:PairStepT):Prop:=(q=s.part∧(goneR x s).2=true)∧(goneR x s).1≠[]∧(goneR x s).1=s.gone
open Classical in
noncomputable def stepT (x:SystemT) (gr:List (List Int)) (s:PairStepT):List (List Int)→Option (List (List Int))
 | []=>none
 | q::r=>if StepP x q s then some (partsR gr (lessL s.part (goneR x s).1)++r) else none
theorem stepT_nil {x:SystemT} {gr:List (List Int)} {s:PairStepT}:stepT x gr s []=none:=rfl
theorem stepT_yes {x:SystemT} {gr:List (List Int)} {s:PairStepT} {q:List Int} {r:List (List Int)} (h:StepP x q s):stepT x gr s (q::r)=some (partsR gr (lessL s.part (goneR x s).1)++r):=if_pos h
theorem stepT_no {x:SystemT} {gr:List (List Int)} {s:PairStepT} {q:List Int} {r:List (List Int)} (h:¬StepP x q s):stepT x gr s (q::r)=none:=if_neg h
noncomputable def trT (x:SystemT) (gr:List (List Int)) (n:Nat) (list:List PairStepT):Nat→Option (List (List Int))
 | 0=>some (partsR gr (upTo n))
 | i+1=>(trT x gr n list i).bind (stepT x gr (list.getD i default))
section
variable {x:SystemT} {gr:List (List Int)} {n:Nat} {list:List PairStepT}
theorem trT_s {i:Nat} {T:List (List Int)} (h:trT x gr n list i=some T):trT x gr n list (i+1)=stepT x gr (list.getD i default) T:=by
 show (trT x gr n list i).bind _=_
 rw[h];rfl
theorem trT_none {i:Nat} (h:trT x gr n list i=none):∀d,trT x gr n list (i+d)=none
 | 0=>h
 | d+1=>by
  show (trT x gr n list (i+d)).bind _=none
  rw[trT_none h d];rfl
theorem upTo_setPP (n:Nat):SetPP (upTo n) n:=setPP_of (sort_upTo n) fun q hq=>(mem_upTo n q).1 hq
def TodoOk (n i:Nat) (T:List (List Int)):Prop:=(∀y∈T,SetPP y n)∧T.length≤64*(i+1)
theorem todo_z (hn:n≤64):TodoOk n 0 (partsR gr (upTo n)):=by
 refine⟨parts_set (upTo_setPP n),?_⟩
 have:=@parts_len gr (upTo n)
 have h:(upTo n).length=n:=by simp[upTo]
 omega
theorem todo_s (hn:n≤64) {i:Nat} {q:List Int} {r:List (List Int)} (h:TodoOk n i (q::r)) {g:List Int}:TodoOk n (i+1) (partsR gr (lessL q g)++r):=by
 have hq:=h.1 q List.mem_cons_self
 refine⟨fun y hy=>?_,?_⟩
 ·rcases List.mem_append.1 hy with hy|hy
  ·exact parts_set (less_set hq) y hy
  ·exact h.1 y (List.mem_cons_of_mem _ hy)
 ·have h1:=@parts_len gr (lessL q g)
  have h2:=less_len q g
  have h3:=set_le hq
  have h4:=h.2
  rw[List.length_append]
  rw[List.length_cons] at h4
  omega
end
def TraceP (x:SystemT) (gr:List (List Int)) (list:List PairStepT):Prop:=(PairsP x∧list.length≤64)∧trT x gr (allP x).length list list.length=some []
theorem trace_end {x:SystemT} {gr:List (List Int)} {list:List PairStepT} {i:Nat} (hi:i<list.length) (h:trT x gr (allP x).length list (i+1)=none):¬TraceP x gr list:=fun⟨_,e⟩=>by
 have:=trT_none h (list.length-(i+1))
 rw[show i+1+(list.length-(i+1))=list.length by omega,e] at this
 cases this
theorem step_yes {x:SystemT} {gr:List (List Int)} {n:Nat} {list:List PairStepT} {i:Nat} {q:List Int} {r:List (List Int)} (hT:trT x gr n list i=some (q::r)) {g:List Int} {ok:Bool} (hG:goneR x (list.getD i default)=(g,ok)) (h1:q=(list.getD i default).part) (h2:(list.getD i default).gone≠[]) (h3:ok=true) (h4:g=(list.getD i default).gone):trT x gr n list (i+1)=some (partsR gr (lessL (list.getD i default).part g)++r):=by
 rw[trT_s hT,stepT_yes ?_,hG]
 unfold StepP
 rw[hG]
 exact⟨⟨h1,h3⟩,by rw[h4];exact h2,h4⟩
theorem step_no {x:SystemT} {gr:List (List Int)} {list:List PairStepT} {i:Nat} (hi:i<list.length) {q:List Int} {r:List (List Int)} (hT:trT x gr (allP x).length list i=some (q::r)) (h:¬StepP x q (list.getD i default)):¬TraceP x gr list:=trace_end hi (by rw[trT_s hT];exact stepT_no h)
theorem trace_all {x:SystemT} {gr:List (List Int)} {list:List PairStepT} {T:List (List Int)} (hx:PairsP x) (hl:list.length≤64) (hT:trT x gr (allP x).length list list.length=some T):TraceP x gr list↔T=[]:=by
 constructor
 ·intro h
  have:=h.2
  rw[hT] at this
  injection this
 ·intro h
  exact⟨⟨hx,hl⟩,by rw[hT,h]⟩
theorem marked_nil {rs:List Int}:¬MarkedP rs []:=fun h=>by
 have h1:=h.1
 have h2:=h.2.1.1.1.1
 simp only[List.length_nil] at h1
 omega
end Go.Proofs.YtohnfgligddanaaGreat
end
section
namespace Go.Proofs.YtohnfgligddanaaGreat
open Go Go.Lg
set_option linter.unusedSimpArgs false
set_option linter.unusedVariables false
set_option maxHeartbeats 4000000
attribute [local irreducible] SW runL runQ runG runQG FC Ret1 toF redoL anyB addJ sumF formM
def kp70:List (Nat×List Nat):=[(0,[1,2]),(1,[1,2,16]),(2,[4]),(3,[1,2,5]),(4,[1,2,5,20]),(6,[1,2,5,34]),(7,[4]),(5,[1,2,5]),(8,[4])]
attribute [go_sem] kp70
theorem specProjOk_fc (rs proj:List Int):FC S 70 [] [] [] [.agg [.sl .any (rs.map (.int .i64))],.sl .any (proj.map (.int .i64))] (.bool (tst (ProjP rs proj))) [] []:=by
 refine fc_body Tryz.func70 rfl (by kernel_rfl) (by simp[Tryz.f70]) fun B=>?_
 simp only[Tryz.ntmps70,enumD,lst0,Nat.reduceAdd]
 refine sw_bnd_agg 0 0 rfl rfl fun hb0_0=>?_
 simp only[D.bnd,List.length_map] at hb0_0
 refine sw_bnd 1 rfl fun hb1=>?_
 simp only[D.bnd,List.length_map] at hb1
 repeat' first|refine sw_seq ?_|refine sw_block ?_|refine sw_skip ?_|refine sw_go 0 kp70 fun K hK=>?_|((first|refine runL_go ?_|refine runQ_go ?_|refine sw_ret (ret0 ?_)|refine sw_ret ?_);simp (disch:=(refine Om.mk ?_;omega)) only[go_sem,Tryz.results70])|(refine hK.nil ?_;clear hK K;simp only[go_sem])|((first|refine runG_fork rfl rfl rfl rfl rfl ?_ ?_|refine runQG_fork rfl rfl rfl rfl rfl ?_ ?_|refine sw_cond rfl ?_ ?_)<;>intro h<;>try simp (disch:=(refine Om.mk ?_;omega)) only[go_sem] at h)|refine hK.c0 rfl rfl rfl (specSigOk_fc _ _) rfl rfl rfl ?_|fail
 all_goals try exact fun h=>absurd h.1.1 (by assumption)
 all_goals try exact fun h=>absurd h.1.2 (by omega)
 refine sw_loopU (ι:=Nat) (fun i=>[(5,.int .i64 i)]) (fun _=>[]) (fun i=>i≤proj.length∧(∀j<i,-1≤proj.getD j default∧proj.getD j default≤rs.getD j default-1)) (fun i=>proj.length-i) 0 (by(refine covers_mk0 rfl rfl ?_ ?_ ?_ ?_<;>simp (disch:=(refine Om.mk ?_;omega)) only[go_sem]<;>(try omega))) ⟨by omega,?_⟩ (fun i ⟨hi,hj⟩=>?_)
 rotate_left
 simp only[go_sem]
 ·have hsg:=(by assumption:SigOkP rs).2
  by_cases hil:i<proj.length
  ·have h3:=hsg i (by omega)
   repeat' first|((exfalso;omega))|refine sw_seq ?_|refine sw_block ?_|refine sw_inBlock ?_|refine sw_skip ?_|refine sw_go 0 kp70 fun K hK=>?_|refine sw_goD kp70 (by kernel_rfl) fun K hK=>?_|((first|refine runL_go ?_|refine runQ_go ?_|refine sw_ret (ret0 ?_)|refine sw_ret ?_);simp (disch:=(refine Om.mk ?_;omega)) only[go_sem,Tryz.results70])|(refine hK.nil ?_;clear hK K;simp only[go_sem])|((first|refine runG_fork rfl rfl rfl rfl rfl ?_ ?_|refine runQG_fork rfl rfl rfl rfl rfl ?_ ?_|refine sw_cond rfl ?_ ?_)<;>intro h<;>try simp (disch:=(refine Om.mk ?_;omega)) only[go_sem] at h)|refine sw_loopEnd ?_|refine hK.c0 rfl rfl rfl (l1In_fc _ _ _) rfl rfl rfl ?_|(with_reducible refine And.intro (by first|omega|(simp only[lens];omega)) ?_)|fail
   ·exact fun hO=>h (hO.2 i (by omega))
   ·exact⟨i+1,(by(refine covers_mk0 rfl rfl ?_ ?_ ?_ ?_<;>simp (disch:=(refine Om.mk ?_;omega)) only[go_sem]<;>(try omega))),⟨by omega,upto_succ hj h⟩,by omega⟩
  ·repeat' first|((exfalso;omega))|refine sw_seq ?_|refine sw_go 0 kp70 fun K hK=>?_|((first|refine runL_go ?_|refine runQ_go ?_|refine sw_ret (ret0 ?_)|refine sw_ret ?_);simp (disch:=(refine Om.mk ?_;omega)) only[go_sem,Tryz.results70])|(refine hK.nil ?_;clear hK K;simp only[go_sem])|((first|refine runG_fork rfl rfl rfl rfl rfl ?_ ?_|refine runQG_fork rfl rfl rfl rfl rfl ?_ ?_|refine sw_cond rfl ?_ ?_)<;>intro h<;>try simp (disch:=(refine Om.mk ?_;omega)) only[go_sem] at h)|refine sw_exit rfl ?_|fail
   exact⟨⟨by assumption,by omega⟩,fun j hj'=>hj j (by omega)⟩
 ·intro j hj';omega
def kp50:List (Nat×List Nat):=[(0,[1,2]),(1,[1,2,17]),(2,[4]),(3,[2,18,19,20]),(4,[2,18,19,20,21]),(5,[2,5,6,18,19,20]),(6,[2,18,19,20,35]),(7,[4]),(8,[2,18,19,20]),(9,[4])]
attribute [go_sem] kp50
theorem implProjOk_fc (rs proj:List Int):FC S 50 [] [] [] [.agg [.sl .any (rs.map (.int .i64))],.sl .any (proj.map (.int .i64))] (.bool (tst (ProjP rs proj))) [] []:=by
 refine fc_body Tryz.func50 rfl (by kernel_rfl) (by simp[Tryz.f50]) fun B=>?_
 simp only[Tryz.ntmps50,enumD,lst0,Nat.reduceAdd]
 refine sw_bnd_agg 0 0 rfl rfl fun hb0_0=>?_
 simp only[D.bnd,List.length_map] at hb0_0
 refine sw_bnd 1 rfl fun hb1=>?_
 simp only[D.bnd,List.length_map] at hb1
 repeat' first|refine sw_seq ?_|refine sw_block ?_|refine sw_skip ?_|refine sw_go 0 kp50 fun K hK=>?_|((first|refine runL_go ?_|refine sw_ret (ret0 ?_)|refine sw_ret ?_);simp (disch:=(refine Om.mk ?_;omega)) only[go_sem,Tryz.results50])|(refine hK.nil ?_;clear hK K;simp only[go_sem])|((first|refine runG_fork rfl rfl rfl rfl rfl ?_ ?_|refine sw_cond rfl ?_ ?_)<;>intro h<;>try simp (disch:=(refine Om.mk ?_;omega)) only[go_sem] at h)|refine hK.c0 rfl rfl rfl (implSigOk_fc _ _) rfl rfl rfl ?_|fail
 all_goals try exact fun h=>absurd h.1.1 (by assumption)
 all_goals try exact fun h=>absurd h.1.2 (by omega)
 refine sw_loopU (ι:=Nat) (fun i=>[(20,.int .i64 i)]) (fun _=>[]) (fun i=>i≤proj.length∧(∀j<i,-1≤proj.getD j default∧proj.getD j default≤rs.getD j default-1)) (fun i=>proj.length-i) 0 (by(refine covers_mk0 rfl rfl ?_ ?_ ?_ ?_<;>simp (disch:=(refine Om.mk ?_;omega)) only[go_sem]<;>(try omega))) ⟨by omega,?_⟩ (fun i ⟨hi,hj⟩=>?_)
 rotate_left
 simp only[go_sem]
 ·have hsg:=(by assumption:SigOkP rs).2
  by_cases hil:i<proj.length
  ·have h3:=hsg i (by omega)
   repeat' first|((exfalso;omega))|refine sw_seq ?_|refine sw_block ?_|refine sw_inBlock ?_|refine sw_skip ?_|refine sw_go 0 kp50 fun K hK=>?_|((first|refine runL_go ?_|refine sw_ret (ret0 ?_)|refine sw_ret ?_);simp (disch:=(refine Om.mk ?_;omega)) only[go_sem,Tryz.results50])|(refine hK.nil ?_;clear hK K;simp only[go_sem])|((first|refine runG_fork rfl rfl rfl rfl rfl ?_ ?_|refine sw_cond rfl ?_ ?_)<;>intro h<;>try simp (disch:=(refine Om.mk ?_;omega)) only[go_sem] at h)|refine sw_loopEnd ?_|(with_reducible refine And.intro (by first|omega|(simp only[lens];omega)) ?_)|fail
   all_goals first|exact fun hO=>absurd (hO.2 i (by omega)) (by omega)|exact⟨i+1,(by(refine covers_mk0 rfl rfl ?_ ?_ ?_ ?_<;>simp (disch:=(refine Om.mk ?_;omega)) only[go_sem]<;>(try omega))),⟨by omega,upto_succ hj (by omega)⟩,by omega⟩|skip
  ·repeat' first|((exfalso;omega))|refine sw_seq ?_|refine sw_go 0 kp50 fun K hK=>?_|((first|refine runL_go ?_|refine sw_ret (ret0 ?_)|refine sw_ret ?_);simp (disch:=(refine Om.mk ?_;omega)) only[go_sem,Tryz.results50])|(refine hK.nil ?_;clear hK K;simp only[go_sem])|((first|refine runG_fork rfl rfl rfl rfl rfl ?_ ?_|refine sw_cond rfl ?_ ?_)<;>intro h<;>try simp (disch:=(refine Om.mk ?_;omega)) only[go_sem] at h)|refine sw_exit rfl ?_|fail
   exact⟨⟨by assumption,by omega⟩,fun j hj'=>hj j (by omega)⟩
 ·intro j hj';omega
def kp71:List (Nat×List Nat):=[(0,[1,2,3]),(1,[1,2,3,13]),(2,[6]),(3,[6])]
attribute [go_sem] kp71
theorem l18Arg_fc (rs proj t:List Int) (hj:ProjP rs proj) (hT:TermOkP rs t) (h0:0≤t.getD 0 default):FC S 71 [] [] [] [.agg [.sl .any (rs.map (.int .i64))],.sl .any (proj.map (.int .i64)),.sl .any (t.map (.int .i64))] (.sl .any ((pArg rs proj t).map (.int .i64))) [] []:=by
 obtain⟨h1,h2,h3⟩:=pArg_at hj hT h0
 have hl:=hT.2.1
 have hpl:=partsU_len rs t (arS rs (t.getD 0 default)).toNat
 by_cases hn:proj.getD (t.getD 0 default).toNat default<0
 ·rw[pArg_no hn]
  refine fc_body Tryz.func71 rfl (by kernel_rfl) (by simp[Tryz.f71]) fun B=>?_
  simp only[Tryz.ntmps71,enumD,lst0,Nat.reduceAdd]
  repeat' first|((exfalso;omega))|refine sw_seq ?_|refine sw_go 0 kp71 fun K hK=>?_|((first|refine runL_go ?_|refine runQ_go ?_|refine sw_ret (ret0 ?_)|refine sw_ret ?_);simp (disch:=(refine Om.mk ?_;omega)) only[go_sem,Tryz.results71])|(refine hK.nil ?_;clear hK K;simp only[go_sem])|((first|refine sw_cond rfl ?_ ?_)<;>intro h<;>try simp (disch:=(refine Om.mk ?_;omega)) only[go_sem] at h)|(with_reducible refine And.intro (by first|omega|(simp only[lens];omega)) ?_)|fail
 ·have h4:=h3 (by omega)
  rw[pArg_yes hn,←partsU_get rs t h4]
  refine fc_body Tryz.func71 rfl (by kernel_rfl) (by simp[Tryz.f71]) fun B=>?_
  simp only[Tryz.ntmps71,enumD,lst0,Nat.reduceAdd]
  repeat' first|((exfalso;omega))|refine sw_seq ?_|refine sw_skip ?_|refine sw_go 0 kp71 fun K hK=>?_|refine sw_goD kp71 (by kernel_rfl) fun K hK=>?_|((first|refine runL_go ?_|refine runQ_go ?_|refine sw_ret (ret0 ?_)|refine sw_ret ?_);simp (disch:=(refine Om.mk ?_;omega)) only[go_sem,Tryz.results71])|(refine hK.nil ?_;clear hK K;simp only[go_sem])|((first|refine sw_cond rfl ?_ ?_)<;>intro h<;>try simp (disch:=(refine Om.mk ?_;omega)) only[go_sem] at h)|refine hK.c0 rfl rfl rfl (l13Parts_fc rs t hT) rfl rfl rfl ?_|(with_reducible refine And.intro (by first|omega|(simp only[lens];omega)) ?_)|fail
def kp82:List (Nat×List Nat):=[(0,[1,2,3]),(1,[2,3,7]),(2,[2,3,7,15]),(3,[6]),(4,[6])]
attribute [go_sem] kp82
theorem projected_fc (rs proj t:List Int) (hj:ProjP rs proj) (hT:TermOkP rs t) (h0:0≤t.getD 0 default):FC S 82 [] [] [] [.agg [.sl .any (rs.map (.int .i64))],.sl .any (proj.map (.int .i64)),.sl .any (t.map (.int .i64))] (optD (pArg rs proj t)) [] []:=by
 obtain⟨h1,h2,h3⟩:=pArg_at hj hT h0
 have hl:=hT.2.1
 have hal:=argsS_len rs t 0
 by_cases hn:proj.getD (t.getD 0 default).toNat default<0
 ·rw[pArg_no hn,show optD []=D.sl .nil [] from by simp[optD,tkN]]
  refine fc_body Tryz.func82 rfl (by kernel_rfl) (by simp[Tryz.f82]) fun B=>?_
  simp only[Tryz.ntmps82,enumD,lst0,Nat.reduceAdd]
  repeat' first|((exfalso;omega))|refine sw_seq ?_|refine sw_go 0 kp82 fun K hK=>?_|((first|refine runL_go ?_|refine runQ_go ?_|refine sw_ret (ret0 ?_)|refine sw_ret ?_);simp (disch:=(refine Om.mk ?_;omega)) only[go_sem,Tryz.results82])|(refine hK.nil ?_;clear hK K;simp only[go_sem])|((first|refine sw_cond rfl ?_ ?_)<;>intro h<;>try simp (disch:=(refine Om.mk ?_;omega)) only[go_sem] at h)|(with_reducible refine And.intro (by first|omega|(simp only[lens];omega)) ?_)|fail
 ·have h4:=h3 (by omega)
  have hU:=argU_ok hT h4
  have hne:argU rs t (proj.getD (t.getD 0 default).toNat default).toNat≠[]:=fun e=>by
   have:=hU.1.2.1.1
   rw[e] at this;cases this
  rw[pArg_yes hn,show optD (argU rs t (proj.getD (t.getD 0 default).toNat default).toNat)=D.sl .any ((argU rs t (proj.getD (t.getD 0 default).toNat default).toNat).map (.int .i64)) from by simp only[optD,tkN,if_neg hne]]
  have hg:=argsS_get rs t 0 _ h4
  have hlt:=(nthB_lt hT (show 0<t.length from hT.2.1.1) h4).2
  have cS:=subAt_fc .any .any rs t _ hT hlt
  unfold argU
  simp only[Nat.zero_add] at hg hlt cS
  rw[←hg] at hlt cS ⊢
  refine fc_body Tryz.func82 rfl (by kernel_rfl) (by simp[Tryz.f82]) fun B=>?_
  simp only[Tryz.ntmps82,enumD,lst0,Nat.reduceAdd]
  repeat' first|((exfalso;omega))|refine sw_seq ?_|refine sw_skip ?_|refine sw_go 0 kp82 fun K hK=>?_|refine sw_goD kp82 (by kernel_rfl) fun K hK=>?_|((first|refine runL_go ?_|refine runQ_go ?_|refine sw_ret (ret0 ?_)|refine sw_ret ?_);simp (disch:=(refine Om.mk ?_;omega)) only[go_sem,Tryz.results82])|(refine hK.nil ?_;clear hK K;simp only[go_sem])|((first|refine sw_cond rfl ?_ ?_)<;>intro h<;>try simp (disch:=(refine Om.mk ?_;omega)) only[go_sem] at h)|refine hK.c0 rfl rfl rfl (argsAt_fc .any .any rs t 0 hT (by omega)) rfl rfl rfl ?_|refine hK.c0 rfl rfl rfl (cS) rfl rfl rfl ?_|(with_reducible refine And.intro (by first|omega|(simp only[lens];omega)) ?_)|fail
theorem pair_args {rs proj:List Int} {p:DepPairT} (hp:PrOk rs p) (hj:ProjP rs proj):(pArg rs proj p.l≠[]→TermOkP rs (pArg rs proj p.l))∧(pArg rs proj p.r≠[]→TermOkP rs (pArg rs proj p.r)):=⟨pArg_ok hj hp.1.1 hp.2.1,pArg_ok hj hp.1.2 hp.2.2⟩
theorem jmost_no {rs proj:List Int} {p:DepPairT} (hp:PrOk rs p) (hj:ProjP rs proj):JMost rs proj p↔(pArg rs proj p.l≠[]∧pArg rs proj p.r≠[])∧HasSub rs (pArg rs proj p.l) 0 (pArg rs proj p.r):=by
 unfold JMost
 constructor
 ·rintro⟨h1,h2⟩;exact⟨h1,(hasSub_zero ((pair_args hp hj).1 h1.1)).2 h2⟩
 ·rintro⟨h1,h2⟩;exact⟨h1,(hasSub_zero ((pair_args hp hj).1 h1.1)).1 h2⟩
theorem hasSub0_fc (rs t u:List Int) (hT:TermOkP rs t):FC S 83 [] [] [] [.agg [.sl .any (rs.map (.int .i64))],.sl .any (t.map (.int .i64)),.int .i64 0,.sl .any (u.map (.int .i64))] (.bool (tst (HasSub rs t 0 u))) [] []:=by
 have hl:=hT.2.1
 refine fc_body Tryz.func83 rfl (by kernel_rfl) (by simp[Tryz.f83]) fun B=>?_
 simp only[Tryz.ntmps83,enumD,lst0,Nat.reduceAdd]
 repeat' first|refine sw_seq ?_|refine sw_block ?_|refine sw_go 0 kp83 fun K hK=>?_|((first|refine runL_go ?_|refine sw_ret (ret0 ?_)|refine sw_ret ?_);simp (disch:=(refine Om.mk ?_;omega)) only[go_sem,Tryz.results83])|(refine hK.nil ?_;clear hK K;simp only[go_sem])|fail
 refine sw_loopU (ι:=Nat) (fun p=>[(9,.int .i64 p)]) (fun p=>[]) (fun p=>p≤t.length∧∀j<p,subS rs t j≠u) (fun p=>t.length-p) 0 (by(refine covers_mk0 rfl rfl ?_ ?_ ?_ ?_<;>simp (disch:=(refine Om.mk ?_;omega)) only[go_sem]<;>(try omega))) ?_ (fun p hp=>?_)
 rotate_left
 simp only[go_sem]
 obtain⟨hp,hj⟩:=hp
 by_cases hil:p<t.length
 ·repeat' first|((exfalso;omega))|refine sw_seq ?_|refine sw_block ?_|refine sw_inBlock ?_|refine sw_skip ?_|refine sw_go 0 kp83 fun K hK=>?_|((first|refine runL_go ?_|refine sw_ret (ret0 ?_)|refine sw_ret ?_);simp (disch:=(refine Om.mk ?_;omega)) only[go_sem,Tryz.results83])|(refine hK.nil ?_;clear hK K;simp only[go_sem])|((first|refine sw_cond rfl ?_ ?_)<;>intro h<;>try simp (disch:=(refine Om.mk ?_;omega)) only[go_sem] at h)|refine sw_loopEnd ?_|refine hK.c0 rfl rfl rfl (subAt_fc .any .any rs t p hT hil) rfl rfl rfl ?_|refine hK.c0 rfl rfl rfl (equalInt64_fc _ _ (subS rs t p) u) rfl rfl rfl ?_|fail
  ·exact⟨p,⟨Nat.zero_le _,hil⟩,h⟩
  ·exact⟨p+1,(by(refine covers_mk0 rfl rfl ?_ ?_ ?_ ?_<;>simp (disch:=(refine Om.mk ?_;omega)) only[go_sem]<;>(try omega))),⟨by omega,upto_succ hj h⟩,by omega⟩
 ·repeat' first|((exfalso;omega))|refine sw_seq ?_|refine sw_go 0 kp83 fun K hK=>?_|((first|refine runL_go ?_|refine sw_ret (ret0 ?_)|refine sw_ret ?_);simp (disch:=(refine Om.mk ?_;omega)) only[go_sem,Tryz.results83])|(refine hK.nil ?_;clear hK K;simp only[go_sem])|((first|refine sw_cond rfl ?_ ?_)<;>intro h<;>try simp (disch:=(refine Om.mk ?_;omega)) only[go_sem] at h)|refine sw_exit rfl ?_|fail
  exact fun⟨a,h1,e⟩=>hj a (by omega) e
 ·exact⟨by omega,fun j h1=>absurd h1 (by omega)⟩
end Go.Proofs.YtohnfgligddanaaGreat
end
section
namespace Go.Proofs.YtohnfgligddanaaGreat
open Go Go.Lg
set_option linter.unusedSimpArgs false
set_option linter.unusedVariables false
set_option maxHeartbeats 4000000
attribute [local irreducible] SW runL runQ runG runQG FC Ret1 toF redoL anyB addJ sumF formM
def kp39:List (Nat×List Nat):=[(0,[1,2,3]),(1,[1,2,3,8,9]),(2,[1,2,3,8,35]),(3,[6,7]),(4,[1,2,3,8,10]),(5,[1,2,3,8,10,11]),(6,[1,2,3,8,10,11,41]),(8,[1,2,3,8,10,11,12]),(9,[1,2,3,8,10,11,12,13]),(10,[1,2,3,8,10,11,12,13,14]),(11,[1,2,3,8,10,11,14,95]),(12,[6,7]),(13,[1,2,3,8,10,11,97]),(14,[1,2,3,8,10,11]),(7,[1,2,3,8,10,11]),(15,[6,7])]
attribute [go_sem] kp39
theorem specProjectedBy_fc (x:SystemT) (set proj:List Int):FC S 39 [] [] [] [SystemD x,.sl .any (set.map (.int .i64)),.sl .any (proj.map (.int .i64))] (.tup [.sl .any ((projR x set proj).1.map (.int .i64)),.bool (projR x set proj).2]) [] []:=by
 have cP:=specPairsOf_fc x
 rcases Classical.em (ProjectP x set proj) with hW|hW
 ·rw[projR_yes hW]
  obtain⟨⟨hx,hS⟩,hj⟩:=hW
  rw[pairsR_yes hx] at cP
  have h12:=hx.1.1.2
  have hsg:=hx.1.1.1.1
  have h64:(allP x).length≤64:=hx.2
  have hsl:=set_le hS
  have hat:∀i<set.length,(0≤set.getD i default∧set.getD i default<(allP x).length)∧PrOk x.sig ((allP x).getD (set.getD i default).toNat default):=fun i hi=>by
   have h:=(hS i hi).1
   exact⟨h,allP_ok hx _ (getD_mem (allP x) _ (by omega))⟩
  refine fc_body Tryz.func39 rfl (by kernel_rfl) (by simp[Tryz.f39]) fun B=>?_
  simp only[Tryz.ntmps39,enumD,lst0,Nat.reduceAdd]
  repeat' first|((exact absurd hS (by assumption)))|((exact absurd hj (by assumption)))|refine sw_seq ?_|refine sw_block ?_|refine sw_skip ?_|refine sw_go 0 kp39 fun K hK=>?_|((first|refine runL_go ?_|refine runQ_go ?_|refine sw_ret (ret0 ?_)|refine sw_ret ?_);simp (disch:=(refine Om.mk ?_;omega)) only[go_sem,Tryz.results39])|(refine hK.nil ?_;clear hK K;simp only[go_sem])|((first|refine runG_fork rfl rfl rfl rfl rfl ?_ ?_|refine runQG_fork rfl rfl rfl rfl rfl ?_ ?_|refine sw_cond rfl ?_ ?_)<;>intro h<;>try simp (disch:=(refine Om.mk ?_;omega)) only[go_sem] at h)|refine hK.c0 rfl rfl rfl (cP) rfl rfl rfl ?_|refine hK.c0 rfl rfl rfl (l18Set_fc set _ (by omega)) rfl rfl rfl ?_|refine hK.c0 rfl rfl rfl (specProjOk_fc x.sig proj) rfl rfl rfl ?_|fail
  refine sw_tok 10 105000 2 1 rfl (.inr rfl) rfl ?_
  simp only[go_sem]
  refine sw_loopT (ι:=Nat) (fun i=>[(11,.int .i64 i),(10,.sl (.own 105000 2 1) ((jL x.sig (allP x) set proj i).map (.int .i64)))]) (fun _=>[]) (fun _=>[105000]) (fun i=>i≤set.length∧∀j<i,JMost x.sig proj ((allP x).getD (set.getD j default).toNat default)) (fun i=>set.length-i) 0 (by(refine covers_mk0 rfl rfl ?_ ?_ ?_ ?_<;>simp (disch:=(refine Om.mk ?_;omega)) only[go_sem]<;>(try omega));all_goals exact⟨rfl,rfl⟩) ⟨by omega,fun j hj=>absurd hj (by omega)⟩ (fun i hi=>?_)
  obtain⟨hi,hk⟩:=hi
  simp only[go_sem]
  have hwl:=jL_len x.sig (allP x) set proj i
  by_cases hil:i<set.length
  ·have hq:=hat i hil
   have h1:=hq.1
   have ha:=pair_args hq.2 hj
   obtain⟨q,hq'⟩:∃q,(allP x).getD (set.getD i default).toNat default=q:=⟨_,rfl⟩
   rw[hq'] at hq ha
   have c1:=l18Arg_fc x.sig proj q.l hj hq.2.1.1 hq.2.2.1
   have c2:=l18Arg_fc x.sig proj q.r hj hq.2.1.2 hq.2.2.2
   have hY:JLess x.sig proj q→jL x.sig (allP x) set proj (i+1)=jL x.sig (allP x) set proj i++[set.getD i default]:=fun h=>jL_yes (by rw[hq'];exact h)
   have hN:¬JLess x.sig proj q→jL x.sig (allP x) set proj (i+1)=jL x.sig (allP x) set proj i:=fun h=>jL_no (by rw[hq'];exact h)
   have hM:¬JMost x.sig proj q→jR x.sig (allP x) set proj=([],false):=fun h=>jR_no fun e=>h (by have:=e i hil;rwa [hq'] at this)
   have hK:JMost x.sig proj q→∀j<i+1,JMost x.sig proj ((allP x).getD (set.getD j default).toNat default):=fun h=>upto_succ hk (by rw[hq'];exact h)
   unfold JLess at hY hN
   unfold JMost at hM
   have hK':((pArg x.sig proj q.l≠[]∧pArg x.sig proj q.r≠[])∧(pArg x.sig proj q.l=pArg x.sig proj q.r∨HasSub x.sig (pArg x.sig proj q.l) 1 (pArg x.sig proj q.r)))→∀j<i+1,JMost x.sig proj ((allP x).getD (set.getD j default).toNat default):=hK
   clear hK
   generalize pArg x.sig proj q.l=a at *
   generalize pArg x.sig proj q.r=b at *
   rw[←hq'] at c1 c2
   rcases Classical.em (a=[]) with ea|ea
   ·rw[hM fun h=>h.1.1 ea]
    subst ea
    repeat' first|((exfalso;omega))|refine sw_seq ?_|refine sw_block ?_|refine sw_skip ?_|refine sw_go 0 kp39 fun K hK=>?_|refine sw_goD kp39 (by kernel_rfl) fun K hK=>?_|((first|refine runL_go ?_|refine runQ_go ?_|refine sw_ret (ret0 ?_)|refine sw_ret ?_);simp (disch:=(refine Om.mk ?_;omega)) only[go_sem,Tryz.results39])|(refine hK.nil ?_;clear hK K;simp only[go_sem])|((first|refine runG_fork rfl rfl rfl rfl rfl ?_ ?_|refine runQG_fork rfl rfl rfl rfl rfl ?_ ?_|refine sw_cond rfl ?_ ?_)<;>intro h<;>try simp (disch:=(refine Om.mk ?_;omega)) only[go_sem] at h)|refine hK.skp rfl rfl ?_|refine hK.c0 rfl rfl rfl (c1) rfl rfl rfl ?_|refine hK.c0 rfl rfl rfl (c2) rfl rfl rfl ?_|(with_reducible refine And.intro (by first|omega|(simp only[lens];omega)) ?_)|fail
    all_goals first|exact⟨rfl,rfl⟩|(refine⟨?_,rfl⟩;simp[le0])
   have hal:0<a.length:=List.length_pos_iff.2 ea
   have cL:=l17Part_fc x.sig a b (ha.1 ea)
   repeat' first|((exfalso;omega))|refine sw_seq ?_|refine sw_block ?_|refine sw_inBlock ?_|refine sw_skip ?_|refine sw_go 0 kp39 fun K hK=>?_|refine sw_goD kp39 (by kernel_rfl) fun K hK=>?_|((first|refine runL_go ?_|refine runQ_go ?_|refine sw_ret (ret0 ?_)|refine sw_ret ?_);simp (disch:=(refine Om.mk ?_;omega)) only[go_sem,Tryz.results39])|(refine hK.nil ?_;clear hK K;simp only[go_sem])|((first|refine runG_fork rfl rfl rfl rfl rfl ?_ ?_|refine runQG_fork rfl rfl rfl rfl rfl ?_ ?_|refine sw_cond rfl ?_ ?_)<;>intro h<;>try simp (disch:=(refine Om.mk ?_;omega)) only[go_sem] at h)|refine hK.skp rfl rfl ?_|refine sw_loopEnd ?_|refine hK.c0 rfl rfl rfl (c1) rfl rfl rfl ?_|refine hK.c0 rfl rfl rfl (c2) rfl rfl rfl ?_|refine hK.c0 rfl rfl rfl (cL) rfl rfl rfl ?_|refine hK.c0 rfl rfl rfl (specSameTerm_fc _ _ a b) rfl rfl rfl ?_|(with_reducible refine And.intro (by first|omega|(simp only[lens];omega)) ?_)|fail
   all_goals first
    | (exfalso;contradiction)
    | (exfalso;have hab:a=b:=(by assumption);rw[hab] at hal;omega)
    | (rw[hM fun h=>absurd (List.length_pos_iff.2 h.1.2) (by omega)];exact⟨rfl,rfl⟩)
    | (rw[hM fun h=>by rcases h.2 with h|h<;>contradiction];exact⟨rfl,rfl⟩)
    | exact⟨i+1,(by(refine covers_mk0 rfl rfl ?_ ?_ ?_ ?_<;>simp (disch:=(refine Om.mk ?_;omega)) only[go_sem]<;>(try omega));rw[hY ⟨⟨ea,List.length_pos_iff.1 (by omega)⟩,by assumption⟩];exact⟨rfl,by omega⟩),⟨by omega,hK' ⟨⟨ea,List.length_pos_iff.1 (by omega)⟩,.inr (by assumption)⟩⟩,by omega⟩
    | exact⟨i+1,(by(refine covers_mk0 rfl rfl ?_ ?_ ?_ ?_<;>simp (disch:=(refine Om.mk ?_;omega)) only[go_sem]<;>(try omega));rw[hN fun h=>absurd h.2 (by assumption)];exact⟨rfl,by omega⟩),⟨by omega,hK' ⟨⟨ea,List.length_pos_iff.1 (by omega)⟩,.inl (by assumption)⟩⟩,by omega⟩
    | trace_state
  ·repeat' first|((exfalso;omega))|refine sw_seq ?_|refine sw_go 0 kp39 fun K hK=>?_|((first|refine runL_go ?_|refine runQ_go ?_|refine sw_ret (ret0 ?_)|refine sw_ret ?_);simp (disch:=(refine Om.mk ?_;omega)) only[go_sem,Tryz.results39])|(refine hK.nil ?_;clear hK K;simp only[go_sem])|((first|refine runG_fork rfl rfl rfl rfl rfl ?_ ?_|refine runQG_fork rfl rfl rfl rfl rfl ?_ ?_|refine sw_cond rfl ?_ ?_)<;>intro h<;>try simp (disch:=(refine Om.mk ?_;omega)) only[go_sem] at h)|refine sw_exit rfl ?_|fail
   rw[jR_yes fun j hj'=>hk j (by omega),show i=set.length by omega]
   exact⟨rfl,rfl⟩
 ·rw[projR_no hW]
  rcases Classical.em (PairsP x) with hx|hx
  ·rw[pairsR_yes hx] at cP
   have h64:(allP x).length≤64:=hx.2
   have h12:=hx.1.1.2
   have hsg:=hx.1.1.1.1
   rcases Classical.em (SetPP set (allP x).length) with hS|hS
   ·skip
    refine fc_body Tryz.func39 rfl (by kernel_rfl) (by simp[Tryz.f39]) fun B=>?_
    simp only[Tryz.ntmps39,enumD,lst0,Nat.reduceAdd]
    repeat' first|((exact absurd ⟨⟨hx,hS⟩,by assumption⟩ hW))|((exact absurd hS (by assumption)))|refine sw_seq ?_|refine sw_go 0 kp39 fun K hK=>?_|((first|refine runL_go ?_|refine runQ_go ?_|refine sw_ret (ret0 ?_)|refine sw_ret ?_);simp (disch:=(refine Om.mk ?_;omega)) only[go_sem,Tryz.results39])|(refine hK.nil ?_;clear hK K;simp only[go_sem])|((first|refine runG_fork rfl rfl rfl rfl rfl ?_ ?_|refine runQG_fork rfl rfl rfl rfl rfl ?_ ?_|refine sw_cond rfl ?_ ?_)<;>intro h<;>try simp (disch:=(refine Om.mk ?_;omega)) only[go_sem] at h)|refine hK.c0 rfl rfl rfl (cP) rfl rfl rfl ?_|refine hK.c0 rfl rfl rfl (l18Set_fc set _ (by omega)) rfl rfl rfl ?_|refine hK.c0 rfl rfl rfl (specProjOk_fc x.sig proj) rfl rfl rfl ?_|fail
   ·skip
    refine fc_body Tryz.func39 rfl (by kernel_rfl) (by simp[Tryz.f39]) fun B=>?_
    simp only[Tryz.ntmps39,enumD,lst0,Nat.reduceAdd]
    repeat' first|((exact absurd (by assumption) hS))|refine sw_seq ?_|refine sw_go 0 kp39 fun K hK=>?_|((first|refine runL_go ?_|refine runQ_go ?_|refine sw_ret (ret0 ?_)|refine sw_ret ?_);simp (disch:=(refine Om.mk ?_;omega)) only[go_sem,Tryz.results39])|(refine hK.nil ?_;clear hK K;simp only[go_sem])|((first|refine runG_fork rfl rfl rfl rfl rfl ?_ ?_|refine runQG_fork rfl rfl rfl rfl rfl ?_ ?_|refine sw_cond rfl ?_ ?_)<;>intro h<;>try simp (disch:=(refine Om.mk ?_;omega)) only[go_sem] at h)|refine hK.skp rfl rfl ?_|refine hK.c0 rfl rfl rfl (cP) rfl rfl rfl ?_|refine hK.c0 rfl rfl rfl (l18Set_fc set _ (by omega)) rfl rfl rfl ?_|fail
  ·rw[pairsR_no hx] at cP
   refine fc_body Tryz.func39 rfl (by kernel_rfl) (by simp[Tryz.f39]) fun B=>?_
   simp only[Tryz.ntmps39,enumD,lst0,Nat.reduceAdd]
   repeat' first|refine sw_seq ?_|refine sw_go 0 kp39 fun K hK=>?_|((first|refine runL_go ?_|refine runQ_go ?_|refine sw_ret (ret0 ?_)|refine sw_ret ?_);simp (disch:=(refine Om.mk ?_;omega)) only[go_sem,Tryz.results39])|(refine hK.nil ?_;clear hK K;simp only[go_sem])|((first|refine runG_fork rfl rfl rfl rfl rfl ?_ ?_|refine runQG_fork rfl rfl rfl rfl rfl ?_ ?_|refine sw_cond rfl ?_ ?_)<;>intro h<;>try simp (disch:=(refine Om.mk ?_;omega)) only[go_sem] at h)|refine hK.skp rfl rfl ?_|refine hK.c0 rfl rfl rfl (cP) rfl rfl rfl ?_|fail
end Go.Proofs.YtohnfgligddanaaGreat
end
