/-
  Q4i, A15i, A15j, one behind the other.
-/
import Derived.Test.YtohnfgligddanaaGreatG5
import Derived.Test.YtohnfgligddanaaGreatLgK18
import Derived.Test.YtohnfgligddanaaGreatG3
import Derived.Test.YtohnfgligddanaaGreatG2
import Derived.Test.YtohnfgligddanaaGreatG1
section
namespace Go.Proofs.YtohnfgligddanaaGreat
open Go Go.Lg
set_option linter.unusedSimpArgs false
set_option linter.unusedVariables false
set_option maxHeartbeats 4000000
attribute [local irreducible] SW runL runQ runG runQG FC Ret1 toF redoL
attribute [local irreducible] bRow gCells rowsB rowsR
attribute [local go_sem] bRow_get bRow_set gCells_get look_rowsR setA_rowsR gCells_len bRow_len keep_rows erase_rows set_rows rep_bRow gC_pu rows_pu gC_tks rows_tks
attribute [local go_sem] gC37
theorem le_mapR_any {p:List Nat} {xs:List (List Int)} {j:Nat} {x y:D} (hx:(mapR (fun i y=>Int64SL (p++[i]++[0]) y) xs)[j]?=some x) (hy:(xs.map IntsD)[j]?=some y):D.le x y:=by
 unfold mapR at hx
 rw[List.getElem?_map,Option.map_eq_some_iff] at hx hy
 obtain⟨i,hi,rfl⟩:=hx
 obtain⟨z,hz,rfl⟩:=hy
 have hj:j<xs.length:=(List.getElem?_eq_some_iff.1 hz).1
 rw[List.getElem?_range hj] at hi
 obtain rfl:=Option.some.inj hi
 rw[List.getElem?_eq_getElem hj] at hz
 obtain rfl:=Option.some.inj hz
 rw[List.getD_eq_getElem?_getD,List.getElem?_eq_getElem hj]
 exact .any
theorem partsO_fc (edges:List (List Int)) (set:List Int) (hn:edges.length≤1000) (hs:∀i<set.length,0≤set.getD i default∧set.getD i default<edges.length) (hE:∀i<edges.length,∀j<(edges.getD i default).length,0≤(edges.getD i default).getD j default∧(edges.getD i default).getD j default<edges.length) (hEl:∀i<edges.length,(edges.getD i default).length≤1000) (hnd:(natS set).Nodup) (hsl:set.length≤1000):FC S 47 [] [] [] [.sl .any (edges.map IntsD),.sl .any (set.map (.int .i64))] (.sl (.own 0 22 1) ((partsR edges set).map IntsD)) [] [0]:=by
 obtain⟨p,hp⟩:∃p:List Nat,p≠[]:=⟨[1],by simp⟩
 refine fc_body1 Tryz.func47 rfl (by kernel_rfl) (by simp[Tryz.f47]) fun B=>?_
 simp only[Tryz.ntmps47,enumD,lst0,Nat.reduceAdd]
 refine sw_bnd 0 rfl fun hb0=>?_
 simp only[D.bnd,List.length_map] at hb0
 refine sw_bnd 1 rfl fun hb1=>?_
 simp only[D.bnd,List.length_map] at hb1
 repeat' first|((refine sw_scope ?_))|refine sw_seq ?_|refine sw_block ?_|refine sw_go 0 kp47 fun K hK=>?_|((first|refine runL_go ?_|refine runQ_go ?_|refine sw_ret (ret0 ?_)|refine sw_ret ?_);simp (disch:=(refine Om.mk ?_;omega)) only[go_sem,Tryz.results47])|(refine hK.nil ?_;clear hK K;simp only[go_sem])|(with_reducible refine And.intro (by first|omega|(simp only[lens];omega)) ?_)|fail
 have e0:(List.replicate edges.length [D.sl .nil []]).flatten=gCells edges.length []:=by
  rw[←gCells_rep];simp
 rw[e0]
 refine sw_loop (ι:=Nat) (fun i=>⟨186,[(0,.sl .any (edges.map IntsD)),(1,.sl .any (set.map (.int .i64))),(5,.ms 26 edges.length),(27,.sl .any (set.map (.int .i64))),(28,.int .i64 set.length),(29,.int .i64 i)],(26,gCells edges.length (natS (set.take i)))::rowsR edges.length (natS (set.take i)) (r0 edges set),[],[],[]⟩) (fun i=>i≤set.length) (fun i=>set.length-i) 0 (by refine covers_mk0 rfl rfl ?_ ⟨rfl,boxLe_of fun q hq=>by rw[List.take_zero] at hq;exact absurd hq (rows_none _ _ q)⟩ ?_ ?_<;>simp only[go_sem];all_goals rfl) (by omega) (fun i hi=>?_)
 by_cases hil:i<set.length
 ·have hsi:=hs i hil
  have hpsn:natS (set.take (i+1))=natS (set.take i)++[(set.getD i default).toNat]:=by
   unfold natS
   rw[List.take_add_one,List.map_append,List.getElem?_eq_getElem hil]
   simp[List.getD_eq_getElem?_getD,hil]
  have hnd1:(natS (set.take (i+1))).Nodup:=by
   have:(natS (set.take (i+1))).Sublist (natS set):=(List.take_sublist _ _).map _
   exact this.nodup hnd
  have hqn:(set.getD i default).toNat∉natS (set.take i):=by
   rw[hpsn,List.nodup_append] at hnd1
   exact fun h=>hnd1.2.2 _ h _ (List.mem_singleton.2 rfl) rfl
  have hmk:1≤mk1 (natS (set.take (i+1))) (set.getD i default).toNat:=mk1_iff.2 (by rw[hpsn];simp)
  have hndk:=nd1_iff.2 hnd1
  repeat' first|((exfalso;omega))|refine sw_seq ?_|refine sw_block ?_|refine sw_skip ?_|refine sw_go 0 kp47 fun K hK=>?_|((first|refine runL_go ?_|refine runQ_go ?_|refine sw_ret (ret0 ?_)|refine sw_ret ?_);simp (disch:=(refine Om.mk ?_;omega)) only[go_sem,Tryz.results47])|(refine hK.nil ?_;clear hK K;simp only[go_sem])|((first|refine runG_fork rfl rfl rfl rfl rfl ?_ ?_|refine runQG_fork rfl rfl rfl rfl rfl ?_ ?_|refine sw_cond rfl ?_ ?_)<;>intro h<;>try simp (disch:=(refine Om.mk ?_;omega)) only[go_sem] at h)|(with_reducible refine And.intro (by first|omega|(simp only[lens];omega)) ?_)|fail
  have hren:=ren_rows (n:=edges.length) (r:=r0 edges set) hqn
  rw[←hpsn] at hren
  refine sw_renBox (L':=⟨186,[(0,.sl .any (edges.map IntsD)),(1,.sl .any (set.map (.int .i64))),(5,.ms 26 edges.length),(7,.int .i64 (set.getD i default)),(27,.sl .any (set.map (.int .i64))),(28,.int .i64 set.length),(29,.int .i64 i),(42,.sl .any ((edges.getD (set.getD i default).toNat default).map (.int .i64))),(43,.int .i64 (edges.getD (set.getD i default).toNat default).length),(44,.int .i64 0)],(26,gCells edges.length (natS (set.take (i+1))))::rowsR edges.length (natS (set.take (i+1))) (fun x=>if x=(set.getD i default).toNat then fun _=>false else r0 edges set x),[],[],[]⟩) 37 ((set.getD i default).toNat+5000) (by omega) (by simp) (by simp) rfl rfl rfl rfl (fun q hq=>?_) hren ?_
  ·simp only[List.mem_cons,List.not_mem_nil,or_false] at hq
   rcases hq with rfl|rfl|rfl|rfl|rfl|rfl|rfl|rfl|rfl|rfl
   all_goals first|exact⟨_,rfl,RenB.keep rfl⟩|(refine⟨_,rfl,.inl ⟨?_,?_,rfl⟩⟩<;>simp only[D.ids,List.mem_singleton]<;>omega)
  have hEp:=hE (set.getD i default).toNat (by omega)
  have hElp:=hEl (set.getD i default).toNat (by omega)
  refine sw_loop (ι:=Nat) (fun j=>⟨186,[(0,.sl .any (edges.map IntsD)),(1,.sl .any (set.map (.int .i64))),(5,.ms 26 edges.length),(7,.int .i64 (set.getD i default)),(27,.sl .any (set.map (.int .i64))),(28,.int .i64 set.length),(29,.int .i64 i),(42,.sl .any ((edges.getD (set.getD i default).toNat default).map (.int .i64))),(43,.int .i64 (edges.getD (set.getD i default).toNat default).length),(44,.int .i64 j)],(26,gCells edges.length (natS (set.take (i+1))))::rowsR edges.length (natS (set.take (i+1))) (fun x=>if x=(set.getD i default).toNat then rJ edges set (set.getD i default).toNat j else r0 edges set x),[],[],[]⟩) (fun j=>j≤(edges.getD (set.getD i default).toNat default).length) (fun j=>(edges.getD (set.getD i default).toNat default).length-j) 0 (by rw[rJ_zero];refine covers_mk0 rfl rfl ?_ (rowsR_self hnd1 _) ?_ ?_<;>simp only[go_sem];all_goals first|rfl|trace_state) (by omega) (fun j hj=>?_)
  by_cases hjl:j<(edges.getD (set.getD i default).toNat default).length
  ·have hej:=hEp j hjl
   repeat' first|((exfalso;omega))|((simp (disch:=(refine Om.mk ?_;omega)) only[look_rowsR,if_true];simp (disch:=(refine Om.mk ?_;omega)) only[go_sem]))|refine sw_seq ?_|refine sw_block ?_|refine sw_inBlock ?_|refine sw_skip ?_|refine sw_go 0 kp47 fun K hK=>?_|refine sw_goT 0 kp47 9 (id:=9) (by kernel_rfl) fun K hK=>?_|refine fun (K:KT) (hK:KOk S 0 _ _ _ K)=>?_|((first|refine runL_go ?_|refine runQ_go ?_|refine sw_ret (ret0 ?_)|refine sw_ret ?_);simp (disch:=(refine Om.mk ?_;omega)) only[go_sem,Tryz.results47])|(refine hK.nil ?_;clear hK K;simp only[go_sem])|((first|refine runG_fork rfl rfl rfl rfl rfl ?_ ?_|refine runQG_fork rfl rfl rfl rfl rfl ?_ ?_|refine sw_cond rfl ?_ ?_)<;>intro h<;>try simp (disch:=(refine Om.mk ?_;omega)) only[go_sem] at h)|refine sw_loopEnd ?_|refine hK.c0 rfl rfl rfl (contains_fc _ _ _) rfl rfl rfl ?_|(with_reducible refine And.intro (by first|omega|(simp only[lens];omega)) ?_)|fail
   refine⟨j+1,?_,by omega,by omega⟩
   rw[←rJ_succ hjl hej.1]
   refine covers_mk0 rfl rfl ?_ (rows_eq hnd1 _ (fun x=>?_)) ?_ ?_
   ·simp (disch:=(refine Om.mk ?_;omega)) only[go_sem]
    all_goals first|omega|trace_state
   ·by_cases e:x=(set.getD i default).toNat
    ·simp only[if_pos e]
    ·simp only[if_neg e]
   ·simp only[go_sem]
   ·simp only[go_sem]
  ·repeat' first|((exfalso;omega))|refine sw_seq ?_|refine sw_inBlock ?_|refine sw_go 0 kp47 fun K hK=>?_|((first|refine runL_go ?_|refine runQ_go ?_|refine sw_ret (ret0 ?_)|refine sw_ret ?_);simp (disch:=(refine Om.mk ?_;omega)) only[go_sem,Tryz.results47])|(refine hK.nil ?_;clear hK K;simp only[go_sem])|((first|refine runG_fork rfl rfl rfl rfl rfl ?_ ?_|refine runQG_fork rfl rfl rfl rfl rfl ?_ ?_|refine sw_cond rfl ?_ ?_)<;>intro h<;>try simp (disch:=(refine Om.mk ?_;omega)) only[go_sem] at h)|refine sw_exit rfl ?_|refine sw_loopEnd ?_|fail
   obtain rfl:j=(edges.getD (set.getD i default).toNat default).length:=by omega
   refine⟨i+1,?_,by omega,by omega⟩
   refine covers_mk0 rfl rfl ?_ (rows_eq hnd1 _ (fun x=>?_)) ?_ ?_
   ·simp (disch:=(refine Om.mk ?_;omega)) only[go_sem]
    all_goals first|omega|trace_state
   ·by_cases e:x=(set.getD i default).toNat
    ·rw[if_pos e,e];exact rJ_end _ _ _
    ·rw[if_neg e]
   ·simp only[go_sem]
   ·simp only[go_sem]
 ·obtain rfl:i=set.length:=by omega
  have hmk:∀i<set.length,1≤mk1 (natS set) (set.getD i default).toNat:=fun i hi=>mk1_iff.2 (by
   unfold natS
   refine List.mem_map.2 ⟨_,?_,rfl⟩
   rw[List.getD_eq_getElem?_getD,List.getElem?_eq_getElem hi];exact List.getElem_mem hi)
  have hndk:=nd1_iff.2 hnd
  repeat' first|((exfalso;omega))|refine sw_seq ?_|refine sw_block ?_|refine sw_go 0 kp47 fun K hK=>?_|((first|refine runL_go ?_|refine runQ_go ?_|refine sw_ret (ret0 ?_)|refine sw_ret ?_);simp (disch:=(refine Om.mk ?_;omega)) only[go_sem,Tryz.results47])|(refine hK.nil ?_;clear hK K;simp only[go_sem])|((first|refine runG_fork rfl rfl rfl rfl rfl ?_ ?_|refine runQG_fork rfl rfl rfl rfl rfl ?_ ?_|refine sw_cond rfl ?_ ?_)<;>intro h<;>try simp (disch:=(refine Om.mk ?_;omega)) only[go_sem] at h)|refine sw_exit rfl ?_|fail
  rw[show r0 edges set=wM (natS set) (r0 edges set) 0 from rfl]
  refine sw_loop (ι:=Nat) (fun i=>⟨186,[(1,.sl .any (set.map (.int .i64))),(5,.ms 26 edges.length),(59,.sl .any (set.map (.int .i64))),(60,.int .i64 set.length),(61,.int .i64 i)],(26,gCells edges.length (natS set))::rowsR edges.length (natS set) (wM (natS set) (r0 edges set) i),[],[],[]⟩) (fun i=>i≤set.length) (fun i=>set.length-i) 0 (by refine covers_mk0 rfl rfl ?_ (rowsR_self hnd _) ?_ ?_<;>simp only[go_sem];all_goals first|rfl|trace_state) (by omega) (fun i hi=>?_)
  by_cases hil:i<set.length
  ·have hsi:=hs i hil
   have hmi:=hmk i hil
   repeat' first|((exfalso;omega))|refine sw_seq ?_|refine sw_block ?_|refine sw_skip ?_|refine sw_go 0 kp47 fun K hK=>?_|((first|refine runL_go ?_|refine runQ_go ?_|refine sw_ret (ret0 ?_)|refine sw_ret ?_);simp (disch:=(refine Om.mk ?_;omega)) only[go_sem,Tryz.results47])|(refine hK.nil ?_;clear hK K;simp only[go_sem])|((first|refine runG_fork rfl rfl rfl rfl rfl ?_ ?_|refine runQG_fork rfl rfl rfl rfl rfl ?_ ?_|refine sw_cond rfl ?_ ?_)<;>intro h<;>try simp (disch:=(refine Om.mk ?_;omega)) only[go_sem] at h)|(with_reducible refine And.intro (by first|omega|(simp only[lens];omega)) ?_)|fail
   generalize hR0:wM (natS set) (r0 edges set) i=R0
   rw[show R0=wP R0 (natS set |>.getD i default) (natS set) 0 from rfl]
   refine sw_loop (ι:=Nat) (fun j=>⟨186,[(1,.sl .any (set.map (.int .i64))),(5,.ms 26 edges.length),(11,.int .i64 (set.getD i default)),(59,.sl .any (set.map (.int .i64))),(60,.int .i64 set.length),(61,.int .i64 i),(65,.sl .any (set.map (.int .i64))),(66,.int .i64 set.length),(67,.int .i64 j)],(26,gCells edges.length (natS set))::rowsR edges.length (natS set) (wP R0 ((natS set).getD i default) (natS set) j),[],[],[]⟩) (fun j=>j≤set.length) (fun j=>set.length-j) 0 (by refine covers_mk0 rfl rfl ?_ (rowsR_self hnd _) ?_ ?_<;>simp only[go_sem];all_goals first|rfl|trace_state) (by omega) (fun j hj=>?_)
   by_cases hjl:j<set.length
   ·have hsj:=hs j hjl
    have hmj:=hmk j hjl
    repeat' first|((exfalso;omega))|refine sw_seq ?_|refine sw_block ?_|refine sw_skip ?_|refine sw_go 0 kp47 fun K hK=>?_|((first|refine runL_go ?_|refine runQ_go ?_|refine sw_ret (ret0 ?_)|refine sw_ret ?_);simp (disch:=(refine Om.mk ?_;omega)) only[go_sem,Tryz.results47])|(refine hK.nil ?_;clear hK K;simp only[go_sem])|((first|refine runG_fork rfl rfl rfl rfl rfl ?_ ?_|refine runQG_fork rfl rfl rfl rfl rfl ?_ ?_|refine sw_cond rfl ?_ ?_)<;>intro h<;>try simp (disch:=(refine Om.mk ?_;omega)) only[go_sem] at h)|(with_reducible refine And.intro (by first|omega|(simp only[lens];omega)) ?_)|fail
    generalize hR1:wP R0 ((natS set).getD i default) (natS set) j=R1
    rw[show R1=wQ R1 ((natS set).getD i default) ((natS set).getD j default) (natS set) 0 from rfl]
    refine sw_loop (ι:=Nat) (fun k=>⟨186,[(1,.sl .any (set.map (.int .i64))),(5,.ms 26 edges.length),(11,.int .i64 (set.getD i default)),(13,.int .i64 (set.getD j default)),(59,.sl .any (set.map (.int .i64))),(60,.int .i64 set.length),(61,.int .i64 i),(65,.sl .any (set.map (.int .i64))),(66,.int .i64 set.length),(67,.int .i64 j),(71,.sl .any (set.map (.int .i64))),(72,.int .i64 set.length),(73,.int .i64 k)],(26,gCells edges.length (natS set))::rowsR edges.length (natS set) (wQ R1 ((natS set).getD i default) ((natS set).getD j default) (natS set) k),[],[],[]⟩) (fun k=>k≤set.length) (fun k=>set.length-k) 0 (by refine covers_mk0 rfl rfl ?_ (rowsR_self hnd _) ?_ ?_<;>simp only[go_sem];all_goals first|rfl|trace_state) (by omega) (fun k hk=>?_)
    by_cases hkl:k<set.length
    ·have hsk:=hs k hkl
     have hmk:=hmk k hkl
     have hw:=wQ_succ R1 ((natS set).getD i default) ((natS set).getD j default) (natS set) k
     generalize hR2:wQ R1 ((natS set).getD i default) ((natS set).getD j default) (natS set) k=R2 at hw ⊢
     rw[natS_get hkl,natS_get hil,natS_get hjl] at hw
     repeat' first|((exfalso;omega))|((simp (disch:=(refine Om.mk ?_;omega)) only[look_rowsR,if_true];simp (disch:=(refine Om.mk ?_;omega)) only[go_sem]))|refine sw_seq ?_|refine sw_block ?_|refine sw_inBlock ?_|refine sw_skip ?_|refine sw_go 0 kp47 fun K hK=>?_|refine sw_goT 0 kp47 31 (id:=21) (by kernel_rfl) fun K hK=>?_|refine fun (K:KT) (hK:KOk S 0 _ _ _ K)=>?_|((first|refine runL_go ?_|refine runQ_go ?_|refine sw_ret (ret0 ?_)|refine sw_ret ?_);simp (disch:=(refine Om.mk ?_;omega)) only[go_sem,Tryz.results47])|(refine hK.nil ?_;clear hK K;simp only[go_sem])|((first|refine runG_fork rfl rfl rfl rfl rfl ?_ ?_|refine runQG_fork rfl rfl rfl rfl rfl ?_ ?_|refine sw_cond rfl ?_ ?_)<;>intro h<;>try simp (disch:=(refine Om.mk ?_;omega)) only[go_sem] at h)|refine sw_loopEnd ?_|(with_reducible refine And.intro (by first|omega|(simp only[lens];omega)) ?_)|fail
     all_goals refine⟨k+1,?_,by omega,by omega⟩
     all_goals refine covers_mk0 rfl rfl ?_ (rows_eq hnd _ (fun x=>?_)) ?_ ?_
     all_goals first|(simp only[go_sem];done)|(simp (disch:=(refine Om.mk ?_;omega)) only[go_sem];first|done|omega)|skip
     all_goals rw[natS_get hil,natS_get hjl] at *
     all_goals rw[hw x]
     all_goals by_cases e:x=(set.getD j default).toNat
     all_goals first|(simp only[if_neg e];done)|skip
     all_goals simp only[if_pos e]
     all_goals funext y
     all_goals by_cases e2:y=(set.getD k default).toNat
     all_goals first|(simp only[if_neg e2,e];done)|(simp_all;done)|trace_state
    ·obtain rfl:k=set.length:=by omega
     repeat' first|((exfalso;omega))|refine sw_seq ?_|refine sw_inBlock ?_|refine sw_go 0 kp47 fun K hK=>?_|((first|refine runL_go ?_|refine runQ_go ?_|refine sw_ret (ret0 ?_)|refine sw_ret ?_);simp (disch:=(refine Om.mk ?_;omega)) only[go_sem,Tryz.results47])|(refine hK.nil ?_;clear hK K;simp only[go_sem])|((first|refine runG_fork rfl rfl rfl rfl rfl ?_ ?_|refine runQG_fork rfl rfl rfl rfl rfl ?_ ?_|refine sw_cond rfl ?_ ?_)<;>intro h<;>try simp (disch:=(refine Om.mk ?_;omega)) only[go_sem] at h)|refine sw_exit rfl ?_|refine sw_loopEnd ?_|fail
     refine⟨j+1,?_,by omega,by omega⟩
     refine covers_mk0 rfl rfl ?_ (rows_eq hnd _ (fun x=>?_)) ?_ ?_
     ·simp (disch:=(refine Om.mk ?_;omega)) only[go_sem]
      all_goals first|omega|trace_state
     ·show _=wQ (wP R0 ((natS set).getD i default) (natS set) j) ((natS set).getD i default) ((natS set).getD j default) (natS set) (natS set).length x
      rw[hR1,natS_len]
     ·simp only[go_sem]
     ·simp only[go_sem]
   ·obtain rfl:j=set.length:=by omega
    repeat' first|((exfalso;omega))|refine sw_seq ?_|refine sw_inBlock ?_|refine sw_go 0 kp47 fun K hK=>?_|((first|refine runL_go ?_|refine runQ_go ?_|refine sw_ret (ret0 ?_)|refine sw_ret ?_);simp (disch:=(refine Om.mk ?_;omega)) only[go_sem,Tryz.results47])|(refine hK.nil ?_;clear hK K;simp only[go_sem])|((first|refine runG_fork rfl rfl rfl rfl rfl ?_ ?_|refine runQG_fork rfl rfl rfl rfl rfl ?_ ?_|refine sw_cond rfl ?_ ?_)<;>intro h<;>try simp (disch:=(refine Om.mk ?_;omega)) only[go_sem] at h)|refine sw_exit rfl ?_|refine sw_loopEnd ?_|fail
    refine⟨i+1,?_,by omega,by omega⟩
    refine covers_mk0 rfl rfl ?_ (rows_eq hnd _ (fun x=>?_)) ?_ ?_
    ·simp (disch:=(refine Om.mk ?_;omega)) only[go_sem]
     all_goals first|omega|trace_state
    ·show _=wP (wM (natS set) (r0 edges set) i) ((natS set).getD i default) (natS set) (natS set).length x
     rw[hR0,natS_len]
    ·simp only[go_sem]
    ·simp only[go_sem]
  ·obtain rfl:i=set.length:=by omega
   repeat' first|((refine sw_label ?_))|((exfalso;omega))|refine sw_seq ?_|refine sw_block ?_|refine sw_go 0 kp47 fun K hK=>?_|((first|refine runL_go ?_|refine runQ_go ?_|refine sw_ret (ret0 ?_)|refine sw_ret ?_);simp (disch:=(refine Om.mk ?_;omega)) only[go_sem,Tryz.results47])|(refine hK.nil ?_;clear hK K;simp only[go_sem])|((first|refine runG_fork rfl rfl rfl rfl rfl ?_ ?_|refine runQG_fork rfl rfl rfl rfl rfl ?_ ?_|refine sw_cond rfl ?_ ?_)<;>intro h<;>try simp (disch:=(refine Om.mk ?_;omega)) only[go_sem] at h)|refine sw_exit rfl ?_|fail
   unfold partsR
   generalize wM (natS set) (r0 edges set) set.length=C
   refine sw_tok 16 184000 22 1 rfl (.inl rfl) (by simp[LS.purge,LS.clean,mapA,D.pu,D.pu1,D.tks,D.tksL,gC_pu,rows_pu,gC_tks,rows_tks]) ?_
   simp only[go_sem,gC_pu,rows_pu]
   refine sw_loop (ι:=Nat) (fun i=>⟨186,[(1,.sl .any (set.map (.int .i64))),(5,.ms 26 edges.length),(16,.sl (.own 184000 22 1) (mapR (fun i y=>Int64SL (p++[i]++[0]) y) (cmp C set i))),(111,.sl .any (set.map (.int .i64))),(112,.int .i64 set.length),(113,.int .i64 i)],(26,gCells edges.length (natS set))::rowsR edges.length (natS set) C,[],[184000],[]⟩) (fun i=>i≤set.length) (fun i=>set.length-i) 0 (by refine covers_mk0 rfl rfl ?_ (rowsR_self hnd _) ?_ ?_<;>simp only[go_sem];all_goals first|rfl|exact⟨rfl,rfl⟩|trace_state) (by omega) (fun i hi=>?_)
   have hcl:=cmp_len C set i
   by_cases hil:i<set.length
   ·have hsi:=hs i hil
    have hmi:=hmk i hil
    repeat' first|((exfalso;omega))|refine sw_seq ?_|refine sw_block ?_|refine sw_skip ?_|refine sw_go 0 kp47 fun K hK=>?_|((first|refine runL_go ?_|refine runQ_go ?_|refine sw_ret (ret0 ?_)|refine sw_ret ?_);simp (disch:=(refine Om.mk ?_;omega)) only[go_sem,Tryz.results47])|(refine hK.nil ?_;clear hK K;simp only[go_sem])|((first|refine runG_fork rfl rfl rfl rfl rfl ?_ ?_|refine runQG_fork rfl rfl rfl rfl rfl ?_ ?_|refine sw_cond rfl ?_ ?_)<;>intro h<;>try simp (disch:=(refine Om.mk ?_;omega)) only[go_sem] at h)|refine sw_exit rfl ?_|refine sw_loopEnd ?_|(with_reducible refine And.intro (by first|omega|(simp only[lens];omega)) ?_)|fail
    ·refine⟨i+1,?_,by omega,by omega⟩
     rw[cmp_no (fun h2=>by rw[h2.1] at h;cases h)]
     refine covers_mk0 rfl rfl ?_ (rowsR_self hnd _) ?_ ?_<;>simp only[go_sem]
     all_goals omega
    ·have hcc:=h
     have hti:(set.take i).length=i:=by rw[List.length_take];omega
     have htg:∀l<i,(set.take i).getD l default=set.getD l default:=fun l hl=>by
      simp[List.getD_eq_getElem?_getD,hl]
     refine sw_loop (ι:=Nat) (fun k=>⟨186,[(1,.sl .any (set.map (.int .i64))),(5,.ms 26 edges.length),(16,.sl (.own 184000 22 1) (mapR (fun i y=>Int64SL (p++[i]++[0]) y) (cmp C set i))),(17,.int .i64 i),(18,.int .i64 (set.getD i default)),(111,.sl .any (set.map (.int .i64))),(112,.int .i64 set.length),(113,.int .i64 i),(128,.sl .any ((set.take i).map (.int .i64))),(129,.int .i64 (set.take i).length),(130,.int .i64 k)],(26,gCells edges.length (natS set))::rowsR edges.length (natS set) C,[],[184000],[]⟩) (fun k=>k≤i∧∀l<k,bothC C (set.getD i default).toNat (set.getD l default).toNat=false) (fun k=>i-k) 0 (by refine covers_mk0 rfl rfl ?_ (rowsR_self hnd _) ?_ ?_<;>simp only[go_sem];all_goals first|rfl|exact⟨rfl,rfl⟩|trace_state) ⟨by omega,fun l hl=>by omega⟩ (fun k hk=>?_)
     obtain⟨hk,hkl⟩:=hk
     by_cases hki:k<i
     ·have hsk:=hs k (by omega)
      have hmk2:=hmk k (by omega)
      have htk:=htg k hki
      rw[←htk] at hsk hmk2
      have hno:C (set.getD i default).toNat ((set.take i).getD k default).toNat=true→C ((set.take i).getD k default).toNat (set.getD i default).toNat=true→¬okC C set i:=fun h1 h2 h3=>by
       have:=h3.2 k hki
       unfold bothC at this
       rw[←htk,h1,h2] at this
       cases this
      have hup:C (set.getD i default).toNat ((set.take i).getD k default).toNat=false∨C ((set.take i).getD k default).toNat (set.getD i default).toNat=false→∀l<k+1,bothC C (set.getD i default).toNat (set.getD l default).toNat=false:=fun h1 l hl=>by
       by_cases e:l=k
       ·subst e
        unfold bothC
        rw[←htk]
        rcases h1 with h1|h1
        ·rw[h1];rfl
        ·rw[h1,Bool.and_false]
       ·exact hkl l (by omega)
      repeat' first|((exfalso;omega))|refine sw_seq ?_|refine sw_block ?_|refine sw_inBlock ?_|refine sw_skip ?_|refine sw_go 0 kp47 fun K hK=>?_|((first|refine runL_go ?_|refine runQ_go ?_|refine sw_ret (ret0 ?_)|refine sw_ret ?_);simp (disch:=(refine Om.mk ?_;omega)) only[go_sem,Tryz.results47])|(refine hK.nil ?_;clear hK K;simp only[go_sem])|((first|refine runG_fork rfl rfl rfl rfl rfl ?_ ?_|refine runQG_fork rfl rfl rfl rfl rfl ?_ ?_|refine sw_cond rfl ?_ ?_)<;>intro h<;>try simp (disch:=(refine Om.mk ?_;omega)) only[go_sem] at h)|refine sw_exit rfl ?_|refine sw_loopEnd ?_|(with_reducible refine And.intro (by first|omega|(simp only[lens];omega)) ?_)|fail
      all_goals first|(refine⟨k+1,?_,⟨by omega,hup (by first|exact .inl (by assumption)|exact .inr (by assumption))⟩,by omega⟩;refine covers_mk0 rfl rfl ?_ (rowsR_self hnd _) ?_ ?_<;>simp only[go_sem];all_goals first|omega|trace_state)|(refine⟨i+1,?_,by omega,by omega⟩;rw[cmp_no (hno (by assumption) (by assumption))];refine covers_mk0 rfl rfl ?_ (rowsR_self hnd _) ?_ ?_<;>simp only[go_sem];all_goals first|omega|trace_state)|trace_state
     ·obtain rfl:k=i:=by omega
      have hok:okC C set k:=⟨hcc,hkl⟩
      have hys:=cmp_yes hok
      have hdl:(set.drop k).length=set.length-k:=List.length_drop
      have hdg:∀j,(set.drop k).getD j default=set.getD (k+j) default:=fun j=>by
       simp[List.getD_eq_getElem?_getD,List.getElem?_drop]
      repeat' first|((exfalso;omega))|refine sw_seq ?_|refine sw_block ?_|refine sw_go 0 kp47 fun K hK=>?_|((first|refine runL_go ?_|refine runQ_go ?_|refine sw_ret (ret0 ?_)|refine sw_ret ?_);simp (disch:=(refine Om.mk ?_;omega)) only[go_sem,Tryz.results47])|(refine hK.nil ?_;clear hK K;simp only[go_sem])|((first|refine runG_fork rfl rfl rfl rfl rfl ?_ ?_|refine runQG_fork rfl rfl rfl rfl rfl ?_ ?_|refine sw_cond rfl ?_ ?_)<;>intro h<;>try simp (disch:=(refine Om.mk ?_;omega)) only[go_sem] at h)|refine sw_exit rfl ?_|(with_reducible refine And.intro (by first|omega|(simp only[lens];omega)) ?_)|fail
      refine sw_tok 21 179000 2 1 rfl (.inl rfl) (by simp[LS.purge,LS.clean,mapA,D.pu,D.pu1,D.tks,D.tksL,gC_pu,rows_pu,gC_tks,rows_tks,tks_mapR]) ?_
      simp only[go_sem,gC_pu,rows_pu]
      refine sw_loop (ι:=Nat) (fun j=>⟨186,[(1,.sl .any (set.map (.int .i64))),(5,.ms 26 edges.length),(16,.sl (.own 184000 22 1) (mapR (fun i y=>Int64SL (p++[i]++[0]) y) (cmp C set k))),(18,.int .i64 (set.getD k default)),(111,.sl .any (set.map (.int .i64))),(112,.int .i64 set.length),(113,.int .i64 k),(21,.sl (.own 179000 2 1) ((prtJ C (set.getD k default).toNat (set.drop k) j).map (.int .i64))),(153,.sl .any ((set.drop k).map (.int .i64))),(154,.int .i64 (set.drop k).length),(155,.int .i64 j)],(26,gCells edges.length (natS set))::rowsR edges.length (natS set) C,[],[179000,184000],[]⟩) (fun j=>j≤(set.drop k).length) (fun j=>(set.drop k).length-j) 0 (by refine covers_mk0 rfl rfl ?_ (rowsR_self hnd _) ?_ ?_<;>simp only[go_sem];all_goals first|rfl|exact⟨rfl,rfl⟩|trace_state) (by omega) (fun j hj=>?_)
      have hpl:=prtJ_len C (set.getD k default).toNat (set.drop k) j
      by_cases hjl:j<(set.drop k).length
      ·have hsj:=hs (k+j) (by omega)
       have hmj:=hmk (k+j) (by omega)
       rw[←hdg] at hsj hmj
       have hpy:=@prtJ_yes C (set.getD k default).toNat (set.drop k) j hjl
       have hpn:=@prtJ_no C (set.getD k default).toNat (set.drop k) j hjl
       repeat' first|((exfalso;omega))|refine sw_seq ?_|refine sw_block ?_|refine sw_inBlock ?_|refine sw_skip ?_|refine sw_go 0 kp47 fun K hK=>?_|((first|refine runL_go ?_|refine runQ_go ?_|refine sw_ret (ret0 ?_)|refine sw_ret ?_);simp (disch:=(refine Om.mk ?_;omega)) only[go_sem,Tryz.results47])|(refine hK.nil ?_;clear hK K;simp only[go_sem])|((first|refine runG_fork rfl rfl rfl rfl rfl ?_ ?_|refine runQG_fork rfl rfl rfl rfl rfl ?_ ?_|refine sw_cond rfl ?_ ?_)<;>intro h<;>try simp (disch:=(refine Om.mk ?_;omega)) only[go_sem] at h)|refine sw_loopEnd ?_|(with_reducible refine And.intro (by first|omega|(simp only[lens];omega)) ?_)|fail
       all_goals first|(refine⟨j+1,?_,by omega,by omega⟩;rw[hpy (by assumption) (by assumption),List.map_append];refine covers_mk0 rfl rfl ?_ (rowsR_self hnd _) ?_ ?_<;>simp only[go_sem];all_goals first|omega|(simp;done)|exact⟨rfl,by omega⟩|trace_state)|(refine⟨j+1,?_,by omega,by omega⟩;rw[hpn (by first|exact .inl (by assumption)|exact .inr (by assumption))];refine covers_mk0 rfl rfl ?_ (rowsR_self hnd _) ?_ ?_<;>simp only[go_sem];all_goals first|omega|trace_state)|trace_state
      ·obtain rfl:j=(set.drop k).length:=by omega
       rw[hdl]
       refine sw_lab 21 (p++[(cmp C set k).length]++[0]) rfl (by simp) (by simp) ?_
       simp only[go_sem]
       repeat' first|((exfalso;omega))|refine sw_seq ?_|refine sw_go 0 kp47 fun K hK=>?_|((first|refine runL_go ?_|refine runQ_go ?_|refine sw_ret (ret0 ?_)|refine sw_ret ?_);simp (disch:=(refine Om.mk ?_;omega)) only[go_sem,Tryz.results47])|(refine hK.nil ?_;clear hK K;simp only[go_sem])|((first|refine runG_fork rfl rfl rfl rfl rfl ?_ ?_|refine runQG_fork rfl rfl rfl rfl rfl ?_ ?_|refine sw_cond rfl ?_ ?_)<;>intro h<;>try simp (disch:=(refine Om.mk ?_;omega)) only[go_sem] at h)|refine sw_exit rfl ?_|fail
       refine⟨List.mem_filter.2 ⟨by simp,by simp⟩,mapR_memP fun _ _=>rfl,by first|omega|(rw[mapR_length];omega),by first|omega|(rw[mapR_length];omega),?_⟩
       repeat' first|refine sw_inBlock ?_|refine sw_go 0 kp47 fun K hK=>?_|((first|refine runL_go ?_|refine runQ_go ?_|refine sw_ret (ret0 ?_)|refine sw_ret ?_);simp (disch:=(refine Om.mk ?_;omega)) only[go_sem,Tryz.results47])|(refine hK.nil ?_;clear hK K;simp only[go_sem])|refine sw_loopEnd ?_|fail
       refine⟨k+1,?_,by omega,by omega⟩
       rw[hys,mapR_snocP]
       refine covers_mk0 rfl rfl ?_ (rowsR_self hnd _) ?_ ?_<;>simp only[go_sem]
       all_goals first|omega|(simp;done)|exact⟨rfl,by omega⟩|trace_state
   ·obtain rfl:i=set.length:=by omega
    refine sw_ownWeak 16 ((cmp C set set.length).map IntsD) rfl (by rw[List.length_map,mapR,List.length_map,List.length_range]) (mapR_memP fun _ _=>rfl) (fun y hy=>by obtain⟨z,_,rfl⟩:=List.mem_map.1 hy;rfl) (fun y hy=>by obtain⟨z,_,rfl⟩:=List.mem_map.1 hy;rfl) (fun j x y hx hy=>le_mapR_any hx hy) ?_
    simp only[go_sem]
    repeat' first|((exfalso;omega))|refine sw_seq ?_|refine sw_go 0 kp47 fun K hK=>?_|((first|refine runL_go ?_|refine runQ_go ?_|refine sw_ret (ret0 ?_)|refine sw_ret ?_);simp (disch:=(refine Om.mk ?_;omega)) only[go_sem,Tryz.results47])|(refine hK.nil ?_;clear hK K;simp only[go_sem])|((first|refine runG_fork rfl rfl rfl rfl rfl ?_ ?_|refine runQG_fork rfl rfl rfl rfl rfl ?_ ?_|refine sw_cond rfl ?_ ?_)<;>intro h<;>try simp (disch:=(refine Om.mk ?_;omega)) only[go_sem] at h)|refine sw_exit rfl ?_|fail
    all_goals exact ret1_own rfl (by simp)
end Go.Proofs.YtohnfgligddanaaGreat
end
section
namespace Go.Proofs.YtohnfgligddanaaGreat
open Go Go.Lg
set_option linter.unusedSimpArgs false
set_option linter.unusedVariables false
set_option maxHeartbeats 4000000
attribute [local irreducible] SW runL runQ runG runQG FC Ret1 toF redoL anyB
def maxAt (xs:List Int):Nat→Int
 | 0=>xs.getD 0 default
 | p+1=>if xs.getD (p+1) default>maxAt xs p then xs.getD (p+1) default else maxAt xs p
theorem maxAt_le (xs:List Int) (c:Int):∀n,maxAt xs n≤c↔∀j≤n,xs.getD j default≤c
 | 0=>⟨fun h j hj=>by rwa [show j=0 by omega],fun h=>h 0 (Nat.le_refl _)⟩
 | n+1=>by
  have ih:=maxAt_le xs c n
  simp only[maxAt]
  constructor
  ·intro h j hj
   rcases Nat.lt_or_ge j (n+1) with h1|h1
   ·exact ih.1 (by split at h<;>omega) j (by omega)
   ·rw[show j=n+1 by omega];split at h<;>omega
  ·intro h
   have h1:=ih.2 fun j hj=>h j (by omega)
   have h2:=h (n+1) (Nat.le_refl _)
   split<;>omega
theorem maxAt_all {xs:List Int} {c:Int} (h:0<xs.length):maxAt xs (xs.length-1)≤c↔∀x∈xs,x≤c:=by
 rw[maxAt_le]
 exact⟨fun h1=>all_getD (P:=fun x=>x≤c) fun j hj=>h1 j (by omega),fun h1 j hj=>h1 _ (getD_mem xs j (by omega))⟩
def kp140:List (Nat×List Nat):=[(0,[0]),(1,[0,7]),(2,[0]),(3,[0,3]),(4,[0,3,4]),(5,[0,3,4,15]),(7,[0,3,4]),(6,[0,3,4]),(8,[2])]
attribute [go_sem] kp140
theorem max_fc (tk:Tk) (xs:List Int) (h0:0<xs.length):FC S 140 [] [] [] [.sl tk (xs.map (.int .i64))] (.int .i64 (maxAt xs (xs.length-1))) [] []:=by
 refine fc_body Tryz.func140 rfl (by kernel_rfl) (by simp[Tryz.f140]) fun B=>?_
 simp only[Tryz.ntmps140,enumD,lst0,Nat.reduceAdd]
 refine sw_bnd 0 rfl fun hb0=>?_
 simp only[D.bnd,List.length_map] at hb0
 repeat' first|refine sw_seq ?_|refine sw_block ?_|refine sw_skip ?_|refine sw_go 0 kp140 fun K hK=>?_|((first|refine runL_go ?_|refine sw_ret (ret0 ?_)|refine sw_ret ?_);simp (disch:=(refine Om.mk ?_;omega)) only[go_sem,Tryz.results140])|(refine hK.nil ?_;clear hK K;simp only[go_sem])|((first|refine sw_cond rfl ?_ ?_)<;>intro h<;>try simp (disch:=(refine Om.mk ?_;omega)) only[go_sem] at h)|(with_reducible refine And.intro (by first|omega|(simp only[lens];omega)) ?_)|fail
 ·omega
 refine sw_loopU (ι:=Nat) (fun p=>[(4,.int .i64 (p+1)),(3,.int .i64 (maxAt xs p))]) (fun p=>[]) (fun p=>p<xs.length) (fun p=>xs.length-p) 0 (by(refine covers_mk0 rfl rfl ?_ ?_ ?_ ?_<;>simp (disch:=(refine Om.mk ?_;omega)) only[go_sem]<;>(try omega));exact⟨rfl,rfl⟩) ?_ (fun p hp=>?_)
 rotate_left
 simp only[go_sem]
 repeat' first|refine sw_seq ?_|refine sw_block ?_|refine sw_inBlock ?_|refine sw_skip ?_|refine sw_go 0 kp140 fun K hK=>?_|((first|refine runL_go ?_|refine sw_ret (ret0 ?_)|refine sw_ret ?_);simp (disch:=(refine Om.mk ?_;omega)) only[go_sem,Tryz.results140])|(refine hK.nil ?_;clear hK K;simp only[go_sem])|((first|refine sw_cond rfl ?_ ?_)<;>intro h<;>try simp (disch:=(refine Om.mk ?_;omega)) only[go_sem] at h)|refine sw_exit rfl ?_|refine sw_loopEnd ?_|(with_reducible refine And.intro (by first|omega|(simp only[lens];omega)) ?_)|fail
 ·exact⟨p+1,(by(refine covers_mk0 rfl rfl ?_ ?_ ?_ ?_<;>simp (disch:=(refine Om.mk ?_;omega)) only[go_sem]<;>(try omega));exact⟨rfl,by omega⟩),by omega,by omega⟩
 ·rw[show p=xs.length-1 by omega]
 ·exact h0
def kp84:List (Nat×List Nat):=[(0,[1,2]),(1,[1,2,19]),(2,[4]),(3,[2,20,21,22]),(4,[2,20,21,22,23]),(5,[2,5,6,20,21,22]),(6,[2,6,20,21,22,45]),(7,[4]),(8,[2,20,21,22,47,48,49]),(9,[2,20,21,22,47,48,49,50]),(10,[2,8,20,21,22,47,48,49]),(11,[2,20,21,22,47,48,49,58]),(12,[4]),(13,[2,20,21,22,47,48,49]),(14,[2,20,21,22]),(15,[4])]
attribute [go_sem] kp84
theorem implPolysOk_fc (rs:List Int) (ps:List PolyT):FC S 84 [] [] [] [.agg [.sl .any (rs.map (.int .i64))],.sl .any (ps.map PolyD)] (.bool (tst (PolysOkP rs ps))) [] []:=by
 refine fc_body Tryz.func84 rfl (by kernel_rfl) (by simp[Tryz.f84]) fun B=>?_
 simp only[Tryz.ntmps84,enumD,lst0,Nat.reduceAdd]
 refine sw_bnd 1 rfl fun hb1=>?_
 simp only[D.bnd,List.length_map] at hb1
 repeat' first|refine sw_seq ?_|refine sw_block ?_|refine sw_skip ?_|refine sw_go 0 kp84 fun K hK=>?_|((first|refine runL_go ?_|refine runQ_go ?_|refine sw_ret (ret0 ?_)|refine sw_ret ?_);simp (disch:=(refine Om.mk ?_;omega)) only[go_sem,Tryz.results84])|(refine hK.nil ?_;clear hK K;simp only[go_sem])|((first|refine runG_fork rfl rfl rfl rfl rfl ?_ ?_|refine runQG_fork rfl rfl rfl rfl rfl ?_ ?_|refine sw_cond rfl ?_ ?_)<;>intro h<;>try simp (disch:=(refine Om.mk ?_;omega)) only[go_sem] at h)|refine hK.c0 rfl rfl rfl (implSigOk_fc _ _) rfl rfl rfl ?_|fail
 ·exact fun h=>absurd h.1.1 (by assumption)
 ·exact fun h=>absurd h.1.2 (by omega)
 refine sw_loopU (ι:=Nat) (fun i=>[(22,.int .i64 i)]) (fun _=>[]) (fun i=>i≤ps.length∧(∀j<i,PolyOkP (rs.getD j default) (ps.getD j default))) (fun i=>ps.length-i) 0 (by(refine covers_mk0 rfl rfl ?_ ?_ ?_ ?_<;>simp (disch:=(refine Om.mk ?_;omega)) only[go_sem]<;>(try omega))) ⟨by omega,?_⟩ (fun i ⟨hi,hj⟩=>?_)
 rotate_left
 simp only[go_sem]
 have hsg:=(by assumption:SigOkP rs)
 have hla:i<ps.length→rs.getD i default≤3:=fun h=>(hsg.2 i (by omega)).2
 repeat' first|refine sw_seq ?_|refine sw_block ?_|refine sw_skip ?_|refine sw_go 0 kp84 fun K hK=>?_|refine sw_goD kp84 (by kernel_rfl) fun K hK=>?_|((first|refine runL_go ?_|refine runQ_go ?_|refine sw_ret (ret0 ?_)|refine sw_ret ?_);simp (disch:=(refine Om.mk ?_;omega)) only[go_sem,Tryz.results84])|(refine hK.nil ?_;clear hK K;simp only[go_sem])|((first|refine runG_fork rfl rfl rfl rfl rfl ?_ ?_|refine runQG_fork rfl rfl rfl rfl rfl ?_ ?_|refine sw_cond rfl ?_ ?_)<;>intro h<;>try simp (disch:=(refine Om.mk ?_;omega)) only[go_sem] at h)|refine sw_exit rfl ?_|(with_reducible refine And.intro (by first|omega|(simp only[lens];omega)) ?_)|fail
 ·exact fun hp=>absurd (hp.2 i (by omega)).1 (by omega)
 ·exact fun hp=>absurd (hp.2 i (by omega)).1 (by omega)
 ·exact fun hp=>absurd (hp.2 i (by omega)).1 (by omega)
 ·have hla:=hla (by omega)
  refine sw_loopT (ι:=Nat) (fun k=>[(49,.int .i64 k)]) (fun _=>[]) (fun _=>[]) (fun k=>k≤(ps.getD i default).coef.length∧∀j<k,0≤(ps.getD i default).coef.getD j default∧(ps.getD i default).coef.getD j default≤9) (fun k=>(ps.getD i default).coef.length-k) 0 (by(refine covers_mk0 rfl rfl ?_ ?_ ?_ ?_<;>simp (disch:=(refine Om.mk ?_;omega)) only[go_sem]<;>(try omega))) ⟨by omega,fun j hj=>absurd hj (by omega)⟩ (fun k hk=>?_)
  obtain⟨hk,hk1⟩:=hk
  simp only[go_sem]
  repeat' first|refine sw_seq ?_|refine sw_block ?_|refine sw_inBlock ?_|refine sw_skip ?_|refine sw_go 0 kp84 fun K hK=>?_|((first|refine runL_go ?_|refine runQ_go ?_|refine sw_ret (ret0 ?_)|refine sw_ret ?_);simp (disch:=(refine Om.mk ?_;omega)) only[go_sem,Tryz.results84])|(refine hK.nil ?_;clear hK K;simp only[go_sem])|((first|refine runG_fork rfl rfl rfl rfl rfl ?_ ?_|refine runQG_fork rfl rfl rfl rfl rfl ?_ ?_|refine sw_cond rfl ?_ ?_)<;>intro h<;>try simp (disch:=(refine Om.mk ?_;omega)) only[go_sem] at h)|refine sw_exit rfl ?_|refine sw_loopEnd ?_|(with_reducible refine And.intro (by first|omega|(simp only[lens];omega)) ?_)|fail
  ·exact fun hp=>absurd ((hp.2 i (by omega)).2 _ (getD_mem _ k (by omega))) (by omega)
  ·exact fun hp=>absurd ((hp.2 i (by omega)).2 _ (getD_mem _ k (by omega))) (by omega)
  ·exact⟨k+1,(by(refine covers_mk0 rfl rfl ?_ ?_ ?_ ?_<;>simp (disch:=(refine Om.mk ?_;omega)) only[go_sem]<;>(try omega))),⟨by omega,upto_succ hk1 ⟨by omega,by omega⟩⟩,by omega⟩
  ·exact⟨i+1,(by(refine covers_mk0 rfl rfl ?_ ?_ ?_ ?_<;>simp (disch:=(refine Om.mk ?_;omega)) only[go_sem]<;>(try omega))),⟨by omega,upto_succ hj ⟨⟨by omega,by omega,by omega⟩,all_getD (P:=fun x=>0≤x∧x≤9) fun j hj'=>hk1 j (by omega)⟩⟩,by omega⟩
 ·exact⟨⟨by assumption,by omega⟩,fun j hj'=>hj j (by omega)⟩
 ·intro j hj';omega
def kp135:List (Nat×List Nat):=[(0,[1,2]),(1,[1,2,9]),(2,[4]),(3,[4])]
attribute [go_sem] kp135
theorem lineAt_fc (p:PolyT) (i:Nat):FC S 135 [] [] [] [PolyD p,.int .i64 i] (.int .i64 (p.coef.getD i default)) [] []:=by
 have hz:=fun h=>addJ_past [] p.coef 0 (j:=i) h
 refine fc_body Tryz.func135 rfl (by kernel_rfl) (by simp[Tryz.f135]) fun B=>?_
 simp only[Tryz.ntmps135,enumD,lst0,Nat.reduceAdd]
 refine sw_bnd_agg 0 1 rfl rfl fun hb0_1=>?_
 simp only[D.bnd,List.length_map] at hb0_1
 repeat' first|refine sw_seq ?_|refine sw_skip ?_|refine sw_go 0 kp135 fun K hK=>?_|((first|refine runL_go ?_|refine sw_ret (ret0 ?_)|refine sw_ret ?_);simp (disch:=(refine Om.mk ?_;omega)) only[go_sem,Tryz.results135])|(refine hK.nil ?_;clear hK K;simp only[go_sem])|((first|refine sw_cond rfl ?_ ?_)<;>intro h<;>try simp (disch:=(refine Om.mk ?_;omega)) only[go_sem] at h)|(with_reducible refine And.intro (by first|omega|(simp only[lens];omega)) ?_)|fail
 exact(hz (by omega)).symm
def kp126:List (Nat×List Nat):=[(0,[1,2]),(1,[4])]
attribute [go_sem] kp126
theorem coef_fc (p:PolyT) (i:Nat):FC S 126 [] [] [] [PolyD p,.int .i64 i] (.int .i64 (p.coef.getD i default)) [] []:=by
 refine fc_body Tryz.func126 rfl (by kernel_rfl) (by simp[Tryz.f126]) fun B=>?_
 simp only[Tryz.ntmps126,enumD,lst0,Nat.reduceAdd]
 repeat' first|refine sw_seq ?_|refine sw_go 0 kp126 fun K hK=>?_|((first|refine runL_go ?_|refine sw_ret (ret0 ?_)|refine sw_ret ?_);simp (disch:=(refine Om.mk ?_;omega)) only[go_sem,Tryz.results126])|(refine hK.nil ?_;clear hK K;simp only[go_sem])|refine hK.c0 rfl rfl rfl (lineAt_fc p i) rfl rfl rfl ?_|fail
open Classical in
noncomputable def mostR (a b:PolyT):Bool×Bool:=if MostP a b then (tst (a.const≤b.const),tst (a.const<b.const)) else (false,false)
theorem mostR_yes {a b:PolyT} (h:MostP a b):mostR a b=(tst (a.const≤b.const),tst (a.const<b.const)):=if_pos h
theorem mostR_no {a b:PolyT} (h:¬MostP a b):mostR a b=(false,false):=if_neg h
def kp110:List (Nat×List Nat):=[(0,[2,3]),(1,[2,3,9,10,11]),(2,[2,3,9,10,11,12]),(3,[2,3,6,7,9,10,11]),(4,[2,3,9,10,11,20]),(5,[4,5]),(6,[2,3,9,10,11]),(7,[4,5])]
attribute [go_sem] kp110
theorem atMost_fc (a b:PolyT):FC S 110 [] [] [] [PolyD a,PolyD b] (.tup [.bool (mostR a b).1,.bool (mostR a b).2]) [] []:=by
 refine fc_body Tryz.func110 rfl (by kernel_rfl) (by simp[Tryz.f110]) fun B=>?_
 simp only[Tryz.ntmps110,enumD,lst0,Nat.reduceAdd]
 refine sw_bnd_agg 0 1 rfl rfl fun hb0_1=>?_
 simp only[D.bnd,List.length_map] at hb0_1
 repeat' first|refine sw_seq ?_|refine sw_block ?_|refine sw_go 0 kp110 fun K hK=>?_|((first|refine runL_go ?_|refine runQ_go ?_|refine sw_ret (ret0 ?_)|refine sw_ret ?_);simp (disch:=(refine Om.mk ?_;omega)) only[go_sem,Tryz.results110])|(refine hK.nil ?_;clear hK K;simp only[go_sem])|fail
 refine sw_loopU (ι:=Nat) (fun i=>[(11,.int .i64 i)]) (fun _=>[]) (fun i=>i≤a.coef.length∧(∀j<i,a.coef.getD j default≤b.coef.getD j default)) (fun i=>a.coef.length-i) 0 (by(refine covers_mk0 rfl rfl ?_ ?_ ?_ ?_<;>simp (disch:=(refine Om.mk ?_;omega)) only[go_sem]<;>(try omega))) ⟨by omega,?_⟩ (fun i ⟨hi,hj⟩=>?_)
 rotate_left
 simp only[go_sem]
 repeat' first|refine sw_seq ?_|refine sw_block ?_|refine sw_inBlock ?_|refine sw_skip ?_|refine sw_go 0 kp110 fun K hK=>?_|refine sw_goD kp110 (by kernel_rfl) fun K hK=>?_|((first|refine runL_go ?_|refine runQ_go ?_|refine sw_ret (ret0 ?_)|refine sw_ret ?_);simp (disch:=(refine Om.mk ?_;omega)) only[go_sem,Tryz.results110])|(refine hK.nil ?_;clear hK K;simp only[go_sem])|((first|refine sw_cond rfl ?_ ?_)<;>intro h<;>try simp (disch:=(refine Om.mk ?_;omega)) only[go_sem] at h)|refine sw_exit rfl ?_|refine sw_loopEnd ?_|refine hK.c0 rfl rfl rfl (coef_fc b i) rfl rfl rfl ?_|(with_reducible refine And.intro (by first|omega|(simp only[lens];omega)) ?_)|fail
 ·rw[mostR_no fun hm=>absurd (hm i (by omega)) (by omega)]
  exact⟨rfl,rfl⟩
 ·exact⟨i+1,(by(refine covers_mk0 rfl rfl ?_ ?_ ?_ ?_<;>simp (disch:=(refine Om.mk ?_;omega)) only[go_sem]<;>(try omega))),⟨by omega,upto_succ hj (by omega)⟩,by omega⟩
 ·rw[mostR_yes fun j hj'=>hj j (by omega)]
  exact⟨decide_tst _,decide_tst _⟩
 ·intro j hj';omega
attribute [local go_sem] flat_zeros idsL_intsF
def kp138:List (Nat×List Nat):=[(0,[0,2]),(1,[0,2,3]),(2,[2,3]),(3,[2])]
attribute [go_sem] kp138
theorem varForm_fc (n:Int) (h0:n<0) (h1:-24≤n):FC S 138 [] [] [] [.int .i64 n] (PolyD (varF n)) [] []:=by
 refine fc_body Tryz.func138 rfl (by kernel_rfl) (by simp[Tryz.f138]) fun B=>?_
 simp only[Tryz.ntmps138,enumD,lst0,Nat.reduceAdd]
 repeat' first|((refine⟨by rw[List.length_replicate];omega,?_⟩))|((refine sw_hold (id:=3) ?_))|refine sw_seq ?_|refine sw_go 0 kp138 fun K hK=>?_|((first|refine runL_go ?_|refine sw_ret (ret0 ?_)|refine sw_ret ?_);simp (disch:=(refine Om.mk ?_;omega)) only[go_sem,Tryz.results138])|(refine hK.nil ?_;clear hK K;simp only[go_sem])|(with_reducible refine And.intro (by first|omega|(simp only[lens];omega)) ?_)|fail
 refine HoldP.go ?_
 refine sw_freeze 3 1 .any ((varF n).coef.map (.int .i64)) rfl rfl (by rw[flat_ints];unfold varF;rw[Int.zero_sub]) (by simp[varF]) (fun x hx=>by obtain⟨y,_,rfl⟩:=List.mem_map.1 hx;rfl) (fun d hd=>by obtain⟨y,_,rfl⟩:=List.mem_map.1 hd;rfl) (.inl rfl) ?_
 simp only[go_sem]
 repeat' first|refine sw_go 0 kp138 fun K hK=>?_|((first|refine runL_go ?_|refine sw_ret (ret0 ?_)|refine sw_ret ?_);simp (disch:=(refine Om.mk ?_;omega)) only[go_sem,Tryz.results138])|(refine hK.nil ?_;clear hK K;simp only[go_sem])|fail
 all_goals rfl
def PolyLb (a:PolyT):D:=.agg [.int .i64 a.const,.sl (.lab [1]) (a.coef.map (.int .i64))]
attribute [local go_sem] PolyLb
theorem sto_polyL {k:Nat} {e:TypeId} {tk:List Nat} {ys zs:List Int} (qs:List PolyT):StO k e tk ys zs (.sl (.lab [1]) (qs.map PolyLb)) (.sl (.lab [1]) (qs.map PolyLb)):=by
 refine sto_plain ?_
 show D.safeIL k tk (qs.map PolyLb)=true
 refine safeIL_of fun d hd=>?_
 obtain⟨a,_,rfl⟩:=List.mem_map.1 hd
 simp[PolyLb,D.safeI,D.safeIL,safeIL_ints]
theorem addJ_zero (cs ds:List Int) (c:Int):addJ cs ds c 0=cs++List.replicate (ds.length-cs.length) 0:=rfl
theorem addJ_succ (cs ds:List Int) (c:Int) (j:Nat):addJ cs ds c (j+1)=(addJ cs ds c j).set j ((addJ cs ds c j).getD j default+c*ds.getD j default):=rfl
end Go.Proofs.YtohnfgligddanaaGreat
end
section
namespace Go.Proofs.YtohnfgligddanaaGreat
open Go Go.Lg
set_option linter.unusedSimpArgs false
set_option linter.unusedVariables false
set_option maxHeartbeats 4000000
attribute [local irreducible] SW runL runQ runG runQG FC Ret1 toF redoL anyB addJ sumF
attribute [local go_sem] PolyLb
def kp139:List (Nat×List Nat):=[(0,[1,2,4]),(1,[1,2,4,6]),(2,[2,4,6,14,15,16]),(3,[2,4,6,14,15,16,17]),(4,[2,4,6,7,8,14,15,16]),(5,[2,4,6,7,8,14,15,16]),(6,[2,4,6,7,8,14,15,16,39]),(7,[2,4,6,7,8,14,15,16]),(8,[2,4,6,7,14,15,16,46,47,48]),(9,[2,4,6,7,14,15,16,46,47,48,49]),(10,[2,4,6,7,9,10,14,15,16,46,47,48]),(11,[2,4,6,7,14,15,16,46,47,48]),(12,[2,4,6,7,14,15,16,46,47,48]),(13,[2,4,6,14,15,16]),(14,[4,6,83]),(15,[4,5]),(16,[4,5])]
attribute [go_sem] kp139
theorem appliedL_fc (p:PolyT) (qs:List PolyT) (hp:PolyOkP qs.length p) (hn:qs.length≤3) (hA:∀j<qs.length,GoodB MF (qs.getD j default)):FC S 139 [] [] [] [.agg [.int .i64 p.const,.sl (.lab [1]) (p.coef.map (.int .i64))],.sl (.lab [1]) (qs.map PolyLb)] (.tup [PolyD (appF1 (fun j=>(qs.getD j default,true)) p qs.length).1,.bool (appF1 (fun j=>(qs.getD j default,true)) p qs.length).2]) [] []:=by
 have hpl:=hp.1
 have hz:sumF (fun j=>(qs.getD j default,true)) p 0=⟨p.const,[]⟩:=by unfold sumF;rfl
 have hs:∀i,sumF (fun j=>(qs.getD j default,true)) p (i+1)=addF (sumF (fun j=>(qs.getD j default,true)) p i) (qs.getD i default) (p.coef.getD i default):=fun i=>by conv=>lhs;unfold sumF
 have hgood:=fun i (hi:i≤qs.length)=>good_le (good_sum (F:=fun j=>(qs.getD j default,true)) hp i fun j hj=>hA j (by omega)) (show (9+9*MF*(i:Int))≤100*MF by simp only[MF];omega)
 unfold appF1
 generalize sumF (fun j=>(qs.getD j default,true)) p=F at *
 refine fc_bodyF Tryz.func139 rfl (by kernel_rfl) (by simp[Tryz.f139]) fun B N hOff=>?_
 simp only[Tryz.ntmps139,enumD,lst0,Nat.reduceAdd]
 repeat' first|refine sw_seq ?_|refine sw_block ?_|refine sw_go 0 kp139 fun K hK=>?_|((first|refine runL_go ?_|refine runQ_go ?_|refine sw_ret (ret0 ?_)|refine sw_ret ?_);simp (disch:=(refine Om.mk ?_;omega)) only[go_sem,Tryz.results139])|(refine hK.nil ?_;clear hK K;simp only[go_sem])|fail
 refine sw_tokBox 6 1 44000 2 1 rfl rfl rfl ?_
 simp only[go_sem]
 refine sw_loopT (ι:=Nat) (fun i=>[(16,.int .i64 i)]) (fun i=>[(6,[.int .i64 (F i).const,.sl (.own 44000 2 1) ((F i).coef.map (.int .i64))])]) (fun _=>[44000]) (fun i=>i≤qs.length) (fun i=>qs.length-i) 0 (by rw[hz];(refine covers_mk0 rfl rfl ?_ ?_ ?_ ?_<;>simp (disch:=(refine Om.mk ?_;omega)) only[go_sem]<;>(try omega))) (by omega) (fun i hi=>?_)
 simp only[go_sem]
 have hci:=coef_get hp i
 have hgo:=hgood i hi
 have hlo:=hgo.2.2
 have hco:=hgo.1
 simp only[MF] at hco
 by_cases hil:i<qs.length
 ·have ha:=hA i hil
  have hla:=ha.2.2
  have hs1:=hs i
  have hm:0≤p.coef.getD i default*(qs.getD i default).const∧p.coef.getD i default*(qs.getD i default).const≤9*MF:=⟨Int.mul_nonneg hci.1 ha.1.1,Int.mul_le_mul hci.2 ha.1.2 ha.1.1 (by omega)⟩
  simp only[MF] at hm
  repeat' first|((exfalso;omega))|refine sw_seq ?_|refine sw_block ?_|refine sw_skip ?_|refine sw_go 0 kp139 fun K hK=>?_|refine sw_goT 0 kp139 12 (id:=5) (by kernel_rfl) fun K hK=>?_|refine fun (K:KT) (hK:KOk S 0 _ _ _ K)=>?_|((first|refine runL_go ?_|refine runQ_go ?_|refine sw_ret (ret0 ?_)|refine sw_ret ?_);simp (disch:=(refine Om.mk ?_;omega)) only[go_sem,Tryz.results139])|(refine hK.nil ?_;clear hK K;simp only[go_sem])|((first|refine runG_fork rfl rfl rfl rfl rfl ?_ ?_|refine runQG_fork rfl rfl rfl rfl rfl ?_ ?_|refine sw_cond rfl ?_ ?_)<;>intro h<;>try simp (disch:=(refine Om.mk ?_;omega)) only[go_sem] at h)|(with_reducible refine And.intro (by first|omega|(simp only[lens];omega)) ?_)|fail
  generalize ho:F i=o at *
  refine sw_loopT (ι:=Nat) (fun _=>[]) (fun j=>[(6,[.int .i64 (o.const+p.coef.getD i default*(qs.getD i default).const),.sl (.own 44000 2 1) ((o.coef++List.replicate j 0).map (.int .i64))])]) (fun _=>[44000]) (fun j=>j≤(qs.getD i default).coef.length-o.coef.length) (fun j=>(qs.getD i default).coef.length-o.coef.length-j) 0 (by rw[List.replicate_zero,List.append_nil];(refine covers_mk0 rfl rfl ?_ ?_ ?_ ?_<;>simp (disch:=(refine Om.mk ?_;omega)) only[go_sem]<;>(try omega))) (by omega) (fun j hj=>?_)
  simp only[go_sem]
  have hjl:(o.coef++List.replicate j (0:Int)).length=o.coef.length+j:=by simp
  have hjs:o.coef++List.replicate (j+1) (0:Int)=(o.coef++List.replicate j 0)++[0]:=by rw[List.replicate_succ',List.append_assoc]
  repeat' first|refine sw_seq ?_|refine sw_block ?_|refine sw_inBlock ?_|refine sw_skip ?_|refine sw_go 0 kp139 fun K hK=>?_|((first|refine runL_go ?_|refine runQ_go ?_|refine sw_ret (ret0 ?_)|refine sw_ret ?_);simp (disch:=(refine Om.mk ?_;omega)) only[go_sem,Tryz.results139])|(refine hK.nil ?_;clear hK K;simp only[go_sem])|((first|refine runG_fork rfl rfl rfl rfl rfl ?_ ?_|refine runQG_fork rfl rfl rfl rfl rfl ?_ ?_|refine sw_cond rfl ?_ ?_)<;>intro h<;>try simp (disch:=(refine Om.mk ?_;omega)) only[go_sem] at h)|refine sw_exit rfl ?_|refine sw_loopEnd ?_|(with_reducible refine And.intro (by first|omega|(simp only[lens];omega)) ?_)|((with_reducible refine And.intro ?_ ?_);· first|(intro x hx;subst hx;rfl)|(intro x;refine And.intro ?_ ?_<;>(intros;subst_vars;rfl)))|fail
  ·exact⟨j+1,(by rw[hjs];(refine covers_mk0 rfl rfl ?_ ?_ ?_ ?_<;>simp (disch:=(refine Om.mk ?_;omega)) only[go_sem]<;>(try omega))),by omega,by omega⟩
  ·rw[show j=(qs.getD i default).coef.length-o.coef.length by omega,←addJ_zero o.coef (qs.getD i default).coef (p.coef.getD i default)]
   refine sw_loopT (ι:=Nat) (fun v=>[(48,.int .i64 v)]) (fun v=>[(6,[.int .i64 (o.const+p.coef.getD i default*(qs.getD i default).const),.sl (.own 44000 2 1) ((addJ o.coef (qs.getD i default).coef (p.coef.getD i default) v).map (.int .i64))])]) (fun _=>[44000]) (fun v=>v≤(qs.getD i default).coef.length) (fun v=>(qs.getD i default).coef.length-v) 0 (by(refine covers_mk0 rfl rfl ?_ ?_ ?_ ?_<;>simp (disch:=(refine Om.mk ?_;omega)) only[go_sem]<;>(try omega))) (by omega) (fun v hv=>?_)
   simp only[go_sem]
   have hbv:=mem_getD (P:=fun x=>0≤x∧x≤MF) ⟨Int.le_refl _,by decide⟩ ha.2.1 v
   have hav:=mem_getD (P:=fun x=>0≤x∧x≤100*MF) ⟨Int.le_refl _,by decide⟩ hgo.2.1 v
   have hmv:0≤p.coef.getD i default*(qs.getD i default).coef.getD v default∧p.coef.getD i default*(qs.getD i default).coef.getD v default≤9*MF:=⟨Int.mul_nonneg hci.1 hbv.1,Int.mul_le_mul hci.2 hbv.2 hbv.1 (by omega)⟩
   have hLv:(addJ o.coef (qs.getD i default).coef (p.coef.getD i default) v).getD v default=o.coef.getD v default:=by rw[addJ_get _ _ _ _ hv,if_neg (by omega),Int.add_zero]
   have hLl:=addJ_len o.coef (qs.getD i default).coef (p.coef.getD i default) v
   have hLs:=addJ_succ o.coef (qs.getD i default).coef (p.coef.getD i default) v
   simp only[MF] at hav hmv
   repeat' first|((refine sw_goTW kp139 13 (id:=11) (by kernel_rfl) fun K hK=>?_))|refine sw_seq ?_|refine sw_block ?_|refine sw_inBlock ?_|refine sw_skip ?_|refine sw_go 0 kp139 fun K hK=>?_|((first|refine runL_go ?_|refine runQ_go ?_|refine sw_ret (ret0 ?_)|refine sw_ret ?_);simp (disch:=(refine Om.mk ?_;omega)) only[go_sem,Tryz.results139])|(refine hK.nil ?_;clear hK K;simp only[go_sem])|((first|refine runG_fork rfl rfl rfl rfl rfl ?_ ?_|refine runQG_fork rfl rfl rfl rfl rfl ?_ ?_|refine sw_cond rfl ?_ ?_)<;>intro h<;>try simp (disch:=(refine Om.mk ?_;omega)) only[go_sem] at h)|refine sw_exit rfl ?_|refine sw_loopEnd ?_|(with_reducible refine And.intro (by first|omega|(simp only[lens];omega)) ?_)|fail
   ·refine LopsW.storeOwnL [(2,.box 2 0),(4,.box 4 0),(6,.box 6 0),(7,.int .i64 i),(14,.sl (.lab [1]) (qs.map PolyLb)),(15,.int .i64 qs.length),(16,.int .i64 i),(46,.sl (.lab [1]) ((qs.getD i default).coef.map (.int .i64))),(47,.int .i64 (qs.getD i default).coef.length),(48,.int .i64 v)] [(2,[.int .i64 p.const,.sl (.lab [1]) (p.coef.map (.int .i64))]),(4,[.int .i64 0,.sl .nil []]),(6,[.int .i64 (o.const+p.coef.getD i default*(qs.getD i default).const),.sl (.own 44000 2 1) (((addJ o.coef (qs.getD i default).coef (p.coef.getD i default) v).set v ((addJ o.coef (qs.getD i default).coef (p.coef.getD i default) v).getD v default+p.coef.getD i default*(qs.getD i default).coef.getD v default)).map (.int .i64))]),(8,[.int .i64 (qs.getD i default).const,.sl (.lab [1]) ((qs.getD i default).coef.map (.int .i64))])] hOff.1 rfl rfl rfl rfl rfl rfl rfl (fun _=>rfl) (by simp) ⟨by omega,by omega⟩ (by simp only[Nat.reduceLT]) ⟨⟨by decide,_,rfl,sto_plain rfl⟩,⟨by decide,_,rfl,sto_plain rfl⟩,⟨by decide,_,rfl,sto_plain rfl⟩,⟨by decide,_,rfl,sto_plain rfl⟩,⟨by decide,_,rfl,sto_polyL qs⟩,⟨by decide,_,rfl,sto_plain rfl⟩,⟨by decide,_,rfl,sto_plain rfl⟩,⟨by decide,_,rfl,sto_lab _ _ _⟩,⟨by decide,_,rfl,sto_plain rfl⟩,⟨by decide,_,rfl,sto_plain rfl⟩,trivial⟩ ⟨⟨_,rfl,sto_plain rfl,sto_lab _ _ _,trivial⟩,⟨_,rfl,sto_plain rfl,sto_plain rfl,trivial⟩,⟨_,rfl,sto_plain rfl,sto_own,trivial⟩,⟨_,rfl,sto_plain rfl,sto_lab _ _ _,trivial⟩,trivial⟩ ?_
    refine LopsW.nil ?_
    rw[←hLs]
    simp only[go_sem]
    repeat' first|refine sw_inBlock ?_|refine sw_go 0 kp139 fun K hK=>?_|((first|refine runL_go ?_|refine runQ_go ?_|refine sw_ret (ret0 ?_)|refine sw_ret ?_);simp (disch:=(refine Om.mk ?_;omega)) only[go_sem,Tryz.results139])|(refine hK.nil ?_;clear hK K;simp only[go_sem])|refine sw_loopEnd ?_|fail
    exact⟨v+1,(by(refine covers_mk0 rfl rfl ?_ ?_ ?_ ?_<;>simp (disch:=(refine Om.mk ?_;omega)) only[go_sem]<;>(try omega))),by omega,by omega⟩
   ·have e1:(addF o (qs.getD i default) (p.coef.getD i default)).const=o.const+p.coef.getD i default*(qs.getD i default).const:=rfl
    have e2:(addF o (qs.getD i default) (p.coef.getD i default)).coef=addJ o.coef (qs.getD i default).coef (p.coef.getD i default) (qs.getD i default).coef.length:=rfl
    exact⟨i+1,(by rw[hs1,e1,e2,show v=(qs.getD i default).coef.length by omega];(refine covers_mk0 rfl rfl ?_ ?_ ?_ ?_<;>simp (disch:=(refine Om.mk ?_;omega)) only[go_sem]<;>(try omega))),by omega,by omega⟩
 ·obtain rfl:i=qs.length:=by omega
  rcases Classical.em (okF (F qs.length)) with hok|hok
  ·rw[if_pos ⟨(fun _ _=>rfl),hok⟩]
   have h1:=hok.1
   have h2:=hok.2
   simp only[MF] at h2
   repeat' first|((exfalso;omega))|refine sw_seq ?_|refine sw_skip ?_|refine sw_go 0 kp139 fun K hK=>?_|((first|refine runL_go ?_|refine runQ_go ?_|refine sw_ret (ret0 ?_)|refine sw_ret ?_);simp (disch:=(refine Om.mk ?_;omega)) only[go_sem,Tryz.results139])|(refine hK.nil ?_;clear hK K;simp only[go_sem])|((first|refine runG_fork rfl rfl rfl rfl rfl ?_ ?_|refine runQG_fork rfl rfl rfl rfl rfl ?_ ?_|refine sw_cond rfl ?_ ?_)<;>intro h<;>try simp (disch:=(refine Om.mk ?_;omega)) only[go_sem] at h)|refine hK.skp rfl rfl ?_|refine sw_exit rfl ?_|refine hK.c0 rfl rfl rfl (max_fc _ (F qs.length).coef (by omega)) rfl rfl rfl ?_|fail
   exact absurd ((maxAt_all (c:=MF) (by omega)).2 h1) (by simp only[MF];omega)
  ·rw[if_neg fun e=>hok e.2]
   repeat' first|((exfalso;omega))|refine sw_seq ?_|refine sw_skip ?_|refine sw_go 0 kp139 fun K hK=>?_|((first|refine runL_go ?_|refine runQ_go ?_|refine sw_ret (ret0 ?_)|refine sw_ret ?_);simp (disch:=(refine Om.mk ?_;omega)) only[go_sem,Tryz.results139])|(refine hK.nil ?_;clear hK K;simp only[go_sem])|((first|refine runG_fork rfl rfl rfl rfl rfl ?_ ?_|refine runQG_fork rfl rfl rfl rfl rfl ?_ ?_|refine sw_cond rfl ?_ ?_)<;>intro h<;>try simp (disch:=(refine Om.mk ?_;omega)) only[go_sem] at h)|refine hK.skp rfl rfl ?_|refine sw_exit rfl ?_|refine hK.c0 rfl rfl rfl (max_fc _ (F qs.length).coef (by omega)) rfl rfl rfl ?_|fail
   ·exact⟨rfl,rfl⟩
   ·exact⟨rfl,rfl⟩
   ·exact absurd (show okF (F qs.length) from⟨(maxAt_all (c:=MF) (by omega)).1 (by simp only[MF];omega),by simp only[MF];omega⟩) hok
   ·exact absurd (show okF (F qs.length) from⟨fun x hx=>by have:=List.length_pos_of_mem hx;omega,by simp only[MF];omega⟩) hok
theorem applied_fc (p:PolyT) (qs:List PolyT) (hp:PolyOkP qs.length p) (hn:qs.length≤3) (hA:∀j<qs.length,GoodB MF (qs.getD j default)):FC S 139 [] [] [] [PolyD p,.sl .any (qs.map PolyD)] (.tup [PolyD (appF1 (fun j=>(qs.getD j default,true)) p qs.length).1,.bool (appF1 (fun j=>(qs.getD j default,true)) p qs.length).2]) [] []:=by
 refine fc_old [1] (by simp) ?_ ?_ ?_
 ·have h:∀q:PolyT,(PolyD q).okLb=true:=fun q=>by simp[PolyD,D.okLb,D.okLbL,okLbL_map (f:=fun x=>D.int .i64 x) fun _=>rfl]
  simp[h,D.okLb,D.okLbL,okLbL_map (f:=PolyD) h]
 ·simp[PolyD,D.noLb,D.noLbL,noLbL_map (f:=fun x=>D.int .i64 x) fun _=>rfl]
 ·have h:∀q:PolyT,(PolyD q).lb [1]=PolyLb q:=fun q=>by simp only[PolyD,PolyLb,D.lbL,D.lb,lbL_ints]
  simp only[D.lbL,D.lb,lbL_mapf,h]
  exact appliedL_fc p qs hp hn hA
end Go.Proofs.YtohnfgligddanaaGreat
end
