/-
  U05, A04p, A20p, A04, U08, U11, U1x, U14, one behind the other.
-/
import Derived.Test.YtohnfgligddanaaGreatG6
import Derived.Test.YtohnfgligddanaaGreatG1
import Derived.Test.YtohnfgligddanaaGreatG3
section
namespace Go.Proofs.YtohnfgligddanaaGreat
open Go Go.Lg
set_option linter.unusedSimpArgs false
set_option linter.unusedVariables false
set_option maxHeartbeats 4000000
attribute [local irreducible] SW runL runQ runG runQG FC Ret1 bD
theorem tksU_nat (ys:List Nat):D.tksL (ys.map natD)=[]:=by
 induction ys with
 | nil=>rfl
 | cons y r ih=>simp[D.tksL,D.tks,natD,ih]
def EqOk (rs:List Int) (rec:Bds→List Int→List Int→Option (Option Bds)) (id:Nat):Prop:=∀(β:Bds) (a b:List Int),BOK rs β→XT rs a→XT rs b →
 (∀β',rec β a b=some (some β')→BOK rs β'∧FC S 122 [] [(id+1000,uC rs β)] [] [.box (id+1000) 0,.sl .any (a.map (.int .i64)),.sl .any (b.map (.int .i64))] (.tup []) [(id+1000,uC rs β')] []) ∧
 (rec β a b=some none→FCX S 122 [] [(id+1000,uC rs β)] [] [.box (id+1000) 0,.sl .any (a.map (.int .i64)),.sl .any (b.map (.int .i64))] (chainE 149))
theorem pairsX_len (rs a b:List Int):(pairsX rs a b).length=(argsS rs (phiL a) 0).length:=by simp[pairsX]
theorem pairsX_drop (rs a b:List Int) {i:Nat} (h:i<(argsS rs (phiL a) 0).length):(pairsX rs a b).drop i=(subX rs a ((argsS rs (phiL a) 0).getD i default),subX rs b ((argsS rs (phiL b) 0).getD i default))::(pairsX rs a b).drop (i+1):=by
 rw[List.drop_eq_getElem_cons (by rw[pairsX_len];exact h)]
 simp[pairsX]
theorem argsX_len {rs a b:List Int} (hA:XT rs a) (hB:XT rs b) (he:hd a=hd b):(argsS rs (phiL b) 0).length=(argsS rs (phiL a) 0).length:=by
 have h1:=hA.len
 have h2:=hB.len
 unfold argsS
 rw[begS_length,begS_length,phiL_get b 0 (by omega),phiL_get a 0 (by omega)]
 unfold hd at he
 rw[he]
theorem argsX_lt {rs a:List Int} (hA:XT rs a) {i:Nat} (hi:i<(argsS rs (phiL a) 0).length):(argsS rs (phiL a) 0).getD i default<a.length:=by
 have h1:=hA.len
 have:=(argsS_lt hA.1 (a:=0) (by rw[phiL_len];omega) _ (getD_mem _ i hi)).2
 rwa [phiL_len] at this
theorem pairsX_ok {rs a b:List Int} (hA:XT rs a) (hB:XT rs b) (he:hd a=hd b):∀p∈pairsX rs a b,XT rs p.1∧XT rs p.2:=fun p hp=>by
 obtain⟨k,hk,rfl⟩:=List.mem_map.1 hp
 have hk:=List.mem_range.1 hk
 exact⟨subX_ok hA (argsX_lt hA hk),subX_ok hB (argsX_lt hB (by rw[argsX_len hA hB he];exact hk))⟩
theorem eqL_ok {rs:List Int} {rec:Bds→List Int→List Int→Option (Option Bds)} {id:Nat} (hr:EqOk rs rec id):∀ {ps:List (List Int×List Int)} {β β':Bds},(∀p∈ps,XT rs p.1∧XT rs p.2)→BOK rs β→eqL rec ps β=some (some β')→BOK rs β'
 | [],β,β',_,hβ,h=>by obtain rfl:=Option.some.inj (Option.some.inj h);exact hβ
 | p::r,β,β',hp,hβ,h=>by
  unfold eqL at h
  split at h
  ·cases h
  ·cases h
  ·rename_i δ hx
   have h0:=hp p (List.mem_cons_self ..)
   exact eqL_ok hr (fun q hq=>hp q (List.mem_cons_of_mem _ hq)) ((hr β _ _ hβ h0.1 h0.2).1 δ hx).1 h
theorem equateL_fc (id:Nat) (rs:List Int) (g:Nat) (β:Bds) (hβ:BOK rs β) (a b a1 b1:List Int) (hA:XT rs a) (hB:XT rs b) (h1:rootM β g a=some a1) (h2:rootM β g b=some b1) (rec:Bds→List Int→List Int→Option (Option Bds)) (hr:EqOk rs rec id) (β':Bds) (hl:eqL rec (pairsX rs a1 b1) β=some (some β')) (he:hd a1=hd b1) (h0:0≤hd a1):FC S 122 [] [(id+1000,uC rs β)] [] [.box (id+1000) 0,.sl .any (a.map (.int .i64)),.sl .any (b.map (.int .i64))] (.tup []) [(id+1000,uC rs β')] []:=by
 have c1:=root_fc (id+1000) rs β hβ g a a1 h1 hA
 have c2:=root_fc (id+1000) rs β hβ g b b1 h2 hB
 have hA1:=rootM_ok hβ h1 hA
 have hB1:=rootM_ok hβ h2 hB
 have hla:=hA1.len
 have hlb:=hB1.len
 have hga:=hA1.get (a:=0) (by omega)
 have hgb:=hB1.get (a:=0) (by omega)
 have hlβ:=hβ.1
 have hlen:=argsX_len hA1 hB1 he
 have hn8:(argsS rs (phiL a1) 0).length≤60:=by
  unfold argsS;rw[begS_length]
  have:=arS_rng hA1.1.1 ((phiL a1).getD 0 default)
  omega
 have cP:=argsAtX_fc .any .any rs a1 0 hA1 (by omega)
 have cQ:=argsAtX_fc .any .any rs b1 0 hB1 (by omega)
 unfold uC at *
 unfold hd at *
 refine fc_body Tryz.func122 rfl (by kernel_rfl) (by simp[Tryz.f122]) fun B=>?_
 simp only[Tryz.ntmps122,enumD,lst0,Nat.reduceAdd]
 repeat' first|((exfalso;omega))|refine sw_seq ?_|refine sw_block ?_|refine sw_skip ?_|refine sw_go 0 kp122 fun K hK=>?_|refine sw_goD kp122 (by kernel_rfl) fun K hK=>?_|((first|refine runL_go ?_|refine runQ_go ?_|refine sw_ret (ret0 ?_)|refine sw_ret ?_);simp (disch:=(refine Om.mk ?_;omega)) only[go_sem,Tryz.results122])|(refine hK.nil ?_;clear hK K;simp only[go_sem])|((first|refine runG_fork rfl rfl rfl rfl rfl ?_ ?_|refine runQG_fork rfl rfl rfl rfl rfl ?_ ?_|refine sw_cond rfl ?_ ?_)<;>intro h<;>try simp (disch:=(refine Om.mk ?_;omega)) only[go_sem] at h)|refine hK.call rfl rfl rfl (c1) ⟨(by simp[LS.getBox,Lg.look]),rfl,rfl,(by simp only[dstOk,Nat.reduceLT])⟩ ?_|refine hK.call rfl rfl rfl (c2) ⟨(by simp[LS.getBox,Lg.look]),rfl,rfl,(by simp only[dstOk,Nat.reduceLT])⟩ ?_|refine hK.c0 rfl rfl rfl (cP) rfl rfl rfl ?_|refine hK.c0 rfl rfl rfl (cQ) rfl rfl rfl ?_|(with_reducible refine And.intro (by first|omega|(simp only[lens];omega)) ?_)|fail
 refine sw_loopU (ι:=Nat×Bds) (fun p=>[(101,.int .i64 p.1)]) (fun p=>[(id+1000,D.sl .any (rs.map (.int .i64))::p.2.map bD)]) (fun p=>(p.1≤(argsS rs (phiL a1) 0).length∧BOK rs p.2)∧eqL rec ((pairsX rs a1 b1).drop p.1) p.2=some (some β')) (fun p=>(argsS rs (phiL a1) 0).length-p.1) (0,β) (by(refine covers_mk0 rfl rfl ?_ ?_ ?_ ?_<;>simp (disch:=(refine Om.mk ?_;omega)) only[go_sem]<;>(try omega))) ?_ (fun p hp=>?_)
 rotate_left
 simp only[go_sem]
 obtain⟨i,γ⟩:=p
 obtain⟨⟨hi,hγ⟩,h3⟩:=hp
 dsimp only at hi hγ h3
 by_cases hil:i<(argsS rs (phiL a1) 0).length
 ·rw[pairsX_drop rs a1 b1 hil] at h3
  have hXa:=subX_ok hA1 (argsX_lt hA1 hil)
  have hXb:=subX_ok hB1 (argsX_lt hB1 (i:=i) (by omega))
  have cS:=subAtX_fc .any .any rs a1 _ hA1 (argsX_lt hA1 hil)
  have cT:=subAtX_fc .any .any rs b1 _ hB1 (argsX_lt hB1 (i:=i) (by omega))
  unfold eqL at h3
  dsimp only at h3
  obtain⟨δ,hδ⟩:∃δ,rec γ (subX rs a1 ((argsS rs (phiL a1) 0).getD i default)) (subX rs b1 ((argsS rs (phiL b1) 0).getD i default))=some (some δ):=by
   split at h3
   ·cases h3
   ·cases h3
   ·rename_i δ hx;exact⟨δ,hx⟩
  rw[hδ] at h3
  dsimp only at h3
  obtain⟨hδB,cE⟩:=(hr γ _ _ hγ hXa hXb).1 δ hδ
  unfold uC at cE
  repeat' first|((exfalso;omega))|((refine hK.callB rfl rfl rfl (cE) (by refine⟨⟨?_,?_,?_,?_,?_⟩,⟨?_,?_,?_,?_,?_⟩,?_⟩<;>simp[-List.map_set,LS.getBox,Lg.look,D.ids,D.idsL,idsL_bool,idsL_bD,LS.clean,D.puOk,D.pu,D.pu1,D.tks,D.tksL,tksU_ints,tksL_bool,tksL_bD,puOk_intsU,puOk_bool,puOk_bD,inTok]) ?_;simp (disch:=(refine Om.mk ?_;omega)) only[go_sem]))|refine sw_seq ?_|refine sw_block ?_|refine sw_inBlock ?_|refine sw_skip ?_|refine sw_go 0 kp122 fun K hK=>?_|refine sw_goT 0 kp122 21 (id:=14) (by kernel_rfl) fun K hK=>?_|refine fun (K:KT) (hK:KOk S 0 _ _ _ K)=>?_|((first|refine runL_go ?_|refine runQ_go ?_|refine sw_ret (ret0 ?_)|refine sw_ret ?_);simp (disch:=(refine Om.mk ?_;omega)) only[go_sem,Tryz.results122])|(refine hK.nil ?_;clear hK K;simp only[go_sem])|((first|refine runG_fork rfl rfl rfl rfl rfl ?_ ?_|refine runQG_fork rfl rfl rfl rfl rfl ?_ ?_|refine sw_cond rfl ?_ ?_)<;>intro h<;>try simp (disch:=(refine Om.mk ?_;omega)) only[go_sem] at h)|refine sw_loopEnd ?_|refine hK.c0 rfl rfl rfl (cS) rfl rfl rfl ?_|refine hK.c0 rfl rfl rfl (cT) rfl rfl rfl ?_|(with_reducible refine And.intro (by first|omega|(simp only[lens];omega)) ?_)|fail
  all_goals exact⟨(i+1,δ),(by(refine covers_mk0 rfl rfl ?_ ?_ ?_ ?_<;>simp (disch:=(refine Om.mk ?_;omega)) only[go_sem]<;>(try omega))),⟨⟨by omega,hδB⟩,h3⟩,by omega⟩
 ·rw[List.drop_of_length_le (by rw[pairsX_len];omega)] at h3
  obtain rfl:=Option.some.inj (Option.some.inj h3)
  repeat' first|((exfalso;omega))|refine sw_seq ?_|refine sw_go 0 kp122 fun K hK=>?_|((first|refine runL_go ?_|refine runQ_go ?_|refine sw_ret (ret0 ?_)|refine sw_ret ?_);simp (disch:=(refine Om.mk ?_;omega)) only[go_sem,Tryz.results122])|(refine hK.nil ?_;clear hK K;simp only[go_sem])|((first|refine runG_fork rfl rfl rfl rfl rfl ?_ ?_|refine runQG_fork rfl rfl rfl rfl rfl ?_ ?_|refine sw_cond rfl ?_ ?_)<;>intro h<;>try simp (disch:=(refine Om.mk ?_;omega)) only[go_sem] at h)|refine sw_exit rfl ?_|fail
  refine sw_nil ?_
  simp only[go_sem,Tryz.results122]
  all_goals trace_state
 ·exact⟨⟨by omega,hβ⟩,hl⟩
theorem equateM_fc (id:Nat) (rs:List Int) (g:Nat) (β:Bds) (hβ:BOK rs β) (a b a1 b1:List Int) (hA:XT rs a) (hB:XT rs b) (h1:rootM β g a=some a1) (h2:rootM β g b=some b1) (rec:Bds→List Int→List Int→Option (Option Bds)) (hr:EqOk rs rec id) (hl:eqL rec (pairsX rs a1 b1) β=some none) (he:hd a1=hd b1) (h0:0≤hd a1):FCX S 122 [] [(id+1000,uC rs β)] [] [.box (id+1000) 0,.sl .any (a.map (.int .i64)),.sl .any (b.map (.int .i64))] (chainE 149):=by
 have c1:=root_fc (id+1000) rs β hβ g a a1 h1 hA
 have c2:=root_fc (id+1000) rs β hβ g b b1 h2 hB
 have hA1:=rootM_ok hβ h1 hA
 have hB1:=rootM_ok hβ h2 hB
 have hla:=hA1.len
 have hlb:=hB1.len
 have hga:=hA1.get (a:=0) (by omega)
 have hgb:=hB1.get (a:=0) (by omega)
 have hlβ:=hβ.1
 have hlen:=argsX_len hA1 hB1 he
 have hn8:(argsS rs (phiL a1) 0).length≤60:=by
  unfold argsS;rw[begS_length]
  have:=arS_rng hA1.1.1 ((phiL a1).getD 0 default)
  omega
 have cP:=argsAtX_fc .any .any rs a1 0 hA1 (by omega)
 have cQ:=argsAtX_fc .any .any rs b1 0 hB1 (by omega)
 unfold uC at *
 unfold hd at *
 refine fcx_body Tryz.func122 rfl (by kernel_rfl) (by simp[Tryz.f122]) fun B hp hp1=>?_
 simp only[Tryz.ntmps122,enumD,List.map_nil,List.map_cons,List.length_map,Nat.zero_add,Nat.reduceAdd]
 repeat' first|((exfalso;omega))|refine sw_seq ?_|refine sw_block ?_|refine sw_skip ?_|refine sw_go 0 kp122 fun K hK=>?_|refine sw_goD kp122 (by kernel_rfl) fun K hK=>?_|((first|refine runL_go ?_|refine runQ_go ?_|refine sw_ret (ret0 ?_)|refine sw_ret ?_);simp (disch:=(refine Om.mk ?_;omega)) only[go_sem,Tryz.results122])|(refine hK.nil ?_;clear hK K;simp only[go_sem])|((first|refine runG_fork rfl rfl rfl rfl rfl ?_ ?_|refine runQG_fork rfl rfl rfl rfl rfl ?_ ?_|refine sw_cond rfl ?_ ?_)<;>intro h<;>try simp (disch:=(refine Om.mk ?_;omega)) only[go_sem] at h)|refine hK.call rfl rfl rfl (c1) ⟨(by simp[LS.getBox,Lg.look]),rfl,rfl,(by simp only[dstOk,Nat.reduceLT])⟩ ?_|refine hK.call rfl rfl rfl (c2) ⟨(by simp[LS.getBox,Lg.look]),rfl,rfl,(by simp only[dstOk,Nat.reduceLT])⟩ ?_|refine hK.c0 rfl rfl rfl (cP) rfl rfl rfl ?_|refine hK.c0 rfl rfl rfl (cQ) rfl rfl rfl ?_|(with_reducible refine And.intro (by first|omega|(simp only[lens];omega)) ?_)|fail
 refine sw_loopU (ι:=Nat×Bds) (fun p=>[(101,.int .i64 p.1)]) (fun p=>[(id+1000,D.sl .any (rs.map (.int .i64))::p.2.map bD)]) (fun p=>(p.1≤(argsS rs (phiL a1) 0).length∧BOK rs p.2)∧eqL rec ((pairsX rs a1 b1).drop p.1) p.2=some none) (fun p=>(argsS rs (phiL a1) 0).length-p.1) (0,β) (by(refine covers_mk0 rfl rfl ?_ ?_ ?_ ?_<;>simp (disch:=(refine Om.mk ?_;omega)) only[go_sem]<;>(try omega))) ?_ (fun p hp=>?_)
 rotate_left
 simp only[go_sem]
 obtain⟨i,γ⟩:=p
 obtain⟨⟨hi,hγ⟩,h3⟩:=hp
 dsimp only at hi hγ h3
 by_cases hil:i<(argsS rs (phiL a1) 0).length
 ·rw[pairsX_drop rs a1 b1 hil] at h3
  have hXa:=subX_ok hA1 (argsX_lt hA1 hil)
  have hXb:=subX_ok hB1 (argsX_lt hB1 (i:=i) (by omega))
  have cS:=subAtX_fc .any .any rs a1 _ hA1 (argsX_lt hA1 hil)
  have cT:=subAtX_fc .any .any rs b1 _ hB1 (argsX_lt hB1 (i:=i) (by omega))
  unfold eqL at h3
  dsimp only at h3
  have hR:=hr γ _ _ hγ hXa hXb
  cases hx:rec γ (subX rs a1 ((argsS rs (phiL a1) 0).getD i default)) (subX rs b1 ((argsS rs (phiL b1) 0).getD i default)) with
  | none=>rw[hx] at h3;cases h3
  | some o =>
   rw[hx] at h3
   cases o with
   | none =>
    have cE:=hR.2 hx
    unfold uC at cE
    repeat' first|((exfalso;omega))|((refine sw_goTP 21 (id:=14) (by kernel_rfl) fun K hK=>?_))|refine sw_seq ?_|refine sw_block ?_|refine sw_skip ?_|refine sw_go 0 kp122 fun K hK=>?_|((first|refine runL_go ?_|refine runQ_go ?_|refine sw_ret (ret0 ?_)|refine sw_ret ?_);simp (disch:=(refine Om.mk ?_;omega)) only[go_sem,Tryz.results122])|(refine hK.nil ?_;clear hK K;simp only[go_sem])|((first|refine runG_fork rfl rfl rfl rfl rfl ?_ ?_|refine runQG_fork rfl rfl rfl rfl rfl ?_ ?_|refine sw_cond rfl ?_ ?_)<;>intro h<;>try simp (disch:=(refine Om.mk ?_;omega)) only[go_sem] at h)|refine hK.c0 rfl rfl rfl (cS) rfl rfl rfl ?_|refine hK.c0 rfl rfl rfl (cT) rfl rfl rfl ?_|(with_reducible refine And.intro (by first|omega|(simp only[lens];omega)) ?_)|fail
    try simp only[List.drop_succ_cons,List.drop_zero]
    refine LopsP.call rfl rfl rfl cE hp ⟨by simp,by simp[Lg.look],by simp⟩ 1000000 (by simp[-List.map_set,LS.clean,D.tks,D.tksL,tksU_ints,tksL_bool,tksL_bD,tksU_nat,inTok])
   | some δ =>
    dsimp only at h3
    obtain⟨hδB,cE⟩:=hR.1 δ hx
    unfold uC at cE
    repeat' first|((exfalso;omega))|((refine hK.callB rfl rfl rfl (cE) (by refine⟨⟨?_,?_,?_,?_,?_⟩,⟨?_,?_,?_,?_,?_⟩,?_⟩<;>simp[-List.map_set,LS.getBox,Lg.look,D.ids,D.idsL,idsL_bool,idsL_bD,LS.clean,D.puOk,D.pu,D.pu1,D.tks,D.tksL,tksU_ints,tksL_bool,tksL_bD,puOk_intsU,puOk_bool,puOk_bD,inTok]) ?_;simp (disch:=(refine Om.mk ?_;omega)) only[go_sem]))|refine sw_seq ?_|refine sw_block ?_|refine sw_inBlock ?_|refine sw_skip ?_|refine sw_go 0 kp122 fun K hK=>?_|refine sw_goT 0 kp122 21 (id:=14) (by kernel_rfl) fun K hK=>?_|refine fun (K:KT) (hK:KOk S 0 _ _ _ K)=>?_|((first|refine runL_go ?_|refine runQ_go ?_|refine sw_ret (ret0 ?_)|refine sw_ret ?_);simp (disch:=(refine Om.mk ?_;omega)) only[go_sem,Tryz.results122])|(refine hK.nil ?_;clear hK K;simp only[go_sem])|((first|refine runG_fork rfl rfl rfl rfl rfl ?_ ?_|refine runQG_fork rfl rfl rfl rfl rfl ?_ ?_|refine sw_cond rfl ?_ ?_)<;>intro h<;>try simp (disch:=(refine Om.mk ?_;omega)) only[go_sem] at h)|refine sw_loopEnd ?_|refine hK.c0 rfl rfl rfl (cS) rfl rfl rfl ?_|refine hK.c0 rfl rfl rfl (cT) rfl rfl rfl ?_|(with_reducible refine And.intro (by first|omega|(simp only[lens];omega)) ?_)|fail
    all_goals exact⟨(i+1,δ),(by(refine covers_mk0 rfl rfl ?_ ?_ ?_ ?_<;>simp (disch:=(refine Om.mk ?_;omega)) only[go_sem]<;>(try omega))),⟨⟨by omega,hδB⟩,h3⟩,by omega⟩
 ·rw[List.drop_of_length_le (by rw[pairsX_len];omega)] at h3
  cases h3
 ·exact⟨⟨by omega,hβ⟩,hl⟩
theorem equate_ok (rs:List Int) (g id:Nat):∀f,EqOk rs (eqM rs g f) id
 | 0=>fun β a b _ _ _=>⟨fun _ h=>(by cases h),fun h=>(by cases h)⟩
 | f+1=>fun β a b hβ hA hB=>by
  have ih:=equate_ok rs g id f
  cases h1:rootM β g a with
  | none=>exact⟨fun _ h=>(by simp[eqM,h1] at h),fun h=>(by simp[eqM,h1] at h)⟩
  | some a1 =>
   cases h2:rootM β g b with
   | none=>exact⟨fun _ h=>(by simp[eqM,h1,h2] at h),fun h=>(by simp[eqM,h1,h2] at h)⟩
   | some b1 =>
    have hA1:=rootM_ok hβ h1 hA
    have hB1:=rootM_ok hβ h2 hB
    have e:eqM rs g (f+1) β a b=eqB rs g (eqM rs g f) β a1 b1:=by simp[eqM,h1,h2]
    rw[e]
    unfold eqB
    by_cases k1:hd a1=hd b1∧hd a1<0
    ·rw[if_pos k1]
     exact⟨fun β' h=>(by obtain rfl:=Option.some.inj (Option.some.inj h);exact⟨hβ,equateA_fc id rs g β hβ a b a1 b1 hA hB h1 h2 k1⟩),fun h=>(by cases h)⟩
    rw[if_neg k1]
    by_cases k2:hd b1<0∧(0≤hd a1∨hd b1<hd a1)
    ·rw[if_pos k2]
     unfold bindM
     by_cases k3:0≤hd a1
     ·rw[if_pos k3]
      cases hq:occM β (hd b1) g a1 (List.replicate 48 false) with
      | none=>exact⟨fun _ h=>(by cases h),fun h=>(by cases h)⟩
      | some q =>
       obtain⟨o,s⟩:=q
       cases o with
       | true=>exact⟨fun _ h=>(by cases h),fun _=>equateS3_fc id rs g β hβ a b a1 b1 hA hB h1 h2 k1 k2 k3 s hq⟩
       | false=>exact⟨fun β' h=>(by obtain rfl:=Option.some.inj (Option.some.inj h);exact⟨hβ.set _ hA1,equateS2_fc id rs g β hβ a b a1 b1 hA hB h1 h2 k1 k2 k3 s hq⟩),fun h=>(by cases h)⟩
     ·rw[if_neg k3]
      exact⟨fun β' h=>(by obtain rfl:=Option.some.inj (Option.some.inj h);exact⟨hβ.set _ hA1,equateS1_fc id rs g β hβ a b a1 b1 hA hB h1 h2 k1 k2 (by omega)⟩),fun h=>(by cases h)⟩
    rw[if_neg k2]
    by_cases k4:hd a1<0
    ·rw[if_pos k4]
     unfold bindM
     by_cases k3:0≤hd b1
     ·rw[if_pos k3]
      cases hq:occM β (hd a1) g b1 (List.replicate 48 false) with
      | none=>exact⟨fun _ h=>(by cases h),fun h=>(by cases h)⟩
      | some q =>
       obtain⟨o,s⟩:=q
       cases o with
       | true=>exact⟨fun _ h=>(by cases h),fun _=>equateC3_fc id rs g β hβ a b a1 b1 hA hB h1 h2 k1 k2 k4 k3 s hq⟩
       | false=>exact⟨fun β' h=>(by obtain rfl:=Option.some.inj (Option.some.inj h);exact⟨hβ.set _ hB1,equateC2_fc id rs g β hβ a b a1 b1 hA hB h1 h2 k1 k2 k4 k3 s hq⟩),fun h=>(by cases h)⟩
     ·rw[if_neg k3]
      exact⟨fun β' h=>(by obtain rfl:=Option.some.inj (Option.some.inj h);exact⟨hβ.set _ hB1,equateC1_fc id rs g β hβ a b a1 b1 hA hB h1 h2 k1 k2 k4 (by omega)⟩),fun h=>(by cases h)⟩
    rw[if_neg k4]
    have k5:0≤hd b1:=by omega
    by_cases k6:hd a1=hd b1
    ·rw[if_neg (by simpa using k6)]
     exact⟨fun β' h=>⟨eqL_ok ih (fun p hp=>pairsX_ok hA1 hB1 k6 p hp) hβ h,equateL_fc id rs g β hβ a b a1 b1 hA hB h1 h2 _ ih β' h k6 (by omega)⟩,fun h=>equateM_fc id rs g β hβ a b a1 b1 hA hB h1 h2 _ ih h k6 (by omega)⟩
    ·rw[if_pos k6]
     exact⟨fun _ h=>(by cases h),fun _=>equateN_fc id rs g β hβ a b a1 b1 hA hB h1 h2 (by omega) k5 k6⟩
end Go.Proofs.YtohnfgligddanaaGreat
end
section
namespace Go.Proofs.YtohnfgligddanaaGreat
open Go Go.Lg
set_option linter.unusedSimpArgs false
set_option linter.unusedVariables false
abbrev Bnd:=List (List Int)
def vx (n:Int):Nat:=(-1-n).toNat
def linM (rs t:List Int):List Int→Nat→Bnd→Bnd×Bool
 | [],_,g=>(g,true)
 | n::p,a,g=>if t.length≤a then (g,false) else if 0≤n then (if t.getD a default=n then linM rs t p (a+1) g else (g,false))
   else if g.getD (vx n) default=[] then linM rs t p (a+(subS rs t a).length) (g.set (vx n) (subS rs t a))
   else if g.getD (vx n) default=subS rs t a then linM rs t p (a+(subS rs t a).length) g else (g,false)
theorem linM_len (rs t:List Int):∀(p:List Int) (a:Nat) (g:Bnd),(linM rs t p a g).1.length=g.length
 | [],_,_=>rfl
 | n::p,a,g=>by
  have h1:=linM_len rs t p (a+1) g
  have h2:=linM_len rs t p (a+(subS rs t a).length) (g.set (vx n) (subS rs t a))
  have h3:=linM_len rs t p (a+(subS rs t a).length) g
  rw[List.length_set] at h2
  simp only[linM]
  split
  ·rfl
  ·split
   ·split
    ·exact h1
    ·rfl
   ·split
    ·exact h2
    ·split
     ·exact h3
     ·rfl
def G0:Bnd:=List.replicate 24 []
end Go.Proofs.YtohnfgligddanaaGreat
end
section
namespace Go.Proofs.YtohnfgligddanaaGreat
open Go Go.Lg
set_option linter.unusedSimpArgs false
set_option linter.unusedVariables false
set_option maxHeartbeats 4000000
attribute [local irreducible] SW runL runQ runG runQG FC Ret1
def tkN (u:List Int):Tk:=if u=[] then .nil else .any
def optD (u:List Int):D:=.sl (tkN u) (u.map (.int .i64))
attribute [go_sem] optD
theorem nilY_tkN (u:List Int) (K:D→Prop):nilY .eql (tkN u) (u.map (.int .i64)) K=K (.bool (tst (u=[]))):=by
 unfold tkN
 by_cases h:u=[]
 ·subst h;simp[nilY,tst]
 ·rw[if_neg h,tst_false h]
  simp[nilY,h]
theorem take_full {α:Type} (xs:List α) (n:Nat) (h:Om (xs.length≤n)):xs.take n=xs:=List.take_of_length_le h.out
theorem putC_full (cs new:List D) (h:Om (cs.length=new.length)):putC cs 0 new=new:=by
 have h:=h.out
 unfold putC
 split
 ·match cs,h with
  | [c],_=>rfl
 ·unfold putCells
  rw[List.take_zero,List.nil_append,Nat.zero_add,←h,List.drop_length,List.append_nil]
theorem idsL_opt (g:List (List Int)):D.idsL (g.map optD)=[]:=by
 induction g with
 | nil=>rfl
 | cons u g ih=>simp[D.idsL,optD,D.ids];exact ih
theorem tksL_opt (g:List (List Int)):D.tksL (g.map optD)=[]:=by
 induction g with
 | nil=>rfl
 | cons u g ih =>
  simp only[List.map_cons,D.tksL,ih,optD,tkN]
  split<;>rfl
theorem all_opt (g:List (List Int)):(g.map optD).all D.one=true:=by
 rw[List.all_eq_true]
 intro d hd
 obtain⟨u,_,rfl⟩:=List.mem_map.1 hd
 rfl
attribute [local go_sem] idsL_opt tksL_opt nilY_tkN take_full all_opt linM_len
theorem putC_opt (g:List (List Int)) (h:Om (g.length=24)):putC [D.sl .nil [],D.sl .nil [],D.sl .nil [],D.sl .nil [],D.sl .nil [],D.sl .nil [],D.sl .nil [],D.sl .nil [],D.sl .nil [],D.sl .nil [],D.sl .nil [],D.sl .nil [],D.sl .nil [],D.sl .nil [],D.sl .nil [],D.sl .nil [],D.sl .nil [],D.sl .nil [],D.sl .nil [],D.sl .nil [],D.sl .nil [],D.sl .nil [],D.sl .nil [],D.sl .nil []] 0 (g.map optD)=g.map optD:=putC_full _ _ ⟨by rw[List.length_map,h.out];rfl⟩
attribute [local go_sem] putC_opt
theorem flat_intsD (g:List (List Int)):flat (g.map IntsD)=g.map IntsD:=by
 induction g with
 | nil=>rfl
 | cons u g ih=>simp[flat] at ih ⊢;simp[D.cells,IntsD];exact ih
theorem flatMap_intsD (g:List (List Int)):List.flatMap D.cells (g.map IntsD)=g.map IntsD:=flat_intsD g
attribute [local go_sem] flatMap_intsD
theorem argsS_len (rs t:List Int) (a:Nat):(argsS rs t a).length=(arS rs (t.getD a default)).toNat:=begS_length _ _ _ _
theorem argsS_get (rs t:List Int) (a j:Nat) (h:j<(arS rs (t.getD a default)).toNat):(argsS rs t a).getD j default=nthB rs t (a+1) j:=begS_get _ _ _ _ _ h
end Go.Proofs.YtohnfgligddanaaGreat
end
section
namespace Go.Proofs.YtohnfgligddanaaGreat
open Go Go.Lg
set_option linter.unusedSimpArgs false
set_option linter.unusedVariables false
set_option maxHeartbeats 1000000
theorem vIx_inj {x y:Int} (hx:x<0) (hy:y<0) (h:vIx x=vIx y):x=y:=by unfold vIx at h;omega
theorem subX_drop {rs t:List Int} (h:XT rs t) {a:Nat} (ha:a<t.length):t.drop a=subX rs t a++t.drop (endS rs (phiL t) a).toNat:=by
 have he:=endS_ge h.1 (a:=a) (by rw[phiL_len];exact ha)
 rw[phiL_len] at he
 unfold subX
 conv=>lhs;rw[←List.take_append_drop (endS rs (phiL t) a).toNat t]
 rw[List.drop_append_of_le_length (by simp;omega)]
theorem flat_pre {rs t:List Int} (h:XT rs t):∀j≤(argsS rs (phiL t) 0).length,t.drop 1=((List.range j).map fun k=>subX rs t ((argsS rs (phiL t) 0).getD k default)).flatten++t.drop (nthB rs (phiL t) 1 j):=by
 intro j
 induction j with
 | zero=>intro _;simp[nthB]
 | succ j ih =>
  intro hj
  have hl:=h.len
  have hn:j<(arS rs ((phiL t).getD 0 default)).toNat:=by rw[argsS_len] at hj;omega
  have hlt:=nthB_lt h.1 (a:=0) (by rw[phiL_len];omega) hn
  rw[Nat.zero_add,phiL_len] at hlt
  rw[List.range_succ,List.map_append,List.flatten_append,ih (by omega),List.append_assoc]
  congr 1
  simp only[List.map_cons,List.map_nil,List.flatten_cons,List.flatten_nil,List.append_nil]
  rw[argsS_get rs (phiL t) 0 j hn,Nat.zero_add]
  exact subX_drop h hlt.2
theorem fst_flat (rs a b:List Int):(pairsX rs a b).map (·.1)=(List.range (argsS rs (phiL a) 0).length).map fun k=>subX rs a ((argsS rs (phiL a) 0).getD k default):=by simp[pairsX]
theorem snd_flat (rs a b:List Int):(pairsX rs a b).map (·.2)=(List.range (argsS rs (phiL a) 0).length).map fun k=>subX rs b ((argsS rs (phiL b) 0).getD k default):=by simp[pairsX]
end Go.Proofs.YtohnfgligddanaaGreat
end
section
namespace Go.Proofs.YtohnfgligddanaaGreat
open Go Go.Lg
set_option linter.unusedSimpArgs false
set_option linter.unusedVariables false
set_option maxHeartbeats 4000000
attribute [local irreducible] SW runL runQ runG runQG FC Ret1
theorem sw_freezeAtW {B:Base} {R:LS→Prop} {k:List VItem} {L:LS} (rid t s:Nat) (tk:Tk) {id n:Nat} {cs:List D} (xs:List D) {ops:Array Oper} {dr:Bool} (ht:Lg.look L.env t=some (.ms id n)) (hb:Lg.look L.boxes id=some cs) (hx:cs=flat xs) (hn:n=xs.length)
  (hu:∀x∈xs,x.cells.length=s) (hk:∀d∈cs,d.memOk=true) (htk:tk=.any∨tk=.nn) (hh:SW S B R (.code (.region rid ops dr)::k) {L with env:=setA L.env t (.sl tk xs),boxes:=eraseK id L.boxes}):SW S B R (.code (.region rid ops dr)::k) L :=
 sw_freeze t s tk xs ht hb hx hn hu hk htk hh
def awF (n:Int):Int:=if n<0 then n-24 else n
def awayL (t:List Int):List Int:=t.map awF
def preM (f:Int→Int) (t:List Int) (i:Nat):List Int:=(t.take i).map f++t.drop i
theorem preM_len (f:Int→Int) (t:List Int) (i:Nat):(preM f t i).length=t.length:=by unfold preM;simp;omega
theorem preM_z (f:Int→Int) (t:List Int):preM f t 0=t:=rfl
theorem preM_get (f:Int→Int) (t:List Int) {i:Nat} (h:i<t.length):(preM f t i).getD i default=t.getD i default:=by
 unfold preM
 simp only[List.getD_eq_getElem?_getD]
 rw[List.getElem?_append_right (by rw[List.length_map,List.length_take];omega),List.length_map,List.length_take,List.getElem?_drop,show min i t.length=i by omega,Nat.sub_self,Nat.add_zero]
theorem preM_next (f:Int→Int) (t:List Int) {i:Nat} (h:i<t.length):preM f t (i+1)=(preM f t i).set i (f (t.getD i default)):=by
 unfold preM
 rw[List.take_succ_eq_append_getElem h,List.map_append,List.drop_eq_getElem_cons h,List.set_append,if_neg (by rw[List.length_map,List.length_take];omega),List.length_map,List.length_take,show min i t.length=i by omega,Nat.sub_self,List.set_cons_zero,List.append_assoc]
 simp[List.getD,h]
theorem preM_stay (f:Int→Int) (t:List Int) {i:Nat} (h:i<t.length) (hn:f (t.getD i default)=t.getD i default):preM f t (i+1)=preM f t i:=by
 rw[preM_next f t h,hn,←preM_get f t h]
 have hl:i<(preM f t i).length:=by rw[preM_len];exact h
 rw[List.getD_eq_getElem?_getD,List.getElem?_eq_getElem hl,Option.getD_some,List.set_getElem_self]
theorem preM_all (f:Int→Int) (t:List Int):preM f t t.length=t.map f:=by unfold preM;simp
theorem cloneOwnW_fc (tk:Tk) (xs:List Int) (hl:xs.length≤17592186044416):FC S 102 [] [] [] [.sl tk (xs.map (.int .i64))] (.sl (.own 0 2 1) (xs.map (.int .i64))) [] [0]:=by
 refine FC.args (args':=[.sl .any (xs.map (.int .i64))]) ?_ (by simp only[go_sem])
 refine fc_body1 Tryz.func102 rfl (by kernel_rfl) (by simp[Tryz.f102]) fun B=>?_
 simp only[Tryz.ntmps102,enumD,lst0,Nat.reduceAdd]
 refine sw_bnd 0 rfl fun hb0=>?_
 simp only[D.bnd,List.length_map] at hb0
 refine sw_nilcase 0 rfl (fun hx=>?_) ?_<;>simp only[go_sem]
 ·have hx:xs=[]:=by simpa using hx
  subst hx
  repeat' first|(refine sw_tok 2 5000 2 1 rfl (.inl rfl) rfl ?_;simp only[go_sem])|refine sw_seq ?_|refine sw_go 0 kp102 fun K hK=>?_|((first|refine runL_go ?_|refine sw_ret (ret0 ?_)|refine sw_ret ?_);simp (disch:=(refine Om.mk ?_;omega)) only[go_sem,Tryz.results102])|(refine hK.nil ?_;clear hK K;simp only[go_sem])|((first|refine sw_cond rfl ?_ ?_)<;>intro h<;>try simp (disch:=(refine Om.mk ?_;omega)) only[go_sem] at h)|fail
  exact ret1_own rfl (by simp)
 ·repeat' first|refine sw_seq ?_|refine sw_skip ?_|refine sw_go 0 kp102 fun K hK=>?_|((first|refine runL_go ?_|refine sw_ret (ret0 ?_)|refine sw_ret ?_);simp (disch:=(refine Om.mk ?_;omega)) only[go_sem,Tryz.results102])|(refine hK.nil ?_;clear hK K;simp only[go_sem])|((first|refine sw_cond rfl ?_ ?_)<;>intro h<;>try simp (disch:=(refine Om.mk ?_;omega)) only[go_sem] at h)|(with_reducible refine And.intro (by first|omega|(simp only[lens];omega)) ?_)|fail
  exact ret1_own rfl (by simp)
def kp105:List (Nat×List Nat):=[(0,[0]),(1,[3]),(2,[3,8,9,10]),(3,[3,8,9,10,11]),(4,[3,4,5,8,9,10]),(5,[3,4,5,8,9,10,16]),(6,[3,8,9,10]),(7,[3,8,9,10]),(8,[2])]
attribute [go_sem] kp105
theorem away_fc (t:List Int) (h1:1≤t.length∧t.length≤1000) (ht:∀x∈t,-24≤x):FC S 105 [] [] [] [.sl .any (t.map (.int .i64))] (.sl .any ((awayL t).map (.int .i64))) [] []:=by
 have hne:t≠[]:=by rintro rfl;simp at h1
 refine fc_body Tryz.func105 rfl (by kernel_rfl) (by simp[Tryz.f105]) fun B=>?_
 simp only[Tryz.ntmps105,enumD,lst0,Nat.reduceAdd]
 repeat' first|refine sw_seq ?_|refine sw_block ?_|refine sw_go 0 kp105 fun K hK=>?_|((first|refine runL_go ?_|refine sw_ret (ret0 ?_)|refine sw_ret ?_);simp (disch:=(refine Om.mk ?_;omega)) only[go_sem,Tryz.results105])|(refine hK.nil ?_;clear hK K;simp only[go_sem])|(refine hK.callT rfl rfl rfl (cloneOwnW_fc .any t (by omega)) ⟨⟨by simp only[Nat.reduceLT],by simp,by simp[Lg.look]⟩,by assumption⟩ ?_;simp (disch:=(refine Om.mk ?_;omega)) only[go_sem])|fail
 refine sw_loopT (ι:=Nat) (fun i=>[(10,.int .i64 i)]) (fun i=>[(7,(preM awF t i).map (.int .i64))]) (fun _=>[]) (fun i=>i≤t.length) (fun i=>t.length-i) 0 (by rw[preM_z];(refine covers_mk0 rfl rfl ?_ ?_ ?_ ?_<;>simp (disch:=(refine Om.mk ?_;omega)) only[go_sem]<;>(try omega));all_goals first|rfl|exact⟨rfl,rfl⟩|trace_state) (by omega) (fun i hi=>?_)
 simp only[go_sem]
 have hpl:=preM_len awF t i
 have hpg:=@preM_get awF t i
 have hpn:=@preM_next awF t i
 have hps:=@preM_stay awF t i
 by_cases hil:i<t.length
 ·have hpg:=hpg hil
  have hx:=ht _ (getD_mem t i hil)
  by_cases hv:t.getD i default<0
  ·have hf:awF (t.getD i default)=t.getD i default-24:=if_pos hv
   repeat' first|((exfalso;omega))|refine sw_seq ?_|refine sw_block ?_|refine sw_inBlock ?_|refine sw_skip ?_|refine sw_go 0 kp105 fun K hK=>?_|((first|refine runL_go ?_|refine sw_ret (ret0 ?_)|refine sw_ret ?_);simp (disch:=(refine Om.mk ?_;omega)) only[go_sem,Tryz.results105])|(refine hK.nil ?_;clear hK K;simp only[go_sem])|((first|refine sw_cond rfl ?_ ?_)<;>intro h<;>try simp (disch:=(refine Om.mk ?_;omega)) only[go_sem] at h)|refine sw_loopEnd ?_|(with_reducible refine And.intro (by first|omega|(simp only[lens];omega)) ?_)|fail
   all_goals exact⟨i+1,(by rw[hpn hil,hf,←hpg];(refine covers_mk0 rfl rfl ?_ ?_ ?_ ?_<;>simp (disch:=(refine Om.mk ?_;omega)) only[go_sem]<;>(try omega));all_goals first|rfl|exact⟨rfl,by omega⟩|omega|trace_state),by omega,by omega⟩
  ·have hf:awF (t.getD i default)=t.getD i default:=if_neg hv
   repeat' first|((exfalso;omega))|refine sw_seq ?_|refine sw_block ?_|refine sw_inBlock ?_|refine sw_skip ?_|refine sw_go 0 kp105 fun K hK=>?_|((first|refine runL_go ?_|refine sw_ret (ret0 ?_)|refine sw_ret ?_);simp (disch:=(refine Om.mk ?_;omega)) only[go_sem,Tryz.results105])|(refine hK.nil ?_;clear hK K;simp only[go_sem])|((first|refine sw_cond rfl ?_ ?_)<;>intro h<;>try simp (disch:=(refine Om.mk ?_;omega)) only[go_sem] at h)|refine sw_loopEnd ?_|(with_reducible refine And.intro (by first|omega|(simp only[lens];omega)) ?_)|fail
   all_goals exact⟨i+1,(by rw[hps hil hf];(refine covers_mk0 rfl rfl ?_ ?_ ?_ ?_<;>simp (disch:=(refine Om.mk ?_;omega)) only[go_sem]<;>(try omega));all_goals first|rfl|exact⟨rfl,by omega⟩|omega|trace_state),by omega,by omega⟩
 ·repeat' first|((exfalso;omega))|((refine sw_freezeAtW 8 3 1 .any ((preM awF t i).map (.int .i64)) rfl rfl (flat_ints _).symm (by rw[List.length_map,hpl]) (cells_one fun _=>rfl) (memOk_ints _) (.inl rfl) ?_;simp only[go_sem]))|refine sw_seq ?_|refine sw_go 0 kp105 fun K hK=>?_|((first|refine runL_go ?_|refine sw_ret (ret0 ?_)|refine sw_ret ?_);simp (disch:=(refine Om.mk ?_;omega)) only[go_sem,Tryz.results105])|(refine hK.nil ?_;clear hK K;simp only[go_sem])|((first|refine sw_cond rfl ?_ ?_)<;>intro h<;>try simp (disch:=(refine Om.mk ?_;omega)) only[go_sem] at h)|refine sw_exit rfl ?_|fail
  all_goals (rw[show i=t.length by omega,preM_all];rfl)
end Go.Proofs.YtohnfgligddanaaGreat
end
section
namespace Go.Proofs.YtohnfgligddanaaGreat
open Go Go.Lg
set_option linter.unusedSimpArgs false
set_option linter.unusedVariables false
theorem phiL_id {rs t:List Int} (h:TermOkP rs t):phiL t=t:=by
 unfold phiL
 conv=>rhs;rw[←List.map_id t]
 exact List.map_congr_left fun x hx=>by have:=h.ge x hx;unfold phi;rw[if_neg (by omega)];rfl
theorem XT.of {rs t:List Int} (h:TermOkP rs t):XT rs t:=⟨by rw[phiL_id h];exact h,fun x hx=>by have:=h.ge x hx;omega⟩
theorem phi_aw {n:Int} (h:-24≤n):phi (awF n)=n:=by unfold phi awF;split<;>split<;>omega
theorem phiL_away {rs t:List Int} (h:TermOkP rs t):phiL (awayL t)=t:=by
 unfold phiL awayL
 rw[List.map_map]
 conv=>rhs;rw[←List.map_id t]
 exact List.map_congr_left fun x hx=>phi_aw (h.ge x hx)
theorem XT.away {rs t:List Int} (h:TermOkP rs t):XT rs (awayL t):=⟨by rw[phiL_away h];exact h,fun x hx=>by
 obtain⟨y,hy,rfl⟩:=List.mem_map.1 hx
 have:=h.ge y hy
 unfold awF;split<;>omega⟩
def b0:Bds:=List.replicate 48 []
theorem b0_get (i:Nat):b0.getD i default=[]:=by
 unfold b0
 rw[List.getD_eq_getElem?_getD,List.getElem?_replicate]
 split<;>rfl
theorem b0_ok (rs:List Int):BOK rs b0:=⟨by simp[b0],fun x hx=>.inl (List.eq_of_mem_replicate hx)⟩
end Go.Proofs.YtohnfgligddanaaGreat
end
section
namespace Go.Proofs.YtohnfgligddanaaGreat
open Go Go.Lg
set_option linter.unusedVariables false
set_option linter.unusedSimpArgs false
def ap (σ:Int→List Int) (t:List Int):List Int:=t.flatMap fun x=>if x<0 then σ x else [x]
theorem ap_nil (σ:Int→List Int):ap σ []=[]:=rfl
theorem ap_cons (σ:Int→List Int) (x:Int) (t:List Int):ap σ (x::t)=(if x<0 then σ x else [x])++ap σ t:=rfl
theorem ap_flatten (σ:Int→List Int):∀xs:List (List Int),ap σ xs.flatten=(xs.map (ap σ)).flatten
 | []=>rfl
 | x::xs=>by
  have:=ap_flatten σ xs
  simp only[ap,List.flatten_cons,List.flatMap_append,List.map_cons] at this ⊢
  rw[this]
def GS (rs:List Int) (σ:Int→List Int):Prop:=∀x,x<0→Fl rs 1 (σ x)
def Sat (σ:Int→List Int) (β:Bds):Prop:=∀i:Nat,β.getD i default≠[]→σ (-1-(i:Int))=ap σ (β.getD i default)
theorem phi_lt0 {x:Int} (h:x<0) (h8:-48≤x):-24≤phi x∧phi x≤-1:=by unfold phi;split<;>omega
theorem ap_flk {rs:List Int} {σ:Int→List Int} (hσ:GS rs σ):∀(t:List Int) (k:Nat),Fl rs k (phiL t)→(∀x∈t,-48≤x)→Fl rs k (ap σ t)
 | [],k,h,_=>h
 | x::t,k,h,h8=>by
  have e:phiL (x::t)=phi x::phiL t:=rfl
  rw[e] at h
  cases h with
  | @cons _ k' _ h0 r =>
   have hx8:=h8 x List.mem_cons_self
   have ht8:∀y∈t,-48≤y:=fun y hy=>h8 y (List.mem_cons_of_mem _ hy)
   rw[ap_cons]
   by_cases hx:x<0
   ·rw[if_pos hx]
    rw[arS_var (phi_lt0 hx hx8)] at r
    have:=(hσ x hx).app (ap_flk hσ t _ r ht8)
    rwa [Int.toNat_zero,Nat.add_zero,Nat.add_comm] at this
   ·rw[if_neg hx]
    rw[phi_pos (by omega)] at h0 r
    exact .cons h0 (ap_flk hσ t _ r ht8)
theorem ap_fl {rs:List Int} {σ:Int→List Int} (hσ:GS rs σ) {t:List Int} (h:XT rs t):Fl rs 1 (ap σ t):=ap_flk hσ t 1 (termOk_fl h.1) h.2
theorem ap_pos {rs:List Int} {σ:Int→List Int} (hσ:GS rs σ) {t:List Int} (h:XT rs t):1≤(ap σ t).length:=(ap_fl hσ h).len
theorem xt_cons {rs t:List Int} (h:XT rs t):∃l,t=hd t::l∧0≤arS rs (phi (hd t))∧Fl rs (arS rs (phi (hd t))).toNat (phiL l):=by
 have hl:=h.len
 cases t with
 | nil=>simp at hl
 | cons x l =>
  refine⟨l,rfl,?_⟩
  have h1:=termOk_fl h.1
  have e:phiL (x::l)=phi x::phiL l:=rfl
  rw[e] at h1
  cases h1 with
  | @cons _ k' _ h0 r =>
   rw[Nat.zero_add] at r
   exact⟨h0,r⟩
theorem xt_var {rs t:List Int} (h:XT rs t) (hn:hd t<0):t=[hd t]:=by
 obtain⟨l,e,h0,h1⟩:=xt_cons h
 have h8:=(h.get (a:=0) (by have:=h.len;omega)).1
 rw[arS_var (phi_lt0 hn h8)] at h1
 have h2:=h1.zero
 have h3:l=[]:=by
  cases l with
  | nil=>rfl
  | cons y l=>simp[phiL] at h2
 rw[h3] at e
 exact e
theorem ap_var {σ:Int→List Int} {x:Int} (h:x<0):ap σ [x]=σ x:=by
 rw[ap_cons,if_pos h,ap_nil,List.append_nil]
def partsX (rs a:List Int):List (List Int):=(List.range (argsS rs (phiL a) 0).length).map fun k=>subX rs a ((argsS rs (phiL a) 0).getD k default)
theorem parts_flat {rs t:List Int} (h:XT rs t):t=hd t::(partsX rs t).flatten:=by
  have h1:=flat_pre h _ (Nat.le_refl _)
  obtain⟨l,e,h0,h2⟩:=xt_cons h
  have hl:=h.len
  have e0:phiL t=[phi (hd t)]++(phiL l++[]):=by
    have:phiL t=phiL (hd t::l):=congrArg phiL e
    rw[this];simp[phiL]
  have hn:(argsS rs (phiL t) 0).length=(arS rs (phi (hd t))).toNat:=by
    unfold argsS
    rw[begS_length,phiL_get t 0 (by omega)]
    rfl
  obtain⟨l1,l2,e1,h3,h4,h5⟩:=Fl.cut [phi (hd t)] [] _ _ _ h2 (Nat.le_refl _)
  rw[Nat.sub_self] at h4
  have e2:=h4.zero
  rw[e2,List.append_nil] at e1
  have h6:nthB rs (phiL t) 1 (argsS rs (phiL t) 0).length=t.length:=by
    rw[hn,e0]
    have h5':=h5
    simp only[List.length_cons,List.length_nil,Nat.zero_add] at h5'
    rw[h5',←e1,←phiL_len t,e0]
    simp
  rw[h6,List.drop_length,List.append_nil] at h1
  have e3:t=hd t::t.drop 1:=by
    conv=>lhs;rw[e]
    rw [show t.drop 1 = l by conv => lhs; rw [e]
                             rfl]
  conv=>lhs;rw[e3,h1]
  rfl
theorem partsX_ok {rs a:List Int} (h:XT rs a):∀x∈partsX rs a,XT rs x:=fun x hx=>by
 simp only[partsX,List.mem_map,List.mem_range] at hx
 obtain⟨k,hk,rfl⟩:=hx
 exact subX_ok h (argsX_lt h hk)
theorem flatten_inj {rs:List Int}:∀(xs ys:List (List Int)),xs.length=ys.length→(∀x∈xs,Fl rs 1 x)→(∀y∈ys,Fl rs 1 y)→xs.flatten=ys.flatten→xs=ys
 | [],[],_,_,_,_=>rfl
 | x::xs,y::ys,hl,hx,hy,e=>by
  obtain⟨e1,e2⟩:=(hx x List.mem_cons_self).uniq (hy y List.mem_cons_self) e
  rw[e1,flatten_inj xs ys (by simpa using hl) (fun z hz=>hx z (List.mem_cons_of_mem _ hz)) (fun z hz=>hy z (List.mem_cons_of_mem _ hz)) e2]
 | [],_::_,hl,_,_,_=>by simp at hl
 | _::_,[],hl,_,_,_=>by simp at hl
theorem ap_node {rs:List Int} {σ:Int→List Int} {t:List Int} (h:XT rs t) (h0:0≤hd t):ap σ t=hd t::((partsX rs t).map (ap σ)).flatten:=by
 conv=>lhs;rw[parts_flat h]
 rw[ap_cons,if_neg (by omega),ap_flatten]
 rfl
theorem map_eq_pairs {α β:Type} (f:α→β):∀ps:List (α×α),(ps.map (·.1)).map f=(ps.map (·.2)).map f↔∀p∈ps,f p.1=f p.2
 | []=>by simp
 | p::ps=>by
  simp only[List.map_cons,List.cons.injEq,List.mem_cons,forall_eq_or_imp,map_eq_pairs f ps]
theorem pairs_fst (rs a b:List Int):(pairsX rs a b).map (·.1)=partsX rs a:=fst_flat rs a b
theorem pairs_snd {rs a b:List Int} (hA:XT rs a) (hB:XT rs b) (he:hd a=hd b):(pairsX rs a b).map (·.2)=partsX rs b:=by
 rw[snd_flat,←argsX_len hA hB he];rfl
theorem dec_iff {rs a b:List Int} {σ:Int→List Int} (hσ:GS rs σ) (hA:XT rs a) (hB:XT rs b) (he:hd a=hd b) (h0:0≤hd a):ap σ a=ap σ b↔∀p∈pairsX rs a b,ap σ p.1=ap σ p.2:=by
 rw[←map_eq_pairs (ap σ),pairs_fst,pairs_snd hA hB he,ap_node hA h0,ap_node hB (by omega),he]
 constructor
 ·intro e
  have e:=(List.cons.inj e).2
  refine flatten_inj (rs:=rs) _ _ ?_ ?_ ?_ e
  ·rw[List.length_map,List.length_map,←pairs_fst rs a b,←pairs_snd hA hB he,List.length_map,List.length_map]
  ·intro x hx
   obtain⟨y,hy,rfl⟩:=List.mem_map.1 hx
   exact ap_fl hσ (partsX_ok hA y hy)
  ·intro x hx
   obtain⟨y,hy,rfl⟩:=List.mem_map.1 hx
   exact ap_fl hσ (partsX_ok hB y hy)
 ·intro e;rw[e]
theorem sum_parts {rs a:List Int} {σ:Int→List Int} (hA:XT rs a) (h0:0≤hd a):(((partsX rs a).map (ap σ)).map List.length).sum+1=(ap σ a).length:=by
 rw[ap_node hA h0,List.length_cons,List.length_flatten]
def Edge (β:Bds) (i j:Nat):Prop:=∃x∈β.getD i default,x<0∧vIx x=j
inductive Rch (β:Bds):Nat→Nat→Prop
 | refl (i:Nat):Rch β i i
 | step {i j k:Nat} (h:Edge β i j) (r:Rch β j k):Rch β i k
theorem Rch.trans {β:Bds} {i j k:Nat} (h:Rch β i j) (h':Rch β j k):Rch β i k:=by
 induction h with
 | refl=>exact h'
 | step e _ ih=>exact .step e (ih h')
def Acy (β:Bds):Prop:=∀i j,Edge β i j→¬Rch β j i
theorem filter_lt {p q:Nat→Bool} (h:∀x,p x=true→q x=true):∀l:List Nat,(∃x∈l,q x=true∧p x=false)→(l.filter p).length<(l.filter q).length
 | [],⟨x,hx,_⟩=>by cases hx
 | y::l,⟨x,hx,h1,h2⟩=>by
  have hle:∀l:List Nat,(l.filter p).length≤(l.filter q).length:=fun l=>by
   induction l with
   | nil=>exact Nat.le_refl _
   | cons z l ih =>
    by_cases hz:p z=true
    ·rw[List.filter_cons_of_pos hz,List.filter_cons_of_pos (h z hz),List.length_cons,List.length_cons];omega
    ·rw[List.filter_cons_of_neg hz]
     by_cases hz':q z=true
     ·rw[List.filter_cons_of_pos hz',List.length_cons];omega
     ·rw[List.filter_cons_of_neg hz'];exact ih
  rcases List.mem_cons.1 hx with rfl|hx
  ·rw[List.filter_cons_of_pos h1,List.filter_cons_of_neg (by rw[h2];simp),List.length_cons]
   have:=hle l;omega
  ·have ih:=filter_lt h l ⟨x,hx,h1,h2⟩
   by_cases hz:p y=true
   ·rw[List.filter_cons_of_pos hz,List.filter_cons_of_pos (h y hz),List.length_cons,List.length_cons];omega
   ·rw[List.filter_cons_of_neg hz]
    by_cases hz':q y=true
    ·rw[List.filter_cons_of_pos hz',List.length_cons];omega
    ·rw[List.filter_cons_of_neg hz'];exact ih
theorem edge_lt {rs:List Int} {β:Bds} (hβ:BOK rs β) {i j:Nat} (h:Edge β i j):i<48:=by
 obtain⟨x,hx,_⟩:=h
 by_cases hl:i<β.length
 ·rw[←hβ.1];exact hl
 ·rw[List.getD_eq_getElem?_getD,List.getElem?_eq_none (by omega)] at hx
  cases hx
theorem rank_ex {rs:List Int} {β:Bds} (hβ:BOK rs β) (hA:Acy β):∃r:Nat→Nat,(∀i j,Edge β i j→r j<r i)∧∀i,r i≤48:=by
 classical
 refine⟨fun i=>((List.range 48).filter fun k=>decide (Rch β i k)).length,fun i j he=>?_,fun i=>?_⟩
 ·refine filter_lt (fun k hk=>?_) _ ⟨i,List.mem_range.2 (edge_lt hβ he),?_,?_⟩
  ·exact decide_eq_true (.step he (of_decide_eq_true hk))
  ·exact decide_eq_true (.refl i)
  ·exact decide_eq_false (hA i j he)
 ·exact Nat.le_trans (List.length_filter_le _ _) (by simp)
def itS (β:Bds):Nat→Int→List Int
 | 0,_=>[-1]
 | n+1,x=>if β.getD (vIx x) default=[] then [-1] else ap (itS β n) (β.getD (vIx x) default)
theorem one_fl (rs:List Int):Fl rs 1 [-1]:=.cons (by rw[arS_var (by omega)];omega) (by rw[arS_var (by omega)];exact .nil)
theorem itS_gs {rs:List Int} {β:Bds} (hβ:BOK rs β):∀n,GS rs (itS β n)
 | 0=>fun x _=>one_fl rs
 | n+1=>fun x hx=>by
  unfold itS
  split
  ·exact one_fl rs
  ·rename_i h
   exact ap_fl (itS_gs hβ n) (hβ.get h)
theorem ap_congr {σ τ:Int→List Int}:∀ {t:List Int},(∀x∈t,x<0→σ x=τ x)→ap σ t=ap τ t
 | [],_=>rfl
 | x::t,h=>by
  rw[ap_cons,ap_cons,ap_congr fun y hy=>h y (List.mem_cons_of_mem _ hy)]
  by_cases hx:x<0
  ·rw[if_pos hx,if_pos hx,h x List.mem_cons_self hx]
  ·rw[if_neg hx,if_neg hx]
theorem sol_ex {rs:List Int} {β:Bds} (hβ:BOK rs β) (hA:Acy β):∃σ,GS rs σ∧Sat σ β:=by
 obtain⟨r,hr,h48⟩:=rank_ex hβ hA
 have st:∀n x,x<0→r (vIx x)<n→itS β n x=itS β (n+1) x:=by
  intro n
  induction n with
  | zero=>intro x _ h;omega
  | succ n ih =>
   intro x hx h
   show (if β.getD (vIx x) default=[] then [-1] else ap (itS β n) (β.getD (vIx x) default))=if β.getD (vIx x) default=[] then [-1] else ap (itS β (n+1)) (β.getD (vIx x) default)
   split
   ·rfl
   ·exact ap_congr fun y hy h0=>ih y h0 (by have:=hr (vIx x) (vIx y) ⟨y,hy,h0,rfl⟩;omega)
 refine⟨itS β 49,itS_gs hβ 49,fun i hi=>?_⟩
 have hv:vIx (-1-(i:Int))=i:=by unfold vIx;omega
 rw[st 49 _ (by omega) (by rw[hv];have:=h48 i;omega)]
 show (if β.getD (vIx (-1-(i:Int))) default=[] then [-1] else ap (itS β 49) (β.getD (vIx (-1-(i:Int))) default))=_
 rw[hv,if_neg hi]
theorem sat_at {σ:Int→List Int} {β:Bds} (h:Sat σ β) {x:Int} (hx:x<0) (hb:β.getD (vIx x) default≠[]):σ x=ap σ (β.getD (vIx x) default):=by
 have:=h (vIx x) hb
 rwa [show -1-((vIx x:Nat):Int)=x by unfold vIx;omega] at this
theorem root_law {rs:List Int} {β:Bds} (hβ:BOK rs β) {r:Nat→Nat} (hr:∀i j,Edge β i j→r j<r i):∀(g:Nat) (t:List Int),XT rs t→(hd t<0→r (vIx (hd t))<g)→∃u,rootM β (g+1) t=some u∧XT rs u∧(hd u<0→β.getD (vIx (hd u)) default=[])∧(∀σ,Sat σ β→ap σ u=ap σ t)∧∀i,(∃x∈u,x<0∧Rch β (vIx x) i)→∃x∈t,x<0∧Rch β (vIx x) i
 | g,t,hT,hg=>by
  by_cases hc:hd t<0∧β.getD (vIx (hd t)) default≠[]
  ·obtain⟨g',rfl⟩:∃g',g=g'+1:=⟨g-1,by have:=hg hc.1;omega⟩
   have hb:=hβ.get hc.2
   have hlb:=hb.len
   have hmem:hd (β.getD (vIx (hd t)) default)∈β.getD (vIx (hd t)) default:=getD_mem _ 0 (by omega)
   obtain⟨u,h1,h2,h3,h4,h5⟩:=root_law hβ hr g' _ hb (fun h0=>by
    have:=hr (vIx (hd t)) _ ⟨_,hmem,h0,rfl⟩
    have:=hg hc.1
    omega)
   have ht:t=[hd t]:=xt_var hT hc.1
   refine⟨u,?_,h2,h3,fun σ hs=>?_,fun i hi=>?_⟩
   ·rw[rootM];exact(if_pos hc).trans h1
   ·rw[h4 σ hs,←sat_at hs hc.1 hc.2,←ap_var (σ:=σ) hc.1,←ht]
   ·obtain⟨x,hx,h0,hxr⟩:=h5 i hi
    exact⟨hd t,by rw[ht];exact List.mem_singleton.2 (by simp[hd]),hc.1,.step ⟨x,hx,h0,rfl⟩ hxr⟩
  ·refine⟨t,?_,hT,fun h0=>?_,fun _ _=>rfl,fun i h=>h⟩
   ·rw[rootM];exact if_neg hc
   ·exact Classical.byContradiction fun hn=>hc ⟨h0,hn⟩
end Go.Proofs.YtohnfgligddanaaGreat
end
