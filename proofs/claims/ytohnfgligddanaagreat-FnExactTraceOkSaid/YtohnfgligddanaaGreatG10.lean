/-
  U21, P19, P26, U06, U07, P26i, one behind the other.
-/
import Derived.Test.YtohnfgligddanaaGreatG9
import Derived.Test.YtohnfgligddanaaGreatG8
import Derived.Test.YtohnfgligddanaaGreatG7
import Derived.Recover
import Derived.Laws.Pointers
import Derived.Laws.NewBlocks
import Derived.Test.YtohnfgligddanaaGreatLgK14
section
namespace Go.Proofs.YtohnfgligddanaaGreat
open Go Go.Lg
set_option linter.unusedSimpArgs false
set_option linter.unusedVariables false
set_option maxHeartbeats 4000000
attribute [local irreducible] SW runL runQ runG runQG FC Ret1 bD OccP
theorem bD_set (β:Bds) (i:Nat) {y:List Int} (hy:y≠[]):(β.map bD).set i (.sl .any (y.map (.int .i64)))=(β.set i y).map bD:=by rw[List.map_set,bD_some hy]
def kp66:List (Nat×List Nat):=[(0,[1,2,3,4]),(1,[1,3,4,9]),(2,[1,4,9,10]),(3,[1,4,9,10,19]),(4,[1,4,9,10,11]),(5,[1,4,9,10,11,12]),(6,[1,4,9,10,11,12]),(7,[1,4,9,10,11,12]),(10,[1,4,9,10,11,12,56]),(11,[1,4,9,10,11,12,70]),(12,[1,4,9,10,11,12,80]),(13,[8]),(14,[1,4,9,10]),(15,[1,4,9,10,11,12,91]),(16,[1,4,9,10,11,12,101]),(17,[8]),(18,[1,4,9,10]),(19,[1,4,9,10,11,12,112]),(20,[8]),(8,[1,4,9,10,12]),(9,[1,4,9,10]),(21,[8])]
attribute [go_sem] kp66
theorem l11Meet_fc (rs:List Int) (β:List (List Int)) (hβ:BOK rs β) (hA:Acy β) (n:Nat) (a b:List Int) (ha:XT rs a) (hb:XT rs b) (r:Bool) (hr:meetT rs n β [(a,b)]=some r):FC S 66 [] [(1030,[.ms 1028 48]),(1028,β.map bD)] [] [.agg [.sl .any (rs.map (.int .i64))],.box 1030 0,.sl .any (a.map (.int .i64)),.sl .any (b.map (.int .i64))] (.bool r) [] []:=by
 have hlb:=hβ.1
 refine fc_bodyP Tryz.func66 rfl (by kernel_rfl) (by simp[Tryz.f66]) fun B hP=>?_
 simp only[Tryz.ntmps66,enumD,lst0,Nat.reduceAdd]
 refine sw_bnd 1 rfl fun hb1=>?_
 simp only[D.bnd,List.length_map] at hb1
 repeat' first|((refine sw_goB (id:=1) 0 kp66 1 51000 rfl fun K hK=>?_))|((refine sw_goB (id:=2) 0 kp66 1 56000 rfl fun K hK=>?_))|((refine⟨_,_,_,rfl,rfl,rfl,⟨⟨by simp only[Nat.reduceLT],by decide,by decide,by decide⟩,rfl,by simp[D.strip,strip1,D.cells,D.memOk,TyI.size]⟩,(by simp[-List.map_set,LS.clean,D.tks,D.tksL,tksU_ints,tksL_bD]),by simp only[Nat.reduceLT],?_⟩;simp only[go_sem]))|refine sw_seq ?_|refine sw_block ?_|refine sw_go 0 kp66 fun K hK=>?_|((first|refine runL_go ?_|refine runQ_go ?_|refine sw_ret (ret0 ?_)|refine sw_ret ?_);simp (disch:=(refine Om.mk ?_;omega)) only[go_sem,Tryz.results66])|(refine hK.nil ?_;clear hK K;simp only[go_sem])|fail
 refine sw_loopT (ι:=Nat×Bds×List (List Int×List Int)) (fun p=>[(1,.box 1030 0),(4,.box 4 0),(9,.sl (.own 51000 22 1) ((p.2.2.map Prod.fst).map IntsD)),(10,.sl (.own 56000 22 1) ((p.2.2.map Prod.snd).map IntsD))]) (fun p=>[(1030,[.ms 1028 48]),(1028,p.2.1.map bD),(4,[.sl .any (rs.map (.int .i64))])]) (fun _=>[51000,56000]) (fun p=>meetT rs p.1 p.2.1 p.2.2=some r∧BOK rs p.2.1∧Acy p.2.1∧∀q∈p.2.2,XT rs q.1∧XT rs q.2) (fun p=>p.1) (n,β,[(a,b)]) (by(refine covers_mk0 rfl rfl ?_ ?_ ?_ ?_<;>simp (disch:=(refine Om.mk ?_;omega)) only[go_sem]<;>(try omega))) ⟨hr,hβ,hA,fun q hq=>by rw[List.mem_singleton] at hq;subst hq;exact⟨ha,hb⟩⟩ (fun p hp=>?_)
 obtain⟨k,γ,ps⟩:=p
 obtain⟨h1,hγ,hAγ,hX⟩:=hp
 dsimp only at h1 hγ hAγ hX
 have hlg:=hγ.1
 rcases k with _|k
 ·cases h1
 unfold meetT at h1
 have hlen:ps.length≤400000:=by
  by_cases h:400000<ps.length
  ·rw[if_pos h] at h1;cases h1
  ·omega
 rw[if_neg (by omega)] at h1
 rcases List.eq_nil_or_concat ps with rfl|⟨qs,p,rfl⟩
 ·obtain rfl:=Option.some.inj h1
  simp only[go_sem]
  repeat' first|((exfalso;omega))|refine sw_seq ?_|refine sw_go 0 kp66 fun K hK=>?_|((first|refine runL_go ?_|refine runQ_go ?_|refine sw_ret (ret0 ?_)|refine sw_ret ?_);simp (disch:=(refine Om.mk ?_;omega)) only[go_sem,Tryz.results66])|(refine hK.nil ?_;clear hK K;simp only[go_sem])|((first|refine runG_fork rfl rfl rfl rfl rfl ?_ ?_|refine runQG_fork rfl rfl rfl rfl rfl ?_ ?_|refine sw_cond rfl ?_ ?_)<;>intro h<;>try simp (disch:=(refine Om.mk ?_;omega)) only[go_sem] at h)|refine sw_exit rfl ?_|fail
 ·rw[List.concat_eq_append] at h1 hX hlen ⊢
  obtain⟨hp1,hp2⟩:=hX p (by simp)
  have hq:∀p∈qs,XT rs p.1∧XT rs p.2:=fun p hp'=>hX p (by simp[hp'])
  obtain⟨u,u1,u2,u3,u4⟩:=root_top hγ hAγ hp1
  obtain⟨v,v1,v2,v3,v4⟩:=root_top hγ hAγ hp2
  simp only[List.getLast?_append,List.getLast?_singleton,Option.some_or,u1,v1,List.dropLast_concat] at h1
  rw[List.length_append,List.length_singleton] at hlen
  obtain⟨us,hus⟩:∃us,us=(qs++[p]).map Prod.fst:=⟨_,rfl⟩
  obtain⟨vs,hvs⟩:∃vs,vs=(qs++[p]).map Prod.snd:=⟨_,rfl⟩
  have hul:us.length=qs.length+1:=by rw[hus];simp
  have hvl:vs.length=qs.length+1:=by rw[hvs];simp
  have hu0:us.getD (us.length-1) default=p.1:=by rw[hul,hus];simp
  have hv0:vs.getD (vs.length-1) default=p.2:=by rw[hvl,hvs];simp
  have hut:us.take (us.length-1)=qs.map Prod.fst:=by rw[hul,hus];simp
  have hvt:vs.take (vs.length-1)=qs.map Prod.snd:=by rw[hvl,hvs];simp
  dsimp only
  rw[←hus,←hvs]
  simp only[go_sem]
  have cH1:=l11Head_fc rs γ hγ 60 (us.getD (us.length-1) default) u (by rw[hu0];exact u1) (by rw[hu0];exact hp1)
  have cH2:=l11Head_fc rs γ hγ 60 (vs.getD (vs.length-1) default) v (by rw[hv0];exact v1) (by rw[hv0];exact hp2)
  repeat' first|((refine hK.callB rfl rfl rfl (cH1) (by refine⟨⟨?_,?_,?_,?_,?_⟩,⟨?_,?_,?_,?_,?_⟩,?_⟩<;>simp[-List.map_set,LS.getBox,Lg.look,D.ids,D.idsL,idsL_bool,idsL_bD,LS.clean,D.puOk,D.pu,D.pu1,D.tks,D.tksL,tksU_ints,tksL_bool,tksL_bD,puOk_intsU,puOk_bool,puOk_bD,inTok]) ?_;simp (disch:=(refine Om.mk ?_;omega)) only[go_sem]))|((refine hK.callB rfl rfl rfl (cH2) (by refine⟨⟨?_,?_,?_,?_,?_⟩,⟨?_,?_,?_,?_,?_⟩,?_⟩<;>simp[-List.map_set,LS.getBox,Lg.look,D.ids,D.idsL,idsL_bool,idsL_bD,LS.clean,D.puOk,D.pu,D.pu1,D.tks,D.tksL,tksU_ints,tksL_bool,tksL_bD,puOk_intsU,puOk_bool,puOk_bD,inTok]) ?_;simp (disch:=(refine Om.mk ?_;omega)) only[go_sem]))|((exfalso;omega))|((refine sw_goAt (id:=6) 0 kp66 4 rfl fun K hK=>?_))|refine sw_seq ?_|refine sw_block ?_|refine sw_skip ?_|refine sw_go 0 kp66 fun K hK=>?_|((first|refine runL_go ?_|refine runQ_go ?_|refine sw_ret (ret0 ?_)|refine sw_ret ?_);simp (disch:=(refine Om.mk ?_;omega)) only[go_sem,Tryz.results66])|(refine hK.nil ?_;clear hK K;simp only[go_sem])|((first|refine runG_fork rfl rfl rfl rfl rfl ?_ ?_|refine runQG_fork rfl rfl rfl rfl rfl ?_ ?_|refine sw_cond rfl ?_ ?_)<;>intro h<;>try simp (disch:=(refine Om.mk ?_;omega)) only[go_sem] at h)|(with_reducible refine And.intro (by first|omega|(simp only[lens];omega)) ?_)|fail
  refine LopsW.popOwn hP (k:=51000) (by simp) (kd:=.i64) (m:=us.length-1) (ps:=us.map fun y=>(.any,y)) (by simp only[go_sem];rw[List.map_map];rfl) (by simp only[go_sem]) rfl rfl ⟨by omega,by rw[List.length_map];omega⟩ (fun p hp=>by obtain⟨y,_,rfl⟩:=List.mem_map.1 hp;rfl) [(1,.box 1030 0),(4,.box 4 0),(10,.sl (.own 56000 22 1) (vs.map IntsD)),(11,.sl .any (u.map (.int .i64))),(12,.sl .any (v.map (.int .i64)))] [(1030,[.ms 1028 48]),(1028,γ.map bD),(4,[.sl .any (rs.map (.int .i64))])] ?_ ?_ (by simp only[Nat.reduceLT]) (LopsW.nil ?_)
  ·intro p hp
   simp only[List.mem_cons,List.not_mem_nil,or_false] at hp
   rcases hp with rfl|rfl|rfl|rfl|rfl
   ·exact⟨rfl,rfl⟩
   ·exact⟨rfl,rfl⟩
   ·exact⟨rfl,by simp only[D.safe,List.contains_cons];exact Bool.and_eq_true_iff.2 ⟨rfl,safeL_of fun d hd=>by obtain⟨y,_,rfl⟩:=List.mem_map.1 hd;exact safe_IntsD _ _ _⟩⟩
   ·exact⟨rfl,safe_IntsD _ _ _⟩
   ·exact⟨rfl,safe_IntsD _ _ _⟩
  ·intro p hp
   simp only[List.mem_cons,List.not_mem_nil,or_false] at hp
   rcases hp with rfl|rfl|rfl
   ·exact⟨rfl,fun d hd=>by rw[List.mem_singleton.1 hd];rfl⟩
   ·exact⟨rfl,fun d hd=>by obtain⟨y,_,rfl⟩:=List.mem_map.1 hd;exact safe_bD _ _ _⟩
   ·exact⟨rfl,fun d hd=>by rw[List.mem_singleton.1 hd];exact safe_IntsD _ _ rs⟩
  simp only[pop_eq,go_sem]
  refine fun (K:List Oper→LS→Prop) (hK:KOk S 0 _ _ _ K)=>?_
  repeat' first|((refine sw_goAt (id:=7) 0 kp66 4 rfl fun K hK=>?_))|refine sw_seq ?_|((first|refine runL_go ?_|refine runQ_go ?_|refine sw_ret (ret0 ?_)|refine sw_ret ?_);simp (disch:=(refine Om.mk ?_;omega)) only[go_sem,Tryz.results66])|(refine hK.nil ?_;clear hK K;simp only[go_sem])|fail
  refine LopsW.popOwn hP (k:=56000) (by simp) (kd:=.i64) (m:=vs.length-1) (ps:=vs.map fun y=>(.any,y)) (by simp only[go_sem];rw[List.map_map];rfl) (by simp only[go_sem]) rfl rfl ⟨by omega,by rw[List.length_map];omega⟩ (fun p hp=>by obtain⟨y,_,rfl⟩:=List.mem_map.1 hp;rfl) [(1,.box 1030 0),(4,.box 4 0),(9,.sl (.own 51000 22 1) ((us.take (us.length-1)).map IntsD)),(11,.sl .any (u.map (.int .i64))),(12,.sl .any (v.map (.int .i64)))] [(1030,[.ms 1028 48]),(1028,γ.map bD),(4,[.sl .any (rs.map (.int .i64))])] ?_ ?_ (by simp only[Nat.reduceLT]) (LopsW.nil ?_)
  ·intro p hp
   simp only[List.mem_cons,List.not_mem_nil,or_false] at hp
   rcases hp with rfl|rfl|rfl|rfl|rfl
   ·exact⟨rfl,rfl⟩
   ·exact⟨rfl,rfl⟩
   ·exact⟨rfl,by simp only[D.safe,List.contains_cons];exact Bool.and_eq_true_iff.2 ⟨rfl,safeL_of fun d hd=>by obtain⟨y,_,rfl⟩:=List.mem_map.1 hd;exact safe_IntsD _ _ _⟩⟩
   ·exact⟨rfl,safe_IntsD _ _ _⟩
   ·exact⟨rfl,safe_IntsD _ _ _⟩
  ·intro p hp
   simp only[List.mem_cons,List.not_mem_nil,or_false] at hp
   rcases hp with rfl|rfl|rfl
   ·exact⟨rfl,fun d hd=>by rw[List.mem_singleton.1 hd];rfl⟩
   ·exact⟨rfl,fun d hd=>by obtain⟨y,_,rfl⟩:=List.mem_map.1 hd;exact safe_bD _ _ _⟩
   ·exact⟨rfl,fun d hd=>by rw[List.mem_singleton.1 hd];exact safe_IntsD _ _ rs⟩
  simp only[pop_eq,go_sem]
  refine fun (K:List Oper→LS→Prop) (hK:KOk S 0 _ _ _ K)=>?_
  rw[hut,hvt]
  have hgu:=u2.get (a:=0) (by have:=u2.len;omega)
  have hgv:=v2.get (a:=0) (by have:=v2.len;omega)
  have hlu:=u2.len
  have hlv:=v2.len
  have hiu:u.getD 0 default<0→vIx (u.getD 0 default)<48:=fun h=>vIx_lt hgu.1 h
  have hiv:v.getD 0 default<0→vIx (v.getD 0 default)<48:=fun h=>vIx_lt hgv.1 h
  have eu:hd u=u.getD 0 default:=rfl
  have ev:hd v=v.getD 0 default:=rfl
  rw[eu,ev] at h1
  rw[eu] at u3
  rw[ev] at v3
  clear u1 v1 u4 v4 hu0 hv0 cH1 cH2 hX hus hvs hul hvl hut hvt eu ev
  by_cases c1:u.getD 0 default=v.getD 0 default∧u.getD 0 default<0
  ·rw[if_pos c1] at h1
   obtain⟨c5,c6⟩:=c1
   repeat' first|((exfalso;omega))|refine sw_seq ?_|refine sw_block ?_|refine sw_goD kp66 (by kernel_rfl) fun K hK=>?_|((first|refine runL_go ?_|refine runQ_go ?_|refine sw_ret (ret0 ?_)|refine sw_ret ?_);simp (disch:=(refine Om.mk ?_;omega)) only[go_sem,Tryz.results66])|(refine hK.nil ?_;clear hK K;simp only[go_sem])|((first|refine runG_fork rfl rfl rfl rfl rfl ?_ ?_|refine runQG_fork rfl rfl rfl rfl rfl ?_ ?_|refine sw_cond rfl ?_ ?_)<;>intro h<;>try simp (disch:=(refine Om.mk ?_;omega)) only[go_sem] at h)|refine sw_exit rfl ?_|refine sw_loopEnd ?_|(with_reducible refine And.intro (by first|omega|(simp only[lens];omega)) ?_)|fail
   all_goals exact⟨(k,γ,qs),(by(refine covers_mk0 rfl rfl ?_ ?_ ?_ ?_<;>simp (disch:=(refine Om.mk ?_;omega)) only[go_sem]<;>(try omega));all_goals simp),⟨h1,hγ,hAγ,hq⟩,by simp⟩
  rw[if_neg c1] at h1
  by_cases c2:u.getD 0 default<0
  ·rw[if_pos c2] at h1
   have c7:¬u.getD 0 default=v.getD 0 default:=fun e=>c1 ⟨e,c2⟩
   have cO:=l11Occurs_fc rs γ hγ (u.getD 0 default) c2 v v2
   have hi:=hiu c2
   by_cases ho:OccP γ (u.getD 0 default) v
   ·rw[if_pos (tst_true ho)] at h1
    obtain rfl:=Option.some.inj h1
    rw[tst_true ho] at cO
    repeat' first|((refine hK.callB rfl rfl rfl (cO) (by refine⟨⟨?_,?_,?_,?_,?_⟩,⟨?_,?_,?_,?_,?_⟩,?_⟩<;>simp[-List.map_set,LS.getBox,Lg.look,D.ids,D.idsL,idsL_bool,idsL_bD,LS.clean,D.puOk,D.pu,D.pu1,D.tks,D.tksL,tksU_ints,tksL_bool,tksL_bD,puOk_intsU,puOk_bool,puOk_bD,inTok]) ?_;simp (disch:=(refine Om.mk ?_;omega)) only[go_sem]))|((exfalso;omega))|refine sw_seq ?_|refine sw_block ?_|refine sw_go 0 kp66 fun K hK=>?_|refine sw_goD kp66 (by kernel_rfl) fun K hK=>?_|((first|refine runL_go ?_|refine runQ_go ?_|refine sw_ret (ret0 ?_)|refine sw_ret ?_);simp (disch:=(refine Om.mk ?_;omega)) only[go_sem,Tryz.results66])|(refine hK.nil ?_;clear hK K;simp only[go_sem])|((first|refine runG_fork rfl rfl rfl rfl rfl ?_ ?_|refine runQG_fork rfl rfl rfl rfl rfl ?_ ?_|refine sw_cond rfl ?_ ?_)<;>intro h<;>try simp (disch:=(refine Om.mk ?_;omega)) only[go_sem] at h)|(with_reducible refine And.intro (by first|omega|(simp only[lens];omega)) ?_)|fail
   ·rw[if_neg (by rw[tst_false ho];simp)] at h1
    rw[tst_false ho] at cO
    obtain⟨b1,b2,b3,_⟩:=bind_unif hγ hAγ u2 v2 c2 (u3 c2) ho fun _=>True
    repeat' first|((refine hK.callB rfl rfl rfl (cO) (by refine⟨⟨?_,?_,?_,?_,?_⟩,⟨?_,?_,?_,?_,?_⟩,?_⟩<;>simp[-List.map_set,LS.getBox,Lg.look,D.ids,D.idsL,idsL_bool,idsL_bD,LS.clean,D.puOk,D.pu,D.pu1,D.tks,D.tksL,tksU_ints,tksL_bool,tksL_bD,puOk_intsU,puOk_bool,puOk_bD,inTok]) ?_;simp (disch:=(refine Om.mk ?_;omega)) only[go_sem]))|((exfalso;omega))|refine sw_seq ?_|refine sw_block ?_|refine sw_inBlock ?_|refine sw_skip ?_|refine sw_go 0 kp66 fun K hK=>?_|refine sw_goT 0 kp66 10 (id:=14) (by kernel_rfl) fun K hK=>?_|refine fun (K:KT) (hK:KOk S 0 _ _ _ K)=>?_|refine sw_goD kp66 (by kernel_rfl) fun K hK=>?_|((first|refine runL_go ?_|refine runQ_go ?_|refine sw_ret (ret0 ?_)|refine sw_ret ?_);simp (disch:=(refine Om.mk ?_;omega)) only[go_sem,Tryz.results66])|(refine hK.nil ?_;clear hK K;simp only[go_sem])|((first|refine runG_fork rfl rfl rfl rfl rfl ?_ ?_|refine runQG_fork rfl rfl rfl rfl rfl ?_ ?_|refine sw_cond rfl ?_ ?_)<;>intro h<;>try simp (disch:=(refine Om.mk ?_;omega)) only[go_sem] at h)|refine sw_loopEnd ?_|(with_reducible refine And.intro (by first|omega|(simp only[lens];omega)) ?_)|fail
    exact⟨(k,γ.set (vIx (u.getD 0 default)) v,qs),(by(refine covers_mk0 rfl rfl ?_ ?_ ?_ ?_<;>simp (disch:=(refine Om.mk ?_;omega)) only[go_sem]<;>(try omega));all_goals first|exact bD_set γ _ v2.ne|(simp;done)|trace_state),⟨h1,b1,b2,hq⟩,by simp⟩
  rw[if_neg c2] at h1
  by_cases c3:v.getD 0 default<0
  ·rw[if_pos c3] at h1
   have c7:¬u.getD 0 default=v.getD 0 default:=fun e=>c2 (e ▸ c3)
   have cO:=l11Occurs_fc rs γ hγ (v.getD 0 default) c3 u u2
   have hi:=hiv c3
   by_cases ho:OccP γ (v.getD 0 default) u
   ·rw[if_pos (tst_true ho)] at h1
    obtain rfl:=Option.some.inj h1
    rw[tst_true ho] at cO
    repeat' first|((refine hK.callB rfl rfl rfl (cO) (by refine⟨⟨?_,?_,?_,?_,?_⟩,⟨?_,?_,?_,?_,?_⟩,?_⟩<;>simp[-List.map_set,LS.getBox,Lg.look,D.ids,D.idsL,idsL_bool,idsL_bD,LS.clean,D.puOk,D.pu,D.pu1,D.tks,D.tksL,tksU_ints,tksL_bool,tksL_bD,puOk_intsU,puOk_bool,puOk_bD,inTok]) ?_;simp (disch:=(refine Om.mk ?_;omega)) only[go_sem]))|((exfalso;omega))|refine sw_seq ?_|refine sw_block ?_|refine sw_go 0 kp66 fun K hK=>?_|refine sw_goD kp66 (by kernel_rfl) fun K hK=>?_|((first|refine runL_go ?_|refine runQ_go ?_|refine sw_ret (ret0 ?_)|refine sw_ret ?_);simp (disch:=(refine Om.mk ?_;omega)) only[go_sem,Tryz.results66])|(refine hK.nil ?_;clear hK K;simp only[go_sem])|((first|refine runG_fork rfl rfl rfl rfl rfl ?_ ?_|refine runQG_fork rfl rfl rfl rfl rfl ?_ ?_|refine sw_cond rfl ?_ ?_)<;>intro h<;>try simp (disch:=(refine Om.mk ?_;omega)) only[go_sem] at h)|(with_reducible refine And.intro (by first|omega|(simp only[lens];omega)) ?_)|fail
   ·rw[if_neg (by rw[tst_false ho];simp)] at h1
    rw[tst_false ho] at cO
    obtain⟨b1,b2,b3,_⟩:=bind_unif hγ hAγ v2 u2 c3 (v3 c3) ho fun _=>True
    repeat' first|((refine hK.callB rfl rfl rfl (cO) (by refine⟨⟨?_,?_,?_,?_,?_⟩,⟨?_,?_,?_,?_,?_⟩,?_⟩<;>simp[-List.map_set,LS.getBox,Lg.look,D.ids,D.idsL,idsL_bool,idsL_bD,LS.clean,D.puOk,D.pu,D.pu1,D.tks,D.tksL,tksU_ints,tksL_bool,tksL_bD,puOk_intsU,puOk_bool,puOk_bD,inTok]) ?_;simp (disch:=(refine Om.mk ?_;omega)) only[go_sem]))|((exfalso;omega))|refine sw_seq ?_|refine sw_block ?_|refine sw_inBlock ?_|refine sw_skip ?_|refine sw_go 0 kp66 fun K hK=>?_|refine sw_goT 0 kp66 10 (id:=18) (by kernel_rfl) fun K hK=>?_|refine fun (K:KT) (hK:KOk S 0 _ _ _ K)=>?_|refine sw_goD kp66 (by kernel_rfl) fun K hK=>?_|((first|refine runL_go ?_|refine runQ_go ?_|refine sw_ret (ret0 ?_)|refine sw_ret ?_);simp (disch:=(refine Om.mk ?_;omega)) only[go_sem,Tryz.results66])|(refine hK.nil ?_;clear hK K;simp only[go_sem])|((first|refine runG_fork rfl rfl rfl rfl rfl ?_ ?_|refine runQG_fork rfl rfl rfl rfl rfl ?_ ?_|refine sw_cond rfl ?_ ?_)<;>intro h<;>try simp (disch:=(refine Om.mk ?_;omega)) only[go_sem] at h)|refine sw_loopEnd ?_|(with_reducible refine And.intro (by first|omega|(simp only[lens];omega)) ?_)|fail
    exact⟨(k,γ.set (vIx (v.getD 0 default)) u,qs),(by(refine covers_mk0 rfl rfl ?_ ?_ ?_ ?_<;>simp (disch:=(refine Om.mk ?_;omega)) only[go_sem]<;>(try omega));all_goals first|exact bD_set γ _ u2.ne|(simp;done)|trace_state),⟨h1,b1,b2,hq⟩,by simp⟩
  rw[if_neg c3] at h1
  by_cases c4:u.getD 0 default=v.getD 0 default
  ·rw[if_neg (by simpa using c4)] at h1
   have cP1:=l13PartsX_fc rs u u2 (by show 0≤u.getD 0 default;omega)
   have cP2:=l13PartsX_fc rs v v2 (by show 0≤v.getD 0 default;omega)
   have e1:=pairs_fst rs u v
   have e2:=pairs_snd u2 v2 c4
   have e3:(qs++pairsX rs u v).map Prod.fst=qs.map Prod.fst++partsX rs u:=by rw[List.map_append];exact congrArg _ e1
   have e4:(qs++pairsX rs u v).map Prod.snd=qs.map Prod.snd++partsX rs v:=by rw[List.map_append];exact congrArg _ e2
   have hl3:=pairs_three (v:=v) u2
   have hl4:(partsX rs u).length≤3:=by rw[←e1,List.length_map];exact hl3
   have hl5:(partsX rs v).length≤3:=by rw[←e2,List.length_map];exact hl3
   repeat' first|((refine hK.callB rfl rfl rfl (cP1) (by refine⟨⟨?_,?_,?_,?_,?_⟩,⟨?_,?_,?_,?_,?_⟩,?_⟩<;>simp[-List.map_set,LS.getBox,Lg.look,D.ids,D.idsL,idsL_bool,idsL_bD,LS.clean,D.puOk,D.pu,D.pu1,D.tks,D.tksL,tksU_ints,tksL_bool,tksL_bD,puOk_intsU,puOk_bool,puOk_bD,inTok]) ?_;simp (disch:=(refine Om.mk ?_;omega)) only[go_sem]))|((refine hK.callB rfl rfl rfl (cP2) (by refine⟨⟨?_,?_,?_,?_,?_⟩,⟨?_,?_,?_,?_,?_⟩,?_⟩<;>simp[-List.map_set,LS.getBox,Lg.look,D.ids,D.idsL,idsL_bool,idsL_bD,LS.clean,D.puOk,D.pu,D.pu1,D.tks,D.tksL,tksU_ints,tksL_bool,tksL_bD,puOk_intsU,puOk_bool,puOk_bD,inTok]) ?_;simp (disch:=(refine Om.mk ?_;omega)) only[go_sem]))|((exfalso;omega))|((refine⟨List.mem_filter.2 ⟨by simp,by simp⟩,by omega,by omega,?_⟩))|refine sw_seq ?_|refine sw_block ?_|refine sw_inBlock ?_|refine sw_go 0 kp66 fun K hK=>?_|refine sw_goD kp66 (by kernel_rfl) fun K hK=>?_|((first|refine runL_go ?_|refine runQ_go ?_|refine sw_ret (ret0 ?_)|refine sw_ret ?_);simp (disch:=(refine Om.mk ?_;omega)) only[go_sem,Tryz.results66])|(refine hK.nil ?_;clear hK K;simp only[go_sem])|((first|refine runG_fork rfl rfl rfl rfl rfl ?_ ?_|refine runQG_fork rfl rfl rfl rfl rfl ?_ ?_|refine sw_cond rfl ?_ ?_)<;>intro h<;>try simp (disch:=(refine Om.mk ?_;omega)) only[go_sem] at h)|refine sw_loopEnd ?_|(with_reducible refine And.intro (by first|omega|(simp only[lens];omega)) ?_)|fail
   refine⟨(k,γ,qs++pairsX rs u v),?_,⟨h1,hγ,hAγ,fun q hq'=>(List.mem_append.1 hq').elim (hq q) fun h=>pairsX_ok u2 v2 c4 q h⟩,by simp⟩
   dsimp only
   rw[e3,e4]
   (refine covers_mk0 rfl rfl ?_ ?_ ?_ ?_<;>simp (disch:=(refine Om.mk ?_;omega)) only[go_sem]<;>(try omega))
   all_goals first|(simp;done)|trace_state
  ·rw[if_pos c4] at h1
   obtain rfl:=Option.some.inj h1
   repeat' first|((exfalso;omega))|refine sw_seq ?_|refine sw_block ?_|refine sw_go 0 kp66 fun K hK=>?_|refine sw_goD kp66 (by kernel_rfl) fun K hK=>?_|((first|refine runL_go ?_|refine runQ_go ?_|refine sw_ret (ret0 ?_)|refine sw_ret ?_);simp (disch:=(refine Om.mk ?_;omega)) only[go_sem,Tryz.results66])|(refine hK.nil ?_;clear hK K;simp only[go_sem])|((first|refine runG_fork rfl rfl rfl rfl rfl ?_ ?_|refine runQG_fork rfl rfl rfl rfl rfl ?_ ?_|refine sw_cond rfl ?_ ?_)<;>intro h<;>try simp (disch:=(refine Om.mk ?_;omega)) only[go_sem] at h)|(with_reducible refine And.intro (by first|omega|(simp only[lens];omega)) ?_)|fail
end Go.Proofs.YtohnfgligddanaaGreat
end
section
namespace Go.Proofs.YtohnfgligddanaaGreat
open Go Go.Lg
set_option linter.unusedSimpArgs false
set_option linter.unusedVariables false
set_option maxHeartbeats 4000000
attribute [local irreducible] SW runL runQ runG runQG FC Ret1
theorem away_snoc {t:List Int} {i:Nat} (h:i<t.length):awayL (t.take (i+1))=awayL (t.take i)++[awF (t.getD i default)]:=by
 have e:t.take (i+1)=t.take i++[t.getD i default]:=by
  rw[List.take_add_one,List.getElem?_eq_getElem h,List.getD_eq_getElem?_getD,List.getElem?_eq_getElem h]
  rfl
 rw[e];unfold awayL;rw[List.map_append];rfl
theorem awayL_len (t:List Int):(awayL t).length=t.length:=List.length_map _
theorem awF_neg {n:Int} (h:n<0):awF n=n-24:=by unfold awF;exact if_pos h
theorem awF_pos {n:Int} (h:¬n<0):awF n=n:=by unfold awF;exact if_neg h
attribute [local irreducible] awF
def kp67:List (Nat×List Nat):=[(0,[0,1]),(1,[0,1,5]),(2,[0,1,5,6]),(3,[0,1,5,6,11]),(5,[0,1,5,6,18]),(6,[0,1,5,6]),(7,[0,1,5,6]),(4,[0,1,5,6]),(8,[4])]
attribute [go_sem] kp67
theorem l11Away_fc (t:List Int) (h1:t.length≤1000) (ht:∀x∈t,-24≤x):FC S 67 [] [] [] [.sl .any (t.map (.int .i64)),.int .i64 24] (.sl .any ((awayL t).map (.int .i64))) [] []:=by
 refine fc_body Tryz.func67 rfl (by kernel_rfl) (by simp[Tryz.f67]) fun B=>?_
 simp only[Tryz.ntmps67,enumD,lst0,Nat.reduceAdd]
 repeat' first|refine sw_seq ?_|refine sw_block ?_|refine sw_go 0 kp67 fun K hK=>?_|((first|refine runL_go ?_|refine sw_ret (ret0 ?_)|refine sw_ret ?_);simp (disch:=(refine Om.mk ?_;omega)) only[go_sem,Tryz.results67])|(refine hK.nil ?_;clear hK K;simp only[go_sem])|fail
 refine sw_tok 5 35000 2 1 rfl (.inr rfl) rfl ?_
 simp only[go_sem]
 refine sw_loopT (ι:=Nat) (fun i=>[(0,.sl .any (t.map (.int .i64))),(1,.int .i64 24),(6,.int .i64 i),(5,.sl (.own 35000 2 1) ((awayL (t.take i)).map (.int .i64)))]) (fun _=>[]) (fun _=>[35000]) (fun i=>i≤t.length) (fun i=>t.length-i) 0 (by(refine covers_mk0 rfl rfl ?_ ?_ ?_ ?_<;>simp (disch:=(refine Om.mk ?_;omega)) only[go_sem]<;>(try omega));exact⟨rfl,rfl⟩) (by omega) (fun i hi=>?_)
 simp only[go_sem]
 have hal:=awayL_len (t.take i)
 rw[List.length_take] at hal
 by_cases hil:i<t.length
 ·have hg:=ht _ (getD_mem t i hil)
  have hs:=away_snoc hil
  by_cases h0:t.getD i default<0
  ·have e:=awF_neg h0
   repeat' first|((refine sw_renC 28000 35000 rfl rfl ?_;simp only[go_sem]))|((exfalso;omega))|refine sw_seq ?_|refine sw_block ?_|refine sw_inBlock ?_|refine sw_skip ?_|refine sw_go 0 kp67 fun K hK=>?_|((first|refine runL_go ?_|refine sw_ret (ret0 ?_)|refine sw_ret ?_);simp (disch:=(refine Om.mk ?_;omega)) only[go_sem,Tryz.results67])|(refine hK.nil ?_;clear hK K;simp only[go_sem])|((first|refine sw_cond rfl ?_ ?_)<;>intro h<;>try simp (disch:=(refine Om.mk ?_;omega)) only[go_sem] at h)|refine sw_loopEnd ?_|(with_reducible refine And.intro (by first|omega|(simp only[lens];omega)) ?_)|fail
   exact⟨i+1,(by(refine covers_mk0 rfl rfl ?_ ?_ ?_ ?_<;>simp (disch:=(refine Om.mk ?_;omega)) only[go_sem]<;>(try omega));all_goals first|exact⟨by rw[hs,e],by omega⟩|trace_state),by omega,by omega⟩
  ·have e:=awF_pos h0
   repeat' first|((exfalso;omega))|refine sw_seq ?_|refine sw_block ?_|refine sw_inBlock ?_|refine sw_skip ?_|refine sw_go 0 kp67 fun K hK=>?_|((first|refine runL_go ?_|refine sw_ret (ret0 ?_)|refine sw_ret ?_);simp (disch:=(refine Om.mk ?_;omega)) only[go_sem,Tryz.results67])|(refine hK.nil ?_;clear hK K;simp only[go_sem])|((first|refine sw_cond rfl ?_ ?_)<;>intro h<;>try simp (disch:=(refine Om.mk ?_;omega)) only[go_sem] at h)|refine sw_loopEnd ?_|(with_reducible refine And.intro (by first|omega|(simp only[lens];omega)) ?_)|fail
   exact⟨i+1,(by(refine covers_mk0 rfl rfl ?_ ?_ ?_ ?_<;>simp (disch:=(refine Om.mk ?_;omega)) only[go_sem]<;>(try omega));all_goals first|exact⟨by rw[hs,e],by omega⟩|trace_state),by omega,by omega⟩
 ·repeat' first|((exfalso;omega))|refine sw_seq ?_|refine sw_go 0 kp67 fun K hK=>?_|((first|refine runL_go ?_|refine sw_ret (ret0 ?_)|refine sw_ret ?_);simp (disch:=(refine Om.mk ?_;omega)) only[go_sem,Tryz.results67])|(refine hK.nil ?_;clear hK K;simp only[go_sem])|((first|refine sw_cond rfl ?_ ?_)<;>intro h<;>try simp (disch:=(refine Om.mk ?_;omega)) only[go_sem] at h)|refine sw_exit rfl ?_|fail
  rw[List.take_of_length_le (by omega)]
end Go.Proofs.YtohnfgligddanaaGreat
end
section
namespace Go.Proofs.YtohnfgligddanaaGreat
open Go Go.Lg
set_option linter.unusedSimpArgs false
set_option linter.unusedVariables false
set_option maxHeartbeats 4000000
attribute [local irreducible] SW runL runQ runG runQG FC Ret1 toF redoL bD
def ConnP (x:SystemT) (p q:DepPairT):Prop:=p.r.getD 0 default=q.l.getD 0 default∧((capL x p.r 60 0 0).2≤24→ConnU x.sig (capL x p.r 60 0 0).1 q.l)
theorem conn_head {x:SystemT} {p q:DepPairT} (h:¬p.r.getD 0 default=q.l.getD 0 default):tst (ConnP x p q)=false:=tst_false fun e=>h e.1
theorem conn_many {x:SystemT} {p q:DepPairT} (h:p.r.getD 0 default=q.l.getD 0 default) (hc:¬(capL x p.r 60 0 0).2≤24):tst (ConnP x p q)=true:=tst_true ⟨h,fun e=>absurd e hc⟩
theorem conn_few {x:SystemT} {p q:DepPairT} (h:p.r.getD 0 default=q.l.getD 0 default) (hc:(capL x p.r 60 0 0).2≤24) {r:Bool} (hr:r=true↔ConnU x.sig (capL x p.r 60 0 0).1 q.l):tst (ConnP x p q)=r:=by
 cases r with
 | true=>exact tst_true ⟨h,fun _=>hr.1 rfl⟩
 | false=>exact tst_false fun e=>by simpa using hr.2 (e.2 hc)
theorem rep48:(List.replicate (Int.toNat 48) [D.sl Tk.nil []]).flatten=b0.map bD:=by
 rw[List.flatten_replicate_singleton]
 unfold b0
 rw[List.map_replicate,bD_nil]
 rfl
attribute [local go_sem] rep48 idsL_bD tksL_bD puL_bDs
def kp35:List (Nat×List Nat):=[(0,[3,4,5]),(1,[3,4,5,7,8]),(2,[3,5,7,8,25]),(3,[6]),(4,[3,5,7,27]),(5,[6]),(6,[3,5,7,9]),(7,[6])]
attribute [go_sem] kp35
theorem l17Connected_fc (x:SystemT) (hx:SystemOkP x) (p q:DepPairT) (hp:PrOk x.sig p) (hq:PrOk x.sig q):FC S 35 [] [] [] [SystemD x,DepPairD p,DepPairD q] (.bool (tst (ConnP x p q))) [] []:=by
 have cC:=cappedOf_fc x p.r hp.1.2 hp.2.2 hx
 have hpl:=hp.1.2.2.1
 have hql:=hq.1.1.2.1
 have cW:=l11Away_fc q.l (by omega) hq.1.1.ge
 by_cases hh:p.r.getD 0 default=q.l.getD 0 default
 ·by_cases hc:(capL x p.r 60 0 0).2≤24
  ·have hX:=XT.of (cap_ok hp.1.2 hc)
   obtain⟨n,r,hr,hri⟩:=conn_spec hX hq.1.1
   rw[if_pos hc,tst_true hc] at cC
   rw[conn_few hh hc hri]
   have cM:=l11Meet_fc x.sig b0 (b0_ok _) b0_acy n _ (awayL q.l) hX (XT.away hq.1.1) r hr
   generalize (capL x p.r 60 0 0).1=out at *
   refine fc_body Tryz.func35 rfl (by kernel_rfl) (by simp[Tryz.f35]) fun B=>?_
   simp only[Tryz.ntmps35,enumD,lst0,Nat.reduceAdd]
   repeat' first|((exfalso;omega))|((refine hK.callB rfl rfl rfl (cM) (by refine⟨⟨?_,?_,?_,?_,?_⟩,⟨?_,?_,?_,?_,?_⟩,?_⟩<;>simp[-List.map_set,LS.getBox,Lg.look,D.ids,D.idsL,idsL_bool,idsL_bD,LS.clean,D.puOk,D.pu,D.pu1,D.tks,D.tksL,tksU_ints,tksL_bool,tksL_bD,puOk_intsU,puOk_bool,puOk_bD,inTok]) ?_;simp (disch:=(refine Om.mk ?_;omega)) only[go_sem]))|refine sw_seq ?_|refine sw_skip ?_|refine sw_go 1000 kp35 fun K hK=>?_|refine sw_goT 1000 kp35 7 (id:=7) (by kernel_rfl) fun K hK=>?_|refine fun (K:KT) (hK:KOk S 1000 _ _ _ K)=>?_|refine sw_goD kp35 (by kernel_rfl) fun K hK=>?_|((first|refine runL_go ?_|refine runQ_go ?_|refine sw_ret (ret0 ?_)|refine sw_ret ?_);simp (disch:=(refine Om.mk ?_;omega)) only[go_sem,Tryz.results35])|(refine hK.nil ?_;clear hK K;simp only[go_sem])|((first|refine sw_cond rfl ?_ ?_)<;>intro h<;>try simp (disch:=(refine Om.mk ?_;omega)) only[go_sem] at h)|refine hK.c0 rfl rfl rfl (cC) rfl rfl rfl ?_|refine hK.c0 rfl rfl rfl (cW) rfl rfl rfl ?_|(with_reducible refine And.intro (by first|omega|(simp only[lens];omega)) ?_)|fail
   all_goals trace_state
  ·rw[conn_many hh hc]
   rw[if_neg hc,tst_false hc] at cC
   refine fc_body Tryz.func35 rfl (by kernel_rfl) (by simp[Tryz.f35]) fun B=>?_
   simp only[Tryz.ntmps35,enumD,lst0,Nat.reduceAdd]
   repeat' first|((exfalso;omega))|refine sw_seq ?_|refine sw_skip ?_|refine sw_go 1000 kp35 fun K hK=>?_|refine sw_goD kp35 (by kernel_rfl) fun K hK=>?_|((first|refine runL_go ?_|refine runQ_go ?_|refine sw_ret (ret0 ?_)|refine sw_ret ?_);simp (disch:=(refine Om.mk ?_;omega)) only[go_sem,Tryz.results35])|(refine hK.nil ?_;clear hK K;simp only[go_sem])|((first|refine sw_cond rfl ?_ ?_)<;>intro h<;>try simp (disch:=(refine Om.mk ?_;omega)) only[go_sem] at h)|refine hK.c0 rfl rfl rfl (cC) rfl rfl rfl ?_|(with_reducible refine And.intro (by first|omega|(simp only[lens];omega)) ?_)|fail
 ·rw[conn_head hh]
  generalize hb:tst ((capL x p.r 60 0 0).2≤24)=b at *
  generalize (if (capL x p.r 60 0 0).2≤24 then (capL x p.r 60 0 0).1 else [])=zs at *
  refine fc_body Tryz.func35 rfl (by kernel_rfl) (by simp[Tryz.f35]) fun B=>?_
  simp only[Tryz.ntmps35,enumD,lst0,Nat.reduceAdd]
  repeat' first|((exfalso;omega))|refine sw_seq ?_|refine sw_go 1000 kp35 fun K hK=>?_|refine sw_goD kp35 (by kernel_rfl) fun K hK=>?_|((first|refine runL_go ?_|refine runQ_go ?_|refine sw_ret (ret0 ?_)|refine sw_ret ?_);simp (disch:=(refine Om.mk ?_;omega)) only[go_sem,Tryz.results35])|(refine hK.nil ?_;clear hK K;simp only[go_sem])|((first|refine sw_cond rfl ?_ ?_)<;>intro h<;>try simp (disch:=(refine Om.mk ?_;omega)) only[go_sem] at h)|refine hK.c0 rfl rfl rfl (cC) rfl rfl rfl ?_|(with_reducible refine And.intro (by first|omega|(simp only[lens];omega)) ?_)|fail
end Go.Proofs.YtohnfgligddanaaGreat
end
section
namespace Go.Proofs.YtohnfgligddanaaGreat
open Go Go.Lg
set_option linter.unusedSimpArgs false
set_option linter.unusedVariables false
set_option maxHeartbeats 4000000
theorem solve1_idle (p:Addr) (w:World):CallsD Tryz.prog 121 #[.pointer (some p)] .returning w fun e u' w'=>e=.returned (.tuple #[])∧u'=.returning∧w'=w:=by
 refine callsD_of_wpS Tryz.func121 rfl fun c₀ cs hu=>?_
 apply wpS_seq
 apply wpS_region
 simp[wpOpsS,go_sem,recoverD,hu,Tryz.ntmps121,Exit.thenS]
 apply wpS_seq
 apply wpS_region
 simp[wpOpsS,go_sem,recoverD,hu,Tryz.ntmps121,Exit.thenS]
 refine wpS_cond (t:=false) (by simp[Act.eval,Array.replicate]) ?_
 simp only[Bool.false_eq_true,if_false]
 refine wpS_of_wp (wp_skip ?_)
 cases c₀
 simp_all [bodyPostS,results,Tryz.results121]
theorem solve1_pan (p:Addr) (x:Bool) (w:World) (hc:w.cell? p=some (.bool x)) (hz:w.frozen? p=false):CallsD Tryz.prog 121 #[.pointer (some p)] (.panicking (chainE 149)) w fun e u' w' =>
  e=.returned (.tuple #[])∧u'=.panicking [{v:=.iface 149 (.agg #[]),recovered:=true}]∧w'=(w.alloc (.cells #[] 149)).setCell p (.bool false):=by
 refine callsD_of_wpS Tryz.func121 rfl fun c₀ cs hu=>?_
 unfold chainE at hu
 have hta:∀w,(Instr.typeAssert (.iface 149 (.agg #[])) 20 149 true).run Tryz.prog w=.ok (.tuple #[.agg #[],.bool true]) w:=fun w=>by kernel_rfl
 apply wpS_seq
 apply wpS_region
 simp[wpOpsS,go_sem,recoverD,hu,Tryz.ntmps121,Exit.thenS]
 apply wpS_seq
 apply wpS_region
 simp[wpOpsS,go_sem,recoverD,hu,Tryz.ntmps121,Exit.thenS]
 refine wpS_cond (t:=true) (by simp[Act.eval,Array.replicate]) ?_
 simp only[if_true]
 apply wpS_seq
 apply wpS_seq
 apply wpS_region
 simp[wpOpsS,go_sem,recoverD,hu,Tryz.ntmps121,Exit.thenS,hta]
 have hb:p.block<w.heap.size:=World.block_lt_of_cell? w p hc
 have hc2:(w.alloc (.cells #[] 149)).cell? p=some (.bool x):=(World.cell?_alloc_old w _ p (Nat.ne_of_lt hb)).trans hc
 have hz2:(w.alloc (.cells #[] 149)).frozen? p=false:=(World.frozen?_alloc_old w _ p (Nat.ne_of_lt hb)).trans hz
 apply wpS_seq
 apply wpS_region
 simp[wpOpsS,go_sem,recoverD,hu,Tryz.ntmps121,Exit.thenS]
 refine wpS_cond (t:=false) (by simp[Act.eval,Array.replicate]) ?_
 simp only[Bool.false_eq_true,if_false]
 refine wpS_of_wp (wp_skip ?_)
 simp only[Exit.thenS]
 apply wpS_region
 simp[wpOpsS,go_sem,hc2,hz2,bodyPostS,results,Tryz.results121,Tryz.ntmps121]
end Go.Proofs.YtohnfgligddanaaGreat
end
section
namespace Go.Proofs.YtohnfgligddanaaGreat
open Go Go.Lg
set_option linter.unusedSimpArgs false
set_option linter.unusedVariables false
set_option maxHeartbeats 4000000
attribute [local irreducible] SW runL runQ runG runQG FC Ret1 bD
def kp104:List (Nat×List Nat):=[(0,[0,1,2,6]),(1,[0,1,2,6]),(2,[6]),(3,[6])]
attribute [go_sem] kp104
theorem solve_yes (id:Nat) (rs:List Int) (g f:Nat) (β β':Bds) (hβ:BOK rs β) (a b:List Int) (hA:XT rs a) (hB:XT rs b) (he:eqM rs g f β a b=some (some β')):FC S 104 [] [(id+1000,uC rs β)] [] [.box (id+1000) 0,.sl .any (a.map (.int .i64)),.sl .any (b.map (.int .i64))] (.bool true) [(id+1000,uC rs β')] []:=by
 obtain⟨_,cE⟩:=(equate_ok rs g id f β a b hβ hA hB).1 β' he
 unfold uC at *
 unfold FC
 refine⟨⟨Tryz.f104,Tryz.func104,by kernel_rfl,rfl⟩,fun w G vals hs=>?_⟩
 refine calls_of_wp_defers Tryz.func104 rfl ?_
 have hs0:=start_sim (n:=Tryz.f104.ntmps) hs (by simp[Tryz.f104])
 simp only[Tryz.ntmps104,enumD,Nat.zero_add,Nat.reduceAdd,List.map_cons,List.map_nil] at hs0 ⊢
 refine wp_seq (regW (L2:=⟨12,[(0,.box (id+1000) 0),(1,.sl .any (a.map (.int .i64))),(2,.sl .any (b.map (.int .i64))),(6,.box 6 0)],[(id+1000,D.sl .any (rs.map (.int .i64))::β.map bD),(6,[.bool false])],[],[],[id+1000]⟩) hs0 ?_ fun G1 a1 w1 hs1=>?_)
 ·refine lops_go 0 ?_
  refine fun (K:List Oper→LS→Prop) (hK:KOk S 0 _ _ _ K)=>?_
  simp only[go_sem]
  repeat' first|refine sw_seq ?_|refine sw_skip ?_|refine sw_go 0 kp104 fun K hK=>?_|refine fun (K:KT) (hK:KOk S 0 _ _ _ K)=>?_|((first|refine runL_go ?_|refine sw_ret (ret0 ?_)|refine sw_ret ?_);simp (disch:=(refine Om.mk ?_;omega)) only[go_sem,Tryz.results104])|(refine hK.nil ?_;clear hK K;simp only[go_sem])|refine sw_loopEnd ?_|(with_reducible refine And.intro (by first|omega|(simp only[lens];omega)) ?_)|fail
  refine hK.nil ?_
  (refine covers_mk0 rfl rfl ?_ ?_ ?_ ?_<;>simp (disch:=(refine Om.mk ?_;omega)) only[go_sem]<;>(try omega))
 refine wp_seq (regA 1 (L1:=⟨12,[(0,.box (id+1000) 0),(1,.sl .any (a.map (.int .i64))),(2,.sl .any (b.map (.int .i64))),(6,.box 6 0),(7,.fn 121 [.box 6 0])],[(id+1000,D.sl .any (rs.map (.int .i64))::β.map bD),(6,[.bool false])],[],[],[id+1000]⟩) hs1 ?_ fun G2 a2 w2 hs2=>?_)
 ·refine lops_go 0 ?_
  refine fun (K:List Oper→LS→Prop) (hK:KOk S 0 _ _ _ K)=>?_
  simp only[go_sem]
  repeat' first|refine sw_seq ?_|refine sw_skip ?_|refine sw_go 0 kp104 fun K hK=>?_|refine fun (K:KT) (hK:KOk S 0 _ _ _ K)=>?_|((first|refine runL_go ?_|refine sw_ret (ret0 ?_)|refine sw_ret ?_);simp (disch:=(refine Om.mk ?_;omega)) only[go_sem,Tryz.results104])|(refine hK.nil ?_;clear hK K;simp only[go_sem])|refine sw_loopEnd ?_|(with_reducible refine And.intro (by first|omega|(simp only[lens];omega)) ?_)|fail
  refine hK.nil ?_
  (refine covers_mk0 rfl rfl ?_ ?_ ?_ ?_<;>simp (disch:=(refine Om.mk ?_;omega)) only[go_sem]<;>(try omega))
 obtain⟨v7,hv7,hr7⟩:=hs2.env 7 _ rfl
 cases hr7 with
 | @fn _ _ vl hl hr =>
 obtain⟨u6,rfl⟩:∃u,vl=[u]:=by
  match vl,hl with
  | [u],_=>exact⟨u,rfl⟩
 have h6:=hr 0 (.box 6 0) u6 rfl rfl
 cases h6 with
 | @box _ _ g0 hb =>
 simp only[List.drop_succ_cons,List.drop_zero]
 refine wpList_step fun N hN=>?_
 rw[if_pos (by simp[Region.wanted])]
 unfold Oper.wp
 have hrun:∀(ty:TypeId) (pos:String) (aft:Array Go.Edge),(execOp a2.eval ⟨none,.defer ⟨.value (.tmp 7),#[],#[]⟩,ty,pos,aft,none⟩).run S.P w2=.ok (.defer {target:=.fn (.func 121) #[.pointer (some ⟨g0,0,none⟩)],args:=#[]}) w2:=fun _ _ _=>by
  simp[execOp,Act.eval,hv7,resolve,Deferred.ofValue]
 rw[hrun,Oper.upon_defer]
 refine hN _ _ (wpList_nil ?_)
 rw[hs2.defers]
 have hno:∀(R:Ending→World→Prop),(∀w,¬R .outgrown w)→∀a w,¬bodyPostD S.P Tryz.f104 R .outgrown a w:=fun R h a w hx=>h w hx
 refine wp_seq (regD (L2:=⟨12,[(6,.box 6 0)],[(id+1000,D.sl .any (rs.map (.int .i64))::β'.map bD),(6,[.bool false])],[],[],[id+1000]⟩) hs2 (fun a w hx=>by obtain⟨v,_,h,_⟩:=hx;cases h) ?_ fun G3 a3 w3 hs3=>?_)
 ·refine lops_go 0 ?_
  refine fun (K:List Oper→LS→Prop) (hK:KOk S 0 _ _ _ K)=>?_
  simp only[go_sem]
  repeat' first|((refine hK.callB rfl rfl rfl (cE) (by refine⟨⟨?_,?_,?_,?_,?_⟩,⟨?_,?_,?_,?_,?_⟩,?_⟩<;>simp[-List.map_set,LS.getBox,Lg.look,D.ids,D.idsL,idsL_bool,idsL_bD,LS.clean,D.puOk,D.pu,D.pu1,D.tks,D.tksL,tksU_ints,tksL_bool,tksL_bD,puOk_intsU,puOk_bool,puOk_bD,inTok]) ?_;simp (disch:=(refine Om.mk ?_;omega)) only[go_sem]))|fail
  refine hK.nil ?_
  (refine covers_mk0 rfl rfl ?_ ?_ ?_ ?_<;>simp (disch:=(refine Om.mk ?_;omega)) only[go_sem]<;>(try omega))
 refine wp_seq (regD (L2:=⟨12,[(6,.box 6 0)],[(id+1000,D.sl .any (rs.map (.int .i64))::β'.map bD),(6,[.bool true])],[],[],[id+1000]⟩) hs3 (fun a w hx=>by obtain⟨v,_,h,_⟩:=hx;cases h) ?_ fun G4 a4 w4 hs4=>?_)
 ·refine lops_go 0 ?_
  refine fun (K:List Oper→LS→Prop) (hK:KOk S 0 _ _ _ K)=>?_
  simp only[go_sem]
  repeat' first|refine sw_seq ?_|refine sw_skip ?_|refine sw_go 0 kp104 fun K hK=>?_|refine fun (K:KT) (hK:KOk S 0 _ _ _ K)=>?_|((first|refine runL_go ?_|refine sw_ret (ret0 ?_)|refine sw_ret ?_);simp (disch:=(refine Om.mk ?_;omega)) only[go_sem,Tryz.results104])|(refine hK.nil ?_;clear hK K;simp only[go_sem])|refine sw_loopEnd ?_|(with_reducible refine And.intro (by first|omega|(simp only[lens];omega)) ?_)|fail
  refine hK.nil ?_
  (refine covers_mk0 rfl rfl ?_ ?_ ?_ ?_<;>simp (disch:=(refine Om.mk ?_;omega)) only[go_sem]<;>(try omega))
 have hEn:Lg.Enters S.P 121:=⟨Tryz.f121,Tryz.func121,by kernel_rfl,rfl⟩
 refine wp_ret ?_
 refine leaves_cons (f:=121) (args:=#[.pointer (some ⟨g0,0,none⟩)]) (by simp) (by simp[invoke,enter_run hEn]) ?_
 refine(solve1_idle ⟨g0,0,none⟩ w4).mono ?_
 rintro e u' w' ⟨rfl,rfl,rfl⟩
 have hRet:Ret S Tryz.f104.results.toList (.bool true) [(id+1000,D.sl .any (rs.map (.int .i64))::β'.map bD)] ⟨12,[(6,.box 6 0)],[(id+1000,D.sl .any (rs.map (.int .i64))::β'.map bD),(6,[.bool true])],[],[],[id+1000]⟩:=by
  rw[Tryz.results104]
  refine ret0 ?_
  simp only[go_sem]
  all_goals trace_state
 obtain⟨v,hrn,G5,hE⟩:=ret_end hs.fixed hs4 hRet
 exact⟨v,hrn,v,G5,rfl,hE⟩
theorem solve_no (id:Nat) (rs:List Int) (g f:Nat) (β:Bds) (hβ:BOK rs β) (a b:List Int) (hA:XT rs a) (hB:XT rs b) (he:eqM rs g f β a b=some none):FC S 104 [] [(id+1000,uC rs β)] [] [.box (id+1000) 0,.sl .any (a.map (.int .i64)),.sl .any (b.map (.int .i64))] (.bool false) [] []:=by
 have cX:=(equate_ok rs g id f β a b hβ hA hB).2 he
 unfold uC at *
 unfold FC
 refine⟨⟨Tryz.f104,Tryz.func104,by kernel_rfl,rfl⟩,fun w G vals hs=>?_⟩
 refine calls_of_wp_defers Tryz.func104 rfl ?_
 have hs0:=start_sim (n:=Tryz.f104.ntmps) hs (by simp[Tryz.f104])
 simp only[Tryz.ntmps104,enumD,Nat.zero_add,Nat.reduceAdd,List.map_cons,List.map_nil] at hs0 ⊢
 refine wp_seq (regW (L2:=⟨12,[(0,.box (id+1000) 0),(1,.sl .any (a.map (.int .i64))),(2,.sl .any (b.map (.int .i64))),(6,.box 6 0)],[(id+1000,D.sl .any (rs.map (.int .i64))::β.map bD),(6,[.bool false])],[],[],[id+1000]⟩) hs0 ?_ fun G1 a1 w1 hs1=>?_)
 ·refine lops_go 0 ?_
  refine fun (K:List Oper→LS→Prop) (hK:KOk S 0 _ _ _ K)=>?_
  simp only[go_sem]
  repeat' first|refine sw_seq ?_|refine sw_skip ?_|refine sw_go 0 kp104 fun K hK=>?_|refine fun (K:KT) (hK:KOk S 0 _ _ _ K)=>?_|((first|refine runL_go ?_|refine sw_ret (ret0 ?_)|refine sw_ret ?_);simp (disch:=(refine Om.mk ?_;omega)) only[go_sem,Tryz.results104])|(refine hK.nil ?_;clear hK K;simp only[go_sem])|refine sw_loopEnd ?_|(with_reducible refine And.intro (by first|omega|(simp only[lens];omega)) ?_)|fail
  refine hK.nil ?_
  (refine covers_mk0 rfl rfl ?_ ?_ ?_ ?_<;>simp (disch:=(refine Om.mk ?_;omega)) only[go_sem]<;>(try omega))
 refine wp_seq (regA 1 (L1:=⟨12,[(0,.box (id+1000) 0),(1,.sl .any (a.map (.int .i64))),(2,.sl .any (b.map (.int .i64))),(6,.box 6 0),(7,.fn 121 [.box 6 0])],[(id+1000,D.sl .any (rs.map (.int .i64))::β.map bD),(6,[.bool false])],[],[],[id+1000]⟩) hs1 ?_ fun G2 a2 w2 hs2=>?_)
 ·refine lops_go 0 ?_
  refine fun (K:List Oper→LS→Prop) (hK:KOk S 0 _ _ _ K)=>?_
  simp only[go_sem]
  repeat' first|refine sw_seq ?_|refine sw_skip ?_|refine sw_go 0 kp104 fun K hK=>?_|refine fun (K:KT) (hK:KOk S 0 _ _ _ K)=>?_|((first|refine runL_go ?_|refine sw_ret (ret0 ?_)|refine sw_ret ?_);simp (disch:=(refine Om.mk ?_;omega)) only[go_sem,Tryz.results104])|(refine hK.nil ?_;clear hK K;simp only[go_sem])|refine sw_loopEnd ?_|(with_reducible refine And.intro (by first|omega|(simp only[lens];omega)) ?_)|fail
  refine hK.nil ?_
  (refine covers_mk0 rfl rfl ?_ ?_ ?_ ?_<;>simp (disch:=(refine Om.mk ?_;omega)) only[go_sem]<;>(try omega))
 obtain⟨v7,hv7,hr7⟩:=hs2.env 7 _ rfl
 cases hr7 with
 | @fn _ _ vl hl hr =>
 obtain⟨u6,rfl⟩:∃u,vl=[u]:=by
  match vl,hl with
  | [u],_=>exact⟨u,rfl⟩
 have h6:=hr 0 (.box 6 0) u6 rfl rfl
 cases h6 with
 | @box _ _ g0 hb =>
 simp only[List.drop_succ_cons,List.drop_zero]
 refine wpList_step fun N hN=>?_
 rw[if_pos (by simp[Region.wanted])]
 unfold Oper.wp
 have hrun:∀(ty:TypeId) (pos:String) (aft:Array Go.Edge),(execOp a2.eval ⟨none,.defer ⟨.value (.tmp 7),#[],#[]⟩,ty,pos,aft,none⟩).run S.P w2=.ok (.defer {target:=.fn (.func 121) #[.pointer (some ⟨g0,0,none⟩)],args:=#[]}) w2:=fun _ _ _=>by
  simp[execOp,Act.eval,hv7,resolve,Deferred.ofValue]
 rw[hrun,Oper.upon_defer]
 refine hN _ _ (wpList_nil ?_)
 rw[hs2.defers]
 have hEn:Lg.Enters S.P 121:=⟨Tryz.f121,Tryz.func121,by kernel_rfl,rfl⟩
 refine wp_seq (regD0 hs2.defers (fun a w hx=>by obtain⟨v,_,h,_⟩:=hx;cases h) ?_)
 refine move_step (move_step (move_step ?_))
 have hs3a:=hs2.put (t:=8) (by show 8<12;decide) (eval_sound hs2 (x:=.tmp 0) (d:=.box (id+1000) 0) rfl)
 have hs3b:=hs3a.put (t:=9) (by show 9<12;decide) (eval_sound hs3a (x:=.tmp 1) (d:=.sl .any (a.map (.int .i64))) rfl)
 have hs3:=hs3b.put (t:=10) (by show 10<12;decide) (eval_sound hs3b (x:=.tmp 2) (d:=.sl .any (b.map (.int .i64))) rfl)
 refine wpList_callX hs3 rfl rfl rfl cX ⟨by simp,by simp[Lg.look,LS.put],by simp⟩ 1000000 (by simp[-List.map_set,LS.put,setA,LS.clean,D.tks,D.tksL,tksU_ints,tksL_bool,tksL_bD,tksU_nat,inTok]) fun G4 w4 hs4=>⟨by simp only[put_defers];exact hs2.defers,?_⟩
 refine leaves_cons (f:=121) (args:=#[.pointer (some ⟨g0,0,none⟩)]) (by simp) (by simp[invoke,enter_run hEn]) ?_
 have hs5:=hs4.less (L':=⟨12,[(6,.box 6 0)],[(6,[.bool false])],[],[],[id+1000]⟩) (by(refine covers_mk0 rfl rfl ?_ ?_ ?_ ?_<;>simp (disch:=(refine Om.mk ?_;omega)) only[go_sem]<;>(try omega)))
 obtain⟨y,hy,hry⟩:=hs2.env 6 (.box 6 0) rfl
 cases hry with
 | @box _ _ g2 hb2 =>
 obtain rfl:g0=g2:=Option.some.inj (hb.symm.trans hb2)
 obtain⟨x6,hx6,hr6⟩:=hs5.env 6 (.box 6 0) rfl
 have hx:x6=.pointer (some ⟨g0,0,none⟩):=by
  have h1:(((a2.put (some 8) (a2.eval (.tmp 0))).put (some 9) ((a2.put (some 8) (a2.eval (.tmp 0))).eval (.tmp 1))).put (some 10) (((a2.put (some 8) (a2.eval (.tmp 0))).put (some 9) ((a2.put (some 8) (a2.eval (.tmp 0))).eval (.tmp 1))).eval (.tmp 2))).tmps[6]?=a2.tmps[6]?:=by
   simp[Act.put,Array.getElem?_setIfInBounds]
  rw[h1,hy] at hx6
  exact(Option.some.inj hx6).symm
 subst hx
 cases hr6 with
 | box hb4 =>
 obtain⟨g1,k1,⟨vs,e,e1,e2,e3⟩,k3,k4⟩:=hs5.W.boxes 6 [.bool false] rfl
 obtain rfl:g0=g1:=Option.some.inj (hb4.symm.trans k1)
 have hv0:vs[0]?=some (.bool false):=by
  have hlt:0<vs.size:=by simp at e2;omega
  have:=e3 0 (.bool false) vs[0] rfl (by simp[hlt])
  generalize hvs:vs[0]=v at this
  cases this
  simp[hlt,hvs]
 have hc:w4.cell? ⟨g0,0,none⟩=some (.bool false):=by
  simp[World.cell?,e1,hv0]
 have hz:w4.frozen? ⟨g0,0,none⟩=false:=by
  simp[World.frozen?,e1]
 refine(solve1_pan ⟨g0,0,none⟩ false w4 hc hz).mono ?_
 rintro e' u' w' ⟨rfl,rfl,rfl⟩
 have hs6:=alloc_sim hs5 (.cells #[] 149) 0
 obtain⟨g5,w5,q1,q2,hs7⟩:=store_sim hs6 (id:=6) (off:=0) (cs:=[.bool false]) (new:=[.bool false]) (vl:=[.bool false]) rfl (by simp) rfl (fun j d v hd hv=>by
  match j,hd,hv with
  | 0,hd,hv =>
   simp at hd hv
   subst hd;subst hv
   exact .bool) (by simp[Value.oneCell'])
 have hg5:g0=g5:=Option.some.inj (k1.symm.trans q1)
 subst hg5
 have hw5:w5=(w4.alloc (.cells #[] 149)).setCell ⟨g0,0,none⟩ (.bool false):=by
  have h1:=q2 S.P
  have hblk:g0<w4.heap.size:=World.block_lt_of_cell? w4 ⟨g0,0,none⟩ hc
  have hc2:(w4.alloc (.cells #[] 149)).cell? ⟨g0,0,none⟩=some (.bool false):=(World.cell?_alloc_old w4 _ ⟨g0,0,none⟩ (Nat.ne_of_lt hblk)).trans hc
  have hz2:(w4.alloc (.cells #[] 149)).frozen? ⟨g0,0,none⟩=false:=(World.frozen?_alloc_old w4 _ ⟨g0,0,none⟩ (Nat.ne_of_lt hblk)).trans hz
  simp[storeCells,go_sem,hc2,hz2] at h1
  exact h1.symm
 subst hw5
 have hRet:Ret S Tryz.f104.results.toList (.bool false) [] ⟨12,[(6,.box 6 0)],[(6,[.bool false])],[],[],[id+1000]⟩:=by
  rw[Tryz.results104]
  refine ret0 ?_
  simp only[go_sem]
  all_goals trace_state
 obtain⟨v,hrn,G8,hE⟩:=ret_end hs.fixed hs7 hRet
 exact⟨v,hrn,v,G8,rfl,hE⟩
end Go.Proofs.YtohnfgligddanaaGreat
end
section
namespace Go.Proofs.YtohnfgligddanaaGreat
open Go Go.Lg
set_option linter.unusedSimpArgs false
set_option linter.unusedVariables false
set_option maxHeartbeats 4000000
attribute [local irreducible] SW runL runQ runG runQG FC Ret1 toF redoL
theorem uC_zeroP (rs:List Int):uC rs b0=[.sl .any (rs.map (.int .i64)),.sl .nil [],.sl .nil [],.sl .nil [],.sl .nil [],.sl .nil [],.sl .nil [],.sl .nil [],.sl .nil [],.sl .nil [],.sl .nil [],.sl .nil [],.sl .nil [],.sl .nil [],.sl .nil [],.sl .nil [],.sl .nil [],.sl .nil [],.sl .nil [],.sl .nil [],.sl .nil [],.sl .nil [],.sl .nil [],.sl .nil [],.sl .nil [],.sl .nil [],.sl .nil [],.sl .nil [],.sl .nil [],.sl .nil [],.sl .nil [],.sl .nil [],.sl .nil [],.sl .nil [],.sl .nil [],.sl .nil [],.sl .nil [],.sl .nil [],.sl .nil [],.sl .nil [],.sl .nil [],.sl .nil [],.sl .nil [],.sl .nil [],.sl .nil [],.sl .nil [],.sl .nil [],.sl .nil [],.sl .nil []]:=by
 unfold uC b0
 simp[List.replicate,bD_nil]
theorem lenAll {x:SystemT} (hx:SystemOkP x):∀r∈x.rules,1≤r.l.length:=fun r hr=>by
 obtain⟨j,hj,rfl⟩:=List.getElem_of_mem hr
 have:=(hx.2 j hj).1.1.2.1.1
 rwa [List.getD_eq_getElem?_getD,List.getElem?_eq_getElem hj] at this
attribute [local irreducible] bD
def kp79:List (Nat×List Nat):=[(0,[3,4,5]),(1,[3,4,5,18]),(2,[6]),(3,[3,5,7,8]),(4,[3,5,7,27]),(5,[6]),(6,[5,7,9]),(7,[6])]
attribute [go_sem] kp79
theorem connected_fc (x:SystemT) (hx:SystemOkP x) (p q:DepPairT) (hp:PrOk x.sig p) (hq:PrOk x.sig q):FC S 79 [] [] [] [SystemD x,DepPairD p,DepPairD q] (.bool (tst (ConnP x p q))) [] []:=by
 have cC:=capped_fc x p.r hp.1.2 (lenAll hx)
 have hpl:=hp.1.2.2.1
 have hql:=hq.1.1.2.1
 have cW:=away_fc q.l (by omega) hq.1.1.ge
 by_cases hh:p.r.getD 0 default=q.l.getD 0 default
 ·by_cases hc:(capL x p.r 60 0 0).2≤24
  ·have hX:=XT.of (cap_ok hp.1.2 hc)
   obtain⟨f,r,hr,hri⟩:=conn_impl hX hq.1.1
   rw[show decide ((((capL x p.r 60 0 0).2:Nat):Int)≤24)=true from decide_eq_true (by omega)] at cC
   rw[conn_few hh hc hri]
   generalize (capL x p.r 60 0 0).1=out at *
   cases r with
   | some β' =>
    have cY:=solve_yes 1031 x.sig 60 f b0 β' (b0_ok _) _ _ hX (XT.away hq.1.1) hr
    rw[uC_zeroP] at cY
    show FC S 79 [] [] [] [SystemD x,DepPairD p,DepPairD q] (.bool true) [] []
    unfold uC at cY
    refine fc_body Tryz.func79 rfl (by kernel_rfl) (by simp[Tryz.f79]) fun B=>?_
    simp only[Tryz.ntmps79,enumD,lst0,Nat.reduceAdd]
    repeat' first|((exfalso;omega))|((refine hK.callB rfl rfl rfl (cY) (by refine⟨⟨?_,?_,?_,?_,?_⟩,⟨?_,?_,?_,?_,?_⟩,?_⟩<;>simp[-List.map_set,LS.getBox,Lg.look,D.ids,D.idsL,idsL_bool,idsL_bD,LS.clean,D.puOk,D.pu,D.pu1,D.tks,D.tksL,tksU_ints,tksL_bool,tksL_bD,puOk_intsU,puOk_bool,puOk_bD,inTok]) ?_;simp (disch:=(refine Om.mk ?_;omega)) only[go_sem]))|refine sw_seq ?_|refine sw_skip ?_|refine sw_go 2000 kp79 fun K hK=>?_|refine sw_goD kp79 (by kernel_rfl) fun K hK=>?_|((first|refine runL_go ?_|refine runQ_go ?_|refine sw_ret (ret0 ?_)|refine sw_ret ?_);simp (disch:=(refine Om.mk ?_;omega)) only[go_sem,Tryz.results79])|(refine hK.nil ?_;clear hK K;simp only[go_sem])|((first|refine sw_cond rfl ?_ ?_)<;>intro h<;>try simp (disch:=(refine Om.mk ?_;omega)) only[go_sem] at h)|refine hK.c0 rfl rfl rfl (cC) rfl rfl rfl ?_|refine hK.c0 rfl rfl rfl (cW) rfl rfl rfl ?_|(with_reducible refine And.intro (by first|omega|(simp only[lens];omega)) ?_)|fail
    all_goals trace_state
   | none =>
    have cY:=solve_no 1031 x.sig 60 f b0 (b0_ok _) _ _ hX (XT.away hq.1.1) hr
    rw[uC_zeroP] at cY
    show FC S 79 [] [] [] [SystemD x,DepPairD p,DepPairD q] (.bool false) [] []
    refine fc_body Tryz.func79 rfl (by kernel_rfl) (by simp[Tryz.f79]) fun B=>?_
    simp only[Tryz.ntmps79,enumD,lst0,Nat.reduceAdd]
    repeat' first|((exfalso;omega))|((refine hK.callB rfl rfl rfl (cY) (by refine⟨⟨?_,?_,?_,?_,?_⟩,⟨?_,?_,?_,?_,?_⟩,?_⟩<;>simp[-List.map_set,LS.getBox,Lg.look,D.ids,D.idsL,idsL_bool,idsL_bD,LS.clean,D.puOk,D.pu,D.pu1,D.tks,D.tksL,tksU_ints,tksL_bool,tksL_bD,puOk_intsU,puOk_bool,puOk_bD,inTok]) ?_;simp (disch:=(refine Om.mk ?_;omega)) only[go_sem]))|refine sw_seq ?_|refine sw_skip ?_|refine sw_go 2000 kp79 fun K hK=>?_|refine sw_goD kp79 (by kernel_rfl) fun K hK=>?_|((first|refine runL_go ?_|refine runQ_go ?_|refine sw_ret (ret0 ?_)|refine sw_ret ?_);simp (disch:=(refine Om.mk ?_;omega)) only[go_sem,Tryz.results79])|(refine hK.nil ?_;clear hK K;simp only[go_sem])|((first|refine sw_cond rfl ?_ ?_)<;>intro h<;>try simp (disch:=(refine Om.mk ?_;omega)) only[go_sem] at h)|refine hK.c0 rfl rfl rfl (cC) rfl rfl rfl ?_|refine hK.c0 rfl rfl rfl (cW) rfl rfl rfl ?_|(with_reducible refine And.intro (by first|omega|(simp only[lens];omega)) ?_)|fail
    all_goals trace_state
  ·rw[conn_many hh hc]
   rw[show decide ((((capL x p.r 60 0 0).2:Nat):Int)≤24)=false from decide_eq_false (by omega)] at cC
   generalize (capL x p.r 60 0 0).1=out at *
   refine fc_body Tryz.func79 rfl (by kernel_rfl) (by simp[Tryz.f79]) fun B=>?_
   simp only[Tryz.ntmps79,enumD,lst0,Nat.reduceAdd]
   repeat' first|((exfalso;omega))|refine sw_seq ?_|refine sw_skip ?_|refine sw_go 2000 kp79 fun K hK=>?_|refine sw_goD kp79 (by kernel_rfl) fun K hK=>?_|((first|refine runL_go ?_|refine runQ_go ?_|refine sw_ret (ret0 ?_)|refine sw_ret ?_);simp (disch:=(refine Om.mk ?_;omega)) only[go_sem,Tryz.results79])|(refine hK.nil ?_;clear hK K;simp only[go_sem])|((first|refine sw_cond rfl ?_ ?_)<;>intro h<;>try simp (disch:=(refine Om.mk ?_;omega)) only[go_sem] at h)|refine hK.c0 rfl rfl rfl (cC) rfl rfl rfl ?_|(with_reducible refine And.intro (by first|omega|(simp only[lens];omega)) ?_)|fail
 ·rw[conn_head hh]
  refine fc_body Tryz.func79 rfl (by kernel_rfl) (by simp[Tryz.f79]) fun B=>?_
  simp only[Tryz.ntmps79,enumD,lst0,Nat.reduceAdd]
  repeat' first|((exfalso;omega))|refine sw_seq ?_|refine sw_go 2000 kp79 fun K hK=>?_|refine sw_goD kp79 (by kernel_rfl) fun K hK=>?_|((first|refine runL_go ?_|refine runQ_go ?_|refine sw_ret (ret0 ?_)|refine sw_ret ?_);simp (disch:=(refine Om.mk ?_;omega)) only[go_sem,Tryz.results79])|(refine hK.nil ?_;clear hK K;simp only[go_sem])|((first|refine sw_cond rfl ?_ ?_)<;>intro h<;>try simp (disch:=(refine Om.mk ?_;omega)) only[go_sem] at h)|(with_reducible refine And.intro (by first|omega|(simp only[lens];omega)) ?_)|fail
end Go.Proofs.YtohnfgligddanaaGreat
end
