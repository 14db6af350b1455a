/-
  D4, I1, A28c, A24i, N4, Si, one behind the other.
-/
import Derived.Test.YtkfkdgginfpdnaaGreatDoorG7
import Derived.Test.YtkfkdgginfpdnaaGreatDoorG6
import Derived.Test.YtkfkdgginfpdnaaGreatDoorLgK24
import Derived.Test.YtkfkdgginfpdnaaGreatDoorG2
import Derived.Test.YtkfkdgginfpdnaaGreatDoorG1
import Derived.Test.YtkfkdgginfpdnaaGreatDoorG4
import Derived.Test.YtkfkdgginfpdnaaGreatDoorLgK10
import Derived.Test.YtkfkdgginfpdnaaGreatDoorG5
import Derived.Test.YtkfkdgginfpdnaaGreatDoorSet
import Derived.Test.YtkfkdgginfpdnaaGreatDoorLgK21
namespace Go.Proofs.YtkfkdgginfpdnaaGreatDoor
open Go Go.Lg
set_option linter.unusedSimpArgs false
set_option linter.unusedVariables false
set_option maxHeartbeats 4000000
section
attribute [local irreducible] Lg.SW runL runQ runG runQG FC Ret1 RetN toF redoL
theorem takI_rng (LF:List FormT) (f:Int) (args:List (List Int)):-1≤takI LF f args∧takI LF f args<(LF.length:Int):=by
 by_cases h:∃i,i<LF.length∧FitF (LF.getD i default) f args
 ·obtain⟨i,hi,hf,hm⟩:∃i,i<LF.length∧FitF (LF.getD i default) f args∧∀j<i,¬FitF (LF.getD j default) f args:=by
   obtain⟨i,hi,hf⟩:=h
   induction i using Nat.strongRecOn with
   | ind i ih =>
    by_cases h2:∃j,j<i∧FitF (LF.getD j default) f args
    ·obtain⟨j,hj,hf2⟩:=h2
     exact ih j hj (by omega) hf2
    ·exact⟨i,hi,hf,fun j hj h3=>h2 ⟨j,hj,h3⟩⟩
  have e:takI LF f args=i:=fidx_at (p:=fun x=>FitF x f args) hm hi hf
  omega
 ·have e:takI LF f args=-1:=fidx_none (p:=fun x=>FitF x f args) fun j hj hf=>h ⟨j,hj,hf⟩
  omega
attribute [local go_sem] tksL_B idsL_B shTL_B pu1_B mTL_B
theorem funN_get {us:List Int} {i:Nat} (h:i<us.length):(funN us).getD i default=(us.getD i default).toNat:=by
 simp[funN,List.getD_eq_getElem?_getD,h]
def kp16:List (Nat×List Nat):=[(0,[1]),(1,[1,3]),(2,[1,3,18]),(3,[2]),(4,[1,3,4,5,7]),(5,[1,3,4,5,28]),(6,[2]),(7,[1,3,4,5,8]),(8,[1,3,4,5,8,9]),(9,[1,3,4,5,8,9,38]),(11,[1,3,4,5,8,9,10]),(12,[1,3,4,5,8,9,10,57]),(13,[1,3,4,5,8,9,10,11]),(14,[1,3,4,5,8,9,10,11,12]),(15,[1,3,4,5,8,9,10,11,65]),(17,[1,3,4,5,8,9,10,11,13]),(18,[1,3,4,5,8,9,10,11,13,81]),(19,[1,3,4,5,8,9,10,11]),(16,[1,3,4,5,8,9,10,11,12]),(10,[1,3,4,5,8,9]),(20,[3,8,14]),(21,[3,8,14,88]),(23,[3,8,14,95]),(24,[3,8,14]),(22,[3,8,14]),(25,[2])]
attribute [go_sem] kp16 Tryz.results16 Tryz.ntmps16
theorem specDeadLines_fc (f:FrontT):FC S 16 [] [] [] [FrontD f] (.sl .any ((deadR f).map (.int .i64))) [] []:=by
 by_cases h:FrontOkP f
 ·obtain⟨sets,ok,hN⟩:∃s b,setV f=(s,b):=⟨_,_,rfl⟩
  have cV:=l26Values_fc f h sets ok hN
  have cF:=specFrontOk_fc f
  rw[tst_true h] at cF
  cases ok with
  | false =>
   rw[deadR_no2 (by rw[hN])]
   simp only[Bool.false_eq_true,if_false] at cV
   refine fcb Tryz.func16 fun B=>?_
   repeat' first|exact h.elim|(exfalso;omega)|refine sw_n ?_|refine sw_go 0 kp16 fun K hK=>?_|refine fun (K:KT) (hK:KOk S 0 _ _ _ K)=>?_|refine sw_goD kp16 (by kernel_rfl) fun K hK=>?_|refine runL_g ?_|refine runQ_g ?_|refine sw_retg0 ?_|refine sw_retg ?_|(refine hK.n0 ?_;clear hK K)|refine runG_fk (fun h=>?_) fun h=>?_|refine runQG_fk (fun h=>?_) fun h=>?_|refine sw_condg rfl (fun h=>?_) fun h=>?_|refine hK.skp rfl rfl ?_|refine sw_exit rfl ?_|refine sw_loopEnd ?_|refine hK.c1 rfl rfl rfl (cF) ?_|refine hK.c1 rfl rfl rfl (cV) ?_|(refine hK.fork rfl rfl rfl ?_ ?_<;>intro h<;>try simp (disch:=(refine Om.mk ?_;omega)) only[go_sem] at h)|with_reducible refine and_o ?_|((with_reducible refine And.intro ?_ ?_);· first|(intro x hx;subst hx;rfl)|(intro x;refine And.intro ?_ ?_<;>(intros;subst_vars;rfl)))|apply tTT
   all_goals trace_state
  | true =>
   simp only[if_true] at cV
   rw[deadR_yes h hN]
   have h16:=iterZ_le (I:=imgH f.sig (shpV f) []) (E:=evY f.sig (symsK f.sig f.funs)) 18 [] (by simp)
   rw[show iterZ (imgH f.sig (shpV f) []) (evY f.sig (symsK f.sig f.funs)) 18 []=setV f from rfl,hN] at h16
   dsimp only at h16
   have hSG:=h.1.1
   have hrs:=h.1.1.1.2
   have hfu:=h.1.2.1
   have h8:=h.1.2.2
   have hLl:=lefsL_len f
   have hFl:(funN f.funs).length=f.funs.length:=List.length_map _
   have hFg:=fun i (hi:i<f.funs.length)=>funN_get hi
   have hful:=hfu.len (by omega)
   have cTk:=fun fn args hs=>l26Taken_fc f h fn args hs
   have hal:=liveU_len ((lefsL f).map (formR f.sig (shpV f))) sets (evY f.sig (funN f.funs) sets.length) (List.replicate f.lines.length false)
   rw[List.length_replicate] at hal
   have hrg:=takI_rng ((lefsL f).map (formR f.sig (shpV f)))
   rw[List.length_map,hLl] at hrg
   have hall:liveU ((lefsL f).map (formR f.sig (shpV f))) sets (evY f.sig ((funN f.funs).drop 0) sets.length) (List.replicate f.lines.length false)=liveU ((lefsL f).map (formR f.sig (shpV f))) sets (evY f.sig (funN f.funs) sets.length) (List.replicate f.lines.length false):=by rw[List.drop_zero]
   generalize hLF:(lefsL f).map (formR f.sig (shpV f))=LF at *
   generalize hALL:liveU LF sets (evY f.sig (funN f.funs) sets.length) (List.replicate f.lines.length false)=ALL at *
   generalize hFN:funN f.funs=FN at *
   have hst:∀x∈lefsL f,∀g:Nat,g<f.sig.length→(arS f.sig (g:Int))=f.sig.getD g default:=fun x _ g hg=>by
    unfold arS
    rw[if_neg (by omega),if_pos ⟨by omega,by omega⟩,Int.toNat_natCast]
   generalize shpV f=SH at *
   refine fcb Tryz.func16 fun B=>?_
   repeat' first|exact h.elim|(exfalso;omega)|refine sw_n ?_|refine sw_go 0 kp16 fun K hK=>?_|refine fun (K:KT) (hK:KOk S 0 _ _ _ K)=>?_|refine sw_goD kp16 (by kernel_rfl) fun K hK=>?_|refine runL_g ?_|refine runQ_g ?_|refine sw_retg0 ?_|refine sw_retg ?_|(refine hK.n0 ?_;clear hK K)|refine runG_fk (fun h=>?_) fun h=>?_|refine runQG_fk (fun h=>?_) fun h=>?_|refine sw_condg rfl (fun h=>?_) fun h=>?_|refine hK.skp rfl rfl ?_|refine sw_exit rfl ?_|refine sw_loopEnd ?_|refine hK.c1 rfl rfl rfl (cF) ?_|refine hK.c1 rfl rfl rfl (cV) ?_|(refine hK.fork rfl rfl rfl ?_ ?_<;>intro h<;>try simp (disch:=(refine Om.mk ?_;omega)) only[go_sem] at h)|with_reducible refine and_o ?_|((with_reducible refine And.intro ?_ ?_);· first|(intro x hx;subst hx;rfl)|(intro x;refine And.intro ?_ ?_<;>(intros;subst_vars;rfl)))|apply tTT
   refine sw_boxLe 33 ((List.replicate f.lines.length false).map .bool) rfl (by rw[flatten_one];simp) (fun j c d h1 h2=>?_) ?_
   ·rw[flatten_one] at h1
    rw[List.map_replicate] at h2
    rw[h1] at h2
    cases h2
    exact .refl _
   simp only[go_sem]
   refine sw_loopT (ι:=Nat×List Bool) (fun x=>[(9,.int .i64 x.1)]) (fun x=>[(33,x.2.map .bool)]) (fun _=>[]) (fun x=>(x.1≤f.funs.length∧x.2.length=f.lines.length)∧liveU LF sets (evY f.sig (FN.drop x.1) sets.length) x.2=ALL) (fun x=>f.funs.length-x.1) (0,List.replicate f.lines.length false) cvB ⟨⟨Nat.zero_le _,by simp⟩,hall⟩ (fun x hx=>?_)
   obtain⟨i,lv⟩:=x
   obtain⟨⟨hi,hlv⟩,hc⟩:=hx
   dsimp only at hi hlv hc
   simp only[go_sem]
   by_cases hil:i<f.funs.length
   ·have hfi:=(hfu i hil).1
    obtain⟨g,hg⟩:∃g:Nat,f.funs.getD i default=g:=⟨(f.funs.getD i default).toNat,by omega⟩
    have hgl:g<f.sig.length:=by omega
    have hFi:=hFg i hil
    rw[hg,Int.toNat_natCast] at hFi
    obtain⟨har,hr0,hr3⟩:=ar_at hSG hgl
    obtain⟨n,hn⟩:∃n:Nat,f.sig.getD g default=n:=⟨(f.sig.getD g default).toNat,by omega⟩
    have hnt:(f.sig.getD g default).toNat=n:=by omega
    have hn2:f.sig.getD (f.funs.getD i default).toNat default=n:=by rw[hg,Int.toNat_natCast];exact hn
    have hgr:0≤f.funs.getD i default∧f.funs.getD i default<f.sig.length:=by omega
    rw[evY_cons f.sig (show i<FN.length by omega),hFi] at hc
    by_cases hs0:sets.length=0∧0<f.sig.getD g default
    ·rw[show evF f.sig sets.length g=[] from if_pos hs0,List.nil_append] at hc
     have hs01:=hs0.1
     have hs02:=hs0.2
     repeat' first|exact h.elim|(exfalso;omega)|refine sw_n ?_|refine sw_go 0 kp16 fun K hK=>?_|refine fun (K:KT) (hK:KOk S 0 _ _ _ K)=>?_|refine sw_goD kp16 (by kernel_rfl) fun K hK=>?_|refine runL_g ?_|refine runQ_g ?_|refine sw_retg0 ?_|refine sw_retg ?_|(refine hK.n0 ?_;clear hK K)|refine runG_fk (fun h=>?_) fun h=>?_|refine runQG_fk (fun h=>?_) fun h=>?_|refine sw_condg rfl (fun h=>?_) fun h=>?_|refine hK.skp rfl rfl ?_|refine sw_exit rfl ?_|refine sw_loopEnd ?_|(refine hK.fork rfl rfl rfl ?_ ?_<;>intro h<;>try simp (disch:=(refine Om.mk ?_;omega)) only[go_sem] at h)|with_reducible refine and_o ?_|((with_reducible refine And.intro ?_ ?_);· first|(intro x hx;subst hx;rfl)|(intro x;refine And.intro ?_ ?_<;>(intros;subst_vars;rfl)))|apply tTT
     all_goals first|exact⟨(i+1,lv),cvB,⟨⟨hil,hlv⟩,hc⟩,by dsimp only;omega⟩|trace_state
    ·rw[show evF f.sig sets.length g=(digs sets.length (f.sig.getD g default).toNat).map (fun l=>(g,l)) from if_neg hs0,hnt] at hc
     have hd0:0<sets.length∨n=0:=by omega
     obtain⟨hseq,A0,hA0⟩:=digs_ok hd0
     have hdig:=digs_dig hd0
     rw[hA0] at hseq hdig hc
     have hng:¬(sets.length=0∧0<n):=by omega
     apply mrgN
     ·intro key
      repeat' first|exact h.elim|(exfalso;omega)|refine sw_n ?_|refine sw_go 0 kp16 fun K hK=>?_|refine fun (K:KT) (hK:KOk S 0 _ _ _ K)=>?_|refine sw_goD kp16 (by kernel_rfl) fun K hK=>?_|refine runL_g ?_|refine runQ_g ?_|refine sw_retg0 ?_|refine sw_retg ?_|(refine hK.n0 ?_;clear hK K)|refine runG_fk (fun h=>?_) fun h=>?_|refine runQG_fk (fun h=>?_) fun h=>?_|refine sw_condg rfl (fun h=>?_) fun h=>?_|refine hK.skp rfl rfl ?_|refine sw_exit rfl ?_|refine sw_loopEnd ?_|(refine hK.fork rfl rfl rfl ?_ ?_<;>intro h<;>try simp (disch:=(refine Om.mk ?_;omega)) only[go_sem] at h)|with_reducible refine and_o ?_|((with_reducible refine And.intro ?_ ?_);· first|(intro x hx;subst hx;rfl)|(intro x;refine And.intro ?_ ?_<;>(intros;subst_vars;rfl)))|apply tTT
      all_goals exact key.get
     rw[show (f.sig.getD (f.funs.getD i default).toNat default).toNat=n by omega]
     refine sw_freeze 11 1 .any ((List.replicate n (0:Int)).map (.int .i64)) rfl rfl (by rw[flatten_one,flat_ints,List.map_replicate]) (by simp) (cells_one fun _=>rfl) (by rw[flatten_one,←List.map_replicate (f:=D.int .i64)];exact memOk_ints _) (.inl rfl) ?_
     simp only[go_sem]
     refine sw_loopT (ι:=(List Int×Bool)×List (List Int)×List Bool) (fun p=>[(11,.sl .any (p.1.1.map (.int .i64))),(12,.bool p.1.2)]) (fun p=>[(33,p.2.2.map .bool)]) (fun _=>[]) (fun p=>((p.1.1.length=n∧∀x∈p.1.1,0≤x∧x<sets.length)∧p.2.2.length=f.lines.length)∧(p.1.2=true→(SeqD (List.replicate n (0,(sets.length:Int)-1)) (p.1.1::p.2.1)∧∀l∈p.2.1,l.length=n∧∀x∈l,0≤x∧x<sets.length)∧liveU LF sets ((p.1.1::p.2.1).map (fun l=>(g,l))++evY f.sig (FN.drop (i+1)) sets.length) p.2.2=ALL)∧(p.1.2=false→liveU LF sets (evY f.sig (FN.drop (i+1)) sets.length) p.2.2=ALL)) (fun p=>if p.1.2=true then p.2.1.length+1 else 0) ((List.replicate n 0,true),A0,lv) (by(refine covers_mk0 rfl rfl ?_ ?_ ?_ ?_<;>simp (disch:=(refine Om.mk ?_;omega)) only[go_sem]<;>(try omega));all_goals first|rfl|exact⟨rfl,rfl⟩|exact⟨rfl,rfl,rfl⟩|trace_state) ⟨⟨hdig _ List.mem_cons_self,hlv⟩,(fun _=>⟨⟨hseq,fun l hl=>hdig l (List.mem_cons_of_mem _ hl)⟩,hc⟩),(fun h=>by cases h)⟩ (fun p hp=>?_)
     obtain⟨⟨l,mr⟩,A,lw⟩:=p
     obtain⟨⟨⟨hl1,hl2⟩,hlw⟩,hm1,hm2⟩:=hp
     dsimp only at hl1 hl2 hlw hm1 hm2
     simp only[go_sem]
     have hbx:∀x∈l,0≤x∧x≤1000:=fun x hx=>by have:=hl2 x hx;omega
     have hget:∀j<l.length,0≤l.getD j default∧l.getD j default<sets.length:=fun j hj=>hl2 _ (getD_mem l j hj)
     cases mr with
     | false =>
      have hm2:=hm2 rfl
      repeat' first|exact h.elim|(exfalso;omega)|refine sw_n ?_|refine sw_go 0 kp16 fun K hK=>?_|refine fun (K:KT) (hK:KOk S 0 _ _ _ K)=>?_|refine sw_goD kp16 (by kernel_rfl) fun K hK=>?_|refine runL_g ?_|refine runQ_g ?_|refine sw_retg0 ?_|refine sw_retg ?_|(refine hK.n0 ?_;clear hK K)|refine runG_fk (fun h=>?_) fun h=>?_|refine runQG_fk (fun h=>?_) fun h=>?_|refine sw_condg rfl (fun h=>?_) fun h=>?_|refine hK.skp rfl rfl ?_|refine sw_exit rfl ?_|refine sw_loopEnd ?_|(refine hK.fork rfl rfl rfl ?_ ?_<;>intro h<;>try simp (disch:=(refine Om.mk ?_;omega)) only[go_sem] at h)|with_reducible refine and_o ?_|((with_reducible refine And.intro ?_ ?_);· first|(intro x hx;subst hx;rfl)|(intro x;refine And.intro ?_ ?_<;>(intros;subst_vars;rfl)))|apply tTT
      all_goals first|exact⟨(i+1,lw),cvB,⟨⟨hil,hlw⟩,hm2⟩,by dsimp only;omega⟩|trace_state
     | true =>
      obtain⟨⟨hs,hA1⟩,hcc⟩:=hm1 rfl
      have hlen:=lst_len sets l
      have cLi:=l23Listed_fc .any .any sets l (by omega) hget
      have cN:=nextList_fc .any l (sets.length:Int) (by omega) hbx
      have hnx:=loop_next hl1 hl2 hs
      have cT:=cTk (f.funs.getD i default) (lstS sets l) (fun x hx _=>by rw[hg,hst x hx g hgl,hlen,hl1];omega)
      rw[List.map_cons,List.cons_append,liveU] at hcc
      dsimp only at hcc
      rw[←hg] at hcc
      have hrk:=hrg (f.funs.getD i default) (lstS sets l)
      generalize takI LF (f.funs.getD i default) (lstS sets l)=k at *
      by_cases hk0:0≤k
      ·rw[show setB lw k=lw.set k.toNat true from if_pos hk0] at hcc
       repeat' first|exact h.elim|(exfalso;omega)|refine sw_n ?_|refine sw_go 0 kp16 fun K hK=>?_|refine fun (K:KT) (hK:KOk S 0 _ _ _ K)=>?_|refine sw_goD kp16 (by kernel_rfl) fun K hK=>?_|refine runL_g ?_|refine runQ_g ?_|refine sw_retg0 ?_|refine sw_retg ?_|(refine hK.n0 ?_;clear hK K)|refine runG_fk (fun h=>?_) fun h=>?_|refine runQG_fk (fun h=>?_) fun h=>?_|refine sw_condg rfl (fun h=>?_) fun h=>?_|refine hK.skp rfl rfl ?_|refine sw_exit rfl ?_|refine sw_loopEnd ?_|refine hK.c1 rfl rfl rfl (cLi) ?_|refine hK.c1 rfl rfl rfl (cT) ?_|refine hK.c1 rfl rfl rfl (cN) ?_|(refine hK.fork rfl rfl rfl ?_ ?_<;>intro h<;>try simp (disch:=(refine Om.mk ?_;omega)) only[go_sem] at h)|with_reducible refine and_o ?_|((with_reducible refine And.intro ?_ ?_);· first|(intro x hx;subst hx;rfl)|(intro x;refine And.intro ?_ ?_<;>(intros;subst_vars;rfl)))|apply tTT
       all_goals first|exact⟨((((nextL (sets.length:Int) l).1,(nextL (sets.length:Int) l).2)),A.tail,lw.set k.toNat true),(by(refine covers_mk0 rfl rfl ?_ ?_ ?_ ?_<;>simp (disch:=(refine Om.mk ?_;omega)) only[go_sem]<;>(try omega));all_goals first|rfl|(rw[List.map_set];done)|exact⟨rfl,rfl⟩|exact⟨rfl,rfl,rfl⟩|trace_state),⟨⟨hnx.1,by dsimp only;rw[List.length_set];exact hlw⟩,(fun h=>⟨⟨(hnx.2.1 h).1,fun m hm=>hA1 m (List.mem_of_mem_tail hm)⟩,by have e:=(hnx.2.1 h).2;rw[e] at hcc;exact hcc⟩),(fun h=>by have:=hnx.2.2 h;rw[this] at hcc;exact hcc)⟩,nx_meas hnx⟩|trace_state
      ·rw[show setB lw k=lw from if_neg hk0] at hcc
       repeat' first|exact h.elim|(exfalso;omega)|refine sw_n ?_|refine sw_go 0 kp16 fun K hK=>?_|refine fun (K:KT) (hK:KOk S 0 _ _ _ K)=>?_|refine sw_goD kp16 (by kernel_rfl) fun K hK=>?_|refine runL_g ?_|refine runQ_g ?_|refine sw_retg0 ?_|refine sw_retg ?_|(refine hK.n0 ?_;clear hK K)|refine runG_fk (fun h=>?_) fun h=>?_|refine runQG_fk (fun h=>?_) fun h=>?_|refine sw_condg rfl (fun h=>?_) fun h=>?_|refine hK.skp rfl rfl ?_|refine sw_exit rfl ?_|refine sw_loopEnd ?_|refine hK.c1 rfl rfl rfl (cLi) ?_|refine hK.c1 rfl rfl rfl (cT) ?_|refine hK.c1 rfl rfl rfl (cN) ?_|(refine hK.fork rfl rfl rfl ?_ ?_<;>intro h<;>try simp (disch:=(refine Om.mk ?_;omega)) only[go_sem] at h)|with_reducible refine and_o ?_|((with_reducible refine And.intro ?_ ?_);· first|(intro x hx;subst hx;rfl)|(intro x;refine And.intro ?_ ?_<;>(intros;subst_vars;rfl)))|apply tTT
       all_goals first|exact⟨((((nextL (sets.length:Int) l).1,(nextL (sets.length:Int) l).2)),A.tail,lw),(by(refine covers_mk0 rfl rfl ?_ ?_ ?_ ?_<;>simp (disch:=(refine Om.mk ?_;omega)) only[go_sem]<;>(try omega));all_goals first|rfl|exact⟨rfl,rfl⟩|exact⟨rfl,rfl,rfl⟩|trace_state),⟨⟨hnx.1,hlw⟩,(fun h=>⟨⟨(hnx.2.1 h).1,fun m hm=>hA1 m (List.mem_of_mem_tail hm)⟩,by have e:=(hnx.2.1 h).2;rw[e] at hcc;exact hcc⟩),(fun h=>by have:=hnx.2.2 h;rw[this] at hcc;exact hcc)⟩,nx_meas hnx⟩|trace_state
   ·obtain rfl:i=f.funs.length:=by omega
    have e0:evY f.sig (FN.drop f.funs.length) sets.length=[]:=by rw[←hFl,List.drop_length];rfl
    rw[e0] at hc
    have hlA:lv=ALL:=hc
    subst hlA
    repeat' first|exact h.elim|(exfalso;omega)|refine sw_n ?_|refine sw_go 0 kp16 fun K hK=>?_|refine fun (K:KT) (hK:KOk S 0 _ _ _ K)=>?_|refine sw_goD kp16 (by kernel_rfl) fun K hK=>?_|refine runL_g ?_|refine runQ_g ?_|refine sw_retg0 ?_|refine sw_retg ?_|(refine hK.n0 ?_;clear hK K)|refine runG_fk (fun h=>?_) fun h=>?_|refine runQG_fk (fun h=>?_) fun h=>?_|refine sw_condg rfl (fun h=>?_) fun h=>?_|refine hK.skp rfl rfl ?_|refine sw_exit rfl ?_|refine sw_loopEnd ?_|(refine hK.fork rfl rfl rfl ?_ ?_<;>intro h<;>try simp (disch:=(refine Om.mk ?_;omega)) only[go_sem] at h)|with_reducible refine and_o ?_|((with_reducible refine And.intro ?_ ?_);· first|(intro x hx;subst hx;rfl)|(intro x;refine And.intro ?_ ?_<;>(intros;subst_vars;rfl)))|apply tTT
    refine sw_tok 3 100000 2 1 rfl (.inr rfl) (by simp[LS.purge,LS.clean,mapA,D.pu,D.pu1,D.tks,D.tksL,tksL_B,pu1_B,pu1_cB]) ?_
    simp only[go_sem]
    refine sw_loopT (ι:=Nat) (fun k=>[(14,.int .i64 k),(3,.sl (.own 100000 2 1) ((deadL lv k).map (.int .i64)))]) (fun _=>[]) (fun _=>[100000]) (fun k=>k≤f.lines.length) (fun k=>f.lines.length-k) 0 cvB (Nat.zero_le _) (fun k hk=>?_)
    simp only[go_sem]
    have hdl:=deadL_len lv k
    by_cases hkl:k<f.lines.length
    ·repeat' first|exact h.elim|(exfalso;omega)|refine sw_n ?_|refine sw_go 0 kp16 fun K hK=>?_|refine fun (K:KT) (hK:KOk S 0 _ _ _ K)=>?_|refine sw_goD kp16 (by kernel_rfl) fun K hK=>?_|refine runL_g ?_|refine runQ_g ?_|refine sw_retg0 ?_|refine sw_retg ?_|(refine hK.n0 ?_;clear hK K)|refine runG_fk (fun h=>?_) fun h=>?_|refine runQG_fk (fun h=>?_) fun h=>?_|refine sw_condg rfl (fun h=>?_) fun h=>?_|refine hK.skp rfl rfl ?_|refine sw_exit rfl ?_|refine sw_loopEnd ?_|(refine hK.fork rfl rfl rfl ?_ ?_<;>intro h<;>try simp (disch:=(refine Om.mk ?_;omega)) only[go_sem] at h)|with_reducible refine and_o ?_|((with_reducible refine And.intro ?_ ?_);· first|(intro x hx;subst hx;rfl)|(intro x;refine And.intro ?_ ?_<;>(intros;subst_vars;rfl)))|apply tTT
     all_goals first|exact⟨k+1,(by rw[deadL_n (by simpa using h),List.map_append];(refine covers_mk0 rfl rfl ?_ ?_ ?_ ?_<;>simp (disch:=(refine Om.mk ?_;omega)) only[go_sem]<;>(try omega));all_goals first|rfl|exact⟨rfl,by omega⟩|exact⟨by omega,rfl⟩|trace_state),by omega,by omega⟩|exact⟨k+1,(by rw[deadL_y (by simpa using h)];(refine covers_mk0 rfl rfl ?_ ?_ ?_ ?_<;>simp (disch:=(refine Om.mk ?_;omega)) only[go_sem]<;>(try omega));all_goals first|rfl|exact⟨rfl,by omega⟩|exact⟨by omega,rfl⟩|trace_state),by omega,by omega⟩|trace_state
    ·obtain rfl:k=f.lines.length:=by omega
     repeat' first|exact h.elim|(exfalso;omega)|refine sw_n ?_|refine sw_go 0 kp16 fun K hK=>?_|refine fun (K:KT) (hK:KOk S 0 _ _ _ K)=>?_|refine sw_goD kp16 (by kernel_rfl) fun K hK=>?_|refine runL_g ?_|refine runQ_g ?_|refine sw_retg0 ?_|refine sw_retg ?_|(refine hK.n0 ?_;clear hK K)|refine runG_fk (fun h=>?_) fun h=>?_|refine runQG_fk (fun h=>?_) fun h=>?_|refine sw_condg rfl (fun h=>?_) fun h=>?_|refine hK.skp rfl rfl ?_|refine sw_exit rfl ?_|refine sw_loopEnd ?_|(refine hK.fork rfl rfl rfl ?_ ?_<;>intro h<;>try simp (disch:=(refine Om.mk ?_;omega)) only[go_sem] at h)|with_reducible refine and_o ?_|((with_reducible refine And.intro ?_ ?_);· first|(intro x hx;subst hx;rfl)|(intro x;refine And.intro ?_ ?_<;>(intros;subst_vars;rfl)))|apply tTT
     all_goals trace_state
 ·rw[deadR_no1 h]
  have cF:=specFrontOk_fc f
  rw[tst_false h] at cF
  refine fcb Tryz.func16 fun B=>?_
  repeat' first|exact h.elim|(exfalso;omega)|refine sw_n ?_|refine sw_go 0 kp16 fun K hK=>?_|refine fun (K:KT) (hK:KOk S 0 _ _ _ K)=>?_|refine sw_goD kp16 (by kernel_rfl) fun K hK=>?_|refine runL_g ?_|refine runQ_g ?_|refine sw_retg0 ?_|refine sw_retg ?_|(refine hK.n0 ?_;clear hK K)|refine runG_fk (fun h=>?_) fun h=>?_|refine runQG_fk (fun h=>?_) fun h=>?_|refine sw_condg rfl (fun h=>?_) fun h=>?_|refine hK.skp rfl rfl ?_|refine sw_exit rfl ?_|refine sw_loopEnd ?_|refine hK.c1 rfl rfl rfl (cF) ?_|(refine hK.fork rfl rfl rfl ?_ ?_<;>intro h<;>try simp (disch:=(refine Om.mk ?_;omega)) only[go_sem] at h)|with_reducible refine and_o ?_|((with_reducible refine And.intro ?_ ?_);· first|(intro x hx;subst hx;rfl)|(intro x;refine And.intro ?_ ?_<;>(intros;subst_vars;rfl)))|apply tTT
  all_goals trace_state
end
section
attribute [local irreducible] Lg.SW runL runQ runG runQG FC Ret1 RetN toF redoL
attribute [local go_sem] D.ifc
def kp102:List (Nat×List Nat):=[(0,[0]),(1,[0,3]),(2,[3,8,9,10]),(3,[3,8,9,10,11]),(4,[3,5,8,9,10]),(5,[3,8,9,10,15]),(8,[3,8,9,10,15,22,23]),(9,[3,6,8,9,10]),(10,[3,8,9,10]),(6,[3,7,8,9,10]),(7,[3,8,9,10]),(11,[3,8,9,10]),(12,[2])]
attribute [go_sem] kp102 Tryz.results102 Tryz.ntmps102
theorem leftsOfV_fc (f:FrontT) (h:FrontOkP f):FC S 102 [] [] [] [.sl .any (f.lines.map LineD)] (.sl .any ((lefsL f).map IntsD)) [] []:=by
 have hfl:=front_len h
 have hn8:=h.1.2.2
 have hz:lefsTo f 0=[]:=by simp[lefsTo]
 have hss:=fun i (h:i<f.lines.length)=>lefsTo_s f h
 have hal:=fun i h=>lefsTo_all f i h
 have hln:=fun i=>lefsTo_len f i
 have hp3:∀i<f.lines.length,(f.lines.getD i default).pats.length≤3:=fun i hi=>by
  have h1:=(h.2 i hi).1
  have h2:=(forall_getD (P:=fun y=>0≤y∧y≤(f.sig.length:Int)-1)).1 (fun j hj=>(h.1.2.1 j hj).1) _ h1.1
  have h3:=h.1.1.2 (f.lines.getD i default).fun_.toNat (by omega)
  have:=h1.2
  omega
 generalize lefsTo f=LT at *
 generalize lefsL f=LL at *
 refine fcb Tryz.func102 fun B=>?_
 repeat' first|exact h.elim|refine sw_n ?_|refine sw_go 0 kp102 fun K hK=>?_|refine fun (K:KT) (hK:KOk S 0 _ _ _ K)=>?_|refine runL_g ?_|refine sw_retg0 ?_|refine sw_retg ?_|(refine hK.n0 ?_;clear hK K)|refine sw_condg rfl (fun h=>?_) fun h=>?_|refine sw_exit rfl ?_|refine sw_loopEnd ?_|with_reducible refine and_o ?_|((with_reducible refine And.intro ?_ ?_);· first|(intro x hx;subst hx;rfl)|(intro x;refine And.intro ?_ ?_<;>(intros;subst_vars;rfl)))|apply tTT
 refine sw_tok 3 21000 22 1 rfl (.inl rfl) rfl ?_
 simp only[go_sem]
 refine sw_loopT (ι:=Nat) (fun i=>[(10,.int .i64 i),(3,.sl (.own 21000 22 1) ((LT i).map IntsD))]) (fun _=>[]) (fun _=>[21000]) (fun i=>i≤f.lines.length) (fun i=>f.lines.length-i) 0 (by(refine covers_mk0 rfl rfl ?_ ?_ ?_ ?_<;>simp (disch:=(refine Om.mk ?_;omega)) only[go_sem]<;>(try omega));all_goals first|(rw[hz];exact⟨rfl,rfl⟩)|rfl|exact⟨rfl,rfl⟩) (by omega) (fun i hi=>?_)
 simp only[go_sem]
 have htl:=hln i
 by_cases hlt:i<f.lines.length
 ·have cK:=leftC (f.lines.getD i default) (hfl i hlt).1 (hp3 i hlt)
  repeat' first|exact h.elim|(exfalso;omega)|(refine sw_goAt (id:=5) 0 kp102 1 rfl fun K hK=>?_)|refine sw_n ?_|refine sw_go 0 kp102 fun K hK=>?_|refine fun (K:KT) (hK:KOk S 0 _ _ _ K)=>?_|refine runL_g ?_|refine sw_retg0 ?_|refine sw_retg ?_|(refine hK.n0 ?_;clear hK K)|refine sw_condg rfl (fun h=>?_) fun h=>?_|refine sw_exit rfl ?_|refine sw_loopEnd ?_|with_reducible refine and_o ?_|((with_reducible refine And.intro ?_ ?_);· first|(intro x hx;subst hx;rfl)|(intro x;refine And.intro ?_ ?_<;>(intros;subst_vars;rfl)))|apply tTT
  refine LopsW.mkIface (fun v w=>run_makeInterface w _ v (by kernel_rfl)) rfl rfl rfl (by simp only[Nat.reduceLT]) (LopsW.nil ?_)
  refine fun (K:List Oper→LS→Prop) (hK:KOk S 0 _ _ _ K)=>?_
  simp only[go_sem]
  repeat' first|exact h.elim|(exfalso;omega)|(refine sw_goAt (id:=8) 0 kp102 0 rfl fun K hK=>?_)|refine sw_n ?_|refine sw_go 0 kp102 fun K hK=>?_|refine fun (K:KT) (hK:KOk S 0 _ _ _ K)=>?_|refine runL_g ?_|refine sw_retg0 ?_|refine sw_retg ?_|(refine hK.n0 ?_;clear hK K)|refine sw_condg rfl (fun h=>?_) fun h=>?_|refine sw_exit rfl ?_|refine sw_loopEnd ?_|with_reducible refine and_o ?_|((with_reducible refine And.intro ?_ ?_);· first|(intro x hx;subst hx;rfl)|(intro x;refine And.intro ?_ ?_<;>(intros;subst_vars;rfl)))|apply tTT
  refine LopsW.asIfaceNo (z:=.agg #[.slice none 0 0,.slice none 0 0]) (fun v w=>by kernel_rfl) (fun G w=>rel_raws [.slice none 0 0,.slice none 0 0] (by simp)) rfl (by simp only[Nat.reduceLT]) (LopsW.nil ?_)
  refine fun (K:List Oper→LS→Prop) (hK:KOk S 0 _ _ _ K)=>?_
  simp only[go_sem]
  repeat' first|exact h.elim|(exfalso;omega)|(refine sw_goAt (id:=7) 0 kp102 2 rfl fun K hK=>?_)|refine sw_n ?_|refine sw_go 0 kp102 fun K hK=>?_|refine fun (K:KT) (hK:KOk S 0 _ _ _ K)=>?_|refine runL_g ?_|refine sw_retg0 ?_|refine sw_retg ?_|(refine hK.n0 ?_;clear hK K)|refine sw_condg rfl (fun h=>?_) fun h=>?_|refine sw_exit rfl ?_|refine sw_loopEnd ?_|with_reducible refine and_o ?_|((with_reducible refine And.intro ?_ ?_);· first|(intro x hx;subst hx;rfl)|(intro x;refine And.intro ?_ ?_<;>(intros;subst_vars;rfl)))|apply tTT
  refine LopsW.callI rfl (fun v w=>by kernel_rfl) cK ⟨rfl,rfl,by simp only[Nat.reduceLT]⟩ (LopsW.nil ?_)
  refine fun (K:List Oper→LS→Prop) (hK:KOk S 0 _ _ _ K)=>?_
  simp only[go_sem]
  repeat' first|exact h.elim|(exfalso;omega)|refine sw_n ?_|refine sw_go 0 kp102 fun K hK=>?_|refine fun (K:KT) (hK:KOk S 0 _ _ _ K)=>?_|refine runL_g ?_|refine sw_retg0 ?_|refine sw_retg ?_|(refine hK.n0 ?_;clear hK K)|refine sw_condg rfl (fun h=>?_) fun h=>?_|refine sw_exit rfl ?_|refine sw_loopEnd ?_|with_reducible refine and_o ?_|((with_reducible refine And.intro ?_ ?_);· first|(intro x hx;subst hx;rfl)|(intro x;refine And.intro ?_ ?_<;>(intros;subst_vars;rfl)))|apply tTT
  exact⟨i+1,(by(refine covers_mk0 rfl rfl ?_ ?_ ?_ ?_<;>simp (disch:=(refine Om.mk ?_;omega)) only[go_sem]<;>(try omega));rw[hss i hlt,List.map_append];first|exact⟨rfl,by omega⟩|exact⟨by omega,rfl⟩),by omega,by omega⟩
 ·repeat' first|exact h.elim|(exfalso;omega)|refine sw_n ?_|refine sw_go 0 kp102 fun K hK=>?_|refine fun (K:KT) (hK:KOk S 0 _ _ _ K)=>?_|refine runL_g ?_|refine sw_retg0 ?_|refine sw_retg ?_|(refine hK.n0 ?_;clear hK K)|refine sw_condg rfl (fun h=>?_) fun h=>?_|refine sw_exit rfl ?_|refine sw_loopEnd ?_|with_reducible refine and_o ?_|((with_reducible refine And.intro ?_ ?_);· first|(intro x hx;subst hx;rfl)|(intro x;refine And.intro ?_ ?_<;>(intros;subst_vars;rfl)))|apply tTT
  rw[hal i (by omega)]
end
section
attribute [local irreducible] SW runL runQ runG runQG FC Ret1 RetN toF redoL
theorem cmpL_neg:∀a b:List Int,cmpL a b<0↔lexB a b=true
 | [],[]=>by simp[cmpL,lexB]
 | [],_::_=>by simp[cmpL,lexB]
 | _::_,[]=>by simp[cmpL,lexB]
 | x::r,y::s=>by
  have ih:=cmpL_neg r s
  simp only[cmpL,lexB]
  by_cases h:x=y
  ·subst h
   have e:cmpI x x=0:=by simp[cmpI]
   rw[if_neg (by simp[e]),if_pos rfl];exact ih
  ·rw[if_neg h]
   unfold cmpI
   by_cases h2:x<y
   ·simp[h2]
   ·have h3:y<x:=by omega
    simp[h2,h3]
def cmpTm (a b:List Int):Int:=if a.length=b.length then cmpL a b else (a.length:Int)-b.length
theorem cmpT_neg (a b:List Int):cmpTm a b<0↔lessT a b=true:=by
 unfold cmpTm lessT
 split
 ·exact cmpL_neg a b
 ·simp only[decide_eq_true_eq];omega
theorem cmpT_ord:(∀x,¬cmpTm x x<0)∧(∀x y z,cmpTm x y<0→cmpTm y z<0→cmpTm x z<0)∧(∀x y z,¬cmpTm x y<0→¬cmpTm y z<0→¬cmpTm x z<0):=by
 refine⟨fun x=>?_,fun x y z=>?_,fun x y z=>?_⟩
 ·rw[cmpT_neg,lessT_irr];simp
 ·rw[cmpT_neg,cmpT_neg,cmpT_neg];exact lessT_trans x y z
 ·rw[cmpT_neg,cmpT_neg,cmpT_neg]
  simp only[Bool.not_eq_true]
  exact lessT_ntrans x y z
theorem srtM_of {xs ys:List (List Int)} (hp:ys.Perm xs) (h:ys.Pairwise fun a b=>¬cmpTm b a<0):ys=srtM xs:=by
 refine srt_uniq (h.imp fun {a b} h=>?_) (srtM_ok xs).2 (hp.trans (srtM_ok xs).1.symm)
 rw[cmpT_neg] at h
 simpa using h
def kp149:List (Nat×List Nat):=[(0,[0,1]),(1,[0,1,9]),(2,[4]),(3,[4])]
attribute [go_sem] kp149 Tryz.results149 Tryz.ntmps149
theorem compareTerms_fc (tk tk':Tk) (a b:List Int):FC S 149 [] [] [] [.sl tk (a.map (.int .i64)),.sl tk' (b.map (.int .i64))] (.int .i64 (cmpTm a b)) [] []:=by
 refine fcb Tryz.func149 fun B=>?_
 refine sw_bndg 0 fun hb0=>?_
 refine sw_bndg 1 fun hb1=>?_
 repeat' first|exact h.elim|refine sw_n ?_|refine sw_go 0 kp149 fun K hK=>?_|refine fun (K:KT) (hK:KOk S 0 _ _ _ K)=>?_|refine runL_g ?_|refine sw_retg0 ?_|refine sw_retg ?_|(refine hK.n0 ?_;clear hK K)|refine sw_condg rfl (fun h=>?_) fun h=>?_|refine sw_loopEnd ?_|refine hK.c1 rfl rfl rfl (compare_fc _ _ _ _) ?_|with_reducible refine and_o ?_|apply tTT
 ·unfold cmpTm;rw[if_neg (by omega)]
 ·unfold cmpTm;rw[if_pos (by omega)]
end
section
attribute [local irreducible] SW runL runQ runG runQG FC Ret1 RetN toF redoL
attribute [local go_sem] D.ifc
theorem mapR_lbs (N:Nat) (P:List (List Int)):mapR (fun j y=>Int64SL [N,j] y) P=(lbs N id P P.length).map intsT:=by
 simp only[mapR,lbs,List.map_map]
 rfl
theorem mapR_mem {α:Type} [Inhabited α] {g:Nat→α→D} {xs:List α} {P:D→Prop} (h:∀j x,P (g j x)):∀d∈mapR g xs,P d:=fun d hd=>by
 obtain⟨j,_,rfl⟩:=List.mem_map.1 hd
 exact h j _
theorem mapR_snocS {α:Type} [Inhabited α] (g:Nat→α→D) (xs:List α) (x:α):mapR g (xs++[x])=mapR g xs++[g xs.length x]:=by
 unfold mapR
 rw[List.length_append,List.length_singleton,List.range_succ,List.map_append]
 congr 1
 ·refine List.map_congr_left fun j hj=>?_
  have hj:=List.mem_range.1 hj
  simp[List.getD,List.getElem?_append_left hj]
 ·simp[List.getD]
def kp146:List (Nat×List Nat):=[(0,[0,1]),(1,[3])]
attribute [go_sem] kp146 Tryz.results146 Tryz.ntmps146
theorem shapes1_fc (tk:Tk) (t u:List Int):FC S 146 [(9,[.sl tk (t.map (.int .i64))])] [] [] ([IntsD u]++[.box 9 0]) (.bool (tst (u=t))) [] []:=by
 refine fcb Tryz.func146 fun B=>?_
 repeat' first|refine sw_n ?_|refine sw_go 0 kp146 fun K hK=>?_|refine fun (K:KT) (hK:KOk S 0 _ _ _ K)=>?_|refine runL_g ?_|refine sw_retg0 ?_|refine sw_retg ?_|(refine hK.n0 ?_;clear hK K)|refine sw_loopEnd ?_|refine hK.c1 rfl rfl rfl (equalInt64_fc _ _ _ _) ?_|with_reducible refine and_o ?_|apply tTT
def kp103:List (Nat×List Nat):=[(0,[1,2]),(1,[1,2,5]),(2,[2,5,10,11,12]),(3,[2,5,10,11,12,13]),(4,[2,5,7,10,11,12]),(5,[2,5,7,8,10,11,12]),(6,[2,5,7,8,10,11,12,19]),(8,[2,5,7,8,10,11,12,26]),(9,[2,5,7,8,9,10,11,12]),(10,[2,5,7,8,9,10,11,12,35]),(11,[2,5,7,8,10,11,12]),(7,[2,5,7,8,10,11,12]),(12,[2,5,10,11,12]),(13,[5]),(14,[4])]
attribute [go_sem] kp103 Tryz.results103 Tryz.ntmps103
theorem shapesOf_fc (hkit:SortKit S.P 148 149) (p:List Nat) (hp:p≠[]) (rs:List Int) (ls:List (List Int)) (hn:ls.length≤12) (hT:∀i<ls.length,TermOkP rs (ls.getD i default)):FC S 103 [] [] [] [.agg [.sl .any (rs.map (.int .i64))],.sl .any (ls.map IntsD)] (Int64SSL p (srtM (shpA rs ls ls.length))) [] []:=by
 have hLA:=shpA_len (rs:=rs) (ls:=ls) fun i hi=>(hT i hi).2.1.2
 refine fcbF Tryz.func103 fun B N hOff=>?_
 repeat' first|exact h.elim|refine sw_n ?_|refine sw_go 0 kp103 fun K hK=>?_|refine fun (K:KT) (hK:KOk S 0 _ _ _ K)=>?_|refine runL_g ?_|refine sw_retg0 ?_|refine sw_retg ?_|(refine hK.n0 ?_;clear hK K)|refine sw_condg rfl (fun h=>?_) fun h=>?_|refine sw_exit rfl ?_|refine sw_loopEnd ?_|with_reducible refine and_o ?_|((with_reducible refine And.intro ?_ ?_);· first|(intro x hx;subst hx;rfl)|exact upR_mem fun _ _=>rfl|exact mapR_mem fun _ _=>rfl|(intro x;refine And.intro ?_ ?_<;>(intros;subst_vars;rfl)))|apply tTT
 refine sw_tok 5 40000 22 1 rfl (.inl rfl) rfl ?_
 simp only[go_sem]
 refine sw_loopT (ι:=Nat) (fun i=>[(12,.int .i64 i),(5,.sl (.own 40000 22 1) (mapR (fun j y=>Int64SL [N,j] y) (shpA rs ls i)))]) (fun _=>[]) (fun _=>[40000]) (fun i=>i≤ls.length) (fun i=>ls.length-i) 0 cvB (by omega) (fun i hi=>?_)
 simp only[go_sem]
 have hla:=hLA i hi
 by_cases hlt:i<ls.length
 ·have hTi:=hT i hlt
  have hli:=hTi.2.1
  have hA1:shpA rs ls (i+1)=shpM rs (ls.getD i default) (shpA rs ls i) ((ls.getD i default).length-1):=rfl
  repeat' first|exact h.elim|(exfalso;omega)|refine sw_n ?_|refine sw_go 0 kp103 fun K hK=>?_|refine fun (K:KT) (hK:KOk S 0 _ _ _ K)=>?_|refine runL_g ?_|refine sw_retg0 ?_|refine sw_retg ?_|(refine hK.n0 ?_;clear hK K)|refine sw_condg rfl (fun h=>?_) fun h=>?_|refine sw_exit rfl ?_|refine sw_loopEnd ?_|with_reducible refine and_o ?_|((with_reducible refine And.intro ?_ ?_);· first|(intro x hx;subst hx;rfl)|exact upR_mem fun _ _=>rfl|exact mapR_mem fun _ _=>rfl|(intro x;refine And.intro ?_ ?_<;>(intros;subst_vars;rfl)))|apply tTT
  refine sw_loopT (ι:=Nat) (fun j=>[(8,.int .i64 (j+1)),(5,.sl (.own 40000 22 1) (mapR (fun j y=>Int64SL [N,j] y) (shpM rs (ls.getD i default) (shpA rs ls i) j)))]) (fun _=>[]) (fun _=>[40000]) (fun j=>j≤(ls.getD i default).length-1) (fun j=>(ls.getD i default).length-1-j) 0 cvB (by omega) (fun j hj=>?_)
  simp only[go_sem]
  by_cases hjl:j<(ls.getD i default).length-1
  ·have hja:j+1<(ls.getD i default).length:=by omega
   have hS:=subS_ok hTi hja
   have hSl:=hS.2.1
   have cS:=subAt_fc .any .any rs (ls.getD i default) (j+1) hTi hja
   have ez:(((j+1:Nat)):Int)=(j:Int)+1:=by omega
   rw[ez] at cS
   have hQl:=shpM_len rs (ls.getD i default) (shpA rs ls i) j
   have hss:∀a,shpM rs (ls.getD i default) (shpA rs ls i) (j+1)=a→a=shpM rs (ls.getD i default) (shpA rs ls i) (j+1):=fun _ h=>h.symm
   have hs0:shpM rs (ls.getD i default) (shpA rs ls i) (j+1)=if 0≤(ls.getD i default).getD (j+1) default then addS (shpM rs (ls.getD i default) (shpA rs ls i) j) (ren0 (subS rs (ls.getD i default) (j+1))) else shpM rs (ls.getD i default) (shpA rs ls i) j:=rfl
   generalize hQ:shpM rs (ls.getD i default) (shpA rs ls i) j=Q at *
   have cR:=renamedL_fc [N,Q.length] (by simp) .any (subS rs (ls.getD i default) (j+1)) hSl
   generalize hu:ren0 (subS rs (ls.getD i default) (j+1))=u at *
   have cC:FC S 145 [(9,[.sl (.lab [N,Q.length]) (u.map (.int .i64))])] [] [] [.sl (.own 40000 22 1) (mapR (fun j y=>Int64SL [N,j] y) Q),.fn 146 [.box 9 0]] (.bool (tst (∃x∈Q,x=u))) [] []:=FC.args (containsFuncInt64S_fc .any Q (fun x=>x=u) _ _ _ (by simp[Lg.look]) (fun x _=>shapes1_fc (.lab [N,Q.length]) u x)) ⟨le_mapR Q fun j x=>⟨le_Int64SL _ _,trivial⟩,.refl _,trivial⟩
   have hex:(∃x∈Q,x=u)↔u∈Q:=⟨fun⟨x,h1,h2⟩=>h2 ▸ h1,fun h=>⟨u,h,rfl⟩⟩
   rcases Classical.em (0≤(ls.getD i default).getD (j+1) default) with h0|h0
   ·rw[if_pos h0] at hs0
    rcases Classical.em (u∈Q) with hm|hm
    ·have hs1:shpM rs (ls.getD i default) (shpA rs ls i) (j+1)=Q:=by rw[hs0];simp only[addS,if_pos hm]
     repeat' first|exact h.elim|(exfalso;omega)|refine sw_n ?_|refine sw_go 0 kp103 fun K hK=>?_|refine fun (K:KT) (hK:KOk S 0 _ _ _ K)=>?_|refine runL_g ?_|refine sw_retg0 ?_|refine sw_retg ?_|(refine hK.n0 ?_;clear hK K)|refine sw_condg rfl (fun h=>?_) fun h=>?_|refine sw_exit rfl ?_|refine sw_loopEnd ?_|refine hK.c1 rfl rfl rfl (cS) ?_|refine hK.c1 rfl rfl rfl (cR) ?_|refine hK.cR rfl rfl rfl (cC) ?_|with_reducible refine and_o ?_|((with_reducible refine And.intro ?_ ?_);· first|(intro x hx;subst hx;rfl)|exact upR_mem fun _ _=>rfl|exact mapR_mem fun _ _=>rfl|(intro x;refine And.intro ?_ ?_<;>(intros;subst_vars;rfl)))|apply tTT
     all_goals first|(exfalso;omega)|(exfalso;exact absurd (hex.2 hm) (by assumption))|exact⟨j+1,(by(refine covers_mk0 rfl rfl ?_ ?_ ?_ ?_<;>simp (disch:=(refine Om.mk ?_;omega)) only[go_sem]<;>(try omega));rw[hs1];first|exact⟨rfl,by omega⟩|exact⟨by omega,rfl⟩),by omega,by omega⟩
    ·have hs1:shpM rs (ls.getD i default) (shpA rs ls i) (j+1)=Q++[u]:=by rw[hs0];simp only[addS,if_neg hm]
     repeat' first|exact h.elim|(exfalso;omega)|refine sw_n ?_|refine sw_go 0 kp103 fun K hK=>?_|refine fun (K:KT) (hK:KOk S 0 _ _ _ K)=>?_|refine runL_g ?_|refine sw_retg0 ?_|refine sw_retg ?_|(refine hK.n0 ?_;clear hK K)|refine sw_condg rfl (fun h=>?_) fun h=>?_|refine sw_exit rfl ?_|refine sw_loopEnd ?_|refine hK.c1 rfl rfl rfl (cS) ?_|refine hK.c1 rfl rfl rfl (cR) ?_|refine hK.cR rfl rfl rfl (cC) ?_|with_reducible refine and_o ?_|((with_reducible refine And.intro ?_ ?_);· first|(intro x hx;subst hx;rfl)|exact upR_mem fun _ _=>rfl|exact mapR_mem fun _ _=>rfl|(intro x;refine And.intro ?_ ?_<;>(intros;subst_vars;rfl)))|apply tTT
     all_goals first|(exfalso;omega)|(exfalso;exact hm (hex.1 (by assumption)))|exact⟨j+1,(by(refine covers_mk0 rfl rfl ?_ ?_ ?_ ?_<;>simp (disch:=(refine Om.mk ?_;omega)) only[go_sem]<;>(try omega));rw[hs1,mapR_snocS];first|exact⟨rfl,by omega⟩|exact⟨by omega,rfl⟩),by omega,by omega⟩
   ·rw[if_neg h0] at hs0
    repeat' first|exact h.elim|(exfalso;omega)|refine sw_n ?_|refine sw_go 0 kp103 fun K hK=>?_|refine fun (K:KT) (hK:KOk S 0 _ _ _ K)=>?_|refine runL_g ?_|refine sw_retg0 ?_|refine sw_retg ?_|(refine hK.n0 ?_;clear hK K)|refine sw_condg rfl (fun h=>?_) fun h=>?_|refine sw_exit rfl ?_|refine sw_loopEnd ?_|refine hK.c1 rfl rfl rfl (cS) ?_|refine hK.c1 rfl rfl rfl (cR) ?_|refine hK.cR rfl rfl rfl (cC) ?_|with_reducible refine and_o ?_|((with_reducible refine And.intro ?_ ?_);· first|(intro x hx;subst hx;rfl)|exact upR_mem fun _ _=>rfl|exact mapR_mem fun _ _=>rfl|(intro x;refine And.intro ?_ ?_<;>(intros;subst_vars;rfl)))|apply tTT
    all_goals first|(exfalso;omega)|exact⟨j+1,(by(refine covers_mk0 rfl rfl ?_ ?_ ?_ ?_<;>simp (disch:=(refine Om.mk ?_;omega)) only[go_sem]<;>(try omega));rw[hs0];first|exact⟨rfl,by omega⟩|exact⟨by omega,rfl⟩),by omega,by omega⟩
  ·have ej:j=(ls.getD i default).length-1:=by omega
   subst ej
   rw[←hA1]
   repeat' first|exact h.elim|(exfalso;omega)|refine sw_n ?_|refine sw_go 0 kp103 fun K hK=>?_|refine fun (K:KT) (hK:KOk S 0 _ _ _ K)=>?_|refine runL_g ?_|refine sw_retg0 ?_|refine sw_retg ?_|(refine hK.n0 ?_;clear hK K)|refine sw_condg rfl (fun h=>?_) fun h=>?_|refine sw_exit rfl ?_|refine sw_loopEnd ?_|with_reducible refine and_o ?_|((with_reducible refine And.intro ?_ ?_);· first|(intro x hx;subst hx;rfl)|exact upR_mem fun _ _=>rfl|exact mapR_mem fun _ _=>rfl|(intro x;refine And.intro ?_ ?_<;>(intros;subst_vars;rfl)))|apply tTT
   exact⟨i+1,cvA,by omega,by omega⟩
 ·have ei:i=ls.length:=by omega
  subst ei
  repeat' first|exact h.elim|(exfalso;omega)|refine sw_n ?_|refine sw_go 0 kp103 fun K hK=>?_|refine fun (K:KT) (hK:KOk S 0 _ _ _ K)=>?_|refine runL_g ?_|refine sw_retg0 ?_|refine sw_retg ?_|(refine hK.n0 ?_;clear hK K)|refine sw_condg rfl (fun h=>?_) fun h=>?_|refine sw_exit rfl ?_|refine sw_loopEnd ?_|with_reducible refine and_o ?_|((with_reducible refine And.intro ?_ ?_);· first|(intro x hx;subst hx;rfl)|exact upR_mem fun _ _=>rfl|exact mapR_mem fun _ _=>rfl|(intro x;refine And.intro ?_ ?_<;>(intros;subst_vars;rfl)))|apply tTT
  have e:=mapR_lbs N (shpA rs ls ls.length)
  simp only[Int64SL] at e
  rw[e]
  refine hK.raw (LopsW.sortOwn (k:=40000) rfl ⟨_,Tryz.func148,by kernel_rfl,rfl⟩ hkit cmpTm (fun _=>True) (fun x y _ _=>compareTerms_fc .any .any x y) cmpT_ord hOff.1 (by simp) rfl rfl ?_ ?_ (fun qs=>[(5,.sl (.own 40000 22 1) (qs.map intsT))]) (fun _=>[]) ?_ ?_ (by simp only[Nat.reduceLT]) ?_)
  ·exact fun q hq=>⟨trivial,by obtain⟨j,_,rfl⟩:=List.mem_map.1 hq;rfl⟩
  ·rw[lbs_len];omega
  ·exact fun qs q hq=>by obtain rfl:=List.mem_singleton.1 hq;exact⟨_,rfl,.inr ⟨rfl,rfl⟩⟩
  ·exact fun qs q hq=>by cases hq
  intro qs hq1 hq2
  refine LopsW.nil ?_
  simp only[go_sem]
  have e0:qs.map (·.2)=srtM (shpA rs ls ls.length):=by
   refine srtM_of ?_ (List.pairwise_map.2 hq2)
   have:=hq1.map (fun q:Tk×List Int=>q.2)
   rwa [lbs_snd,List.map_id] at this
  refine sw_relab hOff (f:=relF N p (qs.map fun q=>labOf q.1)) relF_ne relF_off [(5,.sl (.own 40000 22 1) (mapR (fun i y=>Int64SL (p++[i]++[0]) y) (srtM (shpA rs ls ls.length))))] [] (fun q hq=>?_) (fun q hq=>by cases hq) ?_
  ·obtain rfl:=List.mem_singleton.1 hq
   refine⟨_,rfl,noPL_of fun d hd=>?_,?_⟩
   ·obtain⟨x,_,rfl⟩:=List.mem_map.1 hd
    exact noPL_of fun d hd=>by obtain⟨y,_,rfl⟩:=List.mem_map.1 hd;rfl
   ·show D.sl _ _=D.sl _ (D.rlL _ (qs.map intsT))
    rw[relab_srt hq1,e0]
  simp only[go_sem]
  refine sw_lab 5 p rfl (by simp) hp ?_
  simp only[go_sem]
  repeat' first|exact h.elim|refine sw_n ?_|refine sw_go 0 kp103 fun K hK=>?_|refine fun (K:KT) (hK:KOk S 0 _ _ _ K)=>?_|refine runL_g ?_|refine sw_retg0 ?_|refine sw_retg ?_|(refine hK.n0 ?_;clear hK K)|refine sw_condg rfl (fun h=>?_) fun h=>?_|refine sw_exit rfl ?_|refine sw_loopEnd ?_|with_reducible refine and_o ?_|((with_reducible refine And.intro ?_ ?_);· first|(intro x hx;subst hx;rfl)|exact upR_mem fun _ _=>rfl|exact mapR_mem fun _ _=>rfl|(intro x;refine And.intro ?_ ?_<;>(intros;subst_vars;rfl)))|apply tTT
  all_goals trace_state
attribute [go_sem] Tryz.results122 Tryz.ntmps122
end
section
attribute [local irreducible] SW runL runQ runG runQG FC Ret1 RetN toF redoL anyB
attribute [go_sem] formD
theorem place_find (t:List Int):∀xs:List (List Int),placeI t xs=fidx (fun x=>x=t) xs:=fun xs=>by
 by_cases h:t∈xs
 ·have h1:xs.idxOf t<xs.length:=List.idxOf_lt_length_iff.2 h
  have h2:xs[xs.idxOf t]=t:=List.getElem_idxOf h1
  have hg:xs.getD (xs.idxOf t) default=t:=by rw[List.getD_eq_getElem?_getD,List.getElem?_eq_getElem h1];exact h2
  have hmin:∀j<xs.idxOf t,xs.getD j default≠t:=fun j hj e=>by
   have:=List.not_of_lt_findIdx (p:=(·==t)) (xs:=xs) (i:=j) hj
   rw[List.getD_eq_getElem?_getD,List.getElem?_eq_getElem (by omega)] at e
   simp at this e
   exact this e
  rw[placeI_at hmin h1 hg,fidx_at hmin h1 hg]
 ·rw[placeI_none (fun j hj e=>h (by rw[←e];exact getD_mem xs j hj)),fidx_none (fun j hj e=>h (by rw[←e];exact getD_mem xs j hj))]
theorem fit_step {x:FormT} {f:Int} {args:List (List Int)} (he:x.head=f):FitF x f args↔∀j<x.args.length,0≤x.args.getD j default→x.args.getD j default∈args.getD j default:=⟨fun h=>h.2,fun h=>⟨he,h⟩⟩
def kp111:List (Nat×List Nat):=[(0,[1,2,3]),(1,[2,3,12]),(2,[6]),(3,[2,14,15,16]),(4,[2,14,15,16,17]),(5,[2,7,8,14,15,16]),(6,[2,14,15,16,31]),(7,[6]),(8,[2,14,15,16]),(9,[6])]
attribute [go_sem] kp111 Tryz.results111 Tryz.ntmps111
theorem fits_fc (tk:Tk) (x:FormT) (f:Int) (sets:List (List Int)) (h3:x.args.length≤3) (hl:x.head=f→x.args.length≤sets.length):FC S 111 [] [] [] [formD x,.int .i64 f,.sl tk (sets.map IntsD)] (.bool (tst (FitF x f sets))) [] []:=by
 by_cases he:x.head=f
 ·have hl:=hl he
  rw[tst_congr (fit_step he)]
  refine FC.args (args':=[formD x,.int .i64 f,.sl .any (sets.map IntsD)]) ?_ (by simp only[go_sem])
  refine fcb Tryz.func111 fun B=>?_
  refine sw_bndg 2 fun hb2=>?_
  repeat' first|exact h.elim|(exfalso;omega)|refine sw_n ?_|refine sw_go 0 kp111 fun K hK=>?_|refine fun (K:KT) (hK:KOk S 0 _ _ _ K)=>?_|refine runL_g ?_|refine sw_retg0 ?_|refine sw_retg ?_|(refine hK.n0 ?_;clear hK K)|refine runG_fk (fun h=>?_) fun h=>?_|refine sw_condg rfl (fun h=>?_) fun h=>?_|refine hK.skp rfl rfl ?_|refine sw_exit rfl ?_|refine sw_loopEnd ?_|(refine hK.fork rfl rfl rfl ?_ ?_<;>intro h<;>try simp (disch:=(refine Om.mk ?_;omega)) only[go_sem] at h)|with_reducible refine and_o ?_|apply tTT
  refine sw_loopT (ι:=Nat) (fun i=>[(16,.int .i64 i)]) (fun _=>[]) (fun _=>[]) (fun i=>i≤x.args.length∧∀j<i,0≤x.args.getD j default→x.args.getD j default∈sets.getD j default) (fun i=>x.args.length-i) 0 cvB ⟨Nat.zero_le _,fun j hj=>absurd hj (Nat.not_lt_zero _)⟩ (fun i hi=>?_)
  obtain⟨hi,hj⟩:=hi
  simp only[go_sem]
  by_cases hil:i<x.args.length
  ·by_cases h0:0≤x.args.getD i default
   ·by_cases hm:x.args.getD i default∈sets.getD i default
    ·repeat' first|exact h.elim|(exfalso;first|omega|exact absurd hm (by assumption))|refine sw_n ?_|refine sw_go 0 kp111 fun K hK=>?_|refine fun (K:KT) (hK:KOk S 0 _ _ _ K)=>?_|refine runL_g ?_|refine sw_retg0 ?_|refine sw_retg ?_|(refine hK.n0 ?_;clear hK K)|refine runG_fk (fun h=>?_) fun h=>?_|refine sw_condg rfl (fun h=>?_) fun h=>?_|refine hK.skp rfl rfl ?_|refine sw_exit rfl ?_|refine sw_loopEnd ?_|refine hK.c1 rfl rfl rfl (contains_fc _ _ _) ?_|(refine hK.fork rfl rfl rfl ?_ ?_<;>intro h<;>try simp (disch:=(refine Om.mk ?_;omega)) only[go_sem] at h)|with_reducible refine and_o ?_|apply tTT
     all_goals first|(exfalso;first|omega|exact absurd hm (by assumption))|exact⟨i+1,cvA,⟨by omega,upto_succ hj (fun _=>hm)⟩,by omega⟩|trace_state
    ·have hno:¬ ∀j<x.args.length,0≤x.args.getD j default→x.args.getD j default∈sets.getD j default:=fun h=>hm (h i hil h0)
     rw[tst_false hno]
     repeat' first|exact h.elim|(exfalso;first|omega|exact absurd (by assumption) hm)|refine sw_n ?_|refine sw_go 0 kp111 fun K hK=>?_|refine fun (K:KT) (hK:KOk S 0 _ _ _ K)=>?_|refine runL_g ?_|refine sw_retg0 ?_|refine sw_retg ?_|(refine hK.n0 ?_;clear hK K)|refine runG_fk (fun h=>?_) fun h=>?_|refine sw_condg rfl (fun h=>?_) fun h=>?_|refine hK.skp rfl rfl ?_|refine sw_exit rfl ?_|refine sw_loopEnd ?_|refine hK.c1 rfl rfl rfl (contains_fc _ _ _) ?_|(refine hK.fork rfl rfl rfl ?_ ?_<;>intro h<;>try simp (disch:=(refine Om.mk ?_;omega)) only[go_sem] at h)|with_reducible refine and_o ?_|apply tTT
     all_goals first|(exfalso;exact absurd (by assumption) hm)|trace_state
   ·repeat' first|exact h.elim|(exfalso;omega)|refine sw_n ?_|refine sw_go 0 kp111 fun K hK=>?_|refine fun (K:KT) (hK:KOk S 0 _ _ _ K)=>?_|refine runL_g ?_|refine sw_retg0 ?_|refine sw_retg ?_|(refine hK.n0 ?_;clear hK K)|refine runG_fk (fun h=>?_) fun h=>?_|refine sw_condg rfl (fun h=>?_) fun h=>?_|refine hK.skp rfl rfl ?_|refine sw_exit rfl ?_|refine sw_loopEnd ?_|refine hK.c1 rfl rfl rfl (contains_fc _ _ _) ?_|(refine hK.fork rfl rfl rfl ?_ ?_<;>intro h<;>try simp (disch:=(refine Om.mk ?_;omega)) only[go_sem] at h)|with_reducible refine and_o ?_|apply tTT
    all_goals first|(exfalso;omega)|exact⟨i+1,cvA,⟨by omega,upto_succ hj (fun h=>absurd h h0)⟩,by omega⟩|trace_state
  ·obtain rfl:i=x.args.length:=by omega
   rw[tst_true hj]
   repeat' first|exact h.elim|(exfalso;omega)|refine sw_n ?_|refine sw_go 0 kp111 fun K hK=>?_|refine fun (K:KT) (hK:KOk S 0 _ _ _ K)=>?_|refine runL_g ?_|refine sw_retg0 ?_|refine sw_retg ?_|(refine hK.n0 ?_;clear hK K)|refine runG_fk (fun h=>?_) fun h=>?_|refine sw_condg rfl (fun h=>?_) fun h=>?_|refine hK.skp rfl rfl ?_|refine sw_exit rfl ?_|refine sw_loopEnd ?_|(refine hK.fork rfl rfl rfl ?_ ?_<;>intro h<;>try simp (disch:=(refine Om.mk ?_;omega)) only[go_sem] at h)|with_reducible refine and_o ?_|apply tTT
 ·rw[tst_false fun h=>he h.1]
  refine fcb Tryz.func111 fun B=>?_
  repeat' first|exact h.elim|(exfalso;exact he (by assumption))|refine sw_n ?_|refine sw_go 0 kp111 fun K hK=>?_|refine fun (K:KT) (hK:KOk S 0 _ _ _ K)=>?_|refine runL_g ?_|refine sw_retg0 ?_|refine sw_retg ?_|(refine hK.n0 ?_;clear hK K)|refine runG_fk (fun h=>?_) fun h=>?_|refine sw_condg rfl (fun h=>?_) fun h=>?_|refine hK.skp rfl rfl ?_|refine sw_exit rfl ?_|refine sw_loopEnd ?_|(refine hK.fork rfl rfl rfl ?_ ?_<;>intro h<;>try simp (disch:=(refine Om.mk ?_;omega)) only[go_sem] at h)|with_reducible refine and_o ?_|apply tTT
def kp166:List (Nat×List Nat):=[(0,[0,1]),(1,[3])]
attribute [go_sem] kp166 Tryz.results166 Tryz.ntmps166
theorem form1_fc (tk:Tk) (t u:List Int):FC S 166 [(11,[.sl tk (t.map (.int .i64))])] [] [] ([IntsD u]++[.box 11 0]) (.bool (tst (u=t))) [] []:=by
 refine fcb Tryz.func166 fun B=>?_
 repeat' first|refine sw_n ?_|refine sw_go 0 kp166 fun K hK=>?_|refine fun (K:KT) (hK:KOk S 0 _ _ _ K)=>?_|refine runL_g ?_|refine sw_retg0 ?_|refine sw_retg ?_|(refine hK.n0 ?_;clear hK K)|refine sw_loopEnd ?_|refine hK.c1 rfl rfl rfl (equalInt64_fc _ _ _ _) ?_|with_reducible refine and_o ?_|apply tTT
def kp150:List (Nat×List Nat):=[(0,[1,2,3,6]),(1,[1,2,3,6,7]),(2,[1,2,3,6,7,18,19,20]),(3,[1,2,3,6,7,18,19,20,21]),(4,[1,2,3,6,7,9,18,19,20]),(5,[1,2,3,6,7,9,10,18,19,20]),(6,[1,2,3,6,7,9,10,18,19,20,28]),(7,[1,2,3,6,7,11,18,19,20]),(8,[1,2,3,6,7,10,18,19,20]),(9,[1,2,3,6,7,18,19,20]),(10,[1,2,3,6,7,18,19,20]),(11,[6])]
attribute [go_sem] kp150 Tryz.results150 Tryz.ntmps150
theorem formOf_fc (rs:List Int) (SH:List (List Int)) (t:List Int) (hT:TermOkP rs t) (hSH:SH.length≤1000):FC S 150 [] [] [] [.agg [.sl .any (rs.map (.int .i64))],.sl .any (SH.map IntsD),.sl .any (t.map (.int .i64))] (formD (formR rs SH t)) [] []:=by
 have hpl:=hT.2.1
 have hp0:0<t.length:=by omega
 have h3:(argsS rs t 0).length≤3:=by
  rw[argsS_len]
  have:=arS_rng hT.1 (t.getD 0 default)
  omega
 have cA:=argsAt_fc .any .any rs t 0 hT hp0
 have hlt:=argsS_lt hT hp0
 have hfm:formR rs SH t=⟨t.getD 0 default,(argsS rs t 0).map (argF rs SH t)⟩:=rfl
 rw[hfm]
 generalize hA:argsS rs t 0=A at *
 refine fcb Tryz.func150 fun B=>?_
 repeat' first|exact h.elim|(exfalso;omega)|refine sw_n ?_|refine sw_go 0 kp150 fun K hK=>?_|refine fun (K:KT) (hK:KOk S 0 _ _ _ K)=>?_|refine runL_g ?_|refine sw_retg0 ?_|refine sw_retg ?_|(refine hK.n0 ?_;clear hK K)|refine sw_condg rfl (fun h=>?_) fun h=>?_|refine sw_exit rfl ?_|refine sw_loopEnd ?_|refine hK.c1 rfl rfl rfl (cA) ?_|with_reducible refine and_o ?_|((with_reducible refine And.intro ?_ ?_);· first|(intro x hx;subst hx;rfl)|(intro x;refine And.intro ?_ ?_<;>(intros;subst_vars;rfl)))|apply tTT
 refine sw_tokBox 7 1 42000 2 1 rfl rfl rfl ?_
 simp only[go_sem]
 refine sw_loopT (ι:=Nat) (fun i=>[(20,.int .i64 i)]) (fun i=>[(7,[.int .i64 (t.getD 0 default),.sl (.own 42000 2 1) (((A.take i).map (argF rs SH t)).map (.int .i64))])]) (fun _=>[42000]) (fun i=>i≤A.length) (fun i=>A.length-i) 0 cvB (Nat.zero_le _) (fun i hi=>?_)
 simp only[go_sem]
 by_cases hil:i<A.length
 ·have hq:=hlt _ (getD_mem A i hil)
  have hst:(A.take (i+1)).map (argF rs SH t)=(A.take i).map (argF rs SH t)++[argF rs SH t (A.getD i default)]:=by
   rw[List.take_add_one,List.getElem?_eq_getElem hil,List.map_append,List.getD_eq_getElem?_getD,List.getElem?_eq_getElem hil]
   rfl
  have hAi:argF rs SH t (A.getD i default)=if 0≤t.getD (A.getD i default) default then placeI (ren0 (subS rs t (A.getD i default))) SH else -1:=rfl
  have hml:((A.take i).map (argF rs SH t)).length≤3:=by rw[List.length_map,List.length_take];omega
  generalize hM:(A.take i).map (argF rs SH t)=M at *
  have hS:=subS_ok hT hq.2
  have hrl:(ren0 (subS rs t (A.getD i default))).length=(subS rs t (A.getD i default)).length:=by unfold ren0;rw[List.length_map]
  have hSl:=hS.2.1
  have cS:=subAt_fc .any .any rs t (A.getD i default) hT hq.2
  have cR:=renamedL_fc [1] (by simp) .any (subS rs t (A.getD i default)) hSl
  by_cases h0:0≤t.getD (A.getD i default) default
  ·rw[if_pos h0] at hAi
   rw[hAi] at hst
   generalize hu:ren0 (subS rs t (A.getD i default))=u at *
   have cI:=indexFuncInt64S_fc .any SH (fun x=>x=u) 166 [.box 11 0] [(11,[.sl (.lab [1]) (u.map (.int .i64))])] (by simp[Lg.look]) (fun x _=>form1_fc (.lab [1]) u x)
   rw[←place_find] at cI
   have hpg:=(placeI_ge u SH).1
   repeat' first|exact h.elim|(exfalso;omega)|refine sw_n ?_|refine sw_go 0 kp150 fun K hK=>?_|refine fun (K:KT) (hK:KOk S 0 _ _ _ K)=>?_|refine runL_g ?_|refine sw_retg0 ?_|refine sw_retg ?_|(refine hK.n0 ?_;clear hK K)|refine sw_condg rfl (fun h=>?_) fun h=>?_|refine sw_exit rfl ?_|refine sw_loopEnd ?_|refine hK.c1 rfl rfl rfl (cS) ?_|refine hK.c1 rfl rfl rfl (cR) ?_|refine hK.cR rfl rfl rfl (cI) ?_|with_reducible refine and_o ?_|((with_reducible refine And.intro ?_ ?_);· first|(intro x hx;subst hx;rfl)|(intro x;refine And.intro ?_ ?_<;>(intros;subst_vars;rfl)))|apply tTT
   all_goals first|exact⟨i+1,(by(refine covers_mk0 rfl rfl ?_ ?_ ?_ ?_<;>simp (disch:=(refine Om.mk ?_;omega)) only[go_sem]<;>(try omega));all_goals first|(rw[hst,List.map_append];rfl)|(rw[hst,List.map_append];exact⟨rfl,by omega⟩)|(simp[hst];done)|trace_state),by omega,by omega⟩|trace_state
  ·rw[if_neg h0] at hAi
   rw[hAi] at hst
   repeat' first|exact h.elim|(exfalso;omega)|refine sw_n ?_|refine sw_go 0 kp150 fun K hK=>?_|refine fun (K:KT) (hK:KOk S 0 _ _ _ K)=>?_|refine runL_g ?_|refine sw_retg0 ?_|refine sw_retg ?_|(refine hK.n0 ?_;clear hK K)|refine sw_condg rfl (fun h=>?_) fun h=>?_|refine sw_exit rfl ?_|refine sw_loopEnd ?_|refine hK.c1 rfl rfl rfl (cS) ?_|refine hK.c1 rfl rfl rfl (cR) ?_|with_reducible refine and_o ?_|((with_reducible refine And.intro ?_ ?_);· first|(intro x hx;subst hx;rfl)|(intro x;refine And.intro ?_ ?_<;>(intros;subst_vars;rfl)))|apply tTT
   all_goals first|exact⟨i+1,(by(refine covers_mk0 rfl rfl ?_ ?_ ?_ ?_<;>simp (disch:=(refine Om.mk ?_;omega)) only[go_sem]<;>(try omega));all_goals first|(rw[hst,List.map_append];rfl)|(rw[hst,List.map_append];exact⟨rfl,by omega⟩)|(simp[hst];done)|trace_state),by omega,by omega⟩|trace_state
 ·obtain rfl:i=A.length:=by omega
  rw[List.take_of_length_le (Nat.le_refl _)]
  repeat' first|exact h.elim|(exfalso;omega)|refine sw_n ?_|refine sw_go 0 kp150 fun K hK=>?_|refine fun (K:KT) (hK:KOk S 0 _ _ _ K)=>?_|refine runL_g ?_|refine sw_retg0 ?_|refine sw_retg ?_|(refine hK.n0 ?_;clear hK K)|refine sw_condg rfl (fun h=>?_) fun h=>?_|refine sw_exit rfl ?_|refine sw_loopEnd ?_|with_reducible refine and_o ?_|((with_reducible refine And.intro ?_ ?_);· first|(intro x hx;subst hx;rfl)|(intro x;refine And.intro ?_ ?_<;>(intros;subst_vars;rfl)))|apply tTT
def kp104:List (Nat×List Nat):=[(0,[1,2,3]),(1,[1,2,3,7]),(2,[1,3,7,10,11,12]),(3,[1,3,7,10,11,12,13]),(4,[1,3,7,9,10,11,12]),(5,[1,3,7,10,11,12]),(6,[1,3,7,10,11,12]),(7,[6])]
attribute [go_sem] kp104 Tryz.results104 Tryz.ntmps104
theorem formsOf_fc (rs:List Int) (SH ts:List (List Int)) (hT:∀t∈ts,TermOkP rs t) (hSH:SH.length≤1000) (hts:ts.length≤1000):FC S 104 [] [] [] [.agg [.sl .any (rs.map (.int .i64))],.sl .any (SH.map IntsD),.sl .any (ts.map IntsD)] (.sl .any ((ts.map (formR rs SH)).map formD)) [] []:=by
 refine fcb Tryz.func104 fun B=>?_
 repeat' first|exact h.elim|refine sw_n ?_|refine sw_go 0 kp104 fun K hK=>?_|refine fun (K:KT) (hK:KOk S 0 _ _ _ K)=>?_|refine runL_g ?_|refine sw_retg0 ?_|refine sw_retg ?_|(refine hK.n0 ?_;clear hK K)|refine sw_condg rfl (fun h=>?_) fun h=>?_|refine sw_exit rfl ?_|refine sw_loopEnd ?_|with_reducible refine and_o ?_|((with_reducible refine And.intro ?_ ?_);· first|(intro x hx;subst hx;rfl)|(intro x;refine And.intro ?_ ?_<;>(intros;subst_vars;rfl)))|apply tTT
 refine sw_tok 7 23000 151 2 rfl (.inl rfl) rfl ?_
 simp only[go_sem]
 refine sw_loopT (ι:=Nat) (fun i=>[(12,.int .i64 i),(7,.sl (.own 23000 151 2) (((ts.take i).map (formR rs SH)).map formD))]) (fun _=>[]) (fun _=>[23000]) (fun i=>i≤ts.length) (fun i=>ts.length-i) 0 cvB (Nat.zero_le _) (fun i hi=>?_)
 simp only[go_sem]
 by_cases hil:i<ts.length
 ·have cF:=formOf_fc rs SH (ts.getD i default) (hT _ (getD_mem ts i hil)) hSH
  have hst:(ts.take (i+1)).map (formR rs SH)=(ts.take i).map (formR rs SH)++[formR rs SH (ts.getD i default)]:=by
   rw[List.take_add_one,List.getElem?_eq_getElem hil,List.map_append,List.getD_eq_getElem?_getD,List.getElem?_eq_getElem hil]
   rfl
  have hml:((ts.take i).map (formR rs SH)).length≤1000:=by rw[List.length_map,List.length_take];omega
  generalize hM:(ts.take i).map (formR rs SH)=M at *
  repeat' first|exact h.elim|(exfalso;omega)|refine sw_n ?_|refine sw_go 0 kp104 fun K hK=>?_|refine fun (K:KT) (hK:KOk S 0 _ _ _ K)=>?_|refine runL_g ?_|refine sw_retg0 ?_|refine sw_retg ?_|(refine hK.n0 ?_;clear hK K)|refine sw_condg rfl (fun h=>?_) fun h=>?_|refine sw_exit rfl ?_|refine sw_loopEnd ?_|refine hK.c1 rfl rfl rfl (cF) ?_|with_reducible refine and_o ?_|((with_reducible refine And.intro ?_ ?_);· first|(intro x hx;subst hx;rfl)|(intro x;refine And.intro ?_ ?_<;>(intros;subst_vars;rfl)))|apply tTT
  all_goals first|exact⟨i+1,(by(refine covers_mk0 rfl rfl ?_ ?_ ?_ ?_<;>simp (disch:=(refine Om.mk ?_;omega)) only[go_sem]<;>(try omega));all_goals first|(rw[hst,List.map_append];rfl)|(rw[hst,List.map_append];exact⟨rfl,by omega⟩)|trace_state),by omega,by omega⟩|trace_state
 ·obtain rfl:i=ts.length:=by omega
  rw[List.take_of_length_le (Nat.le_refl _)]
  repeat' first|exact h.elim|(exfalso;omega)|refine sw_n ?_|refine sw_go 0 kp104 fun K hK=>?_|refine fun (K:KT) (hK:KOk S 0 _ _ _ K)=>?_|refine runL_g ?_|refine sw_retg0 ?_|refine sw_retg ?_|(refine hK.n0 ?_;clear hK K)|refine sw_condg rfl (fun h=>?_) fun h=>?_|refine sw_exit rfl ?_|refine sw_loopEnd ?_|with_reducible refine and_o ?_|((with_reducible refine And.intro ?_ ?_);· first|(intro x hx;subst hx;rfl)|(intro x;refine And.intro ?_ ?_<;>(intros;subst_vars;rfl)))|apply tTT
end
section
theorem mpd_ids (m n0:Nat) (es:List (Value×Value)):(mpd m n0 es).ids=[]:=rfl
theorem mpd_tks (m n0:Nat) (es:List (Value×Value)):(mpd m n0 es).tks=[]:=rfl
theorem mpd_pu (p:Nat→Bool) (m n0:Nat) (es:List (Value×Value)):(mpd m n0 es).pu p=mpd m n0 es:=rfl
theorem tksL_i (k:IntKind) (xs:List Int):D.tksL (xs.map (D.int k))=[]:=by
 induction xs with
 | nil=>rfl
 | cons x r ih=>simp[D.tksL,D.tks,ih]
theorem idsL_i (k:IntKind) (xs:List Int):D.idsL (xs.map (.int k))=[]:=by
 induction xs with
 | nil=>rfl
 | cons x r ih=>simp[D.idsL,D.ids,ih]
theorem shTL_i (o:Nat) (k:IntKind) (xs:List Int):D.shTL o (xs.map (.int k))=xs.map (.int k):=by
 induction xs with
 | nil=>rfl
 | cons x r ih=>simp[D.shTL,D.shT,ih]
theorem puOk_i (p:Nat→Bool) (k:IntKind) (xs:List Int):(xs.map (.int k)).all (D.puOk p)=true:=by
 rw[List.all_map]
 exact List.all_eq_true.2 fun _ _=>rfl
theorem pu1_i (p:Nat→Bool) (k:IntKind) (xs:List Int):(xs.map (D.int k)).map (D.pu1 p)=xs.map (D.int k):=by
 rw[List.map_map];exact List.map_congr_left fun _ _=>rfl
theorem mTL_i (f:Nat→Nat) (k:IntKind) (xs:List Int):D.mTL f (xs.map (D.int k))=xs.map (D.int k):=by
 induction xs with
 | nil=>rfl
 | cons x r ih=>simp only[List.map_cons,D.mTL,D.mT,ih]
theorem pu1_c (p:Nat→Bool) (k:IntKind):(D.pu1 p∘D.int k)=D.int k:=rfl
attribute [go_sem] idsL_i mpd_ids mpd_tks tksL_i shTL_i pu1_i mTL_i
attribute [go_sem high] mpd_pu
end
end Go.Proofs.YtkfkdgginfpdnaaGreatDoor
