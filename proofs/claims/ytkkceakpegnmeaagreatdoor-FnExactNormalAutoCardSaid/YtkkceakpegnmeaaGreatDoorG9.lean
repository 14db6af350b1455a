/-
  N10, N11, one behind the other.
-/
import Derived.Test.YtkkceakpegnmeaaGreatDoorG8
import Derived.Test.YtkkceakpegnmeaaGreatDoorG5
import Derived.Test.YtkkceakpegnmeaaGreatDoorLgK9
import Derived.Test.YtkkceakpegnmeaaGreatDoorG2
import Derived.Test.YtkkceakpegnmeaaGreatDoorLgK6
import Derived.Test.YtkkceakpegnmeaaGreatDoorLgK7
import Derived.MakeChecks
import Derived.Stop.LaidErr
import Derived.LaidHandle
import Derived.Lib.LaidTab
section
namespace Go.Proofs.YtkkceakpegnmeaaGreatDoor
open Go Go.Lg
set_option linter.unusedSimpArgs false
set_option linter.unusedVariables false
set_option maxHeartbeats 4000000
attribute [local irreducible] Lg.SW runL runQ runG runQG FC FCw Ret1 RetN toF redoL anyB
theorem anyV_shT (o:Nat):anyV.shT o=anyV:=rfl
theorem anyV_ids:anyV.ids=[]:=rfl
theorem anyV_tks:anyV.tks=[]:=rfl
theorem anyV_pu (p:Nat→Bool):anyV.pu p=anyV:=rfl
attribute [local go_sem] shC anyV_shT anyV_ids anyV_tks
attribute [local go_sem high] anyV_pu
theorem ret_le {L:LS} {d d0:D} (h:D.le d0 d) (h1:d.tks=[]) (h2:∀f,d.mT f=d):RetK d [] 0 L d0:=⟨[],d,h,⟨rfl,List.nodup_nil⟩,by simp,by rw[h1];simp,h2 _,by simp⟩
theorem sortKN:SortKit S.P 77 78:=sortKit_of Tryz.sortT ⟨_,Tryz.func78,by kernel_rfl,rfl⟩
theorem forms_ok {rs:List Int} {SH ts:List (List Int)} (hsg:SigOkP rs) (h:ts.length≤1000):∀f<rs.length,FormsOk (f:Int) (rs.getD f default).toNat (ts.map (formR rs SH)):=fun f hf=>by
 refine⟨by simpa using h,fun i hi=>?_⟩
 rw[List.length_map] at hi
 rw[getD_map' hi]
 have hl:∀t,((formR rs SH t).args).length=(arS rs (t.getD 0 default)).toNat:=fun t=>by unfold formR;rw[List.length_map,argsS_len]
 refine⟨?_,fun e=>?_⟩
 ·rw[hl]
  generalize (ts.getD i default).getD 0 default=n
  unfold arS
  split
  ·simp
  ·split
   ·have:=hsg.2 n.toNat (by omega);omega
   ·simp
 ·have e:(ts.getD i default).getD 0 default=(f:Int):=e
  rw[hl,e]
  unfold arS
  rw[if_neg (by omega),if_pos (by omega)]
  simp
theorem symsK_nil (rs:List Int):symsK rs []=List.range rs.length:=by
 unfold symsK
 rw[List.filter_eq_self]
 intro f _
 simp
theorem prog_auto {rs:List Int} {SH ls:List (List Int)} {sets:List (List Int)} {ru:List TransT} {ok:Bool} (h:iterA (imgH rs SH ls) (fun n=>evK rs [] n rs.length) 18 []=(sets,ru,ok)):(ok=true∧sets≠[]∧ru.length≤300→autoN rs SH ls (List.range rs.length)=(⟨(sets.length:Int),ru,upTo sets.length⟩,true)∧sets.length≤16)∧(¬(ok=true∧sets≠[]∧ru.length≤300)→autoN rs SH ls (List.range rs.length)=(⟨0,[],[]⟩,false)):=by
 have hE:(fun n=>evK rs [] n rs.length)=evY rs (List.range rs.length):=funext fun n=>by rw[evK_all,symsK_nil]
 rw[hE] at h
 obtain⟨h1,h2⟩:=iterA_eq (I:=imgH rs SH ls) (E:=evY rs (List.range rs.length)) 18 [] (by simp)
 rw[h] at h1 h2
 dsimp only at h1 h2
 obtain⟨s,b,hz⟩:∃s b,iterZ (imgH rs SH ls) (evY rs (List.range rs.length)) 18 []=(s,b):=⟨_,_,rfl⟩
 obtain⟨hy,hn⟩:=autoN_eq hz
 have h16:=iterZ_le (I:=imgH rs SH ls) (E:=evY rs (List.range rs.length)) 18 [] (by simp)
 have hcl:=iterZ_closed (I:=imgH rs SH ls) (E:=evY rs (List.range rs.length)) 18 [] (by simp)
 rw[hz] at h1 h2 h16 hcl
 dsimp only at h1 h2 h16 hcl
 subst h1
 cases ok with
 | false=>exact⟨fun h=>absurd h.1 (by simp),fun _=>hn (fun h=>by cases h.1)⟩
 | true =>
  obtain⟨rfl,rfl⟩:=h2 rfl
  have htr:=trZ_trS _ (hcl rfl)
  rw[htr] at hy hn
  exact⟨fun h=>⟨hy rfl h.2.1 h.2.2,h16⟩,fun h=>hn h⟩
theorem firstPermL_fc (q:List Nat) (hq:q≠[]) (n:Nat) (hn:n≤1000):FC S 56 [] [] [] [.int .i64 n] (Int64SL q (upTo n)) [] []:=by
 refine fcb Tryz.func56 fun B=>?_
 repeat' first|exact h.elim|refine sw_n ?_|refine sw_go 0 kp56 fun K hK=>?_|refine fun (K:KT) (hK:KOk S 0 _ _ _ K)=>?_|refine runL_g ?_|refine sw_retg0 ?_|refine sw_retg ?_|(refine hK.n0 ?_;clear hK K)|refine sw_condg rfl (fun h=>?_) fun h=>?_|refine sw_exit rfl ?_|refine sw_loopEnd ?_|with_reducible refine and_o ?_|((with_reducible refine And.intro ?_ ?_);· first|(intro x hx;subst hx;rfl)|exact upR_mem fun _ _=>rfl|exact mapR_mem fun _ _=>rfl|(intro x;refine And.intro ?_ ?_<;>(intros;subst_vars;rfl)))|apply tTT
 refine sw_loopU (ι:=Nat) (fun p=>[(9,.int .i64 p)]) (fun p=>[(6,(fillU n p).map (.int .i64))]) (fun p=>p≤n) (fun p=>n-p) 0 (by(refine covers_mk0 rfl rfl ?_ ?_ ?_ ?_<;>simp (disch:=(refine Om.mk ?_;omega)) only[go_sem]<;>(try omega));all_goals first|(rw[flatten_one,fillU,upTo];simp;done)|(simp;done)) ?_ (fun p hp=>?_)
 rotate_left
 simp only[go_sem]
 have hl:=fillU_len n p hp
 have hs:=fillU_set n p
 by_cases hpn:p<n
 ·repeat' first|exact h.elim|(exfalso;omega)|refine sw_n ?_|refine sw_go 0 kp56 fun K hK=>?_|refine fun (K:KT) (hK:KOk S 0 _ _ _ K)=>?_|refine runL_g ?_|refine sw_retg0 ?_|refine sw_retg ?_|(refine hK.n0 ?_;clear hK K)|refine sw_condg rfl (fun h=>?_) fun h=>?_|refine sw_exit rfl ?_|refine sw_loopEnd ?_|with_reducible refine and_o ?_|((with_reducible refine And.intro ?_ ?_);· first|(intro x hx;subst hx;rfl)|exact upR_mem fun _ _=>rfl|exact mapR_mem fun _ _=>rfl|(intro x;refine And.intro ?_ ?_<;>(intros;subst_vars;rfl)))|apply tTT
  all_goals exact⟨p+1,(by(refine covers_mk0 rfl rfl ?_ ?_ ?_ ?_<;>simp (disch:=(refine Om.mk ?_;omega)) only[go_sem]<;>(try omega));all_goals first|rw[hs (by omega)]|skip),by omega,by omega⟩
 ·obtain rfl:p=n:=by omega
  have hf:fillU p p=upTo p:=by simp[fillU]
  rw[hf]
  repeat' first|exact h.elim|(exfalso;omega)|(refine sw_freezeLab 2 1 q (id:=6) (n:=p) (cs:=(upTo p).map (.int .i64)) ((upTo p).map (.int .i64)) rfl (by simp[Lg.look]) (flat_ints _).symm (by simp[upTo_len]) (cells_one fun _=>rfl) (memOk_ints _) hq (by simp) ?_;simp only[go_sem])|refine sw_n ?_|refine sw_go 0 kp56 fun K hK=>?_|refine fun (K:KT) (hK:KOk S 0 _ _ _ K)=>?_|refine runL_g ?_|refine sw_retg0 ?_|refine sw_retg ?_|(refine hK.n0 ?_;clear hK K)|refine sw_condg rfl (fun h=>?_) fun h=>?_|refine sw_exit rfl ?_|refine sw_loopEnd ?_|with_reducible refine and_o ?_|((with_reducible refine And.intro ?_ ?_);· first|(intro x hx;subst hx;rfl)|exact upR_mem fun _ _=>rfl|exact mapR_mem fun _ _=>rfl|(intro x;refine And.intro ?_ ?_<;>(intros;subst_vars;rfl)))|apply tTT
 ·exact Nat.zero_le _
def kp23:List (Nat×List Nat):=[(0,[1,2]),(1,[1,2,4]),(2,[1,2,4,5]),(3,[2,6]),(4,[2,6,7,8]),(5,[2,6,7,49]),(6,[2,3]),(7,[2,3])]
attribute [go_sem] kp23 Tryz.results23 Tryz.ntmps23
theorem normalAutoI_fc (p:List Nat) (hp:p≠[]) (x:SystemT) (h:LeftP x):FCw S TabW 23 [] [] [] [SystemD x] (.tup [AutoL p (normR x).1,.bool (normR x).2]) [] []:=by
 have hO:=h.shp
 obtain⟨ht1,ht2⟩:=h.term
 rw[normR_yes h]
 generalize hSH:srtM (shpA x.sig (x.rules.map (·.l)) x.rules.length)=SH at *
 have cL:=leftsOf_fc x.rules (by rw[List.length_map] at ht1;exact ht1) (fun i hi=>by
  have:=(ht2 i (by rw[List.length_map];exact hi)).2.1.2
  rw[getD_map' (g:=fun r:RuleT=>r.l) hi] at this
  exact this)
 have cS:=(shapesOf_fc sortKN [0] (by simp) x.sig (x.rules.map (·.l)) ht1 ht2).weak (bx'':=[]) (tk'':=[]) (le_Int64SSL _ _) (by simp) (by simp)
 rw[List.length_map,hSH] at cS
 have cF1:=formsOf_fc x.sig SH (x.rules.map (·.l)) (fun t ht=>(hO.lf t ht).1) hO.n (by omega)
 have cF2:=formsOf_fc x.sig SH SH (fun t ht=>(hO.sh t ht).1) hO.n hO.n
 generalize hLS:x.rules.map (·.l)=LE at *
 obtain⟨sets,ru,ok,hR⟩:∃a b c,iterA (imgH x.sig SH LE) (fun n=>evK x.sig [] n x.sig.length) 18 []=(a,b,c):=⟨_,_,_,rfl⟩
 have hT:TblOk x.sig (LE.map (formR x.sig SH)) (SH.map (formR x.sig SH)):=⟨hO.sg,forms_ok hO.sg (by have:=hO.m;omega),forms_ok hO.sg hO.n,by simpa using hO.n⟩
 have cA:=all_fc (p++[1]) (by simp) x.sig _ _ hT (sets,ru,ok) hR
 obtain⟨hyes,hno⟩:=prog_auto hR
 refine fcbW Tryz.func23 rfl fun B hw hTB hI hpan=>?_
 have htl:=mapR_length (fun i y=>TransL (p++[1]++[i]) y) ru
 by_cases hc:ok=true∧sets≠[]∧ru.length≤300
 ·obtain⟨he,h16⟩:=hyes hc
  rw[he]
  obtain⟨rfl,h0,h3⟩:=hc
  have hpos:=List.length_pos_iff.2 h0
  have cP:=firstPermL_fc (p++[2]) (by simp) sets.length (by omega)
  repeat' first|exact h.elim|(exfalso;omega)|(refine hK.raw ?_;clear hK K;refine LopsW.callW rfl rfl rfl hw hTB (cA) (by refine⟨⟨?_,?_,?_,?_,?_⟩,⟨?_,?_,?_,?_,?_⟩,?_⟩<;>simp[LS.getBox,Lg.look,D.ids,D.idsL,LS.clean,D.tks,D.tksL,inTok,shC,anyV,idsL_i,tksL_i]) (lops_go 471 (fun (K:List Oper→LS→Prop) (hK:KOk S 471 _ _ _ K)=>?_));simp (disch:=(refine Om.mk ?_;omega)) only[go_sem,List.filter_cons,List.filter_nil,Bool.false_eq_true])|(refine sw_lab 7 (p++[1]) (k:=33000) rfl (by simp) (by simp) ?_;simp only[go_sem])|refine sw_n ?_|refine sw_go 471 kp23 fun K hK=>?_|refine sw_goT 471 kp23 13 (id:=3) (by kernel_rfl) fun K hK=>?_|refine sw_goT 471 kp23 13 (id:=7) (by kernel_rfl) fun K hK=>?_|refine fun (K:KT) (hK:KOk S 471 _ _ _ K)=>?_|refine sw_goD kp23 (by kernel_rfl) fun K hK=>?_|refine runL_g ?_|refine runQ_g ?_|refine sw_retg0 ?_|refine sw_retg ?_|(refine hK.n0 ?_;clear hK K)|refine runG_fk (fun h=>?_) fun h=>?_|refine runQG_fk (fun h=>?_) fun h=>?_|refine sw_condg rfl (fun h=>?_) fun h=>?_|refine hK.skp rfl rfl ?_|refine sw_loopEnd ?_|refine hK.c1 rfl rfl rfl (cL) ?_|refine hK.c1 rfl rfl rfl (cS) ?_|refine hK.c1 rfl rfl rfl (cF1) ?_|refine hK.c1 rfl rfl rfl (cF2) ?_|refine hK.c1 rfl rfl rfl (cP) ?_|(refine hK.fork rfl rfl rfl ?_ ?_<;>intro h<;>try simp (disch:=(refine Om.mk ?_;omega)) only[go_sem] at h)|with_reducible refine and_o ?_|((with_reducible refine And.intro ?_ ?_);· first|(intro x hx;subst hx;rfl)|exact upR_mem fun _ _=>rfl|exact mapR_mem fun _ _=>rfl|(intro x;refine And.intro ?_ ?_<;>(intros;subst_vars;rfl)))|apply tTT
  unfold RetN
  simp only[go_sem]
  exact ret_plain rfl fun f=>rfl
 ·rw[hno hc]
  cases ok with
  | false =>
   repeat' first|exact h.elim|(exfalso;omega)|(refine hK.raw ?_;clear hK K;refine LopsW.callW rfl rfl rfl hw hTB (cA) (by refine⟨⟨?_,?_,?_,?_,?_⟩,⟨?_,?_,?_,?_,?_⟩,?_⟩<;>simp[LS.getBox,Lg.look,D.ids,D.idsL,LS.clean,D.tks,D.tksL,inTok,shC,anyV,idsL_i,tksL_i]) (lops_go 471 (fun (K:List Oper→LS→Prop) (hK:KOk S 471 _ _ _ K)=>?_));simp (disch:=(refine Om.mk ?_;omega)) only[go_sem,List.filter_cons,List.filter_nil,Bool.false_eq_true])|refine sw_n ?_|refine sw_go 471 kp23 fun K hK=>?_|refine sw_goT 471 kp23 13 (id:=3) (by kernel_rfl) fun K hK=>?_|refine sw_goT 471 kp23 13 (id:=7) (by kernel_rfl) fun K hK=>?_|refine fun (K:KT) (hK:KOk S 471 _ _ _ K)=>?_|refine sw_goD kp23 (by kernel_rfl) fun K hK=>?_|refine runL_g ?_|refine runQ_g ?_|refine sw_retg0 ?_|refine sw_retg ?_|(refine hK.n0 ?_;clear hK K)|refine runG_fk (fun h=>?_) fun h=>?_|refine runQG_fk (fun h=>?_) fun h=>?_|refine sw_condg rfl (fun h=>?_) fun h=>?_|refine hK.skp rfl rfl ?_|refine sw_loopEnd ?_|refine hK.c1 rfl rfl rfl (cL) ?_|refine hK.c1 rfl rfl rfl (cS) ?_|refine hK.c1 rfl rfl rfl (cF1) ?_|refine hK.c1 rfl rfl rfl (cF2) ?_|(refine hK.fork rfl rfl rfl ?_ ?_<;>intro h<;>try simp (disch:=(refine Om.mk ?_;omega)) only[go_sem] at h)|with_reducible refine and_o ?_|((with_reducible refine And.intro ?_ ?_);· first|(intro x hx;subst hx;rfl)|exact upR_mem fun _ _=>rfl|exact mapR_mem fun _ _=>rfl|(intro x;refine And.intro ?_ ?_<;>(intros;subst_vars;rfl)))|apply tTT
   all_goals (unfold RetN;simp only[go_sem];exact ret_le (le0_le (by simp[mapR,le0,le0L])) rfl fun f=>rfl)
  | true =>
   by_cases h0:sets=[]
   ·subst h0
    repeat' first|exact h.elim|(exfalso;omega)|(refine hK.raw ?_;clear hK K;refine LopsW.callW rfl rfl rfl hw hTB (cA) (by refine⟨⟨?_,?_,?_,?_,?_⟩,⟨?_,?_,?_,?_,?_⟩,?_⟩<;>simp[LS.getBox,Lg.look,D.ids,D.idsL,LS.clean,D.tks,D.tksL,inTok,shC,anyV,idsL_i,tksL_i]) (lops_go 471 (fun (K:List Oper→LS→Prop) (hK:KOk S 471 _ _ _ K)=>?_));simp (disch:=(refine Om.mk ?_;omega)) only[go_sem,List.filter_cons,List.filter_nil,Bool.false_eq_true])|refine sw_n ?_|refine sw_go 471 kp23 fun K hK=>?_|refine sw_goT 471 kp23 13 (id:=3) (by kernel_rfl) fun K hK=>?_|refine sw_goT 471 kp23 13 (id:=7) (by kernel_rfl) fun K hK=>?_|refine fun (K:KT) (hK:KOk S 471 _ _ _ K)=>?_|refine sw_goD kp23 (by kernel_rfl) fun K hK=>?_|refine runL_g ?_|refine runQ_g ?_|refine sw_retg0 ?_|refine sw_retg ?_|(refine hK.n0 ?_;clear hK K)|refine runG_fk (fun h=>?_) fun h=>?_|refine runQG_fk (fun h=>?_) fun h=>?_|refine sw_condg rfl (fun h=>?_) fun h=>?_|refine hK.skp rfl rfl ?_|refine sw_loopEnd ?_|refine hK.c1 rfl rfl rfl (cL) ?_|refine hK.c1 rfl rfl rfl (cS) ?_|refine hK.c1 rfl rfl rfl (cF1) ?_|refine hK.c1 rfl rfl rfl (cF2) ?_|(refine hK.fork rfl rfl rfl ?_ ?_<;>intro h<;>try simp (disch:=(refine Om.mk ?_;omega)) only[go_sem] at h)|with_reducible refine and_o ?_|((with_reducible refine And.intro ?_ ?_);· first|(intro x hx;subst hx;rfl)|exact upR_mem fun _ _=>rfl|exact mapR_mem fun _ _=>rfl|(intro x;refine And.intro ?_ ?_<;>(intros;subst_vars;rfl)))|apply tTT
    all_goals (unfold RetN;simp only[go_sem];exact ret_le (le0_le (by simp[mapR,le0,le0L])) rfl fun f=>rfl)
   ·have hpos:=List.length_pos_iff.2 h0
    have h3:¬ru.length≤300:=fun h=>hc ⟨rfl,h0,h⟩
    repeat' first|exact h.elim|(exfalso;omega)|(refine hK.raw ?_;clear hK K;refine LopsW.callW rfl rfl rfl hw hTB (cA) (by refine⟨⟨?_,?_,?_,?_,?_⟩,⟨?_,?_,?_,?_,?_⟩,?_⟩<;>simp[LS.getBox,Lg.look,D.ids,D.idsL,LS.clean,D.tks,D.tksL,inTok,shC,anyV,idsL_i,tksL_i]) (lops_go 471 (fun (K:List Oper→LS→Prop) (hK:KOk S 471 _ _ _ K)=>?_));simp (disch:=(refine Om.mk ?_;omega)) only[go_sem,List.filter_cons,List.filter_nil,Bool.false_eq_true])|refine sw_n ?_|refine sw_go 471 kp23 fun K hK=>?_|refine sw_goT 471 kp23 13 (id:=3) (by kernel_rfl) fun K hK=>?_|refine sw_goT 471 kp23 13 (id:=7) (by kernel_rfl) fun K hK=>?_|refine fun (K:KT) (hK:KOk S 471 _ _ _ K)=>?_|refine sw_goD kp23 (by kernel_rfl) fun K hK=>?_|refine runL_g ?_|refine runQ_g ?_|refine sw_retg0 ?_|refine sw_retg ?_|(refine hK.n0 ?_;clear hK K)|refine runG_fk (fun h=>?_) fun h=>?_|refine runQG_fk (fun h=>?_) fun h=>?_|refine sw_condg rfl (fun h=>?_) fun h=>?_|refine hK.skp rfl rfl ?_|refine sw_loopEnd ?_|refine hK.c1 rfl rfl rfl (cL) ?_|refine hK.c1 rfl rfl rfl (cS) ?_|refine hK.c1 rfl rfl rfl (cF1) ?_|refine hK.c1 rfl rfl rfl (cF2) ?_|(refine hK.fork rfl rfl rfl ?_ ?_<;>intro h<;>try simp (disch:=(refine Om.mk ?_;omega)) only[go_sem] at h)|with_reducible refine and_o ?_|((with_reducible refine And.intro ?_ ?_);· first|(intro x hx;subst hx;rfl)|exact upR_mem fun _ _=>rfl|exact mapR_mem fun _ _=>rfl|(intro x;refine And.intro ?_ ?_<;>(intros;subst_vars;rfl)))|apply tTT
    all_goals (unfold RetN;simp only[go_sem];exact ret_le (le0_le (by simp[mapR,le0,le0L])) rfl fun f=>rfl)
def kp7:List (Nat×List Nat):=[(0,[1,2]),(1,[1,2,6]),(2,[2,3]),(3,[2,3])]
attribute [go_sem] kp7 Tryz.results7 Tryz.ntmps7
theorem implNormalAuto_fc (p:List Nat) (hp:p≠[]) (x:SystemT):FCw S TabW 7 [] [] [] [SystemD x] (.tup [AutoL p (normR x).1,.bool (normR x).2]) [] []:=by
 have cL:=implLeftLinearIn_fc x
 refine fcbW Tryz.func7 rfl fun B hw hTB hI hpan=>?_
 by_cases h:LeftP x
 ·rw[tst_true h] at cL
  have cI:=normalAutoI_fc p hp x h
  generalize normR x=rR at *
  repeat' first|exact h.elim|(exfalso;omega)|(refine hK.raw ?_;clear hK K;refine LopsW.callW rfl rfl rfl hw hTB (cI) (by refine⟨⟨?_,?_,?_,?_,?_⟩,⟨?_,?_,?_,?_,?_⟩,?_⟩<;>simp[LS.getBox,Lg.look,D.ids,D.idsL,LS.clean,D.tks,D.tksL,inTok,AutoL,TransSL,Int64SL]) (lops_go 0 (fun (K:List Oper→LS→Prop) (hK:KOk S 0 _ _ _ K)=>?_));simp (disch:=(refine Om.mk ?_;omega)) only[go_sem,List.filter_cons,List.filter_nil,Bool.false_eq_true])|refine sw_n ?_|refine sw_go 0 kp7 fun K hK=>?_|refine fun (K:KT) (hK:KOk S 0 _ _ _ K)=>?_|refine runL_g ?_|refine sw_retg0 ?_|refine sw_retg ?_|(refine hK.n0 ?_;clear hK K)|refine sw_condg rfl (fun h=>?_) fun h=>?_|refine sw_loopEnd ?_|refine hK.c1 rfl rfl rfl (cL) ?_|with_reducible refine and_o ?_|((with_reducible refine And.intro ?_ ?_);· first|(intro x hx;subst hx;rfl)|exact upR_mem fun _ _=>rfl|exact mapR_mem fun _ _=>rfl|(intro x;refine And.intro ?_ ?_<;>(intros;subst_vars;rfl)))|apply tTT
  all_goals (unfold RetN;simp only[go_sem];exact ret_plain rfl fun f=>rfl)
 ·rw[tst_false h] at cL
  rw[normR_no h]
  repeat' first|exact h.elim|(exfalso;omega)|refine sw_n ?_|refine sw_go 0 kp7 fun K hK=>?_|refine fun (K:KT) (hK:KOk S 0 _ _ _ K)=>?_|refine runL_g ?_|refine sw_retg0 ?_|refine sw_retg ?_|(refine hK.n0 ?_;clear hK K)|refine sw_condg rfl (fun h=>?_) fun h=>?_|refine sw_loopEnd ?_|refine hK.c1 rfl rfl rfl (cL) ?_|with_reducible refine and_o ?_|((with_reducible refine And.intro ?_ ?_);· first|(intro x hx;subst hx;rfl)|exact upR_mem fun _ _=>rfl|exact mapR_mem fun _ _=>rfl|(intro x;refine And.intro ?_ ?_<;>(intros;subst_vars;rfl)))|apply tTT
  all_goals (unfold RetN;simp only[go_sem];exact ret_le (le0_le (by simp[mapR,le0,le0L])) rfl fun f=>rfl)
end Go.Proofs.YtkkceakpegnmeaaGreatDoor
end
section
namespace Go.Lg
open Go Go.RowKit
theorem FCw.args {S:Setup} {T:World→Prop} {f:FuncId} {ro bx bx':List (Nat×List D)} {tk tk':List Nat} {args args':List D} {d:D} (h:FCw S T f ro bx tk args' d bx' tk') (hle:leL args args'):FCw S T f ro bx tk args d bx' tk':=⟨h.1,fun w G vals hT hs=>by
 have hl:=leL_len hle
 refine h.2 w G vals hT ⟨hs.defers,by rw[←hl];exact hs.size,fun t d hd=>?_,hs.W,hs.fixed⟩
 simp only[look_enumD,Nat.zero_le,if_true,Nat.sub_zero] at hd
 obtain⟨a,ha,hle'⟩:=leL_get hle t d hd
 obtain⟨v,h1,h2⟩:=hs.env t a (by simpa only[look_enumD,Nat.zero_le,if_true,Nat.sub_zero] using ha)
 exact⟨v,h1,h2.le hle'⟩⟩
theorem law_contractW {H:Type} {enc:TypeId×Value→H} (S:Setup) {T:World→Prop} {f:FuncId} {fn:Func} {s:ChangeSpec} {ts:List TypeId} {tb m:Nat} (hl:laidOutB S.P=true) (hts:fn.params.toList=ts) (hcl:∀t∈ts,clB S.tab m t=true) (hrd:∀t∈ts,S.P.readableRec t=true∧t<S.P.types.size)
  (hres:fn.resultTypes=#[tb]) (hb:S.P.underlying tb=some .bool) (hvars:s.vars=[]) (hspec:∀ds:List (DataW H),ds.length=ts.length→s.fn H ds={results:=[.lit (.bool true)],args:=ds})
  (hfc:∀args:List D,args.length=ts.length→(∀(j:Nat) t d,ts[j]?=some t→args[j]?=some d→∃i cs,S.tab t=some i∧cs.length=i.size∧WC S t cs∧d=ofCells i cs)→FCw S T f [] [] [] args (.bool true) [] [])
  {apart fresh handsOn again:Bool} {W:World} {base:Nat} {args:Array Value} {ds gs:List (DataW H)} {before:List MemPlace}
  (hT:∀w2:World,(∀b,b<W.heap.size→w2.heap[b]?=W.heap[b]?)→W.heap.size≤w2.heap.size→T w2) (hval:∀(j:Nat) t v,fn.params[j]?=some t→args[j]?=some v→Value.okWide S.P W .any base t v) (hW:DataW.Whole enc S.P fn.params.toList s.vars apart W args.toList ds gs before) :
  Calls S.P f args W fun e W'=>∃v,e=.returned v∧s.post enc S.P fn apart fresh handsOn again W args v W':=by
 have hW0:=hW
 have hlt:=hW.lt
 rw[hts,hvars] at hW
 obtain⟨p,q,hA,hV,rfl,hz,hn⟩:=hW
 obtain⟨rfl,rfl⟩:gs=[]∧q=[]:=by
  cases gs with
  | nil=>exact⟨rfl,hV⟩
  | cons _ _=>simp[DataW.TrodVars] at hV
 simp only[List.append_nil] at hz hn hlt hW0
 obtain⟨k1,k0,ads,k2,k3,k4⟩:=args_open (S:=S) hA (fun j t v ht hv=>hval j t v (by rw[←hts] at ht;simpa using ht) (by simpa using hv)) hcl
 refine(fcw_open (hfc ads k2 k3) hT (vals:=args) (by rw[k2,←k1];simp) (fun j d v hd hv=>k4 j d v hd (by simpa using hv))).mono ?_
 rintro e W' ⟨v,G',rfl,hr,hbel⟩
 cases hr
 refine⟨_,rfl,ds,[],p,[],p,[],hW0,?_,?_,?_,?_,fun _=>⟨?_,?_⟩⟩
 ·rw[hres,List.append_nil,hspec ds k0]
  exact⟨[],[],shut_bool hb true,rfl,rfl⟩
 ·rw[hts,List.append_nil,hspec ds k0]
  exact args_stay hl hbel _ hA hrd (fun x hx=>⟨hlt x hx,by simpa using hlt x hx⟩)
 ·rw[hvars,List.append_nil,hspec ds k0]
  exact rfl
 ·exact hbel.frame _
 ·exact ok_one hres rfl (okWide_bool_mk hb true)
 ·refine⟨[.lit (.bool true)]++ds,[],[]++p,?_,fun x hx _=>by simpa using hx⟩
  refine⟨[]++p,[],?_,by rw[hvars];exact rfl,by simp,fun b off hx=>?_,fun ha=>by simpa using hn ha⟩
  ·rw[hts,hres]
   exact trod_app (ts:=[tb]) (vs:=[.bool true]) ⟨[],[],shut_bool hb true,rfl,rfl⟩ (args_stay hl hbel _ hA hrd (fun x hx=>⟨hlt x hx,rfl⟩))
  ·have hx':MemPlace.cell b off∈p:=by simpa using hx
   rw[hbel.frozen (hlt _ hx')]
   exact hz b off hx'
end Go.Lg
namespace Go.Proofs.YtkkceakpegnmeaaGreatDoor
open Go Go.Lg
set_option linter.unusedSimpArgs false
set_option linter.unusedVariables false
set_option maxHeartbeats 4000000
theorem evY_args {rs:List Int} (h:∀f<rs.length,0≤rs.getD f default∧rs.getD f default≤3) {n:Nat}:∀e∈evY rs (List.range rs.length) n,e.2.length≤3:=fun e he=>by
 unfold evY at he
 obtain⟨f,hf,he⟩:=List.mem_flatMap.1 he
 have hf:=List.mem_range.1 hf
 have h3:=h f hf
 unfold evF at he
 by_cases h0:n=0∧0<rs.getD f default
 ·rw[if_pos h0] at he;cases he
 ·rw[if_neg h0] at he
  obtain⟨l,hl,rfl⟩:=List.mem_map.1 he
  have:=(digs_dig (n:=n) (k:=(rs.getD f default).toNat) (by omega) l hl).1
  simp only
  omega
theorem trZ_args {I:Nat→List (List Int)→Option (List Int)} {sets:List (List Int)}:∀ {E:List (Nat×List Int)},(∀e∈E,e.2.length≤3)→∀x∈trZ I sets E,x.args.length≤3
 | [],_,x,hx=>by cases hx
 | (f,l)::es,h,x,hx=>by
  have ih:=trZ_args (I:=I) (sets:=sets) (E:=es) fun y hy=>h y (List.mem_cons_of_mem _ hy)
  cases hI:I f (lstS sets l) with
  | none=>rw[trZ_none hI] at hx;exact ih x hx
  | some s =>
   rw[trZ_some hI] at hx
   rcases List.mem_cons.1 hx with rfl|hx
   ·exact h (f,l) List.mem_cons_self
   ·exact ih x hx
theorem sum_trN:∀ {xs:List TransT},(∀x∈xs,x.args.length≤3)→mcTransS xs≤5*xs.length
 | [],_=>by simp[mcTransS]
 | x::r,h=>by
  have h1:=h x List.mem_cons_self
  have:=sum_trN (xs:=r) fun y hy=>h y (List.mem_cons_of_mem _ hy)
  simp only[mcTransS,mcInt64S,List.map_cons,List.sum_cons,List.length_cons] at *
  omega
theorem normR_mc (x:SystemT):mcAuto (normR x).1≤2000:=by
 by_cases h:LeftP x
 ·rw[normR_yes h]
  have hO:=h.shp
  generalize srtM (shpA x.sig (x.rules.map (·.l)) x.rules.length)=SH at *
  obtain⟨s,b,hz⟩:∃s b,iterZ (imgH x.sig SH (x.rules.map (·.l))) (evY x.sig (List.range x.sig.length)) 18 []=(s,b):=⟨_,_,rfl⟩
  obtain⟨hy,hn⟩:=autoN_eq hz
  have h16:=iterZ_le (I:=imgH x.sig SH (x.rules.map (·.l))) (E:=evY x.sig (List.range x.sig.length)) 18 [] (by simp)
  rw[hz] at h16
  dsimp only at h16
  by_cases hc:b=true∧s≠[]∧(trZ (imgH x.sig SH (x.rules.map (·.l))) s (evY x.sig (List.range x.sig.length) s.length)).length≤300
  ·rw[hy hc.1 hc.2.1 hc.2.2]
   have h1:=sum_trN (trZ_args (I:=imgH x.sig SH (x.rules.map (·.l))) (sets:=s) (evY_args (n:=s.length) fun f hf=>hO.sg.2 f hf))
   have h2:=hc.2.2
   have h3:=numsN_len s.length
   simp only[mcAuto,mcInt64S] at *
   omega
  ·rw[hn hc]
   simp[mcAuto,mcTransS,mcInt64S]
 ·rw[normR_no h]
  simp[mcAuto,mcTransS,mcInt64S]
theorem tab_of_laid {W:World} {a b:DataW Unit} {na nb:String} (h:laidMet Tryz.prog [(na,a),(nb,b),("internal/strconv.uint64pow10", Lib.tabData .u64 Lib.pow10Tab)] W):∀w2:World,(∀b,b<W.heap.size→w2.heap[b]?=W.heap[b]?)→W.heap.size≤w2.heap.size→TabW w2:=by
 have h1:Lib.TabIs Tryz.prog W "internal/strconv.uint64pow10" .u64 Lib.pow10Tab:=Lib.tabIs_of_head (g:=0) (by kernel_rfl) (by kernel_rfl) Tryz.underlying192 Tryz.underlying143 (by kernel_rfl) (by kernel_rfl) h.tail.tail
 intro w2 h2 _
 show Lib.TabIs Tryz.prog w2 "internal/strconv.uint64pow10" .u64 Lib.pow10Tab
 unfold Lib.TabIs World.var? at *
 cases hg:Program.globalNamed Tryz.prog "internal/strconv.uint64pow10" with
 | none=>simp[hg] at h1
 | some g =>
  simp only[hg,Option.bind_some] at h1 ⊢
  have hlt:g<W.heap.size:=by
   rcases Nat.lt_or_ge g W.heap.size with h'|h'
   ·exact h'
   ·rw[Array.getElem?_eq_none h'] at h1;simp at h1
  rw[h2 g hlt]
  exact h1
end Go.Proofs.YtkkceakpegnmeaaGreatDoor
end
