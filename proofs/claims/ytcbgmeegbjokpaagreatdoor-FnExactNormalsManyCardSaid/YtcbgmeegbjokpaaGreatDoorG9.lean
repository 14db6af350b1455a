/-
  N10, N11, A23i, A23k, one behind the other.
-/
import Derived.Test.YtcbgmeegbjokpaaGreatDoorG8
import Derived.Test.YtcbgmeegbjokpaaGreatDoorG5
import Derived.Test.YtcbgmeegbjokpaaGreatDoorLgK9
import Derived.Test.YtcbgmeegbjokpaaGreatDoorG2
import Derived.Test.YtcbgmeegbjokpaaGreatDoorLgK6
import Derived.Test.YtcbgmeegbjokpaaGreatDoorLgK7
import Derived.MakeChecks
import Derived.Stop.LaidErr
import Derived.LaidHandle
import Derived.Lib.LaidTab
import Derived.Test.YtcbgmeegbjokpaaGreatDoorG1
section
namespace Go.Proofs.YtcbgmeegbjokpaaGreatDoor
open Go Go.Lg
set_option linter.unusedSimpArgs false
set_option linter.unusedVariables false
set_option maxHeartbeats 4000000
attribute [local irreducible] Lg.SW runL runQ runG runQG FC FCw Ret1 RetN toF redoL anyB
theorem anyV_shT (o:Nat):anyV.shT o=anyV:=rfl
theorem anyV_ids:anyV.ids=[]:=rfl
theorem anyV_tks:anyV.tks=[]:=rfl
theorem anyV_pu (p:Nat→Bool):anyV.pu p=anyV:=rfl
attribute [local go_sem] shC anyV_shT anyV_ids anyV_tks
attribute [local go_sem high] anyV_pu
theorem ret_le {L:LS} {d d0:D} (h:D.le d0 d) (h1:d.tks=[]) (h2:∀f,d.mT f=d):RetK d [] 0 L d0:=⟨[],d,h,⟨rfl,List.nodup_nil⟩,by simp,by rw[h1];simp,h2 _,by simp⟩
theorem sortKN:SortKit S.P 99 100:=sortKit_of Tryz.sortT ⟨_,Tryz.func100,by kernel_rfl,rfl⟩
theorem forms_ok {rs:List Int} {SH ts:List (List Int)} (hsg:SigOkP rs) (h:ts.length≤1000):∀f<rs.length,FormsOk (f:Int) (rs.getD f default).toNat (ts.map (formR rs SH)):=fun f hf=>by
 refine⟨by simpa using h,fun i hi=>?_⟩
 rw[List.length_map] at hi
 rw[getD_map' hi]
 have hl:∀t,((formR rs SH t).args).length=(arS rs (t.getD 0 default)).toNat:=fun t=>by unfold formR;rw[List.length_map,argsS_len]
 refine⟨?_,fun e=>?_⟩
 ·rw[hl]
  generalize (ts.getD i default).getD 0 default=n
  unfold arS
  split
  ·simp
  ·split
   ·have:=hsg.2 n.toNat (by omega);omega
   ·simp
 ·have e:(ts.getD i default).getD 0 default=(f:Int):=e
  rw[hl,e]
  unfold arS
  rw[if_neg (by omega),if_pos (by omega)]
  simp
theorem symsK_nil (rs:List Int):symsK rs []=List.range rs.length:=by
 unfold symsK
 rw[List.filter_eq_self]
 intro f _
 simp
theorem prog_auto {rs:List Int} {SH ls:List (List Int)} {sets:List (List Int)} {ru:List TransT} {ok:Bool} (h:iterA (imgH rs SH ls) (fun n=>evK rs [] n rs.length) 18 []=(sets,ru,ok)):(ok=true∧sets≠[]∧ru.length≤300→autoN rs SH ls (List.range rs.length)=(⟨(sets.length:Int),ru,upTo sets.length⟩,true)∧sets.length≤16)∧(¬(ok=true∧sets≠[]∧ru.length≤300)→autoN rs SH ls (List.range rs.length)=(⟨0,[],[]⟩,false)):=by
 have hE:(fun n=>evK rs [] n rs.length)=evY rs (List.range rs.length):=funext fun n=>by rw[evK_all,symsK_nil]
 rw[hE] at h
 obtain⟨h1,h2⟩:=iterA_eq (I:=imgH rs SH ls) (E:=evY rs (List.range rs.length)) 18 [] (by simp)
 rw[h] at h1 h2
 dsimp only at h1 h2
 obtain⟨s,b,hz⟩:∃s b,iterZ (imgH rs SH ls) (evY rs (List.range rs.length)) 18 []=(s,b):=⟨_,_,rfl⟩
 obtain⟨hy,hn⟩:=autoN_eq hz
 have h16:=iterZ_le (I:=imgH rs SH ls) (E:=evY rs (List.range rs.length)) 18 [] (by simp)
 have hcl:=iterZ_closed (I:=imgH rs SH ls) (E:=evY rs (List.range rs.length)) 18 [] (by simp)
 rw[hz] at h1 h2 h16 hcl
 dsimp only at h1 h2 h16 hcl
 subst h1
 cases ok with
 | false=>exact⟨fun h=>absurd h.1 (by simp),fun _=>hn (fun h=>by cases h.1)⟩
 | true =>
  obtain⟨rfl,rfl⟩:=h2 rfl
  have htr:=trZ_trS _ (hcl rfl)
  rw[htr] at hy hn
  exact⟨fun h=>⟨hy rfl h.2.1 h.2.2,h16⟩,fun h=>hn h⟩
theorem firstPermL_fc (q:List Nat) (hq:q≠[]) (n:Nat) (hn:n≤1000):FC S 74 [] [] [] [.int .i64 n] (Int64SL q (upTo n)) [] []:=by
 refine fcb Tryz.func74 fun B=>?_
 repeat' first|exact h.elim|refine sw_n ?_|refine sw_go 0 kp74 fun K hK=>?_|refine fun (K:KT) (hK:KOk S 0 _ _ _ K)=>?_|refine runL_g ?_|refine sw_retg0 ?_|refine sw_retg ?_|(refine hK.n0 ?_;clear hK K)|refine sw_condg rfl (fun h=>?_) fun h=>?_|refine sw_exit rfl ?_|refine sw_loopEnd ?_|with_reducible refine and_o ?_|((with_reducible refine And.intro ?_ ?_);· first|(intro x hx;subst hx;rfl)|exact upR_mem fun _ _=>rfl|exact mapR_mem fun _ _=>rfl|(intro x;refine And.intro ?_ ?_<;>(intros;subst_vars;rfl)))|apply tTT
 refine sw_loopU (ι:=Nat) (fun p=>[(9,.int .i64 p)]) (fun p=>[(6,(fillU n p).map (.int .i64))]) (fun p=>p≤n) (fun p=>n-p) 0 (by(refine covers_mk0 rfl rfl ?_ ?_ ?_ ?_<;>simp (disch:=(refine Om.mk ?_;omega)) only[go_sem]<;>(try omega));all_goals first|(rw[flatten_one,fillU,upTo];simp;done)|(simp;done)) ?_ (fun p hp=>?_)
 rotate_left
 simp only[go_sem]
 have hl:=fillU_len n p hp
 have hs:=fillU_set n p
 by_cases hpn:p<n
 ·repeat' first|exact h.elim|(exfalso;omega)|refine sw_n ?_|refine sw_go 0 kp74 fun K hK=>?_|refine fun (K:KT) (hK:KOk S 0 _ _ _ K)=>?_|refine runL_g ?_|refine sw_retg0 ?_|refine sw_retg ?_|(refine hK.n0 ?_;clear hK K)|refine sw_condg rfl (fun h=>?_) fun h=>?_|refine sw_exit rfl ?_|refine sw_loopEnd ?_|with_reducible refine and_o ?_|((with_reducible refine And.intro ?_ ?_);· first|(intro x hx;subst hx;rfl)|exact upR_mem fun _ _=>rfl|exact mapR_mem fun _ _=>rfl|(intro x;refine And.intro ?_ ?_<;>(intros;subst_vars;rfl)))|apply tTT
  all_goals exact⟨p+1,(by(refine covers_mk0 rfl rfl ?_ ?_ ?_ ?_<;>simp (disch:=(refine Om.mk ?_;omega)) only[go_sem]<;>(try omega));all_goals first|rw[hs (by omega)]|skip),by omega,by omega⟩
 ·obtain rfl:p=n:=by omega
  have hf:fillU p p=upTo p:=by simp[fillU]
  rw[hf]
  repeat' first|exact h.elim|(exfalso;omega)|(refine sw_freezeLab 2 1 q (id:=6) (n:=p) (cs:=(upTo p).map (.int .i64)) ((upTo p).map (.int .i64)) rfl (by simp[Lg.look]) (flat_ints _).symm (by simp[upTo_len]) (cells_one fun _=>rfl) (memOk_ints _) hq (by simp) ?_;simp only[go_sem])|refine sw_n ?_|refine sw_go 0 kp74 fun K hK=>?_|refine fun (K:KT) (hK:KOk S 0 _ _ _ K)=>?_|refine runL_g ?_|refine sw_retg0 ?_|refine sw_retg ?_|(refine hK.n0 ?_;clear hK K)|refine sw_condg rfl (fun h=>?_) fun h=>?_|refine sw_exit rfl ?_|refine sw_loopEnd ?_|with_reducible refine and_o ?_|((with_reducible refine And.intro ?_ ?_);· first|(intro x hx;subst hx;rfl)|exact upR_mem fun _ _=>rfl|exact mapR_mem fun _ _=>rfl|(intro x;refine And.intro ?_ ?_<;>(intros;subst_vars;rfl)))|apply tTT
 ·exact Nat.zero_le _
def kp43:List (Nat×List Nat):=[(0,[1,2]),(1,[1,2,4]),(2,[1,2,4,5]),(3,[2,6]),(4,[2,6,7,8]),(5,[2,6,7,49]),(6,[2,3]),(7,[2,3])]
attribute [go_sem] kp43 Tryz.results43 Tryz.ntmps43
theorem normalAutoI_fc (p:List Nat) (hp:p≠[]) (x:SystemT) (h:LeftP x):FCw S TabW 43 [] [] [] [SystemD x] (.tup [AutoL p (normR x).1,.bool (normR x).2]) [] []:=by
 have hO:=h.shp
 obtain⟨ht1,ht2⟩:=h.term
 rw[normR_yes h]
 generalize hSH:srtM (shpA x.sig (x.rules.map (·.l)) x.rules.length)=SH at *
 have cL:=leftsOf_fc x.rules (by rw[List.length_map] at ht1;exact ht1) (fun i hi=>by
  have:=(ht2 i (by rw[List.length_map];exact hi)).2.1.2
  rw[getD_map' (g:=fun r:RuleT=>r.l) hi] at this
  exact this)
 have cS:=(shapesOf_fc sortKN [0] (by simp) x.sig (x.rules.map (·.l)) ht1 ht2).weak (bx'':=[]) (tk'':=[]) (le_Int64SSL _ _) (by simp) (by simp)
 rw[List.length_map,hSH] at cS
 have cF1:=formsOf_fc x.sig SH (x.rules.map (·.l)) (fun t ht=>(hO.lf t ht).1) hO.n (by omega)
 have cF2:=formsOf_fc x.sig SH SH (fun t ht=>(hO.sh t ht).1) hO.n hO.n
 generalize hLS:x.rules.map (·.l)=LE at *
 obtain⟨sets,ru,ok,hR⟩:∃a b c,iterA (imgH x.sig SH LE) (fun n=>evK x.sig [] n x.sig.length) 18 []=(a,b,c):=⟨_,_,_,rfl⟩
 have hT:TblOk x.sig (LE.map (formR x.sig SH)) (SH.map (formR x.sig SH)):=⟨hO.sg,forms_ok hO.sg (by have:=hO.m;omega),forms_ok hO.sg hO.n,by simpa using hO.n⟩
 have cA:=all_fc (p++[1]) (by simp) x.sig _ _ hT (sets,ru,ok) hR
 obtain⟨hyes,hno⟩:=prog_auto hR
 refine fcbW Tryz.func43 rfl fun B hw hTB hI hpan=>?_
 have htl:=mapR_length (fun i y=>TransL (p++[1]++[i]) y) ru
 by_cases hc:ok=true∧sets≠[]∧ru.length≤300
 ·obtain⟨he,h16⟩:=hyes hc
  rw[he]
  obtain⟨rfl,h0,h3⟩:=hc
  have hpos:=List.length_pos_iff.2 h0
  have cP:=firstPermL_fc (p++[2]) (by simp) sets.length (by omega)
  repeat' first|exact h.elim|(exfalso;omega)|(refine hK.raw ?_;clear hK K;refine LopsW.callW rfl rfl rfl hw hTB (cA) (by refine⟨⟨?_,?_,?_,?_,?_⟩,⟨?_,?_,?_,?_,?_⟩,?_⟩<;>simp[LS.getBox,Lg.look,D.ids,D.idsL,LS.clean,D.tks,D.tksL,inTok,shC,anyV,idsL_i,tksL_i]) (lops_go 471 (fun (K:List Oper→LS→Prop) (hK:KOk S 471 _ _ _ K)=>?_));simp (disch:=(refine Om.mk ?_;omega)) only[go_sem,List.filter_cons,List.filter_nil,Bool.false_eq_true])|(refine sw_lab 7 (p++[1]) (k:=33000) rfl (by simp) (by simp) ?_;simp only[go_sem])|refine sw_n ?_|refine sw_go 471 kp43 fun K hK=>?_|refine sw_goT 471 kp43 13 (id:=3) (by kernel_rfl) fun K hK=>?_|refine sw_goT 471 kp43 13 (id:=7) (by kernel_rfl) fun K hK=>?_|refine fun (K:KT) (hK:KOk S 471 _ _ _ K)=>?_|refine sw_goD kp43 (by kernel_rfl) fun K hK=>?_|refine runL_g ?_|refine runQ_g ?_|refine sw_retg0 ?_|refine sw_retg ?_|(refine hK.n0 ?_;clear hK K)|refine runG_fk (fun h=>?_) fun h=>?_|refine runQG_fk (fun h=>?_) fun h=>?_|refine sw_condg rfl (fun h=>?_) fun h=>?_|refine hK.skp rfl rfl ?_|refine sw_loopEnd ?_|refine hK.c1 rfl rfl rfl (cL) ?_|refine hK.c1 rfl rfl rfl (cS) ?_|refine hK.c1 rfl rfl rfl (cF1) ?_|refine hK.c1 rfl rfl rfl (cF2) ?_|refine hK.c1 rfl rfl rfl (cP) ?_|(refine hK.fork rfl rfl rfl ?_ ?_<;>intro h<;>try simp (disch:=(refine Om.mk ?_;omega)) only[go_sem] at h)|with_reducible refine and_o ?_|((with_reducible refine And.intro ?_ ?_);· first|(intro x hx;subst hx;rfl)|exact upR_mem fun _ _=>rfl|exact mapR_mem fun _ _=>rfl|(intro x;refine And.intro ?_ ?_<;>(intros;subst_vars;rfl)))|apply tTT
  unfold RetN
  simp only[go_sem]
  exact ret_plain rfl fun f=>rfl
 ·rw[hno hc]
  cases ok with
  | false =>
   repeat' first|exact h.elim|(exfalso;omega)|(refine hK.raw ?_;clear hK K;refine LopsW.callW rfl rfl rfl hw hTB (cA) (by refine⟨⟨?_,?_,?_,?_,?_⟩,⟨?_,?_,?_,?_,?_⟩,?_⟩<;>simp[LS.getBox,Lg.look,D.ids,D.idsL,LS.clean,D.tks,D.tksL,inTok,shC,anyV,idsL_i,tksL_i]) (lops_go 471 (fun (K:List Oper→LS→Prop) (hK:KOk S 471 _ _ _ K)=>?_));simp (disch:=(refine Om.mk ?_;omega)) only[go_sem,List.filter_cons,List.filter_nil,Bool.false_eq_true])|refine sw_n ?_|refine sw_go 471 kp43 fun K hK=>?_|refine sw_goT 471 kp43 13 (id:=3) (by kernel_rfl) fun K hK=>?_|refine sw_goT 471 kp43 13 (id:=7) (by kernel_rfl) fun K hK=>?_|refine fun (K:KT) (hK:KOk S 471 _ _ _ K)=>?_|refine sw_goD kp43 (by kernel_rfl) fun K hK=>?_|refine runL_g ?_|refine runQ_g ?_|refine sw_retg0 ?_|refine sw_retg ?_|(refine hK.n0 ?_;clear hK K)|refine runG_fk (fun h=>?_) fun h=>?_|refine runQG_fk (fun h=>?_) fun h=>?_|refine sw_condg rfl (fun h=>?_) fun h=>?_|refine hK.skp rfl rfl ?_|refine sw_loopEnd ?_|refine hK.c1 rfl rfl rfl (cL) ?_|refine hK.c1 rfl rfl rfl (cS) ?_|refine hK.c1 rfl rfl rfl (cF1) ?_|refine hK.c1 rfl rfl rfl (cF2) ?_|(refine hK.fork rfl rfl rfl ?_ ?_<;>intro h<;>try simp (disch:=(refine Om.mk ?_;omega)) only[go_sem] at h)|with_reducible refine and_o ?_|((with_reducible refine And.intro ?_ ?_);· first|(intro x hx;subst hx;rfl)|exact upR_mem fun _ _=>rfl|exact mapR_mem fun _ _=>rfl|(intro x;refine And.intro ?_ ?_<;>(intros;subst_vars;rfl)))|apply tTT
   all_goals (unfold RetN;simp only[go_sem];exact ret_le (le0_le (by simp[mapR,le0,le0L])) rfl fun f=>rfl)
  | true =>
   by_cases h0:sets=[]
   ·subst h0
    repeat' first|exact h.elim|(exfalso;omega)|(refine hK.raw ?_;clear hK K;refine LopsW.callW rfl rfl rfl hw hTB (cA) (by refine⟨⟨?_,?_,?_,?_,?_⟩,⟨?_,?_,?_,?_,?_⟩,?_⟩<;>simp[LS.getBox,Lg.look,D.ids,D.idsL,LS.clean,D.tks,D.tksL,inTok,shC,anyV,idsL_i,tksL_i]) (lops_go 471 (fun (K:List Oper→LS→Prop) (hK:KOk S 471 _ _ _ K)=>?_));simp (disch:=(refine Om.mk ?_;omega)) only[go_sem,List.filter_cons,List.filter_nil,Bool.false_eq_true])|refine sw_n ?_|refine sw_go 471 kp43 fun K hK=>?_|refine sw_goT 471 kp43 13 (id:=3) (by kernel_rfl) fun K hK=>?_|refine sw_goT 471 kp43 13 (id:=7) (by kernel_rfl) fun K hK=>?_|refine fun (K:KT) (hK:KOk S 471 _ _ _ K)=>?_|refine sw_goD kp43 (by kernel_rfl) fun K hK=>?_|refine runL_g ?_|refine runQ_g ?_|refine sw_retg0 ?_|refine sw_retg ?_|(refine hK.n0 ?_;clear hK K)|refine runG_fk (fun h=>?_) fun h=>?_|refine runQG_fk (fun h=>?_) fun h=>?_|refine sw_condg rfl (fun h=>?_) fun h=>?_|refine hK.skp rfl rfl ?_|refine sw_loopEnd ?_|refine hK.c1 rfl rfl rfl (cL) ?_|refine hK.c1 rfl rfl rfl (cS) ?_|refine hK.c1 rfl rfl rfl (cF1) ?_|refine hK.c1 rfl rfl rfl (cF2) ?_|(refine hK.fork rfl rfl rfl ?_ ?_<;>intro h<;>try simp (disch:=(refine Om.mk ?_;omega)) only[go_sem] at h)|with_reducible refine and_o ?_|((with_reducible refine And.intro ?_ ?_);· first|(intro x hx;subst hx;rfl)|exact upR_mem fun _ _=>rfl|exact mapR_mem fun _ _=>rfl|(intro x;refine And.intro ?_ ?_<;>(intros;subst_vars;rfl)))|apply tTT
    all_goals (unfold RetN;simp only[go_sem];exact ret_le (le0_le (by simp[mapR,le0,le0L])) rfl fun f=>rfl)
   ·have hpos:=List.length_pos_iff.2 h0
    have h3:¬ru.length≤300:=fun h=>hc ⟨rfl,h0,h⟩
    repeat' first|exact h.elim|(exfalso;omega)|(refine hK.raw ?_;clear hK K;refine LopsW.callW rfl rfl rfl hw hTB (cA) (by refine⟨⟨?_,?_,?_,?_,?_⟩,⟨?_,?_,?_,?_,?_⟩,?_⟩<;>simp[LS.getBox,Lg.look,D.ids,D.idsL,LS.clean,D.tks,D.tksL,inTok,shC,anyV,idsL_i,tksL_i]) (lops_go 471 (fun (K:List Oper→LS→Prop) (hK:KOk S 471 _ _ _ K)=>?_));simp (disch:=(refine Om.mk ?_;omega)) only[go_sem,List.filter_cons,List.filter_nil,Bool.false_eq_true])|refine sw_n ?_|refine sw_go 471 kp43 fun K hK=>?_|refine sw_goT 471 kp43 13 (id:=3) (by kernel_rfl) fun K hK=>?_|refine sw_goT 471 kp43 13 (id:=7) (by kernel_rfl) fun K hK=>?_|refine fun (K:KT) (hK:KOk S 471 _ _ _ K)=>?_|refine sw_goD kp43 (by kernel_rfl) fun K hK=>?_|refine runL_g ?_|refine runQ_g ?_|refine sw_retg0 ?_|refine sw_retg ?_|(refine hK.n0 ?_;clear hK K)|refine runG_fk (fun h=>?_) fun h=>?_|refine runQG_fk (fun h=>?_) fun h=>?_|refine sw_condg rfl (fun h=>?_) fun h=>?_|refine hK.skp rfl rfl ?_|refine sw_loopEnd ?_|refine hK.c1 rfl rfl rfl (cL) ?_|refine hK.c1 rfl rfl rfl (cS) ?_|refine hK.c1 rfl rfl rfl (cF1) ?_|refine hK.c1 rfl rfl rfl (cF2) ?_|(refine hK.fork rfl rfl rfl ?_ ?_<;>intro h<;>try simp (disch:=(refine Om.mk ?_;omega)) only[go_sem] at h)|with_reducible refine and_o ?_|((with_reducible refine And.intro ?_ ?_);· first|(intro x hx;subst hx;rfl)|exact upR_mem fun _ _=>rfl|exact mapR_mem fun _ _=>rfl|(intro x;refine And.intro ?_ ?_<;>(intros;subst_vars;rfl)))|apply tTT
    all_goals (unfold RetN;simp only[go_sem];exact ret_le (le0_le (by simp[mapR,le0,le0L])) rfl fun f=>rfl)
def kp18:List (Nat×List Nat):=[(0,[1,2]),(1,[1,2,6]),(2,[2,3]),(3,[2,3])]
attribute [go_sem] kp18 Tryz.results18 Tryz.ntmps18
theorem implNormalAuto_fc (p:List Nat) (hp:p≠[]) (x:SystemT):FCw S TabW 18 [] [] [] [SystemD x] (.tup [AutoL p (normR x).1,.bool (normR x).2]) [] []:=by
 have cL:=implLeftLinearIn_fc x
 refine fcbW Tryz.func18 rfl fun B hw hTB hI hpan=>?_
 by_cases h:LeftP x
 ·rw[tst_true h] at cL
  have cI:=normalAutoI_fc p hp x h
  generalize normR x=rR at *
  repeat' first|exact h.elim|(exfalso;omega)|(refine hK.raw ?_;clear hK K;refine LopsW.callW rfl rfl rfl hw hTB (cI) (by refine⟨⟨?_,?_,?_,?_,?_⟩,⟨?_,?_,?_,?_,?_⟩,?_⟩<;>simp[LS.getBox,Lg.look,D.ids,D.idsL,LS.clean,D.tks,D.tksL,inTok,AutoL,TransSL,Int64SL]) (lops_go 0 (fun (K:List Oper→LS→Prop) (hK:KOk S 0 _ _ _ K)=>?_));simp (disch:=(refine Om.mk ?_;omega)) only[go_sem,List.filter_cons,List.filter_nil,Bool.false_eq_true])|refine sw_n ?_|refine sw_go 0 kp18 fun K hK=>?_|refine fun (K:KT) (hK:KOk S 0 _ _ _ K)=>?_|refine runL_g ?_|refine sw_retg0 ?_|refine sw_retg ?_|(refine hK.n0 ?_;clear hK K)|refine sw_condg rfl (fun h=>?_) fun h=>?_|refine sw_loopEnd ?_|refine hK.c1 rfl rfl rfl (cL) ?_|with_reducible refine and_o ?_|((with_reducible refine And.intro ?_ ?_);· first|(intro x hx;subst hx;rfl)|exact upR_mem fun _ _=>rfl|exact mapR_mem fun _ _=>rfl|(intro x;refine And.intro ?_ ?_<;>(intros;subst_vars;rfl)))|apply tTT
  all_goals (unfold RetN;simp only[go_sem];exact ret_plain rfl fun f=>rfl)
 ·rw[tst_false h] at cL
  rw[normR_no h]
  repeat' first|exact h.elim|(exfalso;omega)|refine sw_n ?_|refine sw_go 0 kp18 fun K hK=>?_|refine fun (K:KT) (hK:KOk S 0 _ _ _ K)=>?_|refine runL_g ?_|refine sw_retg0 ?_|refine sw_retg ?_|(refine hK.n0 ?_;clear hK K)|refine sw_condg rfl (fun h=>?_) fun h=>?_|refine sw_loopEnd ?_|refine hK.c1 rfl rfl rfl (cL) ?_|with_reducible refine and_o ?_|((with_reducible refine And.intro ?_ ?_);· first|(intro x hx;subst hx;rfl)|exact upR_mem fun _ _=>rfl|exact mapR_mem fun _ _=>rfl|(intro x;refine And.intro ?_ ?_<;>(intros;subst_vars;rfl)))|apply tTT
  all_goals (unfold RetN;simp only[go_sem];exact ret_le (le0_le (by simp[mapR,le0,le0L])) rfl fun f=>rfl)
end Go.Proofs.YtcbgmeegbjokpaaGreatDoor
end
section
namespace Go.Lg
open Go Go.RowKit
theorem FCw.args {S:Setup} {T:World→Prop} {f:FuncId} {ro bx bx':List (Nat×List D)} {tk tk':List Nat} {args args':List D} {d:D} (h:FCw S T f ro bx tk args' d bx' tk') (hle:leL args args'):FCw S T f ro bx tk args d bx' tk':=⟨h.1,fun w G vals hT hs=>by
 have hl:=leL_len hle
 refine h.2 w G vals hT ⟨hs.defers,by rw[←hl];exact hs.size,fun t d hd=>?_,hs.W,hs.fixed⟩
 simp only[look_enumD,Nat.zero_le,if_true,Nat.sub_zero] at hd
 obtain⟨a,ha,hle'⟩:=leL_get hle t d hd
 obtain⟨v,h1,h2⟩:=hs.env t a (by simpa only[look_enumD,Nat.zero_le,if_true,Nat.sub_zero] using ha)
 exact⟨v,h1,h2.le hle'⟩⟩
theorem law_contractW {H:Type} {enc:TypeId×Value→H} (S:Setup) {T:World→Prop} {f:FuncId} {fn:Func} {s:ChangeSpec} {ts:List TypeId} {tb m:Nat} (hl:laidOutB S.P=true) (hts:fn.params.toList=ts) (hcl:∀t∈ts,clB S.tab m t=true) (hrd:∀t∈ts,S.P.readableRec t=true∧t<S.P.types.size)
  (hres:fn.resultTypes=#[tb]) (hb:S.P.underlying tb=some .bool) (hvars:s.vars=[]) (hspec:∀ds:List (DataW H),ds.length=ts.length→s.fn H ds={results:=[.lit (.bool true)],args:=ds})
  (hfc:∀args:List D,args.length=ts.length→(∀(j:Nat) t d,ts[j]?=some t→args[j]?=some d→∃i cs,S.tab t=some i∧cs.length=i.size∧WC S t cs∧d=ofCells i cs)→FCw S T f [] [] [] args (.bool true) [] [])
  {apart fresh handsOn again:Bool} {W:World} {base:Nat} {args:Array Value} {ds gs:List (DataW H)} {before:List MemPlace}
  (hT:∀w2:World,(∀b,b<W.heap.size→w2.heap[b]?=W.heap[b]?)→W.heap.size≤w2.heap.size→T w2) (hval:∀(j:Nat) t v,fn.params[j]?=some t→args[j]?=some v→Value.okWide S.P W .any base t v) (hW:DataW.Whole enc S.P fn.params.toList s.vars apart W args.toList ds gs before) :
  Calls S.P f args W fun e W'=>∃v,e=.returned v∧s.post enc S.P fn apart fresh handsOn again W args v W':=by
 have hW0:=hW
 have hlt:=hW.lt
 rw[hts,hvars] at hW
 obtain⟨p,q,hA,hV,rfl,hz,hn⟩:=hW
 obtain⟨rfl,rfl⟩:gs=[]∧q=[]:=by
  cases gs with
  | nil=>exact⟨rfl,hV⟩
  | cons _ _=>simp[DataW.TrodVars] at hV
 simp only[List.append_nil] at hz hn hlt hW0
 obtain⟨k1,k0,ads,k2,k3,k4⟩:=args_open (S:=S) hA (fun j t v ht hv=>hval j t v (by rw[←hts] at ht;simpa using ht) (by simpa using hv)) hcl
 refine(fcw_open (hfc ads k2 k3) hT (vals:=args) (by rw[k2,←k1];simp) (fun j d v hd hv=>k4 j d v hd (by simpa using hv))).mono ?_
 rintro e W' ⟨v,G',rfl,hr,hbel⟩
 cases hr
 refine⟨_,rfl,ds,[],p,[],p,[],hW0,?_,?_,?_,?_,fun _=>⟨?_,?_⟩⟩
 ·rw[hres,List.append_nil,hspec ds k0]
  exact⟨[],[],shut_bool hb true,rfl,rfl⟩
 ·rw[hts,List.append_nil,hspec ds k0]
  exact args_stay hl hbel _ hA hrd (fun x hx=>⟨hlt x hx,by simpa using hlt x hx⟩)
 ·rw[hvars,List.append_nil,hspec ds k0]
  exact rfl
 ·exact hbel.frame _
 ·exact ok_one hres rfl (okWide_bool_mk hb true)
 ·refine⟨[.lit (.bool true)]++ds,[],[]++p,?_,fun x hx _=>by simpa using hx⟩
  refine⟨[]++p,[],?_,by rw[hvars];exact rfl,by simp,fun b off hx=>?_,fun ha=>by simpa using hn ha⟩
  ·rw[hts,hres]
   exact trod_app (ts:=[tb]) (vs:=[.bool true]) ⟨[],[],shut_bool hb true,rfl,rfl⟩ (args_stay hl hbel _ hA hrd (fun x hx=>⟨hlt x hx,rfl⟩))
  ·have hx':MemPlace.cell b off∈p:=by simpa using hx
   rw[hbel.frozen (hlt _ hx')]
   exact hz b off hx'
end Go.Lg
namespace Go.Proofs.YtcbgmeegbjokpaaGreatDoor
open Go Go.Lg
set_option linter.unusedSimpArgs false
set_option linter.unusedVariables false
set_option maxHeartbeats 4000000
theorem tab_of_laid {W:World} {a b:DataW Unit} {na nb:String} (h:laidMet Tryz.prog [(na,a),(nb,b),("internal/strconv.uint64pow10", Lib.tabData .u64 Lib.pow10Tab)] W):∀w2:World,(∀b,b<W.heap.size→w2.heap[b]?=W.heap[b]?)→W.heap.size≤w2.heap.size→TabW w2:=by
 have h1:Lib.TabIs Tryz.prog W "internal/strconv.uint64pow10" .u64 Lib.pow10Tab:=Lib.tabIs_of_head (g:=0) (by kernel_rfl) (by kernel_rfl) Tryz.underlying209 Tryz.underlying161 (by kernel_rfl) (by kernel_rfl) h.tail.tail
 intro w2 h2 _
 show Lib.TabIs Tryz.prog w2 "internal/strconv.uint64pow10" .u64 Lib.pow10Tab
 unfold Lib.TabIs World.var? at *
 cases hg:Program.globalNamed Tryz.prog "internal/strconv.uint64pow10" with
 | none=>simp[hg] at h1
 | some g =>
  simp only[hg,Option.bind_some] at h1 ⊢
  have hlt:g<W.heap.size:=by
   rcases Nat.lt_or_ge g W.heap.size with h'|h'
   ·exact h'
   ·rw[Array.getElem?_eq_none h'] at h1;simp at h1
  rw[h2 g hlt]
  exact h1
end Go.Proofs.YtcbgmeegbjokpaaGreatDoor
end
section
namespace Go.Proofs.YtcbgmeegbjokpaaGreatDoor
open Go Go.Lg
set_option linter.unusedSimpArgs false
set_option linter.unusedVariables false
abbrev Cnt:=Nat→Nat→Int
def mx (n:Int):Int:=if n≤1000000000 then n else 1000000000
theorem mx_range {n:Int} (h:0≤n):0≤mx n∧mx n≤1000000000:=by unfold mx;split<;>omega
theorem mx_id {n:Int} (h:n≤1000000000):mx n=n:=if_pos h
def sumW (F:Nat→Int) (g:Cnt) (q:Nat) (n:Nat):Nat→Int
 | 0=>0
 | k+1=>mx (sumW F g q n k+g q (k+1)*F (n-(k+1)))
def waysM (g:Cnt):List Int→Nat→Int
 | [],n=>if n=0 then 1 else 0
 | q::r,n=>sumW (waysM g r) g q.toNat n n
def CntOk (g:Cnt):Prop:=∀q j,0≤g q j∧g q j≤1000000000
theorem prod_le {a b:Int} (ha:0≤a∧a≤1000000000) (hb:0≤b∧b≤1000000000):0≤a*b∧a*b≤1000000000000000000:=by
 refine⟨Int.mul_nonneg ha.1 hb.1,?_⟩
 have h1:a*b≤1000000000*b:=Int.mul_le_mul_of_nonneg_right ha.2 hb.1
 omega
theorem sumW_range {F:Nat→Int} {g:Cnt} (hg:CntOk g) (hF:∀n,0≤F n∧F n≤1000000000) (q n:Nat):∀k,0≤sumW F g q n k∧sumW F g q n k≤1000000000
 | 0=>by simp[sumW]
 | k+1=>by
  have ih:=sumW_range hg hF q n k
  have:=prod_le (hg q (k+1)) (hF (n-(k+1)))
  exact mx_range (by omega)
theorem waysM_range {g:Cnt} (hg:CntOk g):∀(l:List Int) (n:Nat),0≤waysM g l n∧waysM g l n≤1000000000
 | [],n=>by unfold waysM;split<;>omega
 | q::r,n=>sumW_range hg (waysM_range hg r) _ _ _
theorem sumW_skip {F:Nat→Int} {g:Cnt} (hg:CntOk g) (hF:∀n,0≤F n∧F n≤1000000000) (q n k:Nat) (h:¬g q (k+1)>0):sumW F g q n (k+1)=sumW F g q n k:=by
 have h1:=(hg q (k+1)).1
 have h0:g q (k+1)=0:=by omega
 simp only[sumW,h0,Int.zero_mul,Int.add_zero]
 exact mx_id (sumW_range hg hF q n k).2
theorem mx_add {a b:Int} (ha:0≤a) (hb:0≤b):mx (a+mx b)=mx (a+b):=by
 unfold mx
 repeat' split
 all_goals omega
def rowF (a:AutoT) (g:Cnt) (k:Nat):Nat→Nat→Int
 | 0,_=>0
 | i+1,q=>if q=(a.rules.getD i default).to.toNat then mx (rowF a g k i q+waysM g (a.rules.getD i default).args (k-1)) else rowF a g k i q
theorem rowF_range {a:AutoT} {g:Cnt} (hg:CntOk g) (k:Nat):∀i q,0≤rowF a g k i q∧rowF a g k i q≤1000000000
 | 0,q=>by simp[rowF]
 | i+1,q=>by
  have ih:=rowF_range (a:=a) hg k i q
  have:=waysM_range hg (a.rules.getD i default).args (k-1)
  unfold rowF
  split
  ·exact mx_range (by omega)
  ·exact ih
def tabG (a:AutoT):Nat→Cnt
 | 0=>fun _ _=>0
 | k+1=>fun q j=>if j=k+1 then rowF a (tabG a k) (k+1) a.rules.length q else tabG a k q j
theorem tabG_ok (a:AutoT):∀k,CntOk (tabG a k)
 | 0=>fun q j=>by simp[tabG]
 | k+1=>fun q j=>by
  unfold tabG
  split
  ·exact rowF_range (tabG_ok a k) _ _ _
  ·exact tabG_ok a k q j
theorem tabG_above (a:AutoT):∀k q j,k<j→tabG a k q j=0
 | 0,_,_,_=>rfl
 | k+1,q,j,h=>by
  unfold tabG
  rw[if_neg (by omega)]
  exact tabG_above a k q j (by omega)
theorem tabG_next (a:AutoT) (k q j:Nat) (h:j≤k):tabG a (k+1) q j=tabG a k q j:=by
 conv=>lhs;unfold tabG
 rw[if_neg (by omega)]
theorem tabG_row (a:AutoT) (k q:Nat):tabG a (k+1) q (k+1)=rowF a (tabG a k) (k+1) a.rules.length q:=by
 conv=>lhs;unfold tabG
 rw[if_pos rfl]
def sumF (g:Nat→Int) (l:List Int):Nat→Int
 | 0=>0
 | i+1=>mx (sumF g l i+g (l.getD i default).toNat)
theorem sumF_range {g:Nat→Int} (hg:∀q,0≤g q∧g q≤1000000000) (l:List Int):∀i,0≤sumF g l i∧sumF g l i≤1000000000
 | 0=>by simp[sumF]
 | i+1=>by
  have ih:=sumF_range hg l i
  have:=hg (l.getD i default).toNat
  exact mx_range (by omega)
open Classical in
noncomputable def countR (rs:List Int) (a:AutoT) (n:Int):Int:=if (AutoOkP rs a∧SureP a)∧1≤n∧n≤60 then sumF (fun q=>tabG a n.toNat q n.toNat) a.final a.final.length else -1
def rowL (f:Nat→Int) (n:Nat):List Int:=(List.range n).map f
theorem rowL_len (f:Nat→Int) (n:Nat):(rowL f n).length=n:=by simp[rowL]
theorem rowL_get (f:Nat→Int) {n q:Nat} (h:q<n):(rowL f n).getD q default=f q:=by simp[rowL,List.getD,h]
theorem rowL_set (f:Nat→Int) (n i:Nat) (v:Int):(rowL f n).set i v=rowL (fun q=>if q=i then v else f q) n:=by
 refine List.ext_getElem (by simp[rowL]) fun j h1 h2=>?_
 simp only[rowL,List.getElem_set,List.getElem_map,List.getElem_range]
 by_cases e:i=j
 ·rw[if_pos e,if_pos e.symm]
 ·rw[if_neg e,if_neg fun h=>e h.symm]
theorem rowL_congr {f g:Nat→Int} {n:Nat} (h:∀q<n,f q=g q):rowL f n=rowL g n:=List.map_congr_left fun q hq=>h q (List.mem_range.1 hq)
theorem rowL_zero (n:Nat):rowL (fun _=>0) n=List.replicate n 0:=by
 refine List.ext_getElem (by simp[rowL]) fun j h1 h2=>by simp[rowL]
theorem row_step (a:AutoT) (g:Cnt) (k i s:Nat) (h:(a.rules.getD i default).to.toNat<s):(rowL (rowF a g k i) s).set (a.rules.getD i default).to.toNat (mx ((rowL (rowF a g k i) s).getD (a.rules.getD i default).to.toNat default+waysM g (a.rules.getD i default).args (k-1)))=rowL (rowF a g k (i+1)) s:=by
 rw[rowL_get _ h,rowL_set]
 refine rowL_congr fun q _=>?_
 by_cases e:q=(a.rules.getD i default).to.toNat
 ·rw[if_pos e,rowF,if_pos e,e]
 ·rw[if_neg e,rowF,if_neg e]
def manyL (a:AutoT) (k:Nat) (n:Nat):List (List Int):=(List.range (k+1)).map fun j=>rowL (fun q=>tabG a k q j) n
theorem manyL_len (a:AutoT) (k n:Nat):(manyL a k n).length=k+1:=by simp[manyL]
theorem manyL_get (a:AutoT) (k n:Nat) {j:Nat} (h:j≤k):(manyL a k n).getD j default=rowL (fun q=>tabG a k q j) n:=by
 have:j<k+1:=by omega
 simp[manyL,List.getD,this]
theorem manyL_succ (a:AutoT) (k n:Nat):manyL a (k+1) n=manyL a k n++[rowL (rowF a (tabG a k) (k+1) a.rules.length) n]:=by
 unfold manyL
 rw[List.range_succ,List.map_append]
 congr 1
 ·refine List.map_congr_left fun j hj=>rowL_congr fun q _=>?_
  have:=List.mem_range.1 hj
  exact tabG_next a k q j (by omega)
 ·simp only[List.map_cons,List.map_nil]
  congr 1
  exact rowL_congr fun q _=>tabG_row a k q
def gridL (g:Cnt):List Int:=rowL (fun m=>g (m / 61) (m%61)) 976
theorem gridL_len (g:Cnt):(gridL g).length=976:=rowL_len _ _
theorem gridL_get (g:Cnt) {q j:Nat} (hq:q<16) (hj:j≤60):(gridL g).getD (q*61+j) default=g q j:=by
 rw[gridL,rowL_get _ (by omega)]
 rw[show (q*61+j) / 61=q by omega,show (q*61+j)%61=j by omega]
theorem gridL_set (g:Cnt) {q j:Nat} (hq:q<16) (hj:j≤60) (v:Int):(gridL g).set (q*61+j) v=gridL fun p i=>if p=q∧i=j then v else g p i:=by
 rw[gridL,rowL_set]
 refine rowL_congr fun m hm=>?_
 show (if m=q*61+j then v else g (m / 61) (m%61))=if m / 61=q∧m%61=j then v else g (m / 61) (m%61)
 by_cases e:m=q*61+j
 ·rw[if_pos e,if_pos (by omega)]
 ·rw[if_neg e,if_neg (by omega)]
theorem gridL_zero:gridL (fun _ _=>0)=List.replicate 976 0:=rowL_zero _
def midG (a:AutoT) (k i:Nat):Cnt:=fun q j=>if j=k+1 then rowF a (tabG a k) (k+1) i q else tabG a k q j
theorem midG_zero (a:AutoT) (k:Nat):gridL (midG a k 0)=gridL (tabG a k):=by
 refine rowL_congr fun m _=>?_
 unfold midG
 split
 ·rename_i e
  rw[e,tabG_above a k _ _ (by omega)];rfl
 ·rfl
theorem midG_all (a:AutoT) (k:Nat):midG a k a.rules.length=tabG a (k+1):=by
 funext q j
 unfold midG
 conv=>rhs;unfold tabG
theorem midG_succ (a:AutoT) (k i:Nat):(fun p j=>if p=(a.rules.getD i default).to.toNat∧j=k+1 then mx (rowF a (tabG a k) (k+1) i p+waysM (tabG a k) (a.rules.getD i default).args k) else midG a k i p j)=midG a k (i+1):=by
 funext p j
 unfold midG
 by_cases h:j=k+1
 ·by_cases h2:p=(a.rules.getD i default).to.toNat
  ·rw[if_pos ⟨h2,h⟩,if_pos h];simp only[rowF,if_pos h2];rfl
  ·rw[if_neg fun e=>h2 e.1,if_pos h,if_pos h];simp only[rowF,if_neg h2]
 ·rw[if_neg fun e=>h e.2,if_neg h,if_neg h]
theorem midG_ok (a:AutoT) (k i:Nat):CntOk (midG a k i):=fun q j=>by
 unfold midG
 split
 ·exact rowF_range (tabG_ok a k) _ _ _
 ·exact tabG_ok a k q j
theorem sumW_congr {F F':Nat→Int} {g g':Cnt} {q n:Nat}:∀k,(∀j,1≤j→j≤k→g q j=g' q j)→(∀j,j<n→F j=F' j)→k≤n→sumW F g q n k=sumW F' g' q n k
 | 0,_,_,_=>rfl
 | k+1,h1,h2,h3=>by
  simp only[sumW]
  rw[sumW_congr k (fun j a b=>h1 j a (by omega)) h2 (by omega),h1 (k+1) (by omega) (by omega),h2 (n-(k+1)) (by omega)]
theorem waysM_congr {g g':Cnt}:∀(l:List Int) (n:Nat),(∀q∈l,∀j≤n,g q.toNat j=g' q.toNat j)→waysM g l n=waysM g' l n
 | [],n,_=>rfl
 | q::r,n,h=>by
  unfold waysM
  refine sumW_congr n (fun j _ hj=>h q List.mem_cons_self j hj) (fun j hj=>waysM_congr r j fun x hx i hi=>h x (List.mem_cons_of_mem _ hx) i (by omega)) (Nat.le_refl _)
theorem ways_mid (a:AutoT) (k i:Nat) (l:List Int):waysM (midG a k i) l k=waysM (tabG a k) l k:=waysM_congr l k fun q _ j hj=>by
 unfold midG
 rw[if_neg (by omega)]
theorem zk_rep (n:Nat):(List.replicate n (ZK.int .i64)).map ZK.d=(List.replicate n (0:Int)).map (D.int .i64):=by
 rw[List.map_replicate,List.map_replicate];rfl
theorem grid0 (a:AutoT):(List.replicate 976 (ZK.int .i64)).map ZK.d=(gridL (tabG a 0)).map (.int .i64):=(zk_rep 976).trans (congrArg _ gridL_zero.symm)
theorem grid1 (a:AutoT) (k:Nat):(gridL (tabG a k)).map (D.int .i64)=(gridL (midG a k 0)).map (.int .i64):=congrArg _ (midG_zero a k).symm
theorem grid_step (a:AutoT) (k i:Nat) (h:(a.rules.getD i default).to.toNat<16) (hk:k+1≤60):(gridL (midG a k i)).set ((a.rules.getD i default).to.toNat*61+(k+1)) (mx ((gridL (midG a k i)).getD ((a.rules.getD i default).to.toNat*61+(k+1)) default+waysM (midG a k i) (a.rules.getD i default).args k))=gridL (midG a k (i+1)):=by
 rw[gridL_get _ h hk,gridL_set _ h hk,ways_mid,←midG_succ]
 refine congrArg gridL (funext fun p=>funext fun j=>?_)
 by_cases e:p=(a.rules.getD i default).to.toNat∧j=k+1
 ·rw[if_pos e,if_pos e,e.1]
  unfold midG
  rw[if_pos rfl]
 ·rw[if_neg e,if_neg e]
end Go.Proofs.YtcbgmeegbjokpaaGreatDoor
end
section
namespace Go.Lg
open Go
theorem LopsW.stepO {S:Setup} {B:Base} {ops:Array Oper} {o:Oper} {l:List Oper} {L:LS} {K:LS→Prop} (hg:guardY ops L o.guard=some true) (h:opY S o.op (evalO L) L.getBox fun d=>dstOk o.dst L∧LopsW S B ops l (L.putO o.dst d) K):LopsW S B ops (o::l) L K:=by
 intro G a w hs Q hQ
 refine wpList_step fun N hN=>?_
 rw[if_pos (guardY_sound (S:=S) rfl hs hg)]
 obtain⟨d,⟨hd,hK⟩,hy⟩:=opY_sound hs h
 exact hy _ _ fun v G' w' h1 h2 _=>hN _ w' (hK G' _ w' (h1.putO (fun t' e=>by subst_vars;rw[e] at hd;exact hd) h2) Q hQ)
theorem sw_freezeMk {S:Setup} {B:Base} {R:LS→Prop} {k:List VItem} {L:LS} (rid t s:Nat) (tk:Tk) {id n:Nat} {cs:List D} (xs:List D) {ops:Array Oper} {dr:Bool} (ht:look L.env t=some (.ms id n)) (hb:look L.boxes id=some cs) (hx:cs=flat xs) (hn:n=xs.length)
  (hu:∀x∈xs,x.cells.length=s) (hk:∀d∈cs,d.memOk=true) (htk:tk=.any∨tk=.nn) (hh:SW S B R (.code (.region rid ops dr)::k) {L with env:=setA L.env t (.sl tk xs),boxes:=eraseK id L.boxes}):SW S B R (.code (.region rid ops dr)::k) L :=
 sw_freeze t s tk xs ht hb hx hn hu hk htk hh
theorem pu_intsK (f:Nat→Bool) (ys:List Int):(ys.map (D.int .i64)).map (D.pu1 f)=ys.map (.int .i64):=by
 rw[List.map_map];rfl
theorem tksL_intsK (ys:List Int):D.tksL (ys.map (D.int .i64))=[]:=by
 induction ys with
 | nil=>rfl
 | cons y r ih=>simp only[List.map_cons,D.tksL,ih];rfl
theorem idsL_intsK (ys:List Int):D.idsL (ys.map (D.int .i64))=[]:=by
 induction ys with
 | nil=>rfl
 | cons y r ih=>simp only[List.map_cons,D.idsL,ih];rfl
theorem sw_opY3 {S:Setup} {B:Base} {R:LS→Prop} {k:List VItem} {L:LS} (base:Nat) (kp:List (Nat×List Nat)) {rid:Nat} {o1 o2 o3:Oper} {rest:List Oper} (g1:o1.guard=none) (g2:o2.guard=none) (g3:o3.guard=none)
  (h:opY S o1.op (evalO L) L.getBox fun d1=>dstOk o1.dst L∧opY S o2.op (evalO (L.putO o1.dst d1)) (L.putO o1.dst d1).getBox fun d2=>dstOk o2.dst (L.putO o1.dst d1) ∧
   opY S o3.op (evalO ((L.putO o1.dst d1).putO o2.dst d2)) ((L.putO o1.dst d1).putO o2.dst d2).getBox fun d3=>dstOk o3.dst ((L.putO o1.dst d1).putO o2.dst d2) ∧
   ∀K:List Oper→LS→Prop,KOk S base B (o1::o2::o3::rest).toArray (fun L'=>SW S B R k (L'.keepAt kp rid)) K→runL S base (o1::o2::o3::rest).toArray K rest (((L.putO o1.dst d1).putO o2.dst d2).putO o3.dst d3)) :
  SW S B R (.code (.region rid (o1::o2::o3::rest).toArray false)::k) L:=by
 obtain⟨d1,⟨e1,h⟩,p1⟩:=pick_opY S o1.op _ _ _ h
 obtain⟨d2,⟨e2,h⟩,p2⟩:=pick_opY S o2.op _ _ _ h
 obtain⟨d3,⟨e3,h⟩,p3⟩:=pick_opY S o3.op _ _ _ h
 have hs:∀l' L',runL S base (o1::o2::o3::rest).toArray (fun l' L'=>LopsW S B (o1::o2::o3::rest).toArray l' L' (fun L2=>SW S B R k L2)) l' L'→LopsW S B (o1::o2::o3::rest).toArray l' L' (fun L2=>SW S B R k L2) :=
  runL_sound (base:=base) (K':=fun l' L'=>LopsW S B (o1::o2::o3::rest).toArray l' L' (fun L2=>SW S B R k L2)) (fun _ _ h=>h)
 refine sw_region (LopsW.stepO (by rw[g1];rfl) (p1 _ ⟨e1,LopsW.stepO (by rw[g2];rfl) (p2 _ ⟨e2,LopsW.stepO (by rw[g3];rfl) (p3 _ ⟨e3,hs _ _ (h _ ?_)⟩)⟩)⟩))
 exact {
  nil:=fun h=>LopsW.nil (sw_keepAt kp rid h)
  raw:=fun h=>h.mono fun _ h'=>sw_keepAt kp rid h'
  weak:=fun hc h=>LopsW.weak hc (hs _ _ h)
  split:=fun t _ ht h1 h0=>LopsW.split t ht (fun e=>hs _ _ (h1 e)) (fun e=>hs _ _ (h0 e))
  skip:=fun hg hd h=>LopsW.skip hg hd (hs _ _ h)
  call:=fun hg _ _ _ _ _ hf hds fc hside h=>LopsW.call hg hf hds fc hside (hs _ _ h)
  callV:=fun hg _ _ _ _ _ hf hds fc hside h=>LopsW.callV hg hf hds fc hside (hs _ _ h)
  callB:=fun hg _ _ _ _ _ _ _ _ _ hf hds fc hside h=>LopsW.callB hg hf hds fc hside (hs _ _ h)
  callT:=fun hg _ _ _ _ _ _ _ hf hds fc hside h=>LopsW.callTi hg (base+_) hf hds fc hside (hs _ _ h)
  callM:=fun hg _ _ _ _ _ _ _ hf hds fc hside h=>LopsW.callM hg (base+_) hf hds fc hside (hs _ _ h)}
end Go.Lg
end
