/-
  N10, N11, A23f, A23g, N14p, A23h, one behind the other.
-/
import Derived.Test.YtkfkdgginfpdnaaGreatDoorG8
import Derived.Test.YtkfkdgginfpdnaaGreatDoorG5
import Derived.Test.YtkfkdgginfpdnaaGreatDoorLgK9
import Derived.Test.YtkfkdgginfpdnaaGreatDoorG2
import Derived.Test.YtkfkdgginfpdnaaGreatDoorLgK6
import Derived.Test.YtkfkdgginfpdnaaGreatDoorLgK7
import Derived.MakeChecks
import Derived.Stop.LaidErr
import Derived.LaidHandle
import Derived.Lib.LaidTab
import Derived.Test.YtkfkdgginfpdnaaGreatDoorG0
import Derived.Test.YtkfkdgginfpdnaaGreatDoorG1
import Derived.Test.YtkfkdgginfpdnaaGreatDoorG6
section
namespace Go.Proofs.YtkfkdgginfpdnaaGreatDoor
open Go Go.Lg
set_option linter.unusedSimpArgs false
set_option linter.unusedVariables false
set_option maxHeartbeats 4000000
attribute [local irreducible] Lg.SW runL runQ runG runQG FC FCw Ret1 RetN toF redoL anyB
theorem anyV_shT (o:Nat):anyV.shT o=anyV:=rfl
theorem anyV_ids:anyV.ids=[]:=rfl
theorem anyV_tks:anyV.tks=[]:=rfl
theorem anyV_pu (p:Nat→Bool):anyV.pu p=anyV:=rfl
attribute [local go_sem] shC anyV_shT anyV_ids anyV_tks
attribute [local go_sem high] anyV_pu
theorem ret_le {L:LS} {d d0:D} (h:D.le d0 d) (h1:d.tks=[]) (h2:∀f,d.mT f=d):RetK d [] 0 L d0:=⟨[],d,h,⟨rfl,List.nodup_nil⟩,by simp,by rw[h1];simp,h2 _,by simp⟩
theorem sortKN:SortKit S.P 148 149:=sortKit_of Tryz.sortT ⟨_,Tryz.func149,by kernel_rfl,rfl⟩
theorem forms_ok {rs:List Int} {SH ts:List (List Int)} (hsg:SigOkP rs) (h:ts.length≤1000):∀f<rs.length,FormsOk (f:Int) (rs.getD f default).toNat (ts.map (formR rs SH)):=fun f hf=>by
 refine⟨by simpa using h,fun i hi=>?_⟩
 rw[List.length_map] at hi
 rw[getD_map' hi]
 have hl:∀t,((formR rs SH t).args).length=(arS rs (t.getD 0 default)).toNat:=fun t=>by unfold formR;rw[List.length_map,argsS_len]
 refine⟨?_,fun e=>?_⟩
 ·rw[hl]
  generalize (ts.getD i default).getD 0 default=n
  unfold arS
  split
  ·simp
  ·split
   ·have:=hsg.2 n.toNat (by omega);omega
   ·simp
 ·have e:(ts.getD i default).getD 0 default=(f:Int):=e
  rw[hl,e]
  unfold arS
  rw[if_neg (by omega),if_pos (by omega)]
  simp
theorem symsK_nil (rs:List Int):symsK rs []=List.range rs.length:=by
 unfold symsK
 rw[List.filter_eq_self]
 intro f _
 simp
theorem prog_auto {rs:List Int} {SH ls:List (List Int)} {sets:List (List Int)} {ru:List TransT} {ok:Bool} (h:iterA (imgH rs SH ls) (fun n=>evK rs [] n rs.length) 18 []=(sets,ru,ok)):(ok=true∧sets≠[]∧ru.length≤300→autoN rs SH ls (List.range rs.length)=(⟨(sets.length:Int),ru,upTo sets.length⟩,true)∧sets.length≤16)∧(¬(ok=true∧sets≠[]∧ru.length≤300)→autoN rs SH ls (List.range rs.length)=(⟨0,[],[]⟩,false)):=by
 have hE:(fun n=>evK rs [] n rs.length)=evY rs (List.range rs.length):=funext fun n=>by rw[evK_all,symsK_nil]
 rw[hE] at h
 obtain⟨h1,h2⟩:=iterA_eq (I:=imgH rs SH ls) (E:=evY rs (List.range rs.length)) 18 [] (by simp)
 rw[h] at h1 h2
 dsimp only at h1 h2
 obtain⟨s,b,hz⟩:∃s b,iterZ (imgH rs SH ls) (evY rs (List.range rs.length)) 18 []=(s,b):=⟨_,_,rfl⟩
 obtain⟨hy,hn⟩:=autoN_eq hz
 have h16:=iterZ_le (I:=imgH rs SH ls) (E:=evY rs (List.range rs.length)) 18 [] (by simp)
 have hcl:=iterZ_closed (I:=imgH rs SH ls) (E:=evY rs (List.range rs.length)) 18 [] (by simp)
 rw[hz] at h1 h2 h16 hcl
 dsimp only at h1 h2 h16 hcl
 subst h1
 cases ok with
 | false=>exact⟨fun h=>absurd h.1 (by simp),fun _=>hn (fun h=>by cases h.1)⟩
 | true =>
  obtain⟨rfl,rfl⟩:=h2 rfl
  have htr:=trZ_trS _ (hcl rfl)
  rw[htr] at hy hn
  exact⟨fun h=>⟨hy rfl h.2.1 h.2.2,h16⟩,fun h=>hn h⟩
theorem firstPermL_fc (q:List Nat) (hq:q≠[]) (n:Nat) (hn:n≤1000):FC S 123 [] [] [] [.int .i64 n] (Int64SL q (upTo n)) [] []:=by
 refine fcb Tryz.func123 fun B=>?_
 repeat' first|exact h.elim|refine sw_n ?_|refine sw_go 0 kp123 fun K hK=>?_|refine fun (K:KT) (hK:KOk S 0 _ _ _ K)=>?_|refine runL_g ?_|refine sw_retg0 ?_|refine sw_retg ?_|(refine hK.n0 ?_;clear hK K)|refine sw_condg rfl (fun h=>?_) fun h=>?_|refine sw_exit rfl ?_|refine sw_loopEnd ?_|with_reducible refine and_o ?_|((with_reducible refine And.intro ?_ ?_);· first|(intro x hx;subst hx;rfl)|exact upR_mem fun _ _=>rfl|exact mapR_mem fun _ _=>rfl|(intro x;refine And.intro ?_ ?_<;>(intros;subst_vars;rfl)))|apply tTT
 refine sw_loopU (ι:=Nat) (fun p=>[(9,.int .i64 p)]) (fun p=>[(6,(fillU n p).map (.int .i64))]) (fun p=>p≤n) (fun p=>n-p) 0 (by(refine covers_mk0 rfl rfl ?_ ?_ ?_ ?_<;>simp (disch:=(refine Om.mk ?_;omega)) only[go_sem]<;>(try omega));all_goals first|(rw[flatten_one,fillU,upTo];simp;done)|(simp;done)) ?_ (fun p hp=>?_)
 rotate_left
 simp only[go_sem]
 have hl:=fillU_len n p hp
 have hs:=fillU_set n p
 by_cases hpn:p<n
 ·repeat' first|exact h.elim|(exfalso;omega)|refine sw_n ?_|refine sw_go 0 kp123 fun K hK=>?_|refine fun (K:KT) (hK:KOk S 0 _ _ _ K)=>?_|refine runL_g ?_|refine sw_retg0 ?_|refine sw_retg ?_|(refine hK.n0 ?_;clear hK K)|refine sw_condg rfl (fun h=>?_) fun h=>?_|refine sw_exit rfl ?_|refine sw_loopEnd ?_|with_reducible refine and_o ?_|((with_reducible refine And.intro ?_ ?_);· first|(intro x hx;subst hx;rfl)|exact upR_mem fun _ _=>rfl|exact mapR_mem fun _ _=>rfl|(intro x;refine And.intro ?_ ?_<;>(intros;subst_vars;rfl)))|apply tTT
  all_goals exact⟨p+1,(by(refine covers_mk0 rfl rfl ?_ ?_ ?_ ?_<;>simp (disch:=(refine Om.mk ?_;omega)) only[go_sem]<;>(try omega));all_goals first|rw[hs (by omega)]|skip),by omega,by omega⟩
 ·obtain rfl:p=n:=by omega
  have hf:fillU p p=upTo p:=by simp[fillU]
  rw[hf]
  repeat' first|exact h.elim|(exfalso;omega)|(refine sw_freezeLab 2 1 q (id:=6) (n:=p) (cs:=(upTo p).map (.int .i64)) ((upTo p).map (.int .i64)) rfl (by simp[Lg.look]) (flat_ints _).symm (by simp[upTo_len]) (cells_one fun _=>rfl) (memOk_ints _) hq (by simp) ?_;simp only[go_sem])|refine sw_n ?_|refine sw_go 0 kp123 fun K hK=>?_|refine fun (K:KT) (hK:KOk S 0 _ _ _ K)=>?_|refine runL_g ?_|refine sw_retg0 ?_|refine sw_retg ?_|(refine hK.n0 ?_;clear hK K)|refine sw_condg rfl (fun h=>?_) fun h=>?_|refine sw_exit rfl ?_|refine sw_loopEnd ?_|with_reducible refine and_o ?_|((with_reducible refine And.intro ?_ ?_);· first|(intro x hx;subst hx;rfl)|exact upR_mem fun _ _=>rfl|exact mapR_mem fun _ _=>rfl|(intro x;refine And.intro ?_ ?_<;>(intros;subst_vars;rfl)))|apply tTT
 ·exact Nat.zero_le _
def kp69:List (Nat×List Nat):=[(0,[1,2]),(1,[1,2,4]),(2,[1,2,4,5]),(3,[2,6]),(4,[2,6,7,8]),(5,[2,6,7,49]),(6,[2,3]),(7,[2,3])]
attribute [go_sem] kp69 Tryz.results69 Tryz.ntmps69
theorem normalAutoI_fc (p:List Nat) (hp:p≠[]) (x:SystemT) (h:LeftP x):FCw S TabW 69 [] [] [] [SystemD x] (.tup [AutoL p (normR x).1,.bool (normR x).2]) [] []:=by
 have hO:=h.shp
 obtain⟨ht1,ht2⟩:=h.term
 rw[normR_yes h]
 generalize hSH:srtM (shpA x.sig (x.rules.map (·.l)) x.rules.length)=SH at *
 have cL:=leftsOf_fc x.rules (by rw[List.length_map] at ht1;exact ht1) (fun i hi=>by
  have:=(ht2 i (by rw[List.length_map];exact hi)).2.1.2
  rw[getD_map' (g:=fun r:RuleT=>r.l) hi] at this
  exact this)
 have cS:=(shapesOf_fc sortKN [0] (by simp) x.sig (x.rules.map (·.l)) ht1 ht2).weak (bx'':=[]) (tk'':=[]) (le_Int64SSL _ _) (by simp) (by simp)
 rw[List.length_map,hSH] at cS
 have cF1:=formsOf_fc x.sig SH (x.rules.map (·.l)) (fun t ht=>(hO.lf t ht).1) hO.n (by omega)
 have cF2:=formsOf_fc x.sig SH SH (fun t ht=>(hO.sh t ht).1) hO.n hO.n
 generalize hLS:x.rules.map (·.l)=LE at *
 obtain⟨sets,ru,ok,hR⟩:∃a b c,iterA (imgH x.sig SH LE) (fun n=>evK x.sig [] n x.sig.length) 18 []=(a,b,c):=⟨_,_,_,rfl⟩
 have hT:TblOk x.sig (LE.map (formR x.sig SH)) (SH.map (formR x.sig SH)):=⟨hO.sg,forms_ok hO.sg (by have:=hO.m;omega),forms_ok hO.sg hO.n,by simpa using hO.n⟩
 have cA:=all_fc (p++[1]) (by simp) x.sig _ _ hT (sets,ru,ok) hR
 obtain⟨hyes,hno⟩:=prog_auto hR
 refine fcbW Tryz.func69 rfl fun B hw hTB hI hpan=>?_
 have htl:=mapR_length (fun i y=>TransL (p++[1]++[i]) y) ru
 by_cases hc:ok=true∧sets≠[]∧ru.length≤300
 ·obtain⟨he,h16⟩:=hyes hc
  rw[he]
  obtain⟨rfl,h0,h3⟩:=hc
  have hpos:=List.length_pos_iff.2 h0
  have cP:=firstPermL_fc (p++[2]) (by simp) sets.length (by omega)
  repeat' first|exact h.elim|(exfalso;omega)|(refine hK.raw ?_;clear hK K;refine LopsW.callW rfl rfl rfl hw hTB (cA) (by refine⟨⟨?_,?_,?_,?_,?_⟩,⟨?_,?_,?_,?_,?_⟩,?_⟩<;>simp[LS.getBox,Lg.look,D.ids,D.idsL,LS.clean,D.tks,D.tksL,inTok,shC,anyV,idsL_i,tksL_i]) (lops_go 471 (fun (K:List Oper→LS→Prop) (hK:KOk S 471 _ _ _ K)=>?_));simp (disch:=(refine Om.mk ?_;omega)) only[go_sem,List.filter_cons,List.filter_nil,Bool.false_eq_true])|(refine sw_lab 7 (p++[1]) (k:=33000) rfl (by simp) (by simp) ?_;simp only[go_sem])|refine sw_n ?_|refine sw_go 471 kp69 fun K hK=>?_|refine sw_goT 471 kp69 13 (id:=3) (by kernel_rfl) fun K hK=>?_|refine sw_goT 471 kp69 13 (id:=7) (by kernel_rfl) fun K hK=>?_|refine fun (K:KT) (hK:KOk S 471 _ _ _ K)=>?_|refine sw_goD kp69 (by kernel_rfl) fun K hK=>?_|refine runL_g ?_|refine runQ_g ?_|refine sw_retg0 ?_|refine sw_retg ?_|(refine hK.n0 ?_;clear hK K)|refine runG_fk (fun h=>?_) fun h=>?_|refine runQG_fk (fun h=>?_) fun h=>?_|refine sw_condg rfl (fun h=>?_) fun h=>?_|refine hK.skp rfl rfl ?_|refine sw_loopEnd ?_|refine hK.c1 rfl rfl rfl (cL) ?_|refine hK.c1 rfl rfl rfl (cS) ?_|refine hK.c1 rfl rfl rfl (cF1) ?_|refine hK.c1 rfl rfl rfl (cF2) ?_|refine hK.c1 rfl rfl rfl (cP) ?_|(refine hK.fork rfl rfl rfl ?_ ?_<;>intro h<;>try simp (disch:=(refine Om.mk ?_;omega)) only[go_sem] at h)|with_reducible refine and_o ?_|((with_reducible refine And.intro ?_ ?_);· first|(intro x hx;subst hx;rfl)|exact upR_mem fun _ _=>rfl|exact mapR_mem fun _ _=>rfl|(intro x;refine And.intro ?_ ?_<;>(intros;subst_vars;rfl)))|apply tTT
  unfold RetN
  simp only[go_sem]
  exact ret_plain rfl fun f=>rfl
 ·rw[hno hc]
  cases ok with
  | false =>
   repeat' first|exact h.elim|(exfalso;omega)|(refine hK.raw ?_;clear hK K;refine LopsW.callW rfl rfl rfl hw hTB (cA) (by refine⟨⟨?_,?_,?_,?_,?_⟩,⟨?_,?_,?_,?_,?_⟩,?_⟩<;>simp[LS.getBox,Lg.look,D.ids,D.idsL,LS.clean,D.tks,D.tksL,inTok,shC,anyV,idsL_i,tksL_i]) (lops_go 471 (fun (K:List Oper→LS→Prop) (hK:KOk S 471 _ _ _ K)=>?_));simp (disch:=(refine Om.mk ?_;omega)) only[go_sem,List.filter_cons,List.filter_nil,Bool.false_eq_true])|refine sw_n ?_|refine sw_go 471 kp69 fun K hK=>?_|refine sw_goT 471 kp69 13 (id:=3) (by kernel_rfl) fun K hK=>?_|refine sw_goT 471 kp69 13 (id:=7) (by kernel_rfl) fun K hK=>?_|refine fun (K:KT) (hK:KOk S 471 _ _ _ K)=>?_|refine sw_goD kp69 (by kernel_rfl) fun K hK=>?_|refine runL_g ?_|refine runQ_g ?_|refine sw_retg0 ?_|refine sw_retg ?_|(refine hK.n0 ?_;clear hK K)|refine runG_fk (fun h=>?_) fun h=>?_|refine runQG_fk (fun h=>?_) fun h=>?_|refine sw_condg rfl (fun h=>?_) fun h=>?_|refine hK.skp rfl rfl ?_|refine sw_loopEnd ?_|refine hK.c1 rfl rfl rfl (cL) ?_|refine hK.c1 rfl rfl rfl (cS) ?_|refine hK.c1 rfl rfl rfl (cF1) ?_|refine hK.c1 rfl rfl rfl (cF2) ?_|(refine hK.fork rfl rfl rfl ?_ ?_<;>intro h<;>try simp (disch:=(refine Om.mk ?_;omega)) only[go_sem] at h)|with_reducible refine and_o ?_|((with_reducible refine And.intro ?_ ?_);· first|(intro x hx;subst hx;rfl)|exact upR_mem fun _ _=>rfl|exact mapR_mem fun _ _=>rfl|(intro x;refine And.intro ?_ ?_<;>(intros;subst_vars;rfl)))|apply tTT
   all_goals (unfold RetN;simp only[go_sem];exact ret_le (le0_le (by simp[mapR,le0,le0L])) rfl fun f=>rfl)
  | true =>
   by_cases h0:sets=[]
   ·subst h0
    repeat' first|exact h.elim|(exfalso;omega)|(refine hK.raw ?_;clear hK K;refine LopsW.callW rfl rfl rfl hw hTB (cA) (by refine⟨⟨?_,?_,?_,?_,?_⟩,⟨?_,?_,?_,?_,?_⟩,?_⟩<;>simp[LS.getBox,Lg.look,D.ids,D.idsL,LS.clean,D.tks,D.tksL,inTok,shC,anyV,idsL_i,tksL_i]) (lops_go 471 (fun (K:List Oper→LS→Prop) (hK:KOk S 471 _ _ _ K)=>?_));simp (disch:=(refine Om.mk ?_;omega)) only[go_sem,List.filter_cons,List.filter_nil,Bool.false_eq_true])|refine sw_n ?_|refine sw_go 471 kp69 fun K hK=>?_|refine sw_goT 471 kp69 13 (id:=3) (by kernel_rfl) fun K hK=>?_|refine sw_goT 471 kp69 13 (id:=7) (by kernel_rfl) fun K hK=>?_|refine fun (K:KT) (hK:KOk S 471 _ _ _ K)=>?_|refine sw_goD kp69 (by kernel_rfl) fun K hK=>?_|refine runL_g ?_|refine runQ_g ?_|refine sw_retg0 ?_|refine sw_retg ?_|(refine hK.n0 ?_;clear hK K)|refine runG_fk (fun h=>?_) fun h=>?_|refine runQG_fk (fun h=>?_) fun h=>?_|refine sw_condg rfl (fun h=>?_) fun h=>?_|refine hK.skp rfl rfl ?_|refine sw_loopEnd ?_|refine hK.c1 rfl rfl rfl (cL) ?_|refine hK.c1 rfl rfl rfl (cS) ?_|refine hK.c1 rfl rfl rfl (cF1) ?_|refine hK.c1 rfl rfl rfl (cF2) ?_|(refine hK.fork rfl rfl rfl ?_ ?_<;>intro h<;>try simp (disch:=(refine Om.mk ?_;omega)) only[go_sem] at h)|with_reducible refine and_o ?_|((with_reducible refine And.intro ?_ ?_);· first|(intro x hx;subst hx;rfl)|exact upR_mem fun _ _=>rfl|exact mapR_mem fun _ _=>rfl|(intro x;refine And.intro ?_ ?_<;>(intros;subst_vars;rfl)))|apply tTT
    all_goals (unfold RetN;simp only[go_sem];exact ret_le (le0_le (by simp[mapR,le0,le0L])) rfl fun f=>rfl)
   ·have hpos:=List.length_pos_iff.2 h0
    have h3:¬ru.length≤300:=fun h=>hc ⟨rfl,h0,h⟩
    repeat' first|exact h.elim|(exfalso;omega)|(refine hK.raw ?_;clear hK K;refine LopsW.callW rfl rfl rfl hw hTB (cA) (by refine⟨⟨?_,?_,?_,?_,?_⟩,⟨?_,?_,?_,?_,?_⟩,?_⟩<;>simp[LS.getBox,Lg.look,D.ids,D.idsL,LS.clean,D.tks,D.tksL,inTok,shC,anyV,idsL_i,tksL_i]) (lops_go 471 (fun (K:List Oper→LS→Prop) (hK:KOk S 471 _ _ _ K)=>?_));simp (disch:=(refine Om.mk ?_;omega)) only[go_sem,List.filter_cons,List.filter_nil,Bool.false_eq_true])|refine sw_n ?_|refine sw_go 471 kp69 fun K hK=>?_|refine sw_goT 471 kp69 13 (id:=3) (by kernel_rfl) fun K hK=>?_|refine sw_goT 471 kp69 13 (id:=7) (by kernel_rfl) fun K hK=>?_|refine fun (K:KT) (hK:KOk S 471 _ _ _ K)=>?_|refine sw_goD kp69 (by kernel_rfl) fun K hK=>?_|refine runL_g ?_|refine runQ_g ?_|refine sw_retg0 ?_|refine sw_retg ?_|(refine hK.n0 ?_;clear hK K)|refine runG_fk (fun h=>?_) fun h=>?_|refine runQG_fk (fun h=>?_) fun h=>?_|refine sw_condg rfl (fun h=>?_) fun h=>?_|refine hK.skp rfl rfl ?_|refine sw_loopEnd ?_|refine hK.c1 rfl rfl rfl (cL) ?_|refine hK.c1 rfl rfl rfl (cS) ?_|refine hK.c1 rfl rfl rfl (cF1) ?_|refine hK.c1 rfl rfl rfl (cF2) ?_|(refine hK.fork rfl rfl rfl ?_ ?_<;>intro h<;>try simp (disch:=(refine Om.mk ?_;omega)) only[go_sem] at h)|with_reducible refine and_o ?_|((with_reducible refine And.intro ?_ ?_);· first|(intro x hx;subst hx;rfl)|exact upR_mem fun _ _=>rfl|exact mapR_mem fun _ _=>rfl|(intro x;refine And.intro ?_ ?_<;>(intros;subst_vars;rfl)))|apply tTT
    all_goals (unfold RetN;simp only[go_sem];exact ret_le (le0_le (by simp[mapR,le0,le0L])) rfl fun f=>rfl)
def kp31:List (Nat×List Nat):=[(0,[1,2]),(1,[1,2,6]),(2,[2,3]),(3,[2,3])]
attribute [go_sem] kp31 Tryz.results31 Tryz.ntmps31
theorem implNormalAuto_fc (p:List Nat) (hp:p≠[]) (x:SystemT):FCw S TabW 31 [] [] [] [SystemD x] (.tup [AutoL p (normR x).1,.bool (normR x).2]) [] []:=by
 have cL:=implLeftLinearIn_fc x
 refine fcbW Tryz.func31 rfl fun B hw hTB hI hpan=>?_
 by_cases h:LeftP x
 ·rw[tst_true h] at cL
  have cI:=normalAutoI_fc p hp x h
  generalize normR x=rR at *
  repeat' first|exact h.elim|(exfalso;omega)|(refine hK.raw ?_;clear hK K;refine LopsW.callW rfl rfl rfl hw hTB (cI) (by refine⟨⟨?_,?_,?_,?_,?_⟩,⟨?_,?_,?_,?_,?_⟩,?_⟩<;>simp[LS.getBox,Lg.look,D.ids,D.idsL,LS.clean,D.tks,D.tksL,inTok,AutoL,TransSL,Int64SL]) (lops_go 0 (fun (K:List Oper→LS→Prop) (hK:KOk S 0 _ _ _ K)=>?_));simp (disch:=(refine Om.mk ?_;omega)) only[go_sem,List.filter_cons,List.filter_nil,Bool.false_eq_true])|refine sw_n ?_|refine sw_go 0 kp31 fun K hK=>?_|refine fun (K:KT) (hK:KOk S 0 _ _ _ K)=>?_|refine runL_g ?_|refine sw_retg0 ?_|refine sw_retg ?_|(refine hK.n0 ?_;clear hK K)|refine sw_condg rfl (fun h=>?_) fun h=>?_|refine sw_loopEnd ?_|refine hK.c1 rfl rfl rfl (cL) ?_|with_reducible refine and_o ?_|((with_reducible refine And.intro ?_ ?_);· first|(intro x hx;subst hx;rfl)|exact upR_mem fun _ _=>rfl|exact mapR_mem fun _ _=>rfl|(intro x;refine And.intro ?_ ?_<;>(intros;subst_vars;rfl)))|apply tTT
  all_goals (unfold RetN;simp only[go_sem];exact ret_plain rfl fun f=>rfl)
 ·rw[tst_false h] at cL
  rw[normR_no h]
  repeat' first|exact h.elim|(exfalso;omega)|refine sw_n ?_|refine sw_go 0 kp31 fun K hK=>?_|refine fun (K:KT) (hK:KOk S 0 _ _ _ K)=>?_|refine runL_g ?_|refine sw_retg0 ?_|refine sw_retg ?_|(refine hK.n0 ?_;clear hK K)|refine sw_condg rfl (fun h=>?_) fun h=>?_|refine sw_loopEnd ?_|refine hK.c1 rfl rfl rfl (cL) ?_|with_reducible refine and_o ?_|((with_reducible refine And.intro ?_ ?_);· first|(intro x hx;subst hx;rfl)|exact upR_mem fun _ _=>rfl|exact mapR_mem fun _ _=>rfl|(intro x;refine And.intro ?_ ?_<;>(intros;subst_vars;rfl)))|apply tTT
  all_goals (unfold RetN;simp only[go_sem];exact ret_le (le0_le (by simp[mapR,le0,le0L])) rfl fun f=>rfl)
end Go.Proofs.YtkfkdgginfpdnaaGreatDoor
end
section
namespace Go.Lg
open Go Go.RowKit
theorem FCw.args {S:Setup} {T:World→Prop} {f:FuncId} {ro bx bx':List (Nat×List D)} {tk tk':List Nat} {args args':List D} {d:D} (h:FCw S T f ro bx tk args' d bx' tk') (hle:leL args args'):FCw S T f ro bx tk args d bx' tk':=⟨h.1,fun w G vals hT hs=>by
 have hl:=leL_len hle
 refine h.2 w G vals hT ⟨hs.defers,by rw[←hl];exact hs.size,fun t d hd=>?_,hs.W,hs.fixed⟩
 simp only[look_enumD,Nat.zero_le,if_true,Nat.sub_zero] at hd
 obtain⟨a,ha,hle'⟩:=leL_get hle t d hd
 obtain⟨v,h1,h2⟩:=hs.env t a (by simpa only[look_enumD,Nat.zero_le,if_true,Nat.sub_zero] using ha)
 exact⟨v,h1,h2.le hle'⟩⟩
theorem law_contractW {H:Type} {enc:TypeId×Value→H} (S:Setup) {T:World→Prop} {f:FuncId} {fn:Func} {s:ChangeSpec} {ts:List TypeId} {tb m:Nat} (hl:laidOutB S.P=true) (hts:fn.params.toList=ts) (hcl:∀t∈ts,clB S.tab m t=true) (hrd:∀t∈ts,S.P.readableRec t=true∧t<S.P.types.size)
  (hres:fn.resultTypes=#[tb]) (hb:S.P.underlying tb=some .bool) (hvars:s.vars=[]) (hspec:∀ds:List (DataW H),ds.length=ts.length→s.fn H ds={results:=[.lit (.bool true)],args:=ds})
  (hfc:∀args:List D,args.length=ts.length→(∀(j:Nat) t d,ts[j]?=some t→args[j]?=some d→∃i cs,S.tab t=some i∧cs.length=i.size∧WC S t cs∧d=ofCells i cs)→FCw S T f [] [] [] args (.bool true) [] [])
  {apart fresh handsOn again:Bool} {W:World} {base:Nat} {args:Array Value} {ds gs:List (DataW H)} {before:List MemPlace}
  (hT:∀w2:World,(∀b,b<W.heap.size→w2.heap[b]?=W.heap[b]?)→W.heap.size≤w2.heap.size→T w2) (hval:∀(j:Nat) t v,fn.params[j]?=some t→args[j]?=some v→Value.okWide S.P W .any base t v) (hW:DataW.Whole enc S.P fn.params.toList s.vars apart W args.toList ds gs before) :
  Calls S.P f args W fun e W'=>∃v,e=.returned v∧s.post enc S.P fn apart fresh handsOn again W args v W':=by
 have hW0:=hW
 have hlt:=hW.lt
 rw[hts,hvars] at hW
 obtain⟨p,q,hA,hV,rfl,hz,hn⟩:=hW
 obtain⟨rfl,rfl⟩:gs=[]∧q=[]:=by
  cases gs with
  | nil=>exact⟨rfl,hV⟩
  | cons _ _=>simp[DataW.TrodVars] at hV
 simp only[List.append_nil] at hz hn hlt hW0
 obtain⟨k1,k0,ads,k2,k3,k4⟩:=args_open (S:=S) hA (fun j t v ht hv=>hval j t v (by rw[←hts] at ht;simpa using ht) (by simpa using hv)) hcl
 refine(fcw_open (hfc ads k2 k3) hT (vals:=args) (by rw[k2,←k1];simp) (fun j d v hd hv=>k4 j d v hd (by simpa using hv))).mono ?_
 rintro e W' ⟨v,G',rfl,hr,hbel⟩
 cases hr
 refine⟨_,rfl,ds,[],p,[],p,[],hW0,?_,?_,?_,?_,fun _=>⟨?_,?_⟩⟩
 ·rw[hres,List.append_nil,hspec ds k0]
  exact⟨[],[],shut_bool hb true,rfl,rfl⟩
 ·rw[hts,List.append_nil,hspec ds k0]
  exact args_stay hl hbel _ hA hrd (fun x hx=>⟨hlt x hx,by simpa using hlt x hx⟩)
 ·rw[hvars,List.append_nil,hspec ds k0]
  exact rfl
 ·exact hbel.frame _
 ·exact ok_one hres rfl (okWide_bool_mk hb true)
 ·refine⟨[.lit (.bool true)]++ds,[],[]++p,?_,fun x hx _=>by simpa using hx⟩
  refine⟨[]++p,[],?_,by rw[hvars];exact rfl,by simp,fun b off hx=>?_,fun ha=>by simpa using hn ha⟩
  ·rw[hts,hres]
   exact trod_app (ts:=[tb]) (vs:=[.bool true]) ⟨[],[],shut_bool hb true,rfl,rfl⟩ (args_stay hl hbel _ hA hrd (fun x hx=>⟨hlt x hx,rfl⟩))
  ·have hx':MemPlace.cell b off∈p:=by simpa using hx
   rw[hbel.frozen (hlt _ hx')]
   exact hz b off hx'
end Go.Lg
namespace Go.Proofs.YtkfkdgginfpdnaaGreatDoor
open Go Go.Lg
set_option linter.unusedSimpArgs false
set_option linter.unusedVariables false
set_option maxHeartbeats 4000000
theorem tab_of_laid {W:World} {a b:DataW Unit} {na nb:String} (h:laidMet Tryz.prog [(na,a),(nb,b),("internal/strconv.uint64pow10", Lib.tabData .u64 Lib.pow10Tab)] W):∀w2:World,(∀b,b<W.heap.size→w2.heap[b]?=W.heap[b]?)→W.heap.size≤w2.heap.size→TabW w2:=by
 have h1:Lib.TabIs Tryz.prog W "internal/strconv.uint64pow10" .u64 Lib.pow10Tab:=Lib.tabIs_of_head (g:=0) (by kernel_rfl) (by kernel_rfl) Tryz.underlying256 Tryz.underlying215 (by kernel_rfl) (by kernel_rfl) h.tail.tail
 intro w2 h2 _
 show Lib.TabIs Tryz.prog w2 "internal/strconv.uint64pow10" .u64 Lib.pow10Tab
 unfold Lib.TabIs World.var? at *
 cases hg:Program.globalNamed Tryz.prog "internal/strconv.uint64pow10" with
 | none=>simp[hg] at h1
 | some g =>
  simp only[hg,Option.bind_some] at h1 ⊢
  have hlt:g<W.heap.size:=by
   rcases Nat.lt_or_ge g W.heap.size with h'|h'
   ·exact h'
   ·rw[Array.getElem?_eq_none h'] at h1;simp at h1
  rw[h2 g hlt]
  exact h1
end Go.Proofs.YtkfkdgginfpdnaaGreatDoor
end
section
namespace Go.Proofs.YtkfkdgginfpdnaaGreatDoor
open Go Go.Lg
set_option linter.unusedSimpArgs false
set_option linter.unusedVariables false
set_option maxHeartbeats 4000000
theorem u32_or_nat (a b:Nat) (ha:a<2^32) (hb:b<2^32):bits .or .u32 (a:Int) (b:Int)=((a ||| b:Nat):Int):=by
 have hx:a ||| b<2^32:=Nat.or_lt_two_pow ha hb
 show IntKind.u32.wrap ((BitVec.ofInt 32 (a:Int) ||| BitVec.ofInt 32 (b:Int)).toNat:Int)=_
 rw[BitVec.toNat_or]
 have h1:(BitVec.ofInt 32 (a:Int)).toNat=a:=by rw[BitVec.toNat_ofInt];omega
 have h2:(BitVec.ofInt 32 (b:Int)).toNat=b:=by rw[BitVec.toNat_ofInt];omega
 rw[h1,h2]
 simp only[IntKind.wrap,IntKind.signed,IntKind.bits,Bool.false_and,Bool.false_eq_true,if_false]
 omega
theorem u32_and_nat (a b:Nat) (ha:a<2^32) (hb:b<2^32):bits .and .u32 (a:Int) (b:Int)=((a &&& b:Nat):Int):=by
 have hx:a &&& b<2^32:=Nat.and_lt_two_pow _ hb
 show IntKind.u32.wrap ((BitVec.ofInt 32 (a:Int) &&& BitVec.ofInt 32 (b:Int)).toNat:Int)=_
 rw[BitVec.toNat_and]
 have h1:(BitVec.ofInt 32 (a:Int)).toNat=a:=by rw[BitVec.toNat_ofInt];omega
 have h2:(BitVec.ofInt 32 (b:Int)).toNat=b:=by rw[BitVec.toNat_ofInt];omega
 rw[h1,h2]
 simp only[IntKind.wrap,IntKind.signed,IntKind.bits,Bool.false_and,Bool.false_eq_true,if_false]
 omega
def maskN (s:List Int):Nat:=s.foldl (fun m q=>m ||| 2^q.toNat) 0
def maskI (s:List Int):Int:=(maskN s:Int)
def InS (s:List Int):Prop:=∀x∈s,0≤x∧x<16
theorem maskF_bit:∀(s:List Int) (m q:Nat),(s.foldl (fun m q=>m ||| 2^q.toNat) m).testBit q=(m.testBit q||decide (∃x∈s,x.toNat=q))
 | [],m,q=>by simp
 | x::s,m,q=>by
  rw[List.foldl_cons,maskF_bit s,Nat.testBit_or,Nat.testBit_two_pow]
  by_cases h:x.toNat=q<;>simp[h]
theorem maskN_bit {s:List Int} (hs:InS s) {q:Int} (h0:0≤q):(maskN s).testBit q.toNat=decide (q∈s):=by
 unfold maskN
 rw[maskF_bit,Nat.zero_testBit,Bool.false_or]
 congr 1
 refine propext ⟨?_,fun h=>⟨q,h,rfl⟩⟩
 rintro⟨x,hx,e⟩
 have:=hs x hx
 rwa [show q=x by omega]
theorem maskF_lt:∀(s:List Int) (m:Nat),InS s→m<2^16→s.foldl (fun m q=>m ||| 2^q.toNat) m<2^16
 | [],m,_,h=>h
 | x::s,m,hs,h=>by
  have hx:=hs x List.mem_cons_self
  exact maskF_lt s _ (fun y hy=>hs y (List.mem_cons_of_mem _ hy)) (Nat.or_lt_two_pow h (Nat.pow_lt_pow_right (by decide) (by omega)))
theorem maskN_lt {s:List Int} (hs:InS s):maskN s<2^16:=maskF_lt s 0 hs (by decide)
theorem maskN_snoc (s:List Int) (q:Int):maskN (s++[q])=maskN s ||| 2^q.toNat:=by unfold maskN;rw[List.foldl_append];rfl
theorem maskN_ext {s s':List Int} (h:∀x,x∈s↔x∈s'):maskN s=maskN s':=by
 refine Nat.eq_of_testBit_eq fun q=>?_
 unfold maskN
 rw[maskF_bit,maskF_bit]
 simp only[h]
theorem shl_one {q:Int} (h0:0≤q) (h1:q<16):IntKind.u32.wrap (2^q.toNat)=((2^q.toNat:Nat):Int):=by
 have h:(2:Nat)^q.toNat<2^16:=Nat.pow_lt_pow_right (by decide) (by omega)
 have e:((2:Int)^q.toNat)=((2^q.toNat:Nat):Int):=by norm_cast
 rw[e]
 generalize (2:Nat)^q.toNat=m at h
 simp only[IntKind.wrap,IntKind.signed,IntKind.bits,Bool.false_and,Bool.false_eq_true,if_false]
 omega
theorem mask_snoc {s:List Int} (hs:InS s) {q:Int} (h0:0≤q) (h1:q<16):bits .or .u32 (maskI s) (IntKind.u32.wrap (2^q.toNat))=maskI (s++[q]):=by
 have h:=maskN_lt hs
 have h2:(2:Nat)^q.toNat<2^16:=Nat.pow_lt_pow_right (by decide) (by omega)
 rw[shl_one h0 h1]
 unfold maskI
 rw[u32_or_nat _ _ (by omega) (by omega),maskN_snoc]
theorem mask_into {s:List Int} (hs:InS s) {q:Int} (h0:0≤q) (h1:q<16):bits .or .u32 (maskI s) (IntKind.u32.wrap (2^q.toNat))=maskI (intoL s q):=by
 rw[mask_snoc hs h0 h1]
 unfold maskI
 rw[maskN_ext fun x=>?_]
 rw[mem_intoL,List.mem_append,List.mem_singleton]
theorem mask_has {s:List Int} (hs:InS s) {q:Int} (h0:0≤q) (h1:q<16):bits .and .u32 (maskI s / 2^q.toNat) 1=1↔q∈s:=by
 have h:=maskN_lt hs
 have e:maskI s / 2^q.toNat=((maskN s / 2^q.toNat:Nat):Int):=by unfold maskI;norm_cast
 have h3:maskN s / 2^q.toNat≤maskN s:=Nat.div_le_self _ _
 rw[e,show (1:Int)=((1:Nat):Int) from rfl,u32_and_nat _ _ (by omega) (by omega)]
 have hb:=maskN_bit hs h0
 rw[Nat.testBit_eq_decide_div_mod_eq] at hb
 rw[Nat.and_one_is_mod]
 have:maskN s / 2^q.toNat%2=1↔q∈s:=by simpa using hb
 rw[←this];norm_cast
theorem intoL_len (n:Int):∀xs:List Int,(intoL xs n).length≤xs.length+1
 | []=>by simp[intoL]
 | x::r=>by
  have ih:=intoL_len n r
  unfold intoL
  split
  ·simp only[List.length_cons];omega
  ·split<;>simp only[List.length_cons]<;>omega
def FitA (r:TransT) (args:List (List Int)):Prop:=∀k<args.length,r.args.getD k default∈args.getD k default
open Classical in
noncomputable def imgS (sym:Int) (args:List (List Int)) (s:List Int) (r:TransT):List Int:=if r.sym=sym∧FitA r args then intoL s r.to else s
noncomputable def imgT (a:AutoT) (sym:Int) (args:List (List Int)) (i:Nat):List Int:=(a.rules.take i).foldl (imgS sym args) []
theorem imgT_succ (a:AutoT) (sym:Int) (args:List (List Int)) {i:Nat} (h:i<a.rules.length):imgT a sym args (i+1)=imgS sym args (imgT a sym args i) (a.rules.getD i default):=by
 unfold imgT
 rw[List.take_succ_eq_append_getElem h,List.foldl_append]
 simp[List.getD,h]
theorem imgS_yes {sym:Int} {args:List (List Int)} {s:List Int} {r:TransT} (h:r.sym=sym∧FitA r args):imgS sym args s r=intoL s r.to:=if_pos h
theorem imgS_no {sym:Int} {args:List (List Int)} {s:List Int} {r:TransT} (h:¬(r.sym=sym∧FitA r args)):imgS sym args s r=s:=if_neg h
theorem imgT_in {rs:List Int} {a:AutoT} (hA:AutoOkP rs a) (sym:Int) (args:List (List Int)):∀i≤a.rules.length,InS (imgT a sym args i)
 | 0,_=>by simp[imgT,InS]
 | i+1,hi=>by
  have ih:=imgT_in hA sym args i (by omega)
  rw[imgT_succ a sym args (by omega)]
  have ht:=(hA.2 i (by omega)).1.2.2.1
  have hs:=hA.1.2.1
  rcases Classical.em ((a.rules.getD i default).sym=sym∧FitA (a.rules.getD i default) args) with h|h
  ·rw[imgS_yes h]
   intro x hx
   rcases (mem_intoL _ _ _).1 hx with hx|rfl
   ·exact ih x hx
   ·omega
  ·rw[imgS_no h];exact ih
theorem imgT_len (a:AutoT) (sym:Int) (args:List (List Int)):∀i≤a.rules.length,(imgT a sym args i).length≤i
 | 0,_=>by simp[imgT]
 | i+1,hi=>by
  have ih:=imgT_len a sym args i (by omega)
  rw[imgT_succ a sym args (by omega)]
  rcases Classical.em ((a.rules.getD i default).sym=sym∧FitA (a.rules.getD i default) args) with h|h
  ·rw[imgS_yes h]
   have:=intoL_len (a.rules.getD i default).to (imgT a sym args i)
   omega
  ·rw[imgS_no h];omega
end Go.Proofs.YtkfkdgginfpdnaaGreatDoor
end
section
namespace Go.Proofs.YtkfkdgginfpdnaaGreatDoor
open Go Go.Lg
set_option linter.unusedSimpArgs false
set_option linter.unusedVariables false
set_option maxHeartbeats 4000000
attribute [local irreducible] SW runL runQ runG runQG FC Ret1 RetN toF redoL
def kp78:List (Nat×List Nat):=[(0,[1,2,3]),(1,[1,2,3,7]),(2,[1,2,3,7,8]),(3,[1,2,3,7,8,17]),(5,[1,2,3,7,8,9]),(6,[1,2,3,7,8,9,10]),(7,[1,2,3,7,8,9,10,11]),(8,[1,2,3,7,8,9,10,11,35]),(10,[1,2,3,7,8,9,10,11]),(9,[1,2,3,7,8,9,10,11]),(11,[1,2,3,7,8,9,48]),(12,[1,2,3,7,8]),(4,[1,2,3,7,8]),(13,[6])]
attribute [go_sem] kp78 Tryz.results78 Tryz.ntmps78
theorem l23Image_fc (tk:Tk) (rs:List Int) (a:AutoT) (hA:AutoOkP rs a) (sym:Int) (args:List (List Int)) (hn:args.length≤100) (hf:∀i<a.rules.length,(a.rules.getD i default).sym=sym→(a.rules.getD i default).args.length=args.length):FC S 78 [] [] [] [AutoD a,.int .i64 sym,.sl tk (args.map IntsD)] (.sl .any ((imgT a sym args a.rules.length).map (.int .i64))) [] []:=by
 have hr:=hA.1.2.2.1
 refine FC.args (args':=[AutoD a,.int .i64 sym,.sl .any (args.map IntsD)]) ?_ (by simp only[go_sem])
 refine fcb Tryz.func78 fun B=>?_
 refine sw_bndg 2 fun hb2=>?_
 repeat' first|exact h.elim|refine sw_n ?_|refine sw_go 0 kp78 fun K hK=>?_|refine fun (K:KT) (hK:KOk S 0 _ _ _ K)=>?_|refine sw_goD kp78 (by kernel_rfl) fun K hK=>?_|refine runL_g ?_|refine runQ_g ?_|refine sw_retg0 ?_|refine sw_retg ?_|(refine hK.n0 ?_;clear hK K)|refine runG_fk (fun h=>?_) fun h=>?_|refine runQG_fk (fun h=>?_) fun h=>?_|refine sw_condg rfl (fun h=>?_) fun h=>?_|refine hK.skp rfl rfl ?_|refine sw_exit rfl ?_|refine sw_loopEnd ?_|(refine hK.fork rfl rfl rfl ?_ ?_<;>intro h<;>try simp (disch:=(refine Om.mk ?_;omega)) only[go_sem] at h)|with_reducible refine and_o ?_|((with_reducible refine And.intro ?_ ?_);· first|(intro x hx;subst hx;rfl)|(intro x;refine And.intro ?_ ?_<;>(intros;subst_vars;rfl)))|apply tTT
 refine sw_loopU (ι:=Nat) (fun p=>[(8,.int .i64 p),(7,.sl .any ((imgT a sym args p).map (.int .i64)))]) (fun p=>[]) (fun p=>p≤a.rules.length) (fun p=>a.rules.length-p) 0 cvB ?_ (fun p hp=>?_)
 rotate_left
 simp only[go_sem]
 have hl:=imgT_len a sym args p hp
 have hs:=fun h=>imgT_succ a sym args (i:=p) h
 have hf:=hf p
 have hto:=fun h=>(hA.2 p h).1.2.2.1
 repeat' first|exact h.elim|refine sw_n ?_|refine sw_go 0 kp78 fun K hK=>?_|refine fun (K:KT) (hK:KOk S 0 _ _ _ K)=>?_|refine sw_goD kp78 (by kernel_rfl) fun K hK=>?_|refine runL_g ?_|refine runQ_g ?_|refine sw_retg0 ?_|refine sw_retg ?_|(refine hK.n0 ?_;clear hK K)|refine runG_fk (fun h=>?_) fun h=>?_|refine runQG_fk (fun h=>?_) fun h=>?_|refine sw_condg rfl (fun h=>?_) fun h=>?_|refine hK.skp rfl rfl ?_|refine sw_exit rfl ?_|refine sw_loopEnd ?_|(refine hK.fork rfl rfl rfl ?_ ?_<;>intro h<;>try simp (disch:=(refine Om.mk ?_;omega)) only[go_sem] at h)|with_reducible refine and_o ?_|((with_reducible refine And.intro ?_ ?_);· first|(intro x hx;subst hx;rfl)|(intro x;refine And.intro ?_ ?_<;>(intros;subst_vars;rfl)))|apply tTT
 ·generalize hrd:a.rules.getD p default=r at *
  refine sw_loopT (ι:=Nat) (fun k=>[(11,.int .i64 k),(10,.bool (tst (r.sym=sym∧∀j<k,r.args.getD j default∈args.getD j default)))]) (fun _=>[]) (fun _=>[]) (fun k=>k≤args.length) (fun k=>args.length-k) 0 (by(refine covers_mk0 rfl rfl ?_ ?_ ?_ ?_<;>simp (disch:=(refine Om.mk ?_;omega)) only[go_sem]<;>(try omega));all_goals exact⟨⟨fun h=>⟨h,fun j hj=>absurd hj (by omega)⟩,fun h=>h.1⟩,rfl⟩) (by omega) (fun k hk=>?_)
  simp only[go_sem]
  by_cases hsy:r.sym=sym
  ·have hlen:=hf (by omega) hsy
   repeat' first|exact h.elim|refine sw_n ?_|refine sw_go 0 kp78 fun K hK=>?_|refine fun (K:KT) (hK:KOk S 0 _ _ _ K)=>?_|refine sw_goD kp78 (by kernel_rfl) fun K hK=>?_|refine runL_g ?_|refine runQ_g ?_|refine sw_retg0 ?_|refine sw_retg ?_|(refine hK.n0 ?_;clear hK K)|refine runG_fk (fun h=>?_) fun h=>?_|refine runQG_fk (fun h=>?_) fun h=>?_|refine sw_condg rfl (fun h=>?_) fun h=>?_|refine hK.skp rfl rfl ?_|refine sw_exit rfl ?_|refine sw_loopEnd ?_|refine hK.c1 rfl rfl rfl (l1Has_fc _ (args.getD k default) (r.args.getD k default)) ?_|refine hK.c1 rfl rfl rfl (l1Into_fc _ (imgT a sym args p) r.to (by omega)) ?_|(refine hK.fork rfl rfl rfl ?_ ?_<;>intro h<;>try simp (disch:=(refine Om.mk ?_;omega)) only[go_sem] at h)|with_reducible refine and_o ?_|((with_reducible refine And.intro ?_ ?_);· first|(intro x hx;subst hx;rfl)|(intro x;refine And.intro ?_ ?_<;>(intros;subst_vars;rfl)))|apply tTT
   ·have hh:r.sym=sym∧∀j<k,r.args.getD j default∈args.getD j default:=by assumption
    exact⟨k+1,(by(refine covers_mk0 rfl rfl ?_ ?_ ?_ ?_<;>simp (disch:=(refine Om.mk ?_;omega)) only[go_sem]<;>(try omega));refine⟨⟨fun hm=>⟨hh.1,upto_succ hh.2 hm⟩,fun hm=>hm.2 k (by omega)⟩,?_⟩;omega),by omega,by omega⟩
   ·exact absurd h (by assumption)
   ·have hnf:¬(r.sym=sym∧FitA r args):=fun e=>h ⟨e.1,fun j hj=>e.2 j (by omega)⟩
    exact⟨p+1,(by rw[hs (by omega),imgS_no hnf];(refine covers_mk0 rfl rfl ?_ ?_ ?_ ?_<;>simp (disch:=(refine Om.mk ?_;omega)) only[go_sem]<;>(try omega));all_goals exact⟨rfl,by omega⟩),by omega,by omega⟩
   ·have hf:r.sym=sym∧FitA r args:=⟨h.1,fun j hj=>h.2 j (by omega)⟩
    exact⟨p+1,(by rw[hs (by omega),imgS_yes hf];(refine covers_mk0 rfl rfl ?_ ?_ ?_ ?_<;>simp (disch:=(refine Om.mk ?_;omega)) only[go_sem]<;>(try omega));all_goals exact⟨rfl,by omega⟩),by omega,by omega⟩
   ·have hnf:¬(r.sym=sym∧FitA r args):=fun e=>h ⟨e.1,fun j hj=>e.2 j (by omega)⟩
    exact⟨p+1,(by rw[hs (by omega),imgS_no hnf];(refine covers_mk0 rfl rfl ?_ ?_ ?_ ?_<;>simp (disch:=(refine Om.mk ?_;omega)) only[go_sem]<;>(try omega));all_goals exact⟨rfl,by omega⟩),by omega,by omega⟩
  ·rw[tst_false fun e=>hsy e.1]
   have hnf:¬(r.sym=sym∧FitA r args):=fun e=>hsy e.1
   repeat' first|exact h.elim|refine sw_n ?_|refine sw_go 0 kp78 fun K hK=>?_|refine fun (K:KT) (hK:KOk S 0 _ _ _ K)=>?_|refine sw_goD kp78 (by kernel_rfl) fun K hK=>?_|refine runL_g ?_|refine runQ_g ?_|refine sw_retg0 ?_|refine sw_retg ?_|(refine hK.n0 ?_;clear hK K)|refine runG_fk (fun h=>?_) fun h=>?_|refine runQG_fk (fun h=>?_) fun h=>?_|refine sw_condg rfl (fun h=>?_) fun h=>?_|refine hK.skp rfl rfl ?_|refine sw_exit rfl ?_|refine sw_loopEnd ?_|(refine hK.fork rfl rfl rfl ?_ ?_<;>intro h<;>try simp (disch:=(refine Om.mk ?_;omega)) only[go_sem] at h)|with_reducible refine and_o ?_|((with_reducible refine And.intro ?_ ?_);· first|(intro x hx;subst hx;rfl)|(intro x;refine And.intro ?_ ?_<;>(intros;subst_vars;rfl)))|apply tTT
   all_goals exact⟨p+1,(by rw[hs (by omega),imgS_no hnf];(refine covers_mk0 rfl rfl ?_ ?_ ?_ ?_<;>simp (disch:=(refine Om.mk ?_;omega)) only[go_sem]<;>(try omega));all_goals exact⟨rfl,by omega⟩),by omega,by omega⟩
 ·rw[show p=a.rules.length by omega]
 ·omega
theorem args_le {rs t:List Int} (hT:TermOkP rs t) (p:Nat):(argsS rs t p).length≤3:=by
 unfold argsS
 rw[begS_length]
 unfold arS
 split
 ·omega
 ·split
  ·have:=(hT.1.2 (t.getD p default).toNat (by omega)).2;omega
  ·omega
end Go.Proofs.YtkfkdgginfpdnaaGreatDoor
end
section
namespace Go.Proofs.YtkfkdgginfpdnaaGreatDoor
open Go Go.Lg
set_option linter.unusedSimpArgs false
set_option linter.unusedVariables false
set_option maxHeartbeats 4000000
theorem blk_mem {A:List (List Int)} {y:List Int} (hy:y∈A) {w:Int}:∀(n:Nat) (v:Int),v≤w→w≤v+n→(w::y)∈blkD A v n
 | 0,v,h1,h2=>by
  obtain rfl:w=v:=by omega
  exact List.mem_map.2 ⟨y,hy,rfl⟩
 | n+1,v,h1,h2=>by
  by_cases e:w=v
  ·subst e
   exact List.mem_append_left _ (List.mem_map.2 ⟨y,hy,rfl⟩)
  ·exact List.mem_append_right _ (blk_mem hy n (v+1) (by omega) (by omega))
theorem blk_head {A:List (List Int)}:∀(n:Nat) (v:Int),∀x∈blkD A v n,∃w y,x=w::y∧v≤w
 | 0,v,x,hx=>by
  obtain⟨y,_,rfl⟩:=List.mem_map.1 hx
  exact⟨v,y,rfl,Int.le_refl _⟩
 | n+1,v,x,hx=>by
  rcases List.mem_append.1 hx with hx|hx
  ·obtain⟨y,_,rfl⟩:=List.mem_map.1 hx
   exact⟨v,y,rfl,Int.le_refl _⟩
  ·obtain⟨w,y,e,h⟩:=blk_head n (v+1) x hx
   exact⟨w,y,e,by omega⟩
theorem map_consN {A:List (List Int)} (hA:A.Nodup) (v:Int):(A.map (v::·)).Nodup:=by
 unfold List.Nodup at *
 rw[List.pairwise_map]
 exact hA.imp fun h e=>h (List.cons.inj e).2
theorem blk_nodup {A:List (List Int)} (hA:A.Nodup):∀(n:Nat) (v:Int),(blkD A v n).Nodup
 | 0,v=>map_consN hA v
 | n+1,v=>by
  unfold blkD
  refine List.nodup_append.2 ⟨map_consN hA v,blk_nodup hA n (v+1),fun a ha b hb e=>?_⟩
  obtain⟨y,_,rfl⟩:=List.mem_map.1 ha
  obtain⟨w,z,e2,h⟩:=blk_head n (v+1) b hb
  rw[e2] at e
  have:=(List.cons.inj e).1
  omega
theorem allD_nodup:∀bs:List (Int×Int),(allD bs).Nodup
 | []=>by simp[allD]
 | b::bs=>blk_nodup (allD_nodup bs) _ _
theorem digs_mem {n:Nat}:∀ {k:Nat} {l:List Int},l.length=k→(∀x∈l,0≤x∧x<(n:Int))→l∈digs n k
 | 0,[],_,_=>by simp[digs,allD]
 | k+1,x::r,h1,h2=>by
  have hx:=h2 x List.mem_cons_self
  have ih:=digs_mem (n:=n) (k:=k) (l:=r) (by simpa using h1) fun y hy=>h2 y (List.mem_cons_of_mem _ hy)
  unfold digs at ih ⊢
  rw[List.replicate_succ,allD]
  exact blk_mem ih _ _ hx.1 (by simp only;omega)
theorem evY_mem {rs:List Int} {syms:List Nat} {n f:Nat} {l:List Int} (hf:f∈syms) (h0:0≤rs.getD f default) (hl:l.length=(rs.getD f default).toNat) (hx:∀x∈l,0≤x∧x<(n:Int)):(f,l)∈evY rs syms n:=by
 unfold evY
 refine List.mem_flatMap.2 ⟨f,hf,?_⟩
 unfold evF
 rw[if_neg]
 ·exact List.mem_map.2 ⟨l,digs_mem hl hx,rfl⟩
 ·rintro⟨h1,h2⟩
  cases l with
  | nil=>simp only[List.length_nil] at hl;omega
  | cons x r=>have:=hx x List.mem_cons_self;omega
def EvP (rs:List Int) (syms:List Nat) (n:Int) (e:Nat×List Int):Prop:=e.1∈syms∧e.2.length=(rs.getD e.1 default).toNat∧∀x∈e.2,0≤x∧x<n
theorem evY_of {rs:List Int} {syms:List Nat} (h0:∀f∈syms,0≤rs.getD f default) {n:Nat}:∀e∈evY rs syms n,EvP rs syms n e:=fun e he=>by
  unfold evY at he
  obtain⟨f,hf,he⟩:=List.mem_flatMap.1 he
  have h0:=h0 f hf
  unfold evF at he
  split at he
  · cases he
  · rename_i hn
    obtain⟨l,hl,rfl⟩:=List.mem_map.1 he
    have h1 := digs_dig (n := n) (k := (rs.getD f default).toNat) (by rcases Nat.eq_zero_or_pos n with h | h
                                                                      · exact .inr (by have:=hn;simp only[h,true_and] at this;omega)
                                                                      · exact .inl h) l hl
    exact⟨hf,h1.1,h1.2⟩
theorem evY_nodup {rs:List Int} {syms:List Nat} (hs:syms.Nodup) (n:Nat):(evY rs syms n).Nodup:=by
 unfold evY List.Nodup
 rw[List.pairwise_flatMap]
 have hm:∀f,∀x∈evF rs n f,x.1=f:=fun f x hx=>by
  unfold evF at hx
  split at hx
  ·cases hx
  ·obtain⟨l,_,rfl⟩:=List.mem_map.1 hx
   rfl
 refine⟨fun f _=>?_,hs.imp fun {f g} hfg x hx y hy e=>hfg (by rw[←hm f x hx,←hm g y hy,e])⟩
 unfold evF
 split
 ·exact List.Pairwise.nil
 ·rw[List.pairwise_map]
  exact(allD_nodup _).imp fun h e=>h (Prod.mk.inj e).2
section
variable {I:Nat→List (List Int)→Option (List Int)} {sets:List (List Int)}
theorem trZ_mem:∀ {E:List (Nat×List Int)} {r:TransT},r∈trZ I sets E→∃e∈E,∃s,I e.1 (lstS sets e.2)=some s∧r=⟨(e.1:Int),e.2,placeI s sets⟩
 | [],_,h=>by cases h
 | (f,l)::es,r,h=>by
  cases hI:I f (lstS sets l) with
  | none =>
   rw[trZ_none hI] at h
   obtain⟨e,he,h⟩:=trZ_mem h
   exact⟨e,List.mem_cons_of_mem _ he,h⟩
  | some s =>
   rw[trZ_some hI] at h
   rcases List.mem_cons.1 h with rfl|h
   ·exact⟨(f,l),List.mem_cons_self,s,hI,rfl⟩
   ·obtain⟨e,he,h⟩:=trZ_mem h
    exact⟨e,List.mem_cons_of_mem _ he,h⟩
theorem trZ_has {f:Nat} {l s:List Int} (hI:I f (lstS sets l)=some s):∀ {E:List (Nat×List Int)},(f,l)∈E→(⟨(f:Int),l,placeI s sets⟩:TransT)∈trZ I sets E
 | [],h=>by cases h
 | (g,m)::es,h=>by
  rcases List.mem_cons.1 h with h|h
  ·cases h
   rw[trZ_some hI]
   exact List.mem_cons_self
  ·have ih:=trZ_has hI h
   cases hJ:I g (lstS sets m) with
   | none=>rw[trZ_none hJ];exact ih
   | some s'=>rw[trZ_some hJ];exact List.mem_cons_of_mem _ ih
theorem trZ_nodup:∀ {E:List (Nat×List Int)},E.Nodup→(trZ I sets E).Nodup
 | [],_=>by simp[trZ]
 | (f,l)::es,h=>by
  obtain⟨h1,h2⟩:=List.nodup_cons.1 h
  have ih:=trZ_nodup h2
  cases hI:I f (lstS sets l) with
  | none=>rw[trZ_none hI];exact ih
  | some s =>
   rw[trZ_some hI]
   refine List.nodup_cons.2 ⟨fun hm=>?_,ih⟩
   obtain⟨⟨g,m⟩,he,s',_,e⟩:=trZ_mem hm
   simp only[TransT.mk.injEq] at e
   obtain⟨e1,e2,_⟩:=e
   obtain rfl:f=g:=by omega
   subst e2
   exact h1 he
theorem lstS_pre {r:List (List Int)} {l:List Int} (h:∀x∈l,0≤x∧x<(sets.length:Int)):lstS (sets++r) l=lstS sets l:=List.map_congr_left fun x hx=>by
 have:=h x hx
 rw[List.getD_eq_getElem?_getD,List.getElem?_append_left (by omega),←List.getD_eq_getElem?_getD]
def FndP (I:Nat→List (List Int)→Option (List Int)) (rs:List Int) (syms:List Nat) (out:List (List Int)):Prop:=out.Nodup∧∀j<out.length,∃e,EvP rs syms j e∧I e.1 (lstS out e.2)=some (out.getD j default)
theorem fnd_step {rs:List Int} {syms:List Nat} {e:Nat×List Int} {r:List (List Int)} (he:EvP rs syms sets.length e) (h:FndP I rs syms (sets++r)):FndP I rs syms (stepO I sets (sets++r) e):=by
 unfold stepO
 cases hI:I e.1 (lstS sets e.2) with
 | none=>exact h
 | some s =>
  show FndP I rs syms (addQ (sets++r) s)
  unfold addQ
  split
  ·exact h
  ·rename_i hs
   obtain⟨h1,h2⟩:=h
   refine⟨List.nodup_append.2 ⟨h1,by simp,fun a ha b hb e=>hs (by rw[List.mem_singleton.1 hb] at e;rw[←e];exact ha)⟩,fun j hj=>?_⟩
   by_cases hjl:j<(sets++r).length
   ·obtain⟨e',he',hI'⟩:=h2 j hjl
    refine⟨e',he',?_⟩
    rw[lstS_pre fun x hx=>?_,hI',List.getD_eq_getElem?_getD,List.getD_eq_getElem?_getD,List.getElem?_append_left hjl]
    have:=he'.2.2 x hx
    omega
   ·obtain rfl:j=(sets++r).length:=by rw[List.length_append,List.length_singleton] at hj;omega
    refine⟨e,⟨he.1,he.2.1,fun x hx=>?_⟩,?_⟩
    ·have:=he.2.2 x hx
     rw[List.length_append]
     omega
    ·rw[List.append_assoc,lstS_pre he.2.2,hI,←List.append_assoc,List.getD_eq_getElem?_getD,List.getElem?_append_right (Nat.le_refl _)]
     simp
theorem capF_fnd {rs:List Int} {syms:List Nat}:∀(E:List (Nat×List Int)) (out:List (List Int)),(∀e∈E,EvP rs syms sets.length e)→(∃r,out=sets++r)→FndP I rs syms out→FndP I rs syms (capF I sets E out).1
 | [],out,_,_,h=>h
 | e::es,out,hE,⟨r,hr⟩,h=>by
  have h1:FndP I rs syms (stepO I sets out e):=by rw[hr] at h ⊢;exact fnd_step (hE e List.mem_cons_self) h
  unfold capF
  split
  ·exact h1
  ·obtain⟨r',hr'⟩:=stepO_pre (I:=I) (sets:=sets) out e
   exact capF_fnd es _ (fun x hx=>hE x (List.mem_cons_of_mem _ hx)) ⟨r++r',by rw[hr',hr,List.append_assoc]⟩ h1
end
theorem iterZ_fnd {I:Nat→List (List Int)→Option (List Int)} {rs:List Int} {syms:List Nat} (h0:∀f∈syms,0≤rs.getD f default):∀(k:Nat) (s:List (List Int)),FndP I rs syms s→FndP I rs syms (iterZ I (evY rs syms) k s).1
 | 0,s,h=>h
 | k+1,s,h=>by
  have h1:=capF_fnd (I:=I) (sets:=s) (evY rs syms s.length) s (evY_of h0) ⟨[],by simp⟩ h
  unfold iterZ
  split
  ·split
   ·exact h
   ·exact iterZ_fnd h0 k _ h1
  ·exact h
theorem numsN_mem {n:Nat} {x:Int}:x∈numsN n↔0≤x∧x<n:=by
 unfold numsN
 rw[List.mem_map]
 constructor
 ·rintro⟨j,hj,rfl⟩
  have:=List.mem_range.1 hj
  omega
 ·rintro⟨h1,h2⟩
  exact⟨x.toNat,List.mem_range.2 (by omega),by omega⟩
theorem numsN_at {n j:Nat} (h:j<n):(numsN n).getD j default=j:=by
 unfold numsN
 rw[List.getD_eq_getElem?_getD,List.getElem?_map,List.getElem?_range h]
 rfl
def BelowP (a:AutoT):Prop:=∀j:Nat,(j:Int)<a.states→∃r∈a.rules,r.to=j∧∀x∈r.args,0≤x∧x<(j:Int)
theorem autoN_ok {rs:List Int} {SH ls:List (List Int)} (hO:ShpOk rs SH ls) (h:(autoN rs SH ls (List.range rs.length)).2=true):AutoOkP rs (autoN rs SH ls (List.range rs.length)).1∧BelowP (autoN rs SH ls (List.range rs.length)).1∧(autoN rs SH ls (List.range rs.length)).1.final=numsN (autoN rs SH ls (List.range rs.length)).1.states.toNat:=by
 have har:=fun f hf=>hO.sg.2 f hf
 have h0:∀f∈List.range rs.length,0≤rs.getD f default:=fun f hf=>(har f (List.mem_range.1 hf)).1
 have hF:=iterZ_fnd (I:=imgH rs SH ls) h0 18 [] ⟨by simp,fun j hj=>absurd hj (by simp)⟩
 have hC:=iterZ_closed (I:=imgH rs SH ls) (E:=evY rs (List.range rs.length)) 18 [] (by simp)
 have h16:=iterZ_le (I:=imgH rs SH ls) (E:=evY rs (List.range rs.length)) 18 [] (by simp)
 obtain⟨s,b,hz⟩:∃s b,iterZ (imgH rs SH ls) (evY rs (List.range rs.length)) 18 []=(s,b):=⟨_,_,rfl⟩
 obtain⟨hy,hn⟩:=autoN_eq hz
 rw[hz] at hF hC h16
 dsimp only at hF hC h16
 by_cases hc:b=true∧s≠[]∧(trZ (imgH rs SH ls) s (evY rs (List.range rs.length) s.length)).length≤300
 ·have hpos:=List.length_pos_iff.2 hc.2.1
  rw[hy hc.1 hc.2.1 hc.2.2]
  have hC:=hC hc.1
  refine⟨⟨⟨hO.sg,⟨by dsimp only;omega,by dsimp only;omega⟩,hc.2.2,fun j hj=>?_⟩,fun i hi=>?_⟩,fun j hj=>?_,?_⟩
  ·rw[numsN_len] at hj
   have h1:=numsN_at hj
   refine⟨by dsimp only;rw[h1];omega,fun hj0=>?_⟩
   dsimp only
   rw[h1,numsN_at (show j-1<s.length by omega)]
   omega
  ·dsimp only at hi ⊢
   have hm:=getD_mem (trZ (imgH rs SH ls) s (evY rs (List.range rs.length) s.length)) i hi
   obtain⟨e,he,t,ht,er⟩:=trZ_mem hm
   have hev:=evY_of h0 e he
   have hfl:=List.mem_range.1 hev.1
   have ha:=har e.1 hfl
   have hts:=hC e he t ht
   refine⟨?_,fun k hk eq=>?_⟩
   ·rw[er]
    have hp:=placeI_ge t s
    have hp2:placeI t s<s.length:=by
     rw[place_idx hts]
     have:=List.idxOf_lt_length_iff.2 hts
     omega
    refine⟨⟨by dsimp only;omega,by dsimp only;omega⟩,?_,⟨hp.2.2 hts,by dsimp only;omega⟩,fun j hj=>?_⟩
    ·dsimp only
     rw[hev.2.1,Int.toNat_natCast]
     omega
    ·have:=hev.2.2 _ (getD_mem _ j hj)
     dsimp only at this ⊢
     omega
   ·have hnd:=trZ_nodup (I:=imgH rs SH ls) (sets:=s) (evY_nodup (rs:=rs) (List.nodup_range (n:=rs.length)) s.length)
    have hkl:k<(trZ (imgH rs SH ls) s (evY rs (List.range rs.length) s.length)).length:=by omega
    have:=List.pairwise_iff_getElem.1 hnd k i hkl hi hk
    rw[List.getD_eq_getElem?_getD,List.getD_eq_getElem?_getD,List.getElem?_eq_getElem hkl,List.getElem?_eq_getElem hi] at eq
    exact this eq
  ·have hj:j<s.length:=by dsimp only at hj;omega
   obtain⟨⟨f,l⟩,he,ht⟩:=hF.2 j hj
   have hfl:=List.mem_range.1 he.1
   have ha:=har f hfl
   refine⟨_,trZ_has ht (evY_mem he.1 ha.1 he.2.1 fun x hx=>?_),?_,he.2.2⟩
   ·have:=he.2.2 x hx
    omega
   ·refine placeI_at (fun i hi e=>?_) hj rfl
    have hi2:i<s.length:=by omega
    have:=List.pairwise_iff_getElem.1 hF.1 i j hi2 hj hi
    rw[List.getD_eq_getElem?_getD,List.getD_eq_getElem?_getD,List.getElem?_eq_getElem hi2,List.getElem?_eq_getElem hj] at e
    exact this e
  ·simp
 ·rw[hn hc] at h
  cases h
theorem normR_ok {x:SystemT} (h:(normR x).2=true):LeftP x∧AutoOkP x.sig (normR x).1∧BelowP (normR x).1∧(normR x).1.final=numsN (normR x).1.states.toNat:=by
 by_cases hL:LeftP x
 ·rw[normR_yes hL] at h ⊢
  exact⟨hL,autoN_ok hL.shp h⟩
 ·rw[normR_no hL] at h
  cases h
theorem below_all {a:AutoT} (hB:BelowP a) {V:List Int} (hV:∀r∈a.rules,(∀x∈r.args,x∈V)→r.to∈V):∀j:Nat,(j:Int)<a.states→(j:Int)∈V:=by
 intro j
 induction j using Nat.strongRecOn with
 | ind j ih =>
  intro hj
  obtain⟨r,hr,e,hx⟩:=hB j hj
  rw[←e]
  refine hV r hr fun x hxm=>?_
  have:=hx x hxm
  have:=ih x.toNat (by omega) (by omega)
  rwa [Int.toNat_of_nonneg (by omega)] at this
noncomputable def instM (rs:List Int) (a:AutoT) (t:List Int) (V:List Int):Nat→Nat→List Int
 | 0,_=>[]
 | f+1,p=>if t.getD p default<0 then V else imgT a (t.getD p default) ((argsS rs t p).map (instM rs a t V f)) a.rules.length
theorem instM_in {rs:List Int} {a:AutoT} (hA:AutoOkP rs a) (t:List Int) {V:List Int} (hV:InS V):∀f p,InS (instM rs a t V f p)
 | 0,_=>by simp[instM,InS]
 | f+1,p=>by
  unfold instM
  split
  ·exact hV
  ·exact imgT_in hA _ _ _ (Nat.le_refl _)
end Go.Proofs.YtkfkdgginfpdnaaGreatDoor
end
section
namespace Go.Proofs.YtkfkdgginfpdnaaGreatDoor
open Go Go.Lg
set_option linter.unusedSimpArgs false
set_option linter.unusedVariables false
set_option maxHeartbeats 4000000
attribute [local irreducible] SW runL runQ runG runQG FC Ret1 RetN toF redoL
theorem bits_u32:IntKind.bits .u32=32:=rfl
attribute [local go_sem] bits_u32
def kp134:List (Nat×List Nat):=[(0,[0,1]),(1,[4])]
attribute [go_sem] kp134 Tryz.results134 Tryz.ntmps134
theorem has_fc (s:List Int) (hs:InS s) (q:Int) (h0:0≤q) (h1:q<16):FC S 134 [] [] [] [.int .u32 (maskI s),.int .i64 q] (.bool (tst (q∈s))) [] []:=by
 have h:=mask_has hs h0 h1
 refine fcb Tryz.func134 fun B=>?_
 repeat' first|refine sw_n ?_|refine sw_go 0 kp134 fun K hK=>?_|refine fun (K:KT) (hK:KOk S 0 _ _ _ K)=>?_|refine runL_g ?_|refine sw_retg0 ?_|refine sw_retg ?_|(refine hK.n0 ?_;clear hK K)|refine sw_loopEnd ?_|with_reducible refine and_o ?_|apply tTT
 exact h
def kp133:List (Nat×List Nat):=[(0,[0]),(1,[0,3]),(2,[3,6,7,8]),(3,[3,6,7,8,9]),(4,[3,5,6,7,8]),(5,[3,6,7,8]),(6,[3,6,7,8]),(7,[2])]
attribute [go_sem] kp133 Tryz.results133 Tryz.ntmps133
theorem setOf_fc (tk:Tk) (s:List Int) (hs:InS s):FC S 133 [] [] [] [.sl tk (s.map (.int .i64))] (.int .u32 (maskI s)) [] []:=by
 refine FC.args (args':=[.sl .any (s.map (.int .i64))]) ?_ (by simp only[go_sem])
 refine fcb Tryz.func133 fun B=>?_
 refine sw_bndg 0 fun hb0=>?_
 repeat' first|exact h.elim|refine sw_n ?_|refine sw_go 0 kp133 fun K hK=>?_|refine fun (K:KT) (hK:KOk S 0 _ _ _ K)=>?_|refine runL_g ?_|refine sw_retg0 ?_|refine sw_retg ?_|(refine hK.n0 ?_;clear hK K)|refine sw_condg rfl (fun h=>?_) fun h=>?_|refine sw_exit rfl ?_|refine sw_loopEnd ?_|with_reducible refine and_o ?_|apply tTT
 refine sw_loopU (ι:=Nat) (fun p=>[(8,.int .i64 p),(3,.int .u32 (maskI (s.take p)))]) (fun p=>[]) (fun p=>p≤s.length) (fun p=>s.length-p) 0 cvB ?_ (fun p hp=>?_)
 rotate_left
 simp only[go_sem]
 have hq:p<s.length→0≤s.getD p default∧s.getD p default<16:=fun h=>hs _ (getD_mem s p h)
 repeat' first|exact h.elim|refine sw_n ?_|refine sw_go 0 kp133 fun K hK=>?_|refine fun (K:KT) (hK:KOk S 0 _ _ _ K)=>?_|refine runL_g ?_|refine sw_retg0 ?_|refine sw_retg ?_|(refine hK.n0 ?_;clear hK K)|refine sw_condg rfl (fun h=>?_) fun h=>?_|refine sw_exit rfl ?_|refine sw_loopEnd ?_|with_reducible refine and_o ?_|apply tTT
 ·have hpl:p<s.length:=by omega
  have hin:InS (s.take p):=fun x hx=>hs x (List.mem_of_mem_take hx)
  have e:=mask_snoc hin (hq hpl).1 (hq hpl).2
  have e2:s.take (p+1)=s.take p++[s.getD p default]:=by rw[List.take_succ_eq_append_getElem hpl];simp[List.getD,hpl]
  exact⟨p+1,(by rw[e,←e2];(refine covers_mk0 rfl rfl ?_ ?_ ?_ ?_<;>simp (disch:=(refine Om.mk ?_;omega)) only[go_sem]<;>(try omega));all_goals exact⟨rfl,by omega⟩),by omega,by omega⟩
 ·rw[List.take_of_length_le (by omega)]
 ·omega
def kp83:List (Nat×List Nat):=[(0,[1,2,3]),(1,[1,2,3,7]),(2,[1,2,7,14,15,16]),(3,[1,2,7,14,15,16,17]),(4,[1,2,7,9,14,15,16]),(5,[1,2,7,9,14,15,16,23]),(6,[1,2,7,9,10,14,15,16]),(7,[1,2,7,9,10,14,15,16,25,26,27]),(8,[1,2,7,9,10,14,15,16,25,26,27,28]),(9,[1,2,7,9,10,11,12,14,15,16,25,26,27]),(10,[1,2,7,9,10,14,15,16,25,26,27]),(11,[1,2,7,9,10,14,15,16,25,26,27]),(12,[1,2,7,9,14,15,16,42]),(13,[1,2,7,14,15,16]),(14,[1,2,7,14,15,16]),(15,[6])]
attribute [go_sem] kp83 Tryz.results83 Tryz.ntmps83
theorem reaches_fc (tk:Tk) (rs:List Int) (a:AutoT) (hA:AutoOkP rs a) (sym:Int) (args:List (List Int)) (hn:args.length≤100) (hin:∀s∈args,InS s) (hf:∀i<a.rules.length,(a.rules.getD i default).sym=sym→(a.rules.getD i default).args.length=args.length):FC S 83 [] [] [] [AutoD a,.int .i64 sym,.sl tk (args.map fun s=>.int .u32 (maskI s))] (.int .u32 (maskI (imgT a sym args a.rules.length))) [] []:=by
 have hr:=hA.1.2.2.1
 refine FC.args (args':=[AutoD a,.int .i64 sym,.sl .any (args.map fun s=>.int .u32 (maskI s))]) ?_ (by simp only[go_sem])
 refine fcb Tryz.func83 fun B=>?_
 refine sw_bndg 2 fun hb2=>?_
 repeat' first|exact h.elim|refine sw_n ?_|refine sw_go 0 kp83 fun K hK=>?_|refine fun (K:KT) (hK:KOk S 0 _ _ _ K)=>?_|refine runL_g ?_|refine sw_retg0 ?_|refine sw_retg ?_|(refine hK.n0 ?_;clear hK K)|refine runG_fk (fun h=>?_) fun h=>?_|refine sw_condg rfl (fun h=>?_) fun h=>?_|refine hK.skp rfl rfl ?_|refine sw_exit rfl ?_|refine sw_loopEnd ?_|(refine hK.fork rfl rfl rfl ?_ ?_<;>intro h<;>try simp (disch:=(refine Om.mk ?_;omega)) only[go_sem] at h)|with_reducible refine and_o ?_|apply tTT
 refine sw_loopU (ι:=Nat) (fun p=>[(16,.int .i64 p),(7,.int .u32 (maskI (imgT a sym args p)))]) (fun p=>[]) (fun p=>p≤a.rules.length) (fun p=>a.rules.length-p) 0 cvB ?_ (fun p hp=>?_)
 rotate_left
 simp only[go_sem]
 have hs:=fun h=>imgT_succ a sym args (i:=p) h
 have hI:=imgT_in hA sym args p hp
 have hst:=hA.1.2.1
 have hf:=hf p
 have hto:=fun h=>(hA.2 p h).1.2.2.1
 have hir:=fun h=>(hA.2 p h).1.2.2.2
 repeat' first|exact h.elim|refine sw_n ?_|refine sw_go 0 kp83 fun K hK=>?_|refine fun (K:KT) (hK:KOk S 0 _ _ _ K)=>?_|refine runL_g ?_|refine sw_retg0 ?_|refine sw_retg ?_|(refine hK.n0 ?_;clear hK K)|refine runG_fk (fun h=>?_) fun h=>?_|refine sw_condg rfl (fun h=>?_) fun h=>?_|refine hK.skp rfl rfl ?_|refine sw_exit rfl ?_|refine sw_loopEnd ?_|(refine hK.fork rfl rfl rfl ?_ ?_<;>intro h<;>try simp (disch:=(refine Om.mk ?_;omega)) only[go_sem] at h)|with_reducible refine and_o ?_|apply tTT
 ·have hnf:¬((a.rules.getD p default).sym=sym∧FitA (a.rules.getD p default) args):=fun e=>by first|exact h e.1|exact absurd e.1 h|omega
  exact⟨p+1,(by rw[hs (by omega),imgS_no hnf];(refine covers_mk0 rfl rfl ?_ ?_ ?_ ?_<;>simp (disch:=(refine Om.mk ?_;omega)) only[go_sem]<;>(try omega));all_goals exact⟨rfl,by omega⟩),by omega,by omega⟩
 ·generalize hrd:a.rules.getD p default=r at *
  have hsy:r.sym=sym:=by first|assumption|omega
  have hlen:=hf (by omega) hsy
  have hir:=hir (by omega)
  have hto:=hto (by omega)
  refine sw_loopT (ι:=Nat) (fun k=>[(27,.int .i64 k),(10,.bool (tst (∀j<k,r.args.getD j default∈args.getD j default)))]) (fun _=>[]) (fun _=>[]) (fun k=>k≤args.length) (fun k=>args.length-k) 0 (by(refine covers_mk0 rfl rfl ?_ ?_ ?_ ?_<;>simp (disch:=(refine Om.mk ?_;omega)) only[go_sem]<;>(try omega));all_goals exact⟨fun j hj=>absurd hj (by omega),rfl⟩) (by omega) (fun k hk=>?_)
  simp only[go_sem]
  by_cases hkl:k<args.length
  ·have hq:=hir k (by omega)
   repeat' first|exact h.elim|(exfalso;omega)|refine sw_n ?_|refine sw_go 0 kp83 fun K hK=>?_|refine fun (K:KT) (hK:KOk S 0 _ _ _ K)=>?_|refine runL_g ?_|refine sw_retg0 ?_|refine sw_retg ?_|(refine hK.n0 ?_;clear hK K)|refine runG_fk (fun h=>?_) fun h=>?_|refine sw_condg rfl (fun h=>?_) fun h=>?_|refine hK.skp rfl rfl ?_|refine sw_exit rfl ?_|refine sw_loopEnd ?_|refine hK.c1 rfl rfl rfl (has_fc (args.getD k default) (hin _ (getD_mem args k hkl)) (r.args.getD k default) hq.1 (by omega)) ?_|(refine hK.fork rfl rfl rfl ?_ ?_<;>intro h<;>try simp (disch:=(refine Om.mk ?_;omega)) only[go_sem] at h)|with_reducible refine and_o ?_|apply tTT
   ·exact⟨k+1,(by(refine covers_mk0 rfl rfl ?_ ?_ ?_ ?_<;>simp (disch:=(refine Om.mk ?_;omega)) only[go_sem]<;>(try omega));refine⟨⟨fun hm=>upto_succ h hm,fun hm=>hm k (by omega)⟩,?_⟩;omega),by omega,by omega⟩
   ·have e:tst (∀j<k+1,r.args.getD j default∈args.getD j default)=false:=tst_false fun e=>h fun j hj=>e j (by omega)
    exact⟨k+1,(by rw[e];(refine covers_mk0 rfl rfl ?_ ?_ ?_ ?_<;>simp (disch:=(refine Om.mk ?_;omega)) only[go_sem]<;>(try omega));all_goals exact⟨rfl,by omega⟩),by omega,by omega⟩
  ·repeat' first|exact h.elim|(exfalso;omega)|refine sw_n ?_|refine sw_go 0 kp83 fun K hK=>?_|refine fun (K:KT) (hK:KOk S 0 _ _ _ K)=>?_|refine runL_g ?_|refine sw_retg0 ?_|refine sw_retg ?_|(refine hK.n0 ?_;clear hK K)|refine runG_fk (fun h=>?_) fun h=>?_|refine sw_condg rfl (fun h=>?_) fun h=>?_|refine hK.skp rfl rfl ?_|refine sw_exit rfl ?_|refine sw_loopEnd ?_|(refine hK.fork rfl rfl rfl ?_ ?_<;>intro h<;>try simp (disch:=(refine Om.mk ?_;omega)) only[go_sem] at h)|with_reducible refine and_o ?_|apply tTT
   ·have hF:r.sym=sym∧FitA r args:=⟨hsy,fun j hj=>h j (by omega)⟩
    have e:=mask_into hI hto.1 (show r.to<16 by omega)
    exact⟨p+1,(by rw[hs (by omega),imgS_yes hF,e];(refine covers_mk0 rfl rfl ?_ ?_ ?_ ?_<;>simp (disch:=(refine Om.mk ?_;omega)) only[go_sem]<;>(try omega));all_goals exact⟨rfl,by omega⟩),by omega,by omega⟩
   ·have hnf:¬(r.sym=sym∧FitA r args):=fun e=>h fun j hj=>e.2 j (by omega)
    exact⟨p+1,(by rw[hs (by omega),imgS_no hnf];(refine covers_mk0 rfl rfl ?_ ?_ ?_ ?_<;>simp (disch:=(refine Om.mk ?_;omega)) only[go_sem]<;>(try omega));all_goals exact⟨rfl,by omega⟩),by omega,by omega⟩
 ·rw[show p=a.rules.length by omega]
 ·omega
end Go.Proofs.YtkfkdgginfpdnaaGreatDoor
end
