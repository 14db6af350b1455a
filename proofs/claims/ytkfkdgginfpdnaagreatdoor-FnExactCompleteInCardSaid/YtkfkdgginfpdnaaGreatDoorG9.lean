/-
  Srt, N10, N11, N13c, N13, one behind the other.
-/
import Derived.Shelf.SlSortCmp.NoneTotal
import Derived.Test.YtkfkdgginfpdnaaGreatDoorProg
import Derived.Test.YtkfkdgginfpdnaaGreatDoorG8
import Derived.Test.YtkfkdgginfpdnaaGreatDoorG5
import Derived.Test.YtkfkdgginfpdnaaGreatDoorLgK9
import Derived.Test.YtkfkdgginfpdnaaGreatDoorG2
import Derived.Test.YtkfkdgginfpdnaaGreatDoorLgK6
import Derived.Test.YtkfkdgginfpdnaaGreatDoorLgK7
import Derived.MakeChecks
import Derived.Stop.LaidErr
import Derived.LaidHandle
import Derived.Lib.LaidTab
import Derived.Test.YtkfkdgginfpdnaaGreatDoorG3
import Derived.Test.YtkfkdgginfpdnaaGreatDoorG0
section
namespace Go.Proofs
open Go.Shelf
def Tryz.sortT_ren:Go.Shelf.Ren:=⟨fun|6=>148|15=>164|14=>163|28=>181|29=>182|20=>173|21=>174|22=>175|23=>176|24=>177|25=>178|26=>179|27=>180|46=>187|47=>188|48=>189|49=>190|50=>191|57=>195|n=>n,fun|22=>80|24=>22|25=>181|3=>3|39=>171|0=>0|53=>75|55=>215|4=>4|46=>208|45=>207|50=>197|5=>5|9=>9|66=>222|70=>226|76=>231|77=>232|n=>n,fun|n=>n⟩
theorem Tryz.sortT:Go.Proofs.SlLaysF.n6 Tryz.prog Tryz.sortT_ren:={
 mixed:=by kernel_rfl
 f6:=⟨Tryz.f148.name,by decide,Tryz.func148.trans (congrArg some (by kernel_rfl))⟩
 f14:=⟨Tryz.f163.name,by decide,Tryz.func163.trans (congrArg some (by kernel_rfl))⟩
 f15:=Tryz.func164.trans (congrArg some (by kernel_rfl))
 f20:=⟨Tryz.f173.name,by decide,Tryz.func173.trans (congrArg some (by kernel_rfl))⟩
 f21:=⟨Tryz.f174.name,by decide,Tryz.func174.trans (congrArg some (by kernel_rfl))⟩
 f22:=⟨Tryz.f175.name,by decide,Tryz.func175.trans (congrArg some (by kernel_rfl))⟩
 f23:=⟨Tryz.f176.name,by decide,Tryz.func176.trans (congrArg some (by kernel_rfl))⟩
 f24:=⟨Tryz.f177.name,by decide,Tryz.func177.trans (congrArg some (by kernel_rfl))⟩
 f25:=⟨Tryz.f178.name,by decide,Tryz.func178.trans (congrArg some (by kernel_rfl))⟩
 f26:=⟨Tryz.f179.name,by decide,Tryz.func179.trans (congrArg some (by kernel_rfl))⟩
 f27:=⟨Tryz.f180.name,by decide,Tryz.func180.trans (congrArg some (by kernel_rfl))⟩
 f28:=Tryz.func181.trans (congrArg some (by kernel_rfl))
 f29:=Tryz.func182.trans (congrArg some (by kernel_rfl))
 f46:=⟨Tryz.f187.name,by decide,Tryz.func187.trans (congrArg some (by kernel_rfl))⟩
 f47:=Tryz.func188.trans (congrArg some (by kernel_rfl))
 f48:=Tryz.func189.trans (congrArg some (by kernel_rfl))
 f49:=⟨Tryz.f190.name,by decide,Tryz.func190.trans (congrArg some (by kernel_rfl))⟩
 f50:=⟨Tryz.f191.name,by decide,Tryz.func191.trans (congrArg some (by kernel_rfl))⟩
 f57:=⟨Tryz.f195.name,by decide,Tryz.func195.trans (congrArg some (by kernel_rfl))⟩
 t0:=Tryz.underlying0
 a0:=Tryz.isAgg0
 z0:=Tryz.sizeOf0
 v0:=Tryz.zeroValue0
 t3:=Tryz.underlying3
 a3:=Tryz.isAgg3
 z3:=Tryz.sizeOf3
 v3:=Tryz.zeroValue3
 t4:=Tryz.underlying4
 a4:=Tryz.isAgg4
 z4:=Tryz.sizeOf4
 v4:=Tryz.zeroValue4
 t5:=Tryz.underlying5
 a5:=Tryz.isAgg5
 z5:=Tryz.sizeOf5
 v5:=Tryz.zeroValue5
 t9:=Tryz.underlying9
 a9:=Tryz.isAgg9
 z9:=Tryz.sizeOf9
 v9:=Tryz.zeroValue9
 t22:=Tryz.underlying80
 a22:=Tryz.isAgg80
 z22:=Tryz.sizeOf80
 v22:=Tryz.zeroValue80
 a24:=Tryz.isAgg22
 z24:=Tryz.sizeOf22
 t25:=Tryz.underlying181
 a25:=Tryz.isAgg181
 z25:=Tryz.sizeOf181
 v25:=Tryz.zeroValue181
 t39:=Tryz.underlying171
 a39:=Tryz.isAgg171
 z39:=Tryz.sizeOf171
 v39:=Tryz.zeroValue171
 t45:=Tryz.underlying207
 a45:=Tryz.isAgg207
 z45:=Tryz.sizeOf207
 v45:=Tryz.zeroValue207
 t46:=Tryz.underlying208
 a46:=Tryz.isAgg208
 z46:=Tryz.sizeOf208
 v46:=Tryz.zeroValue208
 t50:=Tryz.underlying197
 a50:=Tryz.isAgg197
 z50:=Tryz.sizeOf197
 v50:=Tryz.zeroValue197
 t53:=Tryz.underlying75
 a53:=Tryz.isAgg75
 z53:=Tryz.sizeOf75
 v53:=Tryz.zeroValue75
 t55:=Tryz.underlying215
 a55:=Tryz.isAgg215
 z55:=Tryz.sizeOf215
 v55:=Tryz.zeroValue215
 t66:=Tryz.underlying222
 a66:=Tryz.isAgg222
 z66:=Tryz.sizeOf222
 v66:=Tryz.zeroValue222
 t70:=Tryz.underlying226
 a70:=Tryz.isAgg226
 z70:=Tryz.sizeOf226
 v70:=Tryz.zeroValue226
 t76:=Tryz.underlying231
 a76:=Tryz.isAgg231
 z76:=Tryz.sizeOf231
 v76:=Tryz.zeroValue231
 t77:=Tryz.underlying232
 a77:=Tryz.isAgg232
 z77:=Tryz.sizeOf232
 v77:=Tryz.zeroValue232}
end Go.Proofs
end
section
namespace Go.Proofs.YtkfkdgginfpdnaaGreatDoor
open Go Go.Lg
set_option linter.unusedSimpArgs false
set_option linter.unusedVariables false
set_option maxHeartbeats 4000000
attribute [local irreducible] Lg.SW runL runQ runG runQG FC FCw Ret1 RetN toF redoL anyB
theorem anyV_shT (o:Nat):anyV.shT o=anyV:=rfl
theorem anyV_ids:anyV.ids=[]:=rfl
theorem anyV_tks:anyV.tks=[]:=rfl
theorem anyV_pu (p:Nat→Bool):anyV.pu p=anyV:=rfl
attribute [local go_sem] shC anyV_shT anyV_ids anyV_tks
attribute [local go_sem high] anyV_pu
theorem ret_le {L:LS} {d d0:D} (h:D.le d0 d) (h1:d.tks=[]) (h2:∀f,d.mT f=d):RetK d [] 0 L d0:=⟨[],d,h,⟨rfl,List.nodup_nil⟩,by simp,by rw[h1];simp,h2 _,by simp⟩
theorem sortKN:SortKit S.P 148 149:=sortKit_of Tryz.sortT ⟨_,Tryz.func149,by kernel_rfl,rfl⟩
theorem forms_ok {rs:List Int} {SH ts:List (List Int)} (hsg:SigOkP rs) (h:ts.length≤1000):∀f<rs.length,FormsOk (f:Int) (rs.getD f default).toNat (ts.map (formR rs SH)):=fun f hf=>by
 refine⟨by simpa using h,fun i hi=>?_⟩
 rw[List.length_map] at hi
 rw[getD_map' hi]
 have hl:∀t,((formR rs SH t).args).length=(arS rs (t.getD 0 default)).toNat:=fun t=>by unfold formR;rw[List.length_map,argsS_len]
 refine⟨?_,fun e=>?_⟩
 ·rw[hl]
  generalize (ts.getD i default).getD 0 default=n
  unfold arS
  split
  ·simp
  ·split
   ·have:=hsg.2 n.toNat (by omega);omega
   ·simp
 ·have e:(ts.getD i default).getD 0 default=(f:Int):=e
  rw[hl,e]
  unfold arS
  rw[if_neg (by omega),if_pos (by omega)]
  simp
theorem symsK_nil (rs:List Int):symsK rs []=List.range rs.length:=by
 unfold symsK
 rw[List.filter_eq_self]
 intro f _
 simp
theorem prog_auto {rs:List Int} {SH ls:List (List Int)} {sets:List (List Int)} {ru:List TransT} {ok:Bool} (h:iterA (imgH rs SH ls) (fun n=>evK rs [] n rs.length) 18 []=(sets,ru,ok)):(ok=true∧sets≠[]∧ru.length≤300→autoN rs SH ls (List.range rs.length)=(⟨(sets.length:Int),ru,upTo sets.length⟩,true)∧sets.length≤16)∧(¬(ok=true∧sets≠[]∧ru.length≤300)→autoN rs SH ls (List.range rs.length)=(⟨0,[],[]⟩,false)):=by
 have hE:(fun n=>evK rs [] n rs.length)=evY rs (List.range rs.length):=funext fun n=>by rw[evK_all,symsK_nil]
 rw[hE] at h
 obtain⟨h1,h2⟩:=iterA_eq (I:=imgH rs SH ls) (E:=evY rs (List.range rs.length)) 18 [] (by simp)
 rw[h] at h1 h2
 dsimp only at h1 h2
 obtain⟨s,b,hz⟩:∃s b,iterZ (imgH rs SH ls) (evY rs (List.range rs.length)) 18 []=(s,b):=⟨_,_,rfl⟩
 obtain⟨hy,hn⟩:=autoN_eq hz
 have h16:=iterZ_le (I:=imgH rs SH ls) (E:=evY rs (List.range rs.length)) 18 [] (by simp)
 have hcl:=iterZ_closed (I:=imgH rs SH ls) (E:=evY rs (List.range rs.length)) 18 [] (by simp)
 rw[hz] at h1 h2 h16 hcl
 dsimp only at h1 h2 h16 hcl
 subst h1
 cases ok with
 | false=>exact⟨fun h=>absurd h.1 (by simp),fun _=>hn (fun h=>by cases h.1)⟩
 | true =>
  obtain⟨rfl,rfl⟩:=h2 rfl
  have htr:=trZ_trS _ (hcl rfl)
  rw[htr] at hy hn
  exact⟨fun h=>⟨hy rfl h.2.1 h.2.2,h16⟩,fun h=>hn h⟩
theorem firstPermL_fc (q:List Nat) (hq:q≠[]) (n:Nat) (hn:n≤1000):FC S 123 [] [] [] [.int .i64 n] (Int64SL q (upTo n)) [] []:=by
 refine fcb Tryz.func123 fun B=>?_
 repeat' first|exact h.elim|refine sw_n ?_|refine sw_go 0 kp123 fun K hK=>?_|refine fun (K:KT) (hK:KOk S 0 _ _ _ K)=>?_|refine runL_g ?_|refine sw_retg0 ?_|refine sw_retg ?_|(refine hK.n0 ?_;clear hK K)|refine sw_condg rfl (fun h=>?_) fun h=>?_|refine sw_exit rfl ?_|refine sw_loopEnd ?_|with_reducible refine and_o ?_|((with_reducible refine And.intro ?_ ?_);· first|(intro x hx;subst hx;rfl)|exact upR_mem fun _ _=>rfl|exact mapR_mem fun _ _=>rfl|(intro x;refine And.intro ?_ ?_<;>(intros;subst_vars;rfl)))|apply tTT
 refine sw_loopU (ι:=Nat) (fun p=>[(9,.int .i64 p)]) (fun p=>[(6,(fillU n p).map (.int .i64))]) (fun p=>p≤n) (fun p=>n-p) 0 (by(refine covers_mk0 rfl rfl ?_ ?_ ?_ ?_<;>simp (disch:=(refine Om.mk ?_;omega)) only[go_sem]<;>(try omega));all_goals first|(rw[flatten_one,fillU,upTo];simp;done)|(simp;done)) ?_ (fun p hp=>?_)
 rotate_left
 simp only[go_sem]
 have hl:=fillU_len n p hp
 have hs:=fillU_set n p
 by_cases hpn:p<n
 ·repeat' first|exact h.elim|(exfalso;omega)|refine sw_n ?_|refine sw_go 0 kp123 fun K hK=>?_|refine fun (K:KT) (hK:KOk S 0 _ _ _ K)=>?_|refine runL_g ?_|refine sw_retg0 ?_|refine sw_retg ?_|(refine hK.n0 ?_;clear hK K)|refine sw_condg rfl (fun h=>?_) fun h=>?_|refine sw_exit rfl ?_|refine sw_loopEnd ?_|with_reducible refine and_o ?_|((with_reducible refine And.intro ?_ ?_);· first|(intro x hx;subst hx;rfl)|exact upR_mem fun _ _=>rfl|exact mapR_mem fun _ _=>rfl|(intro x;refine And.intro ?_ ?_<;>(intros;subst_vars;rfl)))|apply tTT
  all_goals exact⟨p+1,(by(refine covers_mk0 rfl rfl ?_ ?_ ?_ ?_<;>simp (disch:=(refine Om.mk ?_;omega)) only[go_sem]<;>(try omega));all_goals first|rw[hs (by omega)]|skip),by omega,by omega⟩
 ·obtain rfl:p=n:=by omega
  have hf:fillU p p=upTo p:=by simp[fillU]
  rw[hf]
  repeat' first|exact h.elim|(exfalso;omega)|(refine sw_freezeLab 2 1 q (id:=6) (n:=p) (cs:=(upTo p).map (.int .i64)) ((upTo p).map (.int .i64)) rfl (by simp[Lg.look]) (flat_ints _).symm (by simp[upTo_len]) (cells_one fun _=>rfl) (memOk_ints _) hq (by simp) ?_;simp only[go_sem])|refine sw_n ?_|refine sw_go 0 kp123 fun K hK=>?_|refine fun (K:KT) (hK:KOk S 0 _ _ _ K)=>?_|refine runL_g ?_|refine sw_retg0 ?_|refine sw_retg ?_|(refine hK.n0 ?_;clear hK K)|refine sw_condg rfl (fun h=>?_) fun h=>?_|refine sw_exit rfl ?_|refine sw_loopEnd ?_|with_reducible refine and_o ?_|((with_reducible refine And.intro ?_ ?_);· first|(intro x hx;subst hx;rfl)|exact upR_mem fun _ _=>rfl|exact mapR_mem fun _ _=>rfl|(intro x;refine And.intro ?_ ?_<;>(intros;subst_vars;rfl)))|apply tTT
 ·exact Nat.zero_le _
def kp69:List (Nat×List Nat):=[(0,[1,2]),(1,[1,2,4]),(2,[1,2,4,5]),(3,[2,6]),(4,[2,6,7,8]),(5,[2,6,7,49]),(6,[2,3]),(7,[2,3])]
attribute [go_sem] kp69 Tryz.results69 Tryz.ntmps69
theorem normalAutoI_fc (p:List Nat) (hp:p≠[]) (x:SystemT) (h:LeftP x):FCw S TabW 69 [] [] [] [SystemD x] (.tup [AutoL p (normR x).1,.bool (normR x).2]) [] []:=by
 have hO:=h.shp
 obtain⟨ht1,ht2⟩:=h.term
 rw[normR_yes h]
 generalize hSH:srtM (shpA x.sig (x.rules.map (·.l)) x.rules.length)=SH at *
 have cL:=leftsOf_fc x.rules (by rw[List.length_map] at ht1;exact ht1) (fun i hi=>by
  have:=(ht2 i (by rw[List.length_map];exact hi)).2.1.2
  rw[getD_map' (g:=fun r:RuleT=>r.l) hi] at this
  exact this)
 have cS:=(shapesOf_fc sortKN [0] (by simp) x.sig (x.rules.map (·.l)) ht1 ht2).weak (bx'':=[]) (tk'':=[]) (le_Int64SSL _ _) (by simp) (by simp)
 rw[List.length_map,hSH] at cS
 have cF1:=formsOf_fc x.sig SH (x.rules.map (·.l)) (fun t ht=>(hO.lf t ht).1) hO.n (by omega)
 have cF2:=formsOf_fc x.sig SH SH (fun t ht=>(hO.sh t ht).1) hO.n hO.n
 generalize hLS:x.rules.map (·.l)=LE at *
 obtain⟨sets,ru,ok,hR⟩:∃a b c,iterA (imgH x.sig SH LE) (fun n=>evK x.sig [] n x.sig.length) 18 []=(a,b,c):=⟨_,_,_,rfl⟩
 have hT:TblOk x.sig (LE.map (formR x.sig SH)) (SH.map (formR x.sig SH)):=⟨hO.sg,forms_ok hO.sg (by have:=hO.m;omega),forms_ok hO.sg hO.n,by simpa using hO.n⟩
 have cA:=all_fc (p++[1]) (by simp) x.sig _ _ hT (sets,ru,ok) hR
 obtain⟨hyes,hno⟩:=prog_auto hR
 refine fcbW Tryz.func69 rfl fun B hw hTB hI hpan=>?_
 have htl:=mapR_length (fun i y=>TransL (p++[1]++[i]) y) ru
 by_cases hc:ok=true∧sets≠[]∧ru.length≤300
 ·obtain⟨he,h16⟩:=hyes hc
  rw[he]
  obtain⟨rfl,h0,h3⟩:=hc
  have hpos:=List.length_pos_iff.2 h0
  have cP:=firstPermL_fc (p++[2]) (by simp) sets.length (by omega)
  repeat' first|exact h.elim|(exfalso;omega)|(refine hK.raw ?_;clear hK K;refine LopsW.callW rfl rfl rfl hw hTB (cA) (by refine⟨⟨?_,?_,?_,?_,?_⟩,⟨?_,?_,?_,?_,?_⟩,?_⟩<;>simp[LS.getBox,Lg.look,D.ids,D.idsL,LS.clean,D.tks,D.tksL,inTok,shC,anyV,idsL_i,tksL_i]) (lops_go 471 (fun (K:List Oper→LS→Prop) (hK:KOk S 471 _ _ _ K)=>?_));simp (disch:=(refine Om.mk ?_;omega)) only[go_sem,List.filter_cons,List.filter_nil,Bool.false_eq_true])|(refine sw_lab 7 (p++[1]) (k:=33000) rfl (by simp) (by simp) ?_;simp only[go_sem])|refine sw_n ?_|refine sw_go 471 kp69 fun K hK=>?_|refine sw_goT 471 kp69 13 (id:=3) (by kernel_rfl) fun K hK=>?_|refine sw_goT 471 kp69 13 (id:=7) (by kernel_rfl) fun K hK=>?_|refine fun (K:KT) (hK:KOk S 471 _ _ _ K)=>?_|refine sw_goD kp69 (by kernel_rfl) fun K hK=>?_|refine runL_g ?_|refine runQ_g ?_|refine sw_retg0 ?_|refine sw_retg ?_|(refine hK.n0 ?_;clear hK K)|refine runG_fk (fun h=>?_) fun h=>?_|refine runQG_fk (fun h=>?_) fun h=>?_|refine sw_condg rfl (fun h=>?_) fun h=>?_|refine hK.skp rfl rfl ?_|refine sw_loopEnd ?_|refine hK.c1 rfl rfl rfl (cL) ?_|refine hK.c1 rfl rfl rfl (cS) ?_|refine hK.c1 rfl rfl rfl (cF1) ?_|refine hK.c1 rfl rfl rfl (cF2) ?_|refine hK.c1 rfl rfl rfl (cP) ?_|(refine hK.fork rfl rfl rfl ?_ ?_<;>intro h<;>try simp (disch:=(refine Om.mk ?_;omega)) only[go_sem] at h)|with_reducible refine and_o ?_|((with_reducible refine And.intro ?_ ?_);· first|(intro x hx;subst hx;rfl)|exact upR_mem fun _ _=>rfl|exact mapR_mem fun _ _=>rfl|(intro x;refine And.intro ?_ ?_<;>(intros;subst_vars;rfl)))|apply tTT
  unfold RetN
  simp only[go_sem]
  exact ret_plain rfl fun f=>rfl
 ·rw[hno hc]
  cases ok with
  | false =>
   repeat' first|exact h.elim|(exfalso;omega)|(refine hK.raw ?_;clear hK K;refine LopsW.callW rfl rfl rfl hw hTB (cA) (by refine⟨⟨?_,?_,?_,?_,?_⟩,⟨?_,?_,?_,?_,?_⟩,?_⟩<;>simp[LS.getBox,Lg.look,D.ids,D.idsL,LS.clean,D.tks,D.tksL,inTok,shC,anyV,idsL_i,tksL_i]) (lops_go 471 (fun (K:List Oper→LS→Prop) (hK:KOk S 471 _ _ _ K)=>?_));simp (disch:=(refine Om.mk ?_;omega)) only[go_sem,List.filter_cons,List.filter_nil,Bool.false_eq_true])|refine sw_n ?_|refine sw_go 471 kp69 fun K hK=>?_|refine sw_goT 471 kp69 13 (id:=3) (by kernel_rfl) fun K hK=>?_|refine sw_goT 471 kp69 13 (id:=7) (by kernel_rfl) fun K hK=>?_|refine fun (K:KT) (hK:KOk S 471 _ _ _ K)=>?_|refine sw_goD kp69 (by kernel_rfl) fun K hK=>?_|refine runL_g ?_|refine runQ_g ?_|refine sw_retg0 ?_|refine sw_retg ?_|(refine hK.n0 ?_;clear hK K)|refine runG_fk (fun h=>?_) fun h=>?_|refine runQG_fk (fun h=>?_) fun h=>?_|refine sw_condg rfl (fun h=>?_) fun h=>?_|refine hK.skp rfl rfl ?_|refine sw_loopEnd ?_|refine hK.c1 rfl rfl rfl (cL) ?_|refine hK.c1 rfl rfl rfl (cS) ?_|refine hK.c1 rfl rfl rfl (cF1) ?_|refine hK.c1 rfl rfl rfl (cF2) ?_|(refine hK.fork rfl rfl rfl ?_ ?_<;>intro h<;>try simp (disch:=(refine Om.mk ?_;omega)) only[go_sem] at h)|with_reducible refine and_o ?_|((with_reducible refine And.intro ?_ ?_);· first|(intro x hx;subst hx;rfl)|exact upR_mem fun _ _=>rfl|exact mapR_mem fun _ _=>rfl|(intro x;refine And.intro ?_ ?_<;>(intros;subst_vars;rfl)))|apply tTT
   all_goals (unfold RetN;simp only[go_sem];exact ret_le (le0_le (by simp[mapR,le0,le0L])) rfl fun f=>rfl)
  | true =>
   by_cases h0:sets=[]
   ·subst h0
    repeat' first|exact h.elim|(exfalso;omega)|(refine hK.raw ?_;clear hK K;refine LopsW.callW rfl rfl rfl hw hTB (cA) (by refine⟨⟨?_,?_,?_,?_,?_⟩,⟨?_,?_,?_,?_,?_⟩,?_⟩<;>simp[LS.getBox,Lg.look,D.ids,D.idsL,LS.clean,D.tks,D.tksL,inTok,shC,anyV,idsL_i,tksL_i]) (lops_go 471 (fun (K:List Oper→LS→Prop) (hK:KOk S 471 _ _ _ K)=>?_));simp (disch:=(refine Om.mk ?_;omega)) only[go_sem,List.filter_cons,List.filter_nil,Bool.false_eq_true])|refine sw_n ?_|refine sw_go 471 kp69 fun K hK=>?_|refine sw_goT 471 kp69 13 (id:=3) (by kernel_rfl) fun K hK=>?_|refine sw_goT 471 kp69 13 (id:=7) (by kernel_rfl) fun K hK=>?_|refine fun (K:KT) (hK:KOk S 471 _ _ _ K)=>?_|refine sw_goD kp69 (by kernel_rfl) fun K hK=>?_|refine runL_g ?_|refine runQ_g ?_|refine sw_retg0 ?_|refine sw_retg ?_|(refine hK.n0 ?_;clear hK K)|refine runG_fk (fun h=>?_) fun h=>?_|refine runQG_fk (fun h=>?_) fun h=>?_|refine sw_condg rfl (fun h=>?_) fun h=>?_|refine hK.skp rfl rfl ?_|refine sw_loopEnd ?_|refine hK.c1 rfl rfl rfl (cL) ?_|refine hK.c1 rfl rfl rfl (cS) ?_|refine hK.c1 rfl rfl rfl (cF1) ?_|refine hK.c1 rfl rfl rfl (cF2) ?_|(refine hK.fork rfl rfl rfl ?_ ?_<;>intro h<;>try simp (disch:=(refine Om.mk ?_;omega)) only[go_sem] at h)|with_reducible refine and_o ?_|((with_reducible refine And.intro ?_ ?_);· first|(intro x hx;subst hx;rfl)|exact upR_mem fun _ _=>rfl|exact mapR_mem fun _ _=>rfl|(intro x;refine And.intro ?_ ?_<;>(intros;subst_vars;rfl)))|apply tTT
    all_goals (unfold RetN;simp only[go_sem];exact ret_le (le0_le (by simp[mapR,le0,le0L])) rfl fun f=>rfl)
   ·have hpos:=List.length_pos_iff.2 h0
    have h3:¬ru.length≤300:=fun h=>hc ⟨rfl,h0,h⟩
    repeat' first|exact h.elim|(exfalso;omega)|(refine hK.raw ?_;clear hK K;refine LopsW.callW rfl rfl rfl hw hTB (cA) (by refine⟨⟨?_,?_,?_,?_,?_⟩,⟨?_,?_,?_,?_,?_⟩,?_⟩<;>simp[LS.getBox,Lg.look,D.ids,D.idsL,LS.clean,D.tks,D.tksL,inTok,shC,anyV,idsL_i,tksL_i]) (lops_go 471 (fun (K:List Oper→LS→Prop) (hK:KOk S 471 _ _ _ K)=>?_));simp (disch:=(refine Om.mk ?_;omega)) only[go_sem,List.filter_cons,List.filter_nil,Bool.false_eq_true])|refine sw_n ?_|refine sw_go 471 kp69 fun K hK=>?_|refine sw_goT 471 kp69 13 (id:=3) (by kernel_rfl) fun K hK=>?_|refine sw_goT 471 kp69 13 (id:=7) (by kernel_rfl) fun K hK=>?_|refine fun (K:KT) (hK:KOk S 471 _ _ _ K)=>?_|refine sw_goD kp69 (by kernel_rfl) fun K hK=>?_|refine runL_g ?_|refine runQ_g ?_|refine sw_retg0 ?_|refine sw_retg ?_|(refine hK.n0 ?_;clear hK K)|refine runG_fk (fun h=>?_) fun h=>?_|refine runQG_fk (fun h=>?_) fun h=>?_|refine sw_condg rfl (fun h=>?_) fun h=>?_|refine hK.skp rfl rfl ?_|refine sw_loopEnd ?_|refine hK.c1 rfl rfl rfl (cL) ?_|refine hK.c1 rfl rfl rfl (cS) ?_|refine hK.c1 rfl rfl rfl (cF1) ?_|refine hK.c1 rfl rfl rfl (cF2) ?_|(refine hK.fork rfl rfl rfl ?_ ?_<;>intro h<;>try simp (disch:=(refine Om.mk ?_;omega)) only[go_sem] at h)|with_reducible refine and_o ?_|((with_reducible refine And.intro ?_ ?_);· first|(intro x hx;subst hx;rfl)|exact upR_mem fun _ _=>rfl|exact mapR_mem fun _ _=>rfl|(intro x;refine And.intro ?_ ?_<;>(intros;subst_vars;rfl)))|apply tTT
    all_goals (unfold RetN;simp only[go_sem];exact ret_le (le0_le (by simp[mapR,le0,le0L])) rfl fun f=>rfl)
def kp31:List (Nat×List Nat):=[(0,[1,2]),(1,[1,2,6]),(2,[2,3]),(3,[2,3])]
attribute [go_sem] kp31 Tryz.results31 Tryz.ntmps31
theorem implNormalAuto_fc (p:List Nat) (hp:p≠[]) (x:SystemT):FCw S TabW 31 [] [] [] [SystemD x] (.tup [AutoL p (normR x).1,.bool (normR x).2]) [] []:=by
 have cL:=implLeftLinearIn_fc x
 refine fcbW Tryz.func31 rfl fun B hw hTB hI hpan=>?_
 by_cases h:LeftP x
 ·rw[tst_true h] at cL
  have cI:=normalAutoI_fc p hp x h
  generalize normR x=rR at *
  repeat' first|exact h.elim|(exfalso;omega)|(refine hK.raw ?_;clear hK K;refine LopsW.callW rfl rfl rfl hw hTB (cI) (by refine⟨⟨?_,?_,?_,?_,?_⟩,⟨?_,?_,?_,?_,?_⟩,?_⟩<;>simp[LS.getBox,Lg.look,D.ids,D.idsL,LS.clean,D.tks,D.tksL,inTok,AutoL,TransSL,Int64SL]) (lops_go 0 (fun (K:List Oper→LS→Prop) (hK:KOk S 0 _ _ _ K)=>?_));simp (disch:=(refine Om.mk ?_;omega)) only[go_sem,List.filter_cons,List.filter_nil,Bool.false_eq_true])|refine sw_n ?_|refine sw_go 0 kp31 fun K hK=>?_|refine fun (K:KT) (hK:KOk S 0 _ _ _ K)=>?_|refine runL_g ?_|refine sw_retg0 ?_|refine sw_retg ?_|(refine hK.n0 ?_;clear hK K)|refine sw_condg rfl (fun h=>?_) fun h=>?_|refine sw_loopEnd ?_|refine hK.c1 rfl rfl rfl (cL) ?_|with_reducible refine and_o ?_|((with_reducible refine And.intro ?_ ?_);· first|(intro x hx;subst hx;rfl)|exact upR_mem fun _ _=>rfl|exact mapR_mem fun _ _=>rfl|(intro x;refine And.intro ?_ ?_<;>(intros;subst_vars;rfl)))|apply tTT
  all_goals (unfold RetN;simp only[go_sem];exact ret_plain rfl fun f=>rfl)
 ·rw[tst_false h] at cL
  rw[normR_no h]
  repeat' first|exact h.elim|(exfalso;omega)|refine sw_n ?_|refine sw_go 0 kp31 fun K hK=>?_|refine fun (K:KT) (hK:KOk S 0 _ _ _ K)=>?_|refine runL_g ?_|refine sw_retg0 ?_|refine sw_retg ?_|(refine hK.n0 ?_;clear hK K)|refine sw_condg rfl (fun h=>?_) fun h=>?_|refine sw_loopEnd ?_|refine hK.c1 rfl rfl rfl (cL) ?_|with_reducible refine and_o ?_|((with_reducible refine And.intro ?_ ?_);· first|(intro x hx;subst hx;rfl)|exact upR_mem fun _ _=>rfl|exact mapR_mem fun _ _=>rfl|(intro x;refine And.intro ?_ ?_<;>(intros;subst_vars;rfl)))|apply tTT
  all_goals (unfold RetN;simp only[go_sem];exact ret_le (le0_le (by simp[mapR,le0,le0L])) rfl fun f=>rfl)
end Go.Proofs.YtkfkdgginfpdnaaGreatDoor
end
section
namespace Go.Lg
open Go Go.RowKit
theorem FCw.args {S:Setup} {T:World→Prop} {f:FuncId} {ro bx bx':List (Nat×List D)} {tk tk':List Nat} {args args':List D} {d:D} (h:FCw S T f ro bx tk args' d bx' tk') (hle:leL args args'):FCw S T f ro bx tk args d bx' tk':=⟨h.1,fun w G vals hT hs=>by
 have hl:=leL_len hle
 refine h.2 w G vals hT ⟨hs.defers,by rw[←hl];exact hs.size,fun t d hd=>?_,hs.W,hs.fixed⟩
 simp only[look_enumD,Nat.zero_le,if_true,Nat.sub_zero] at hd
 obtain⟨a,ha,hle'⟩:=leL_get hle t d hd
 obtain⟨v,h1,h2⟩:=hs.env t a (by simpa only[look_enumD,Nat.zero_le,if_true,Nat.sub_zero] using ha)
 exact⟨v,h1,h2.le hle'⟩⟩
theorem law_contractW {H:Type} {enc:TypeId×Value→H} (S:Setup) {T:World→Prop} {f:FuncId} {fn:Func} {s:ChangeSpec} {ts:List TypeId} {tb m:Nat} (hl:laidOutB S.P=true) (hts:fn.params.toList=ts) (hcl:∀t∈ts,clB S.tab m t=true) (hrd:∀t∈ts,S.P.readableRec t=true∧t<S.P.types.size)
  (hres:fn.resultTypes=#[tb]) (hb:S.P.underlying tb=some .bool) (hvars:s.vars=[]) (hspec:∀ds:List (DataW H),ds.length=ts.length→s.fn H ds={results:=[.lit (.bool true)],args:=ds})
  (hfc:∀args:List D,args.length=ts.length→(∀(j:Nat) t d,ts[j]?=some t→args[j]?=some d→∃i cs,S.tab t=some i∧cs.length=i.size∧WC S t cs∧d=ofCells i cs)→FCw S T f [] [] [] args (.bool true) [] [])
  {apart fresh handsOn again:Bool} {W:World} {base:Nat} {args:Array Value} {ds gs:List (DataW H)} {before:List MemPlace}
  (hT:∀w2:World,(∀b,b<W.heap.size→w2.heap[b]?=W.heap[b]?)→W.heap.size≤w2.heap.size→T w2) (hval:∀(j:Nat) t v,fn.params[j]?=some t→args[j]?=some v→Value.okWide S.P W .any base t v) (hW:DataW.Whole enc S.P fn.params.toList s.vars apart W args.toList ds gs before) :
  Calls S.P f args W fun e W'=>∃v,e=.returned v∧s.post enc S.P fn apart fresh handsOn again W args v W':=by
 have hW0:=hW
 have hlt:=hW.lt
 rw[hts,hvars] at hW
 obtain⟨p,q,hA,hV,rfl,hz,hn⟩:=hW
 obtain⟨rfl,rfl⟩:gs=[]∧q=[]:=by
  cases gs with
  | nil=>exact⟨rfl,hV⟩
  | cons _ _=>simp[DataW.TrodVars] at hV
 simp only[List.append_nil] at hz hn hlt hW0
 obtain⟨k1,k0,ads,k2,k3,k4⟩:=args_open (S:=S) hA (fun j t v ht hv=>hval j t v (by rw[←hts] at ht;simpa using ht) (by simpa using hv)) hcl
 refine(fcw_open (hfc ads k2 k3) hT (vals:=args) (by rw[k2,←k1];simp) (fun j d v hd hv=>k4 j d v hd (by simpa using hv))).mono ?_
 rintro e W' ⟨v,G',rfl,hr,hbel⟩
 cases hr
 refine⟨_,rfl,ds,[],p,[],p,[],hW0,?_,?_,?_,?_,fun _=>⟨?_,?_⟩⟩
 ·rw[hres,List.append_nil,hspec ds k0]
  exact⟨[],[],shut_bool hb true,rfl,rfl⟩
 ·rw[hts,List.append_nil,hspec ds k0]
  exact args_stay hl hbel _ hA hrd (fun x hx=>⟨hlt x hx,by simpa using hlt x hx⟩)
 ·rw[hvars,List.append_nil,hspec ds k0]
  exact rfl
 ·exact hbel.frame _
 ·exact ok_one hres rfl (okWide_bool_mk hb true)
 ·refine⟨[.lit (.bool true)]++ds,[],[]++p,?_,fun x hx _=>by simpa using hx⟩
  refine⟨[]++p,[],?_,by rw[hvars];exact rfl,by simp,fun b off hx=>?_,fun ha=>by simpa using hn ha⟩
  ·rw[hts,hres]
   exact trod_app (ts:=[tb]) (vs:=[.bool true]) ⟨[],[],shut_bool hb true,rfl,rfl⟩ (args_stay hl hbel _ hA hrd (fun x hx=>⟨hlt x hx,rfl⟩))
  ·have hx':MemPlace.cell b off∈p:=by simpa using hx
   rw[hbel.frozen (hlt _ hx')]
   exact hz b off hx'
end Go.Lg
namespace Go.Proofs.YtkfkdgginfpdnaaGreatDoor
open Go Go.Lg
set_option linter.unusedSimpArgs false
set_option linter.unusedVariables false
set_option maxHeartbeats 4000000
theorem evY_args {rs:List Int} (h:∀f<rs.length,0≤rs.getD f default∧rs.getD f default≤3) {n:Nat}:∀e∈evY rs (List.range rs.length) n,e.2.length≤3:=fun e he=>by
 unfold evY at he
 obtain⟨f,hf,he⟩:=List.mem_flatMap.1 he
 have hf:=List.mem_range.1 hf
 have h3:=h f hf
 unfold evF at he
 by_cases h0:n=0∧0<rs.getD f default
 ·rw[if_pos h0] at he;cases he
 ·rw[if_neg h0] at he
  obtain⟨l,hl,rfl⟩:=List.mem_map.1 he
  have:=(digs_dig (n:=n) (k:=(rs.getD f default).toNat) (by omega) l hl).1
  simp only
  omega
theorem trZ_args {I:Nat→List (List Int)→Option (List Int)} {sets:List (List Int)}:∀ {E:List (Nat×List Int)},(∀e∈E,e.2.length≤3)→∀x∈trZ I sets E,x.args.length≤3
 | [],_,x,hx=>by cases hx
 | (f,l)::es,h,x,hx=>by
  have ih:=trZ_args (I:=I) (sets:=sets) (E:=es) fun y hy=>h y (List.mem_cons_of_mem _ hy)
  cases hI:I f (lstS sets l) with
  | none=>rw[trZ_none hI] at hx;exact ih x hx
  | some s =>
   rw[trZ_some hI] at hx
   rcases List.mem_cons.1 hx with rfl|hx
   ·exact h (f,l) List.mem_cons_self
   ·exact ih x hx
theorem sum_trN:∀ {xs:List TransT},(∀x∈xs,x.args.length≤3)→mcTransS xs≤5*xs.length
 | [],_=>by simp[mcTransS]
 | x::r,h=>by
  have h1:=h x List.mem_cons_self
  have:=sum_trN (xs:=r) fun y hy=>h y (List.mem_cons_of_mem _ hy)
  simp only[mcTransS,mcInt64S,List.map_cons,List.sum_cons,List.length_cons] at *
  omega
theorem normR_mc (x:SystemT):mcAuto (normR x).1≤2000:=by
 by_cases h:LeftP x
 ·rw[normR_yes h]
  have hO:=h.shp
  generalize srtM (shpA x.sig (x.rules.map (·.l)) x.rules.length)=SH at *
  obtain⟨s,b,hz⟩:∃s b,iterZ (imgH x.sig SH (x.rules.map (·.l))) (evY x.sig (List.range x.sig.length)) 18 []=(s,b):=⟨_,_,rfl⟩
  obtain⟨hy,hn⟩:=autoN_eq hz
  have h16:=iterZ_le (I:=imgH x.sig SH (x.rules.map (·.l))) (E:=evY x.sig (List.range x.sig.length)) 18 [] (by simp)
  rw[hz] at h16
  dsimp only at h16
  by_cases hc:b=true∧s≠[]∧(trZ (imgH x.sig SH (x.rules.map (·.l))) s (evY x.sig (List.range x.sig.length) s.length)).length≤300
  ·rw[hy hc.1 hc.2.1 hc.2.2]
   have h1:=sum_trN (trZ_args (I:=imgH x.sig SH (x.rules.map (·.l))) (sets:=s) (evY_args (n:=s.length) fun f hf=>hO.sg.2 f hf))
   have h2:=hc.2.2
   have h3:=numsN_len s.length
   simp only[mcAuto,mcInt64S] at *
   omega
  ·rw[hn hc]
   simp[mcAuto,mcTransS,mcInt64S]
 ·rw[normR_no h]
  simp[mcAuto,mcTransS,mcInt64S]
theorem tab_of_laid {W:World} {a b:DataW Unit} {na nb:String} (h:laidMet Tryz.prog [(na,a),(nb,b),("internal/strconv.uint64pow10", Lib.tabData .u64 Lib.pow10Tab)] W):∀w2:World,(∀b,b<W.heap.size→w2.heap[b]?=W.heap[b]?)→W.heap.size≤w2.heap.size→TabW w2:=by
 have h1:Lib.TabIs Tryz.prog W "internal/strconv.uint64pow10" .u64 Lib.pow10Tab:=Lib.tabIs_of_head (g:=0) (by kernel_rfl) (by kernel_rfl) Tryz.underlying256 Tryz.underlying215 (by kernel_rfl) (by kernel_rfl) h.tail.tail
 intro w2 h2 _
 show Lib.TabIs Tryz.prog w2 "internal/strconv.uint64pow10" .u64 Lib.pow10Tab
 unfold Lib.TabIs World.var? at *
 cases hg:Program.globalNamed Tryz.prog "internal/strconv.uint64pow10" with
 | none=>simp[hg] at h1
 | some g =>
  simp only[hg,Option.bind_some] at h1 ⊢
  have hlt:g<W.heap.size:=by
   rcases Nat.lt_or_ge g W.heap.size with h'|h'
   ·exact h'
   ·rw[Array.getElem?_eq_none h'] at h1;simp at h1
  rw[h2 g hlt]
  exact h1
end Go.Proofs.YtkfkdgginfpdnaaGreatDoor
end
section
namespace Go.Proofs.YtkfkdgginfpdnaaGreatDoor
open Go Go.Lg
set_option linter.unusedSimpArgs false
set_option linter.unusedVariables false
set_option maxHeartbeats 4000000
attribute [local irreducible] SW runL runQ runG runQG FC Ret1 RetN toF redoL
def DefQ (x:SystemT) (n:Int):Prop:=∃r∈x.rules,r.l.getD 0 default=n
def ConsP (x:SystemT):Prop:=SystemOkP x∧∀i<x.rules.length,∀k<(x.rules.getD i default).l.length,1≤k→¬DefQ x ((x.rules.getD i default).l.getD k default)
theorem has_def (x:SystemT) (n:Int):(n∈defL x.rules x.rules.length)=DefQ x n:=propext (defL_all x.rules n)
theorem def_pos {x:SystemT} (hs:SystemOkP x) {n:Int} (h:DefQ x n):0≤n:=by
 obtain⟨r,hr,rfl⟩:=h
 obtain⟨i,hi,rfl⟩:=List.getElem_of_mem hr
 have h2:=(hs.2 i hi).1.2.2
 rw[show x.rules.getD i default=x.rules[i] by simp[List.getD,List.getElem?_eq_getElem hi]] at h2
 exact h2
def kp26:List (Nat×List Nat):=[(0,[1]),(1,[1,8]),(2,[2]),(3,[1,3]),(4,[1,3,4]),(5,[1,3,4,15]),(7,[1,3,4,5]),(8,[1,3,4,5,26]),(10,[1,3,4,5,39]),(11,[2]),(9,[1,3,4,5]),(6,[1,3,4]),(12,[2])]
attribute [go_sem] kp26 Tryz.results26 Tryz.ntmps26
theorem specConstructorSystem_fc (x:SystemT):FC S 26 [] [] [] [SystemD x] (.bool (tst (ConsP x))) [] []:=by
 have cO:=specSystemOk_fc x
 by_cases hs:SystemOkP x
 ·have hlen:=hs.len
  have hn:=hs.1.2
  rw[tst_true hs] at cO
  have cD:=l6Defined_fc x (by omega) (fun j hj=>(hlen j hj).1.1)
  generalize hP:ConsP x=P
  refine fcb Tryz.func26 fun B=>?_
  repeat' first|exact h.elim|(exfalso;omega)|refine sw_n ?_|refine sw_go 0 kp26 fun K hK=>?_|refine fun (K:KT) (hK:KOk S 0 _ _ _ K)=>?_|refine runL_g ?_|refine sw_retg0 ?_|refine sw_retg ?_|(refine hK.n0 ?_;clear hK K)|refine sw_condg rfl (fun h=>?_) fun h=>?_|refine sw_exit rfl ?_|refine sw_loopEnd ?_|refine hK.c1 rfl rfl rfl (cO) ?_|refine hK.c1 rfl rfl rfl (cD) ?_|with_reducible refine and_o ?_|apply tTT
  refine sw_loopT (ι:=Nat) (fun i=>[(4,.int .i64 i)]) (fun _=>[]) (fun _=>[]) (fun i=>i≤x.rules.length∧∀j<i,∀k<(x.rules.getD j default).l.length,1≤k→¬DefQ x ((x.rules.getD j default).l.getD k default)) (fun i=>x.rules.length-i) 0 cvB ⟨Nat.zero_le _,fun j hj=>absurd hj (Nat.not_lt_zero _)⟩ (fun i hi=>?_)
  obtain⟨hi,hj⟩:=hi
  simp only[go_sem]
  by_cases hil:i<x.rules.length
  ·have hli:=(hlen i hil).1
   repeat' first|exact h.elim|(exfalso;omega)|refine sw_n ?_|refine sw_go 0 kp26 fun K hK=>?_|refine fun (K:KT) (hK:KOk S 0 _ _ _ K)=>?_|refine runL_g ?_|refine sw_retg0 ?_|refine sw_retg ?_|(refine hK.n0 ?_;clear hK K)|refine sw_condg rfl (fun h=>?_) fun h=>?_|refine sw_exit rfl ?_|refine sw_loopEnd ?_|with_reducible refine and_o ?_|apply tTT
   refine sw_loopT (ι:=Nat) (fun k=>[(5,.int .i64 k)]) (fun _=>[]) (fun _=>[]) (fun k=>(1≤k∧k≤(x.rules.getD i default).l.length)∧∀q<k,1≤q→¬DefQ x ((x.rules.getD i default).l.getD q default)) (fun k=>(x.rules.getD i default).l.length-k) 1 cvB ⟨⟨Nat.le_refl _,by omega⟩,fun q h1 h2=>absurd h1 (by omega)⟩ (fun k hk=>?_)
   obtain⟨⟨hk1,hk⟩,hq⟩:=hk
   simp only[go_sem]
   by_cases hkl:k<(x.rules.getD i default).l.length
   ·have cH:=l1Has_fc .any (defL x.rules x.rules.length) ((x.rules.getD i default).l.getD k default)
    rw[has_def] at cH
    by_cases hd:DefQ x ((x.rules.getD i default).l.getD k default)
    ·rw[tst_true hd] at cH
     rw[←hP,tst_false (fun h=>h.2 i hil k hkl hk1 hd)]
     repeat' first|exact h.elim|(exfalso;omega)|refine sw_n ?_|refine sw_go 0 kp26 fun K hK=>?_|refine fun (K:KT) (hK:KOk S 0 _ _ _ K)=>?_|refine runL_g ?_|refine sw_retg0 ?_|refine sw_retg ?_|(refine hK.n0 ?_;clear hK K)|refine sw_condg rfl (fun h=>?_) fun h=>?_|refine sw_exit rfl ?_|refine sw_loopEnd ?_|refine hK.c1 rfl rfl rfl (cH) ?_|with_reducible refine and_o ?_|apply tTT
    ·rw[tst_false hd] at cH
     repeat' first|exact h.elim|(exfalso;omega)|refine sw_n ?_|refine sw_go 0 kp26 fun K hK=>?_|refine fun (K:KT) (hK:KOk S 0 _ _ _ K)=>?_|refine runL_g ?_|refine sw_retg0 ?_|refine sw_retg ?_|(refine hK.n0 ?_;clear hK K)|refine sw_condg rfl (fun h=>?_) fun h=>?_|refine sw_exit rfl ?_|refine sw_loopEnd ?_|refine hK.c1 rfl rfl rfl (cH) ?_|with_reducible refine and_o ?_|apply tTT
     all_goals exact⟨k+1,cvB,⟨⟨by omega,by omega⟩,upto_succ hq fun _=>hd⟩,by omega⟩
   ·obtain rfl:k=(x.rules.getD i default).l.length:=by omega
    repeat' first|exact h.elim|(exfalso;omega)|refine sw_n ?_|refine sw_go 0 kp26 fun K hK=>?_|refine fun (K:KT) (hK:KOk S 0 _ _ _ K)=>?_|refine runL_g ?_|refine sw_retg0 ?_|refine sw_retg ?_|(refine hK.n0 ?_;clear hK K)|refine sw_condg rfl (fun h=>?_) fun h=>?_|refine sw_exit rfl ?_|refine sw_loopEnd ?_|with_reducible refine and_o ?_|apply tTT
    all_goals exact⟨i+1,cvB,⟨by omega,upto_succ hj hq⟩,by omega⟩
  ·obtain rfl:i=x.rules.length:=by omega
   rw[←hP,tst_true ⟨hs,hj⟩]
   repeat' first|exact h.elim|(exfalso;omega)|refine sw_n ?_|refine sw_go 0 kp26 fun K hK=>?_|refine fun (K:KT) (hK:KOk S 0 _ _ _ K)=>?_|refine runL_g ?_|refine sw_retg0 ?_|refine sw_retg ?_|(refine hK.n0 ?_;clear hK K)|refine sw_condg rfl (fun h=>?_) fun h=>?_|refine sw_exit rfl ?_|refine sw_loopEnd ?_|with_reducible refine and_o ?_|apply tTT
 ·rw[tst_false hs] at cO
  rw[tst_false (fun h=>hs h.1)]
  refine fcb Tryz.func26 fun B=>?_
  repeat' first|exact h.elim|refine sw_n ?_|refine sw_go 0 kp26 fun K hK=>?_|refine fun (K:KT) (hK:KOk S 0 _ _ _ K)=>?_|refine runL_g ?_|refine sw_retg0 ?_|refine sw_retg ?_|(refine hK.n0 ?_;clear hK K)|refine sw_condg rfl (fun h=>?_) fun h=>?_|refine sw_exit rfl ?_|refine sw_loopEnd ?_|refine hK.c1 rfl rfl rfl (cO) ?_|with_reducible refine and_o ?_|apply tTT
def kp73:List (Nat×List Nat):=[(0,[1,2]),(1,[3])]
attribute [go_sem] kp73 Tryz.results73 Tryz.ntmps73
theorem isDefQ1_fc (f:Int) (r:RuleT) (h:1≤r.l.length):FC S 73 [(3,[.int .i64 f])] [] [] ([RuleD r]++[.box 3 0]) (.bool (tst (r.l.getD 0 default=f))) [] []:=by
 refine fcb Tryz.func73 fun B=>?_
 repeat' first|refine sw_n ?_|refine sw_go 100 kp73 fun K hK=>?_|refine fun (K:KT) (hK:KOk S 100 _ _ _ K)=>?_|refine sw_goD kp73 (by kernel_rfl) fun K hK=>?_|refine runL_g ?_|refine runQ_g ?_|refine sw_retg0 ?_|refine sw_retg ?_|(refine hK.n0 ?_;clear hK K)|refine sw_loopEnd ?_|with_reducible refine and_o ?_|apply tTT
def kp35:List (Nat×List Nat):=[(0,[2,3]),(1,[4])]
attribute [go_sem] kp35 Tryz.results35 Tryz.ntmps35
theorem isDefQ_fc (x:SystemT) (f:Int) (h:∀r∈x.rules,1≤r.l.length):FC S 35 [] [] [] [SystemD x,.int .i64 f] (.bool (tst (DefQ x f))) [] []:=by
 refine fcb Tryz.func35 fun B=>?_
 repeat' first|refine sw_n ?_|refine sw_go 0 kp35 fun K hK=>?_|refine fun (K:KT) (hK:KOk S 0 _ _ _ K)=>?_|refine runL_g ?_|refine sw_retg0 ?_|refine sw_retg ?_|(refine hK.n0 ?_;clear hK K)|refine sw_loopEnd ?_|refine hK.cR rfl rfl rfl (containsFuncRule_fc _ x.rules (fun r=>r.l.getD 0 default=f) _ _ [(3,[.int .i64 f])] (by simp[Lg.look]) (fun r hr=>isDefQ1_fc f r (h r hr))) ?_|with_reducible refine and_o ?_|apply tTT
 exact Iff.rfl
def kp32:List (Nat×List Nat):=[(0,[1]),(1,[1,9]),(2,[2]),(3,[1,11,12,13]),(4,[1,11,12,13,14]),(5,[1,4,11,12,13]),(6,[1,11,12,13,19,20,21]),(7,[1,11,12,13,19,20,21,22]),(8,[1,6,11,12,13,19,20,21]),(9,[1,11,12,13,19,20,21,31]),(10,[2]),(11,[1,11,12,13,19,20,21]),(12,[1,11,12,13]),(13,[2])]
attribute [go_sem] kp32 Tryz.results32 Tryz.ntmps32
theorem implConstructorSystem_fc (x:SystemT):FC S 32 [] [] [] [SystemD x] (.bool (tst (ConsP x))) [] []:=by
 have cO:=implSystemOk_fc x
 by_cases hs:SystemOkP x
 ·have hlen:=hs.len
  have hn:=hs.1.2
  have hr:=(forall_getD (P:=fun r:RuleT=>1≤r.l.length)).1 fun j hj=>(hlen j hj).1.1
  rw[tst_true hs] at cO
  generalize hP:ConsP x=P
  refine fcb Tryz.func32 fun B=>?_
  repeat' first|exact h.elim|(exfalso;omega)|refine sw_n ?_|refine sw_go 0 kp32 fun K hK=>?_|refine fun (K:KT) (hK:KOk S 0 _ _ _ K)=>?_|refine runL_g ?_|refine sw_retg0 ?_|refine sw_retg ?_|(refine hK.n0 ?_;clear hK K)|refine runG_fk (fun h=>?_) fun h=>?_|refine sw_condg rfl (fun h=>?_) fun h=>?_|refine hK.skp rfl rfl ?_|refine sw_exit rfl ?_|refine sw_loopEnd ?_|refine hK.c1 rfl rfl rfl (cO) ?_|(refine hK.fork rfl rfl rfl ?_ ?_<;>intro h<;>try simp (disch:=(refine Om.mk ?_;omega)) only[go_sem] at h)|with_reducible refine and_o ?_|apply tTT
  refine sw_loopT (ι:=Nat) (fun i=>[(13,.int .i64 i)]) (fun _=>[]) (fun _=>[]) (fun i=>i≤x.rules.length∧∀j<i,∀k<(x.rules.getD j default).l.length,1≤k→¬DefQ x ((x.rules.getD j default).l.getD k default)) (fun i=>x.rules.length-i) 0 cvB ⟨Nat.zero_le _,fun j hj=>absurd hj (Nat.not_lt_zero _)⟩ (fun i hi=>?_)
  obtain⟨hi,hj⟩:=hi
  simp only[go_sem]
  by_cases hil:i<x.rules.length
  ·have hli:=(hlen i hil).1
   repeat' first|exact h.elim|(exfalso;omega)|refine sw_n ?_|refine sw_go 0 kp32 fun K hK=>?_|refine fun (K:KT) (hK:KOk S 0 _ _ _ K)=>?_|refine runL_g ?_|refine sw_retg0 ?_|refine sw_retg ?_|(refine hK.n0 ?_;clear hK K)|refine runG_fk (fun h=>?_) fun h=>?_|refine sw_condg rfl (fun h=>?_) fun h=>?_|refine hK.skp rfl rfl ?_|refine sw_exit rfl ?_|refine sw_loopEnd ?_|(refine hK.fork rfl rfl rfl ?_ ?_<;>intro h<;>try simp (disch:=(refine Om.mk ?_;omega)) only[go_sem] at h)|with_reducible refine and_o ?_|apply tTT
   refine sw_loopT (ι:=Nat) (fun k=>[(21,.int .i64 k)]) (fun _=>[]) (fun _=>[]) (fun k=>k+1≤(x.rules.getD i default).l.length∧∀q<k+1,1≤q→¬DefQ x ((x.rules.getD i default).l.getD q default)) (fun k=>(x.rules.getD i default).l.length-k) 0 cvB ⟨by omega,fun q h1 h2=>absurd h1 (by omega)⟩ (fun k hk=>?_)
   obtain⟨hk,hq⟩:=hk
   simp only[go_sem]
   have hdl:((x.rules.getD i default).l.drop (Int.toNat 1)).length=(x.rules.getD i default).l.length-1:=List.length_drop
   by_cases hkl:k+1<(x.rules.getD i default).l.length
   ·have hgd:((x.rules.getD i default).l.drop (Int.toNat 1)).getD k default=(x.rules.getD i default).l.getD (k+1) default:=by
     rw[show Int.toNat 1=1 from rfl,List.getD_eq_getElem?_getD,List.getElem?_drop,←List.getD_eq_getElem?_getD,Nat.add_comm 1 k]
    have cD:=isDefQ_fc x (((x.rules.getD i default).l.drop (Int.toNat 1)).getD k default) hr
    by_cases hd:DefQ x (((x.rules.getD i default).l.drop (Int.toNat 1)).getD k default)
    ·have h0:=def_pos hs hd
     rw[tst_true hd] at cD
     rw[←hP,tst_false (fun h=>h.2 i hil (k+1) hkl (by omega) (by rw[←hgd];exact hd))]
     repeat' first|exact h.elim|(exfalso;omega)|refine sw_n ?_|refine sw_go 0 kp32 fun K hK=>?_|refine fun (K:KT) (hK:KOk S 0 _ _ _ K)=>?_|refine runL_g ?_|refine sw_retg0 ?_|refine sw_retg ?_|(refine hK.n0 ?_;clear hK K)|refine runG_fk (fun h=>?_) fun h=>?_|refine sw_condg rfl (fun h=>?_) fun h=>?_|refine hK.skp rfl rfl ?_|refine sw_exit rfl ?_|refine sw_loopEnd ?_|refine hK.c1 rfl rfl rfl (cD) ?_|(refine hK.fork rfl rfl rfl ?_ ?_<;>intro h<;>try simp (disch:=(refine Om.mk ?_;omega)) only[go_sem] at h)|with_reducible refine and_o ?_|apply tTT
    ·rw[tst_false hd] at cD
     repeat' first|exact h.elim|(exfalso;omega)|refine sw_n ?_|refine sw_go 0 kp32 fun K hK=>?_|refine fun (K:KT) (hK:KOk S 0 _ _ _ K)=>?_|refine runL_g ?_|refine sw_retg0 ?_|refine sw_retg ?_|(refine hK.n0 ?_;clear hK K)|refine runG_fk (fun h=>?_) fun h=>?_|refine sw_condg rfl (fun h=>?_) fun h=>?_|refine hK.skp rfl rfl ?_|refine sw_exit rfl ?_|refine sw_loopEnd ?_|refine hK.c1 rfl rfl rfl (cD) ?_|(refine hK.fork rfl rfl rfl ?_ ?_<;>intro h<;>try simp (disch:=(refine Om.mk ?_;omega)) only[go_sem] at h)|with_reducible refine and_o ?_|apply tTT
     all_goals first|exact⟨k+1,cvB,⟨by omega,upto_succ hq fun _=>by rw[←hgd];exact hd⟩,by omega⟩|trace_state
   ·repeat' first|exact h.elim|(exfalso;omega)|refine sw_n ?_|refine sw_go 0 kp32 fun K hK=>?_|refine fun (K:KT) (hK:KOk S 0 _ _ _ K)=>?_|refine runL_g ?_|refine sw_retg0 ?_|refine sw_retg ?_|(refine hK.n0 ?_;clear hK K)|refine runG_fk (fun h=>?_) fun h=>?_|refine sw_condg rfl (fun h=>?_) fun h=>?_|refine hK.skp rfl rfl ?_|refine sw_exit rfl ?_|refine sw_loopEnd ?_|(refine hK.fork rfl rfl rfl ?_ ?_<;>intro h<;>try simp (disch:=(refine Om.mk ?_;omega)) only[go_sem] at h)|with_reducible refine and_o ?_|apply tTT
    all_goals first|exact⟨i+1,cvB,⟨by omega,upto_succ hj fun q h1 h2=>hq q (by omega) h2⟩,by omega⟩|trace_state
  ·obtain rfl:i=x.rules.length:=by omega
   rw[←hP,tst_true ⟨hs,hj⟩]
   repeat' first|exact h.elim|(exfalso;omega)|refine sw_n ?_|refine sw_go 0 kp32 fun K hK=>?_|refine fun (K:KT) (hK:KOk S 0 _ _ _ K)=>?_|refine runL_g ?_|refine sw_retg0 ?_|refine sw_retg ?_|(refine hK.n0 ?_;clear hK K)|refine runG_fk (fun h=>?_) fun h=>?_|refine sw_condg rfl (fun h=>?_) fun h=>?_|refine hK.skp rfl rfl ?_|refine sw_exit rfl ?_|refine sw_loopEnd ?_|(refine hK.fork rfl rfl rfl ?_ ?_<;>intro h<;>try simp (disch:=(refine Om.mk ?_;omega)) only[go_sem] at h)|with_reducible refine and_o ?_|apply tTT
 ·rw[tst_false hs] at cO
  rw[tst_false (fun h=>hs h.1)]
  refine fcb Tryz.func32 fun B=>?_
  repeat' first|exact h.elim|refine sw_n ?_|refine sw_go 0 kp32 fun K hK=>?_|refine fun (K:KT) (hK:KOk S 0 _ _ _ K)=>?_|refine runL_g ?_|refine sw_retg0 ?_|refine sw_retg ?_|(refine hK.n0 ?_;clear hK K)|refine runG_fk (fun h=>?_) fun h=>?_|refine sw_condg rfl (fun h=>?_) fun h=>?_|refine hK.skp rfl rfl ?_|refine sw_exit rfl ?_|refine sw_loopEnd ?_|refine hK.c1 rfl rfl rfl (cO) ?_|(refine hK.fork rfl rfl rfl ?_ ?_<;>intro h<;>try simp (disch:=(refine Om.mk ?_;omega)) only[go_sem] at h)|with_reducible refine and_o ?_|apply tTT
end Go.Proofs.YtkfkdgginfpdnaaGreatDoor
end
section
namespace Go.Proofs.YtkfkdgginfpdnaaGreatDoor
open Go Go.Lg
set_option linter.unusedSimpArgs false
set_option linter.unusedVariables false
set_option maxHeartbeats 4000000
attribute [local irreducible] Lg.SW runL runQ runG runQG FC FCw Ret1 RetN toF redoL anyB
def CompP (x:SystemT):Prop:=(normR x).2=true∧ConsP x∧∀i<(normR x).1.rules.length,¬DefQ x ((normR x).1.rules.getD i default).sym
theorem len_mcT:∀xs:List TransT,xs.length≤mcTransS xs
 | []=>Nat.zero_le _
 | x::r=>by
  have:=len_mcT r
  simp only[mcTransS,List.map_cons,List.sum_cons,List.length_cons] at *
  omega
theorem normR_len (x:SystemT):(normR x).1.rules.length≤2000:=by
 have h1:=normR_mc x
 have h2:=len_mcT (normR x).1.rules
 unfold mcAuto at h1
 omega
def kp7:List (Nat×List Nat):=[(0,[1]),(1,[1,3,4]),(2,[1,3,18]),(3,[2]),(4,[3,5]),(5,[3,5,6]),(6,[3,5,6,25]),(8,[3,5,6,35]),(9,[2]),(7,[3,5,6]),(10,[2])]
attribute [go_sem] kp7 Tryz.results7 Tryz.ntmps7
theorem specCompleteIn_fc (x:SystemT):FC S 7 [] [] [] [SystemD x] (.bool (tst (CompP x))) [] []:=by
 have cN:=specNormalAuto_fc x
 have cC:=specConstructorSystem_fc x
 cases hb:(normR x).2 with
 | false =>
  rw[tst_false (fun h=>by have:=h.1;rw[hb] at this;cases this)]
  rw[hb] at cN
  generalize (normR x).1=a at *
  refine fcb Tryz.func7 fun B=>?_
  repeat' first|exact h.elim|(exfalso;omega)|refine sw_n ?_|refine sw_go 0 kp7 fun K hK=>?_|refine fun (K:KT) (hK:KOk S 0 _ _ _ K)=>?_|refine runL_g ?_|refine sw_retg0 ?_|refine sw_retg ?_|(refine hK.n0 ?_;clear hK K)|refine runG_fk (fun h=>?_) fun h=>?_|refine sw_condg rfl (fun h=>?_) fun h=>?_|refine hK.skp rfl rfl ?_|refine sw_exit rfl ?_|refine sw_loopEnd ?_|refine hK.c1 rfl rfl rfl (cN) ?_|refine hK.c1 rfl rfl rfl (cC) ?_|(refine hK.fork rfl rfl rfl ?_ ?_<;>intro h<;>try simp (disch:=(refine Om.mk ?_;omega)) only[go_sem] at h)|with_reducible refine and_o ?_|apply tTT
 | true =>
  by_cases hC:ConsP x
  ·have cD:=specDefinedIn_fc x
   rw[symR_yes true hC.1,←def_eq hC.1] at cD
   rw[hb] at cN
   rw[tst_true hC] at cC
   generalize hP:CompP x=P
   have hrl:=normR_len x
   have hyes:(∀i<(normR x).1.rules.length,¬DefQ x ((normR x).1.rules.getD i default).sym)→tst P=true:=fun h=>by rw[←hP];exact tst_true ⟨hb,hC,h⟩
   have hno:∀i<(normR x).1.rules.length,DefQ x ((normR x).1.rules.getD i default).sym→tst P=false:=fun i hi hd=>by rw[←hP];exact tst_false fun h=>h.2.2 i hi hd
   generalize (normR x).1=a at *
   refine fcb Tryz.func7 fun B=>?_
   repeat' first|exact h.elim|(exfalso;omega)|refine sw_n ?_|refine sw_go 0 kp7 fun K hK=>?_|refine fun (K:KT) (hK:KOk S 0 _ _ _ K)=>?_|refine runL_g ?_|refine sw_retg0 ?_|refine sw_retg ?_|(refine hK.n0 ?_;clear hK K)|refine runG_fk (fun h=>?_) fun h=>?_|refine sw_condg rfl (fun h=>?_) fun h=>?_|refine hK.skp rfl rfl ?_|refine sw_exit rfl ?_|refine sw_loopEnd ?_|refine hK.c1 rfl rfl rfl (cN) ?_|refine hK.c1 rfl rfl rfl (cC) ?_|refine hK.c1 rfl rfl rfl (cD) ?_|(refine hK.fork rfl rfl rfl ?_ ?_<;>intro h<;>try simp (disch:=(refine Om.mk ?_;omega)) only[go_sem] at h)|with_reducible refine and_o ?_|apply tTT
   refine sw_loopT (ι:=Nat) (fun i=>[(6,.int .i64 i)]) (fun _=>[]) (fun _=>[]) (fun i=>i≤a.rules.length∧∀j<i,¬DefQ x (a.rules.getD j default).sym) (fun i=>a.rules.length-i) 0 cvB ⟨Nat.zero_le _,fun j hj=>absurd hj (Nat.not_lt_zero _)⟩ (fun i hi=>?_)
   obtain⟨hi,hj⟩:=hi
   simp only[go_sem]
   by_cases hil:i<a.rules.length
   ·have cH:=l1Has_fc .any (defL x.rules x.rules.length) (a.rules.getD i default).sym
    rw[has_def] at cH
    by_cases hd:DefQ x (a.rules.getD i default).sym
    ·rw[tst_true hd] at cH
     rw[hno i hil hd]
     repeat' first|exact h.elim|(exfalso;omega)|refine sw_n ?_|refine sw_go 0 kp7 fun K hK=>?_|refine fun (K:KT) (hK:KOk S 0 _ _ _ K)=>?_|refine runL_g ?_|refine sw_retg0 ?_|refine sw_retg ?_|(refine hK.n0 ?_;clear hK K)|refine runG_fk (fun h=>?_) fun h=>?_|refine sw_condg rfl (fun h=>?_) fun h=>?_|refine hK.skp rfl rfl ?_|refine sw_exit rfl ?_|refine sw_loopEnd ?_|refine hK.c1 rfl rfl rfl (cH) ?_|(refine hK.fork rfl rfl rfl ?_ ?_<;>intro h<;>try simp (disch:=(refine Om.mk ?_;omega)) only[go_sem] at h)|with_reducible refine and_o ?_|apply tTT
    ·rw[tst_false hd] at cH
     repeat' first|exact h.elim|(exfalso;omega)|refine sw_n ?_|refine sw_go 0 kp7 fun K hK=>?_|refine fun (K:KT) (hK:KOk S 0 _ _ _ K)=>?_|refine runL_g ?_|refine sw_retg0 ?_|refine sw_retg ?_|(refine hK.n0 ?_;clear hK K)|refine runG_fk (fun h=>?_) fun h=>?_|refine sw_condg rfl (fun h=>?_) fun h=>?_|refine hK.skp rfl rfl ?_|refine sw_exit rfl ?_|refine sw_loopEnd ?_|refine hK.c1 rfl rfl rfl (cH) ?_|(refine hK.fork rfl rfl rfl ?_ ?_<;>intro h<;>try simp (disch:=(refine Om.mk ?_;omega)) only[go_sem] at h)|with_reducible refine and_o ?_|apply tTT
     all_goals exact⟨i+1,cvB,⟨by omega,upto_succ hj hd⟩,by omega⟩
   ·obtain rfl:i=a.rules.length:=by omega
    rw[hyes hj]
    repeat' first|exact h.elim|(exfalso;omega)|refine sw_n ?_|refine sw_go 0 kp7 fun K hK=>?_|refine fun (K:KT) (hK:KOk S 0 _ _ _ K)=>?_|refine runL_g ?_|refine sw_retg0 ?_|refine sw_retg ?_|(refine hK.n0 ?_;clear hK K)|refine runG_fk (fun h=>?_) fun h=>?_|refine sw_condg rfl (fun h=>?_) fun h=>?_|refine hK.skp rfl rfl ?_|refine sw_exit rfl ?_|refine sw_loopEnd ?_|(refine hK.fork rfl rfl rfl ?_ ?_<;>intro h<;>try simp (disch:=(refine Om.mk ?_;omega)) only[go_sem] at h)|with_reducible refine and_o ?_|apply tTT
  ·rw[tst_false (fun h=>hC h.2.1)]
   rw[hb] at cN
   rw[tst_false hC] at cC
   generalize (normR x).1=a at *
   refine fcb Tryz.func7 fun B=>?_
   repeat' first|exact h.elim|(exfalso;omega)|refine sw_n ?_|refine sw_go 0 kp7 fun K hK=>?_|refine fun (K:KT) (hK:KOk S 0 _ _ _ K)=>?_|refine runL_g ?_|refine sw_retg0 ?_|refine sw_retg ?_|(refine hK.n0 ?_;clear hK K)|refine runG_fk (fun h=>?_) fun h=>?_|refine sw_condg rfl (fun h=>?_) fun h=>?_|refine hK.skp rfl rfl ?_|refine sw_exit rfl ?_|refine sw_loopEnd ?_|refine hK.c1 rfl rfl rfl (cN) ?_|refine hK.c1 rfl rfl rfl (cC) ?_|(refine hK.fork rfl rfl rfl ?_ ?_<;>intro h<;>try simp (disch:=(refine Om.mk ?_;omega)) only[go_sem] at h)|with_reducible refine and_o ?_|apply tTT
def kp34:List (Nat×List Nat):=[(0,[1,2]),(1,[3])]
attribute [go_sem] kp34 Tryz.results34 Tryz.ntmps34
theorem completeIn1_fc (x:SystemT) (r:TransT) (h:∀r∈x.rules,1≤r.l.length):FC S 34 [(1,[.sl .any (x.sig.map (.int .i64)),.sl .any (x.rules.map RuleD)])] [] [] ([TransD r]++[.box 1 0]) (.bool (tst (DefQ x r.sym))) [] []:=by
 have cD:=isDefQ_fc x r.sym h
 refine fcb Tryz.func34 fun B=>?_
 repeat' first|refine sw_n ?_|refine sw_go 100 kp34 fun K hK=>?_|refine fun (K:KT) (hK:KOk S 100 _ _ _ K)=>?_|refine runL_g ?_|refine sw_retg0 ?_|refine sw_retg ?_|(refine hK.n0 ?_;clear hK K)|refine sw_loopEnd ?_|refine hK.c1 rfl rfl rfl (cD) ?_|with_reducible refine and_o ?_|apply tTT
def kp9:List (Nat×List Nat):=[(0,[1]),(1,[1,3,4]),(2,[2])]
attribute [go_sem] kp9 Tryz.results9 Tryz.ntmps9
theorem implCompleteIn_fc (x:SystemT):FCw S TabW 9 [] [] [] [SystemD x] (.bool (tst (CompP x))) [] []:=by
 have cI:=implNormalAuto_fc [0] (by simp) x
 have cC:=implConstructorSystem_fc x
 refine fcbW Tryz.func9 rfl fun B hw hTB hI hpan=>?_
 cases hb:(normR x).2 with
 | false =>
  rw[tst_false (fun h=>by have:=h.1;rw[hb] at this;cases this)]
  rw[hb] at cI
  generalize (normR x).1=a at *
  repeat' first|exact h.elim|(exfalso;omega)|(refine hK.raw ?_;clear hK K;refine LopsW.callW rfl rfl rfl hw hTB (cI) (by refine⟨⟨?_,?_,?_,?_,?_⟩,⟨?_,?_,?_,?_,?_⟩,?_⟩<;>simp[LS.getBox,Lg.look,D.ids,D.idsL,LS.clean,D.tks,D.tksL,inTok,AutoL,TransSL,Int64SL]) (lops_go 0 (fun (K:List Oper→LS→Prop) (hK:KOk S 0 _ _ _ K)=>?_));simp (disch:=(refine Om.mk ?_;omega)) only[go_sem,List.filter_cons,List.filter_nil,Bool.false_eq_true])|refine sw_n ?_|refine sw_go 0 kp9 fun K hK=>?_|refine fun (K:KT) (hK:KOk S 0 _ _ _ K)=>?_|refine runL_g ?_|refine sw_retg0 ?_|refine sw_retg ?_|(refine hK.n0 ?_;clear hK K)|refine runG_fk (fun h=>?_) fun h=>?_|refine hK.skp rfl rfl ?_|refine sw_loopEnd ?_|refine hK.c1 rfl rfl rfl (cC) ?_|(refine hK.fork rfl rfl rfl ?_ ?_<;>intro h<;>try simp (disch:=(refine Om.mk ?_;omega)) only[go_sem] at h)|with_reducible refine and_o ?_|apply tTT
  all_goals (unfold RetN;simp only[go_sem];exact ret_plain rfl fun f=>rfl)
 | true =>
  by_cases hC:ConsP x
  ·have hr:=(forall_getD (P:=fun r:RuleT=>1≤r.l.length)).1 fun j hj=>(hC.1.len j hj).1.1
   have cT:=FC.args (containsFuncTrans_fc .any (normR x).1.rules (fun r=>DefQ x r.sym) 34 [.box 1 0] [(1,[.sl .any (x.sig.map (.int .i64)),.sl .any (x.rules.map RuleD)])] (by simp[Lg.look]) (fun r _=>completeIn1_fc x r hr)) (args:=[TransSL ([0]++[1]) (normR x).1.rules,.fn 34 [.box 1 0]]) ⟨le_TransSL _ _,.refl _,trivial⟩
   simp only[TransSL,TransL,Int64SL] at cT
   rw[hb] at cI
   rw[tst_true hC] at cC
   have hP:CompP x↔¬ ∃r∈(normR x).1.rules,DefQ x r.sym:=⟨fun h=>fun⟨r,hr,hd⟩=>by
    obtain⟨i,hi,rfl⟩:=List.getElem_of_mem hr
    have:=h.2.2 i hi
    rw[List.getD_eq_getElem?_getD,List.getElem?_eq_getElem hi] at this
    exact this hd,fun h=>⟨hb,hC,fun i hi hd=>h ⟨_,getD_mem _ i hi,hd⟩⟩⟩
   by_cases hE:∃r∈(normR x).1.rules,DefQ x r.sym
   ·rw[tst_true hE] at cT
    rw[tst_false (fun h=>hP.1 h hE)]
    clear hP hE
    generalize (normR x).1=a at *
    repeat' first|exact h.elim|(exfalso;omega)|(refine hK.raw ?_;clear hK K;refine LopsW.callW rfl rfl rfl hw hTB (cI) (by refine⟨⟨?_,?_,?_,?_,?_⟩,⟨?_,?_,?_,?_,?_⟩,?_⟩<;>simp[LS.getBox,Lg.look,D.ids,D.idsL,LS.clean,D.tks,D.tksL,inTok,AutoL,TransSL,Int64SL]) (lops_go 0 (fun (K:List Oper→LS→Prop) (hK:KOk S 0 _ _ _ K)=>?_));simp (disch:=(refine Om.mk ?_;omega)) only[go_sem,List.filter_cons,List.filter_nil,Bool.false_eq_true])|refine sw_n ?_|refine sw_go 0 kp9 fun K hK=>?_|refine fun (K:KT) (hK:KOk S 0 _ _ _ K)=>?_|refine runL_g ?_|refine sw_retg0 ?_|refine sw_retg ?_|(refine hK.n0 ?_;clear hK K)|refine runG_fk (fun h=>?_) fun h=>?_|refine hK.skp rfl rfl ?_|refine sw_loopEnd ?_|refine hK.c1 rfl rfl rfl (cC) ?_|refine hK.cR rfl rfl rfl (cT) ?_|(refine hK.fork rfl rfl rfl ?_ ?_<;>intro h<;>try simp (disch:=(refine Om.mk ?_;omega)) only[go_sem] at h)|with_reducible refine and_o ?_|apply tTT
    all_goals (unfold RetN;simp only[go_sem];exact ret_plain rfl fun f=>rfl)
   ·rw[tst_false hE] at cT
    rw[tst_true (hP.2 hE)]
    clear hP hE
    generalize (normR x).1=a at *
    repeat' first|exact h.elim|(exfalso;omega)|(refine hK.raw ?_;clear hK K;refine LopsW.callW rfl rfl rfl hw hTB (cI) (by refine⟨⟨?_,?_,?_,?_,?_⟩,⟨?_,?_,?_,?_,?_⟩,?_⟩<;>simp[LS.getBox,Lg.look,D.ids,D.idsL,LS.clean,D.tks,D.tksL,inTok,AutoL,TransSL,Int64SL]) (lops_go 0 (fun (K:List Oper→LS→Prop) (hK:KOk S 0 _ _ _ K)=>?_));simp (disch:=(refine Om.mk ?_;omega)) only[go_sem,List.filter_cons,List.filter_nil,Bool.false_eq_true])|refine sw_n ?_|refine sw_go 0 kp9 fun K hK=>?_|refine fun (K:KT) (hK:KOk S 0 _ _ _ K)=>?_|refine runL_g ?_|refine sw_retg0 ?_|refine sw_retg ?_|(refine hK.n0 ?_;clear hK K)|refine runG_fk (fun h=>?_) fun h=>?_|refine hK.skp rfl rfl ?_|refine sw_loopEnd ?_|refine hK.c1 rfl rfl rfl (cC) ?_|refine hK.cR rfl rfl rfl (cT) ?_|(refine hK.fork rfl rfl rfl ?_ ?_<;>intro h<;>try simp (disch:=(refine Om.mk ?_;omega)) only[go_sem] at h)|with_reducible refine and_o ?_|apply tTT
    all_goals (unfold RetN;simp only[go_sem];exact ret_plain rfl fun f=>rfl)
  ·rw[tst_false (fun h=>hC h.2.1)]
   rw[hb] at cI
   rw[tst_false hC] at cC
   generalize (normR x).1=a at *
   repeat' first|exact h.elim|(exfalso;omega)|(refine hK.raw ?_;clear hK K;refine LopsW.callW rfl rfl rfl hw hTB (cI) (by refine⟨⟨?_,?_,?_,?_,?_⟩,⟨?_,?_,?_,?_,?_⟩,?_⟩<;>simp[LS.getBox,Lg.look,D.ids,D.idsL,LS.clean,D.tks,D.tksL,inTok,AutoL,TransSL,Int64SL]) (lops_go 0 (fun (K:List Oper→LS→Prop) (hK:KOk S 0 _ _ _ K)=>?_));simp (disch:=(refine Om.mk ?_;omega)) only[go_sem,List.filter_cons,List.filter_nil,Bool.false_eq_true])|refine sw_n ?_|refine sw_go 0 kp9 fun K hK=>?_|refine fun (K:KT) (hK:KOk S 0 _ _ _ K)=>?_|refine runL_g ?_|refine sw_retg0 ?_|refine sw_retg ?_|(refine hK.n0 ?_;clear hK K)|refine runG_fk (fun h=>?_) fun h=>?_|refine hK.skp rfl rfl ?_|refine sw_loopEnd ?_|refine hK.c1 rfl rfl rfl (cC) ?_|(refine hK.fork rfl rfl rfl ?_ ?_<;>intro h<;>try simp (disch:=(refine Om.mk ?_;omega)) only[go_sem] at h)|with_reducible refine and_o ?_|apply tTT
   all_goals (unfold RetN;simp only[go_sem];exact ret_plain rfl fun f=>rfl)
end Go.Proofs.YtkfkdgginfpdnaaGreatDoor
end
