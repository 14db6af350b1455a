/-
  I2, I3, I4, N11, I5, one behind the other.
-/
import Derived.Test.YtkfkdgginfpdnaaGreatDoorG8
import Derived.Test.YtkfkdgginfpdnaaGreatDoorG10
import Derived.Test.YtkfkdgginfpdnaaGreatDoorG2
import Derived.Test.YtkfkdgginfpdnaaGreatDoorLgK6
import Derived.Test.YtkfkdgginfpdnaaGreatDoorLgK7
import Derived.MakeChecks
import Derived.Stop.LaidErr
import Derived.LaidHandle
import Derived.Lib.LaidTab
section
namespace Go.Proofs.YtkfkdgginfpdnaaGreatDoor
open Go Go.Lg
set_option linter.unusedSimpArgs false
set_option linter.unusedVariables false
set_option maxHeartbeats 4000000
attribute [local irreducible] Lg.SW runL runQ runG runQG FC FCw Ret1 RetN toF redoL anyB
attribute [local go_sem] shC anyV_shT anyV_ids anyV_tks
attribute [local go_sem high] anyV_pu
theorem prog_val {f:FrontT} {sets:List (List Int)} {ru:List TransT} {ok:Bool} (h:iterA (imgH f.sig (shpV f) []) (fun n=>evK f.sig f.funs n f.sig.length) 18 []=(sets,ru,ok)):ok=(setV f).2∧(ok=true→sets=(setV f).1):=by
 have hE:(fun n=>evK f.sig f.funs n f.sig.length)=evY f.sig (symsK f.sig f.funs):=funext fun n=>evK_all _ _ _
 rw[hE] at h
 obtain⟨h1,h2⟩:=iterA_eq (I:=imgH f.sig (shpV f) []) (E:=evY f.sig (symsK f.sig f.funs)) 18 [] (by simp)
 rw[h] at h1 h2
 dsimp only at h1 h2
 exact⟨h1,fun e=>(h2 (by rw[←h1];exact e)).1⟩
def vC (sets:List (List Int)) (rl:List D) (LF:List FormT):List D:=[.sl .any (sets.map IntsD),.sl .any rl,.sl .any (LF.map formD)]
theorem vC_le (K K2:Nat) (e e2 z z2:Nat) (sets:List (List Int)) (rl:List D) (LF:List FormT):∀(j:Nat) c d,([.sl (.own K e z) (sets.map IntsD),.sl (.own K2 e2 z2) rl,.sl .any (LF.map formD)]:List D)[j]?=some c→(vC sets rl LF)[j]?=some d→D.le c d:=fun j c d h1 h2=>by
 match j,h1,h2 with
 | 0,h1,h2=>cases h1;cases h2;exact .any
 | 1,h1,h2=>cases h1;cases h2;exact .any
 | 2,h1,h2=>cases h1;cases h2;exact .refl _
 | j+3,h1,h2=>simp[vC] at h1
theorem vC_ok (sets:List (List Int)) (rl:List D) (LF:List FormT):∀d∈vC sets rl LF,d.memOk=true:=by
 simp[vC,D.memOk]
def kp52:List (Nat×List Nat):=[(0,[1]),(1,[1,4]),(2,[1,4,5]),(3,[1,4,5,6]),(4,[1,4,5,6,7,8]),(5,[1,4,5,6,7,33]),(6,[2,3]),(7,[2,3])]
attribute [go_sem] kp52 Tryz.results52 Tryz.ntmps52
theorem valuesOf_ex (f:FrontT) (h:FrontOkP f) (sets:List (List Int)) (hN:setV f=(sets,true)):∃rl:List D,FCw S TabW 52 [] [] [] [FrontD f] (.tup [.imm (vC sets rl ((lefsL f).map (formR f.sig (shpV f)))),.bool true]) [] []:=by
 obtain⟨hO,hn,hL⟩:=shpV_ok h
 have cL:=leftsOfV_fc f h
 have h8:=h.1.2.2
 have hLl:=lefsL_len f
 have hT:∀i<(lefsL f).length,TermOkP f.sig ((lefsL f).getD i default):=fun i hi=>by
  rw[hLl] at hi
  rw[lefsL_get f hi]
  exact(lefs_ok h hi).1
 have cS:=(shapesOf_fc sortKN [0] (by simp) f.sig (lefsL f) (by omega) hT).weak (bx'':=[]) (tk'':=[]) (le_Int64SSL _ _) (by simp) (by simp)
 rw[show srtM (shpA f.sig (lefsL f) (lefsL f).length)=shpV f from rfl] at cS
 have cF1:=formsOf_fc f.sig (shpV f) (lefsL f) (fun t ht=>(hL t ht).1) hn (by omega)
 have cF2:=formsOf_fc f.sig (shpV f) (shpV f) (fun t ht=>(hO.sh t ht).1) hn hn
 obtain⟨sets',ru,ok,hR⟩:∃a b c,iterA (imgH f.sig (shpV f) []) (fun n=>evK f.sig f.funs n f.sig.length) 18 []=(a,b,c):=⟨_,_,_,rfl⟩
 obtain⟨e1,e2⟩:=prog_val hR
 rw[hN] at e1 e2
 dsimp only at e1 e2
 subst e1
 obtain rfl:=e2 rfl
 have hTb:TblOk f.sig [] ((shpV f).map (formR f.sig (shpV f))):=⟨hO.sg,fun g hg=>⟨by simp,fun i hi=>absurd hi (Nat.not_lt_zero _)⟩,forms_ok hO.sg hn,by simpa using hn⟩
 have hfl:=h.1.2.1.len (by omega)
 have hrs:=h.1.1.1.2
 have cA:=allV_fc [0] (by simp) f.sig f.funs _ (by omega) hTb (sets',ru,true) hR
 refine⟨mapR (fun i y=>TransL ([0]++[i]) y) ru,?_⟩
 refine fcbW Tryz.func52 rfl fun B hw hTB hI hpan=>?_
 generalize hLF:(lefsL f).map (formR f.sig (shpV f))=LF at *
 generalize lefsL f=LE at *
 generalize shpV f=SH at *
 repeat' first|exact h.elim|(exfalso;omega)|(refine hK.raw ?_;clear hK K;refine LopsW.callW rfl rfl rfl hw hTB (cA) (by refine⟨⟨?_,?_,?_,?_,?_⟩,⟨?_,?_,?_,?_,?_⟩,?_⟩<;>simp[LS.getBox,Lg.look,D.ids,D.idsL,LS.clean,D.tks,D.tksL,inTok,shC,anyV,idsL_i,tksL_i]) (lops_go 474 (fun (K:List Oper→LS→Prop) (hK:KOk S 474 _ _ _ K)=>?_));simp (disch:=(refine Om.mk ?_;omega)) only[go_sem,List.filter_cons,List.filter_nil,Bool.false_eq_true])|(refine sw_immLe 2 (vC sets' (mapR (fun i y=>TransL ([0]++[i]) y) ru) LF) rfl rfl rfl (vC_le _ _ _ _ _ _ sets' _ LF) (vC_ok _ _ _) ?_;simp only[go_sem])|refine sw_n ?_|refine sw_go 474 kp52 fun K hK=>?_|refine sw_goT 474 kp52 10 (id:=3) (by kernel_rfl) fun K hK=>?_|refine sw_goT 474 kp52 11 (id:=7) (by kernel_rfl) fun K hK=>?_|refine fun (K:KT) (hK:KOk S 474 _ _ _ K)=>?_|refine sw_goD kp52 (by kernel_rfl) fun K hK=>?_|refine runL_g ?_|refine runQ_g ?_|refine sw_retg0 ?_|refine sw_retg ?_|(refine hK.n0 ?_;clear hK K)|refine sw_condg rfl (fun h=>?_) fun h=>?_|refine sw_loopEnd ?_|refine hK.c1 rfl rfl rfl (cL) ?_|refine hK.c1 rfl rfl rfl (cS) ?_|refine hK.c1 rfl rfl rfl (cF1) ?_|refine hK.c1 rfl rfl rfl (cF2) ?_|with_reducible refine and_o ?_|((with_reducible refine And.intro ?_ ?_);· first|(intro x hx;subst hx;rfl)|exact upR_mem fun _ _=>rfl|exact mapR_mem fun _ _=>rfl|(intro x;refine And.intro ?_ ?_<;>(intros;subst_vars;rfl)))|apply tTT
 all_goals first|(unfold RetN;simp only[go_sem];exact ret_plain rfl fun f=>rfl)|trace_state
theorem valuesOfNo_fc (f:FrontT) (h:FrontOkP f) (hN:(setV f).2=false):FCw S TabW 52 [] [] [] [FrontD f] (.tup [.raw (.pointer none),.bool false]) [] []:=by
 obtain⟨hO,hn,hL⟩:=shpV_ok h
 have cL:=leftsOfV_fc f h
 have h8:=h.1.2.2
 have hLl:=lefsL_len f
 have hT:∀i<(lefsL f).length,TermOkP f.sig ((lefsL f).getD i default):=fun i hi=>by
  rw[hLl] at hi
  rw[lefsL_get f hi]
  exact(lefs_ok h hi).1
 have cS:=(shapesOf_fc sortKN [0] (by simp) f.sig (lefsL f) (by omega) hT).weak (bx'':=[]) (tk'':=[]) (le_Int64SSL _ _) (by simp) (by simp)
 rw[show srtM (shpA f.sig (lefsL f) (lefsL f).length)=shpV f from rfl] at cS
 have cF2:=formsOf_fc f.sig (shpV f) (shpV f) (fun t ht=>(hO.sh t ht).1) hn hn
 obtain⟨sets',ru,ok,hR⟩:∃a b c,iterA (imgH f.sig (shpV f) []) (fun n=>evK f.sig f.funs n f.sig.length) 18 []=(a,b,c):=⟨_,_,_,rfl⟩
 obtain⟨e1,e2⟩:=prog_val hR
 rw[hN] at e1
 subst e1
 have hTb:TblOk f.sig [] ((shpV f).map (formR f.sig (shpV f))):=⟨hO.sg,fun g hg=>⟨by simp,fun i hi=>absurd hi (Nat.not_lt_zero _)⟩,forms_ok hO.sg hn,by simpa using hn⟩
 have hfl:=h.1.2.1.len (by omega)
 have hrs:=h.1.1.1.2
 have cA:=allV_fc [0] (by simp) f.sig f.funs _ (by omega) hTb (sets',ru,false) hR
 refine fcbW Tryz.func52 rfl fun B hw hTB hI hpan=>?_
 generalize lefsL f=LE at *
 generalize shpV f=SH at *
 repeat' first|exact h.elim|(exfalso;omega)|(refine hK.raw ?_;clear hK K;refine LopsW.callW rfl rfl rfl hw hTB (cA) (by refine⟨⟨?_,?_,?_,?_,?_⟩,⟨?_,?_,?_,?_,?_⟩,?_⟩<;>simp[LS.getBox,Lg.look,D.ids,D.idsL,LS.clean,D.tks,D.tksL,inTok,shC,anyV,idsL_i,tksL_i]) (lops_go 474 (fun (K:List Oper→LS→Prop) (hK:KOk S 474 _ _ _ K)=>?_));simp (disch:=(refine Om.mk ?_;omega)) only[go_sem,List.filter_cons,List.filter_nil,Bool.false_eq_true])|refine sw_n ?_|refine sw_go 474 kp52 fun K hK=>?_|refine sw_goT 474 kp52 10 (id:=3) (by kernel_rfl) fun K hK=>?_|refine sw_goT 474 kp52 11 (id:=7) (by kernel_rfl) fun K hK=>?_|refine fun (K:KT) (hK:KOk S 474 _ _ _ K)=>?_|refine sw_goD kp52 (by kernel_rfl) fun K hK=>?_|refine runL_g ?_|refine runQ_g ?_|refine sw_retg0 ?_|refine sw_retg ?_|(refine hK.n0 ?_;clear hK K)|refine sw_condg rfl (fun h=>?_) fun h=>?_|refine sw_loopEnd ?_|refine hK.c1 rfl rfl rfl (cL) ?_|refine hK.c1 rfl rfl rfl (cS) ?_|refine hK.c1 rfl rfl rfl (cF2) ?_|with_reducible refine and_o ?_|((with_reducible refine And.intro ?_ ?_);· first|(intro x hx;subst hx;rfl)|exact upR_mem fun _ _=>rfl|exact mapR_mem fun _ _=>rfl|(intro x;refine And.intro ?_ ?_<;>(intros;subst_vars;rfl)))|apply tTT
 all_goals first|(unfold RetN;simp only[go_sem];exact ret_plain rfl fun f=>rfl)|trace_state
end Go.Proofs.YtkfkdgginfpdnaaGreatDoor
end
section
namespace Go.Proofs.YtkfkdgginfpdnaaGreatDoor
open Go Go.Lg
set_option linter.unusedSimpArgs false
set_option linter.unusedVariables false
set_option maxHeartbeats 4000000
attribute [local irreducible] Lg.SW runL runQ runG runQG FC Ret1 RetN toF redoL
attribute [local go_sem] vC formD tksL_B idsL_B shTL_B pu1_B mTL_B
def kp109:List (Nat×List Nat):=[(0,[0,1]),(1,[0,1,7,8]),(2,[0,1,7,8,9]),(3,[0,1,5,7,8]),(4,[0,1,5,7,8,16]),(5,[4]),(6,[0,1,7,8]),(7,[4])]
attribute [go_sem] kp109 Tryz.results109 Tryz.ntmps109
theorem indexFuncForm_fc (tk:Tk) (xs:List FormT) (p:FormT→Prop) (f:Nat) (cap:List D) (ro:List (Nat×List D)) (hro:∀p∈ro,Lg.look ro p.1=some p.2) (hf:∀x∈xs,FC S f ro [] [] ([formD x]++cap) (.bool (tst (p x))) [] []):FC S 109 ro [] [] [.sl tk (xs.map formD),.fn f cap] (.int .i64 (fidx p xs)) [] []:=by
 refine fcb Tryz.func109 fun B=>?_
 refine sw_bndg 0 fun hb0=>?_
 repeat' first|exact h.elim|refine sw_n ?_|refine sw_go 0 kp109 fun K hK=>?_|refine fun (K:KT) (hK:KOk S 0 _ _ _ K)=>?_|refine runL_g ?_|refine sw_retg0 ?_|refine sw_retg ?_|(refine hK.n0 ?_;clear hK K)|refine sw_condg rfl (fun h=>?_) fun h=>?_|refine sw_exit rfl ?_|refine sw_loopEnd ?_|with_reducible refine and_o ?_|apply tTT
 refine sw_loopU (ι:=Nat) (fun i=>[(8,.int .i64 i)]) (fun _=>[]) (fun i=>i≤xs.length∧(∀j<i,¬p (xs.getD j default))) (fun i=>xs.length-i) 0 (by(refine covers_mk0 rfl rfl ?_ ?_ ?_ ?_<;>simp (disch:=(refine Om.mk ?_;omega)) only[go_sem]<;>(try omega));exact boxLe_mk hro) ⟨by omega,?_⟩ (fun i ⟨hi,hj⟩=>?_)
 rotate_left
 simp only[go_sem]
 repeat' first|exact h.elim|refine sw_n ?_|refine sw_go 0 kp109 fun K hK=>?_|refine fun (K:KT) (hK:KOk S 0 _ _ _ K)=>?_|refine runL_g ?_|refine sw_retg0 ?_|refine sw_retg ?_|(refine hK.n0 ?_;clear hK K)|refine sw_condg rfl (fun h=>?_) fun h=>?_|refine sw_exit rfl ?_|refine sw_loopEnd ?_|with_reducible refine and_o ?_|apply tTT
 ·refine hK.call rfl rfl rfl (hf (xs.getD i default) (getD_mem _ _ (by omega))) ⟨hro,rfl,rfl,(by simp only[dstOk,Nat.reduceLT])⟩ ?_
  repeat' first|exact h.elim|refine sw_n ?_|refine sw_go 0 kp109 fun K hK=>?_|refine fun (K:KT) (hK:KOk S 0 _ _ _ K)=>?_|refine runL_g ?_|refine sw_retg0 ?_|refine sw_retg ?_|(refine hK.n0 ?_;clear hK K)|refine sw_condg rfl (fun h=>?_) fun h=>?_|refine sw_exit rfl ?_|refine sw_loopEnd ?_|with_reducible refine and_o ?_|apply tTT
  ·exact(fidx_at hj (by omega) h).symm
  ·exact⟨i+1,(by(refine covers_mk0 rfl rfl ?_ ?_ ?_ ?_<;>simp (disch:=(refine Om.mk ?_;omega)) only[go_sem]<;>(try omega));exact boxLe_mk hro),⟨by omega,upto_succ hj h⟩,by omega⟩
 ·exact(fidx_none fun j hj'=>hj j (by omega)).symm
 ·intro j hj';omega
def kp110:List (Nat×List Nat):=[(0,[1,2,3]),(1,[4])]
attribute [go_sem] kp110 Tryz.results110 Tryz.ntmps110
theorem firstFit1_fc (tk:Tk) (fn:Int) (args:List (List Int)) (x:FormT) (h3:x.args.length≤3) (hl:x.head=fn→x.args.length≤args.length):FC S 110 [(604,[.int .i64 fn]),(605,[.sl tk (args.map IntsD)])] [] [] ([formD x]++[.box 604 0,.box 605 0]) (.bool (tst (FitF x fn args))) [] []:=by
 have cF:=fits_fc tk x fn args h3 hl
 refine fcb Tryz.func110 fun B=>?_
 repeat' first|refine sw_n ?_|refine sw_go 100 kp110 fun K hK=>?_|refine fun (K:KT) (hK:KOk S 100 _ _ _ K)=>?_|refine runL_g ?_|refine sw_retg0 ?_|refine sw_retg ?_|(refine hK.n0 ?_;clear hK K)|refine sw_loopEnd ?_|refine hK.c1 rfl rfl rfl (cF) ?_|with_reducible refine and_o ?_|apply tTT
def kp55:List (Nat×List Nat):=[(0,[0,4,5]),(1,[6])]
attribute [go_sem] kp55 Tryz.results55 Tryz.ntmps55
theorem firstFit_fc (tk:Tk) (sets:List (List Int)) (ru:List D) (LF:List FormT) (fn:Int) (args:List (List Int)) (hF:FormsOk fn args.length LF):FC S 55 [] [] [] [.imm (vC sets ru LF),.int .i64 fn,.sl tk (args.map IntsD)] (.int .i64 (takI LF fn args)) [] []:=by
 have cI:=indexFuncForm_fc .any LF (fun x=>FitF x fn args) 110 [.box 604 0,.box 605 0] [(604,[.int .i64 fn]),(605,[.sl tk (args.map IntsD)])] (by simp[Lg.look]) (fun x hx=>by
  obtain⟨i,hi,rfl⟩:=List.getElem_of_mem hx
  have h:=hF.2 i hi
  rw[List.getD_eq_getElem?_getD,List.getElem?_eq_getElem hi] at h
  exact firstFit1_fc tk fn args _ h.1 h.2)
 rw[show fidx (fun x=>FitF x fn args) LF=takI LF fn args from rfl] at cI
 generalize takI LF fn args=R at *
 refine fcb Tryz.func55 fun B=>?_
 repeat' first|refine sw_n ?_|refine sw_go 600 kp55 fun K hK=>?_|refine fun (K:KT) (hK:KOk S 600 _ _ _ K)=>?_|refine runL_g ?_|refine sw_retg0 ?_|refine sw_retg ?_|(refine hK.n0 ?_;clear hK K)|refine sw_loopEnd ?_|refine hK.cR rfl rfl rfl (cI) ?_|with_reducible refine and_o ?_|apply tTT
def kp54:List (Nat×List Nat):=[(0,[4,7]),(1,[4,7,13]),(2,[])]
attribute [go_sem] kp54 Tryz.results54 Tryz.ntmps54
theorem ret_bools {L:LS} {id:Nat} {bs:List Bool} (h:Lg.look L.boxes id=some (bs.map .bool)):RetK (.tup []) [(id,bs.map .bool)] 0 L (.tup []):=⟨[],.tup [],.refl _,⟨rfl,List.nodup_nil⟩,by simp,by simp[D.tks,D.tksL],rfl,fun p hp=>by
 obtain rfl:=List.mem_singleton.1 hp
 exact⟨_,h,by rw[tksL_B];simp,mTL_B _ _⟩⟩
theorem dead1Z_fc (n:Nat) (l:List Int) (sets:List (List Int)) (ru:List D) (LF:List FormT) (fn:Int) (args:List (List Int)) (hF:FormsOk fn args.length LF) (lv:List Bool) (m:Nat) (hm:m=lv.length) (hlm:m=LF.length) (hm8:m≤8):FC S 54 [(3,[.imm (vC sets ru LF)]),(7,[.int .i64 fn]),(5,[.ms 24 m])] [(24,lv.map .bool)] [] ([.sl .any [],.sl .any (args.map IntsD)]++[.box 3 0,.box 7 0,.box 5 0]) (.tup []) [(24,(setB lv (takI LF fn args)).map .bool)] []:=by
 have hrg:=takI_rng LF fn args
 have cF:=firstFit_fc .any sets ru LF fn args hF
 generalize takI LF fn args=k at *
 by_cases hk:0≤k
 ·rw[show setB lv k=lv.set k.toNat true from if_pos hk]
  refine fcbN Tryz.func54 rfl fun B=>?_
  repeat' first|exact h.elim|(exfalso;omega)|refine sw_n ?_|refine sw_go 0 kp54 fun K hK=>?_|refine fun (K:KT) (hK:KOk S 0 _ _ _ K)=>?_|refine runL_g ?_|refine sw_retg0 ?_|refine sw_retg ?_|(refine hK.n0 ?_;clear hK K)|refine sw_condg rfl (fun h=>?_) fun h=>?_|refine sw_loopEnd ?_|refine hK.c1 rfl rfl rfl (cF) ?_|with_reducible refine and_o ?_|apply tTT
  all_goals (refine sw_nil ?_;unfold RetN;simp only[go_sem];refine ret_bools ?_;first|(simp only[Lg.look,if_true,List.map_set];done)|(simp only[go_sem];rw[List.map_set];done)|trace_state)
 ·rw[show setB lv k=lv from if_neg hk]
  refine fcbN Tryz.func54 rfl fun B=>?_
  repeat' first|exact h.elim|(exfalso;omega)|refine sw_n ?_|refine sw_go 0 kp54 fun K hK=>?_|refine fun (K:KT) (hK:KOk S 0 _ _ _ K)=>?_|refine runL_g ?_|refine sw_retg0 ?_|refine sw_retg ?_|(refine hK.n0 ?_;clear hK K)|refine sw_condg rfl (fun h=>?_) fun h=>?_|refine sw_loopEnd ?_|refine hK.c1 rfl rfl rfl (cF) ?_|with_reducible refine and_o ?_|apply tTT
  all_goals (refine sw_nil ?_;unfold RetN;simp only[go_sem];refine ret_bools ?_;first|rfl|(simp only[Lg.look,if_true];done)|trace_state)
theorem dead1M_fc (n:Nat) (l:List Int) (sets:List (List Int)) (ru:List D) (LF:List FormT) (fn:Int) (args:List (List Int)) (hF:FormsOk fn args.length LF) (lv:List Bool) (m:Nat) (hm:m=lv.length) (hlm:m=LF.length) (hm8:m≤8):FC S 54 [(3,[.imm (vC sets ru LF)]),(7,[.int .i64 fn]),(5,[.ms 24 m]),(34,l.map (.int .i64))] [(24,lv.map .bool)] [] ([.ms 34 n,.sl .any (args.map IntsD)]++[.box 3 0,.box 7 0,.box 5 0]) (.tup []) [(24,(setB lv (takI LF fn args)).map .bool)] []:=by
 have hrg:=takI_rng LF fn args
 have cF:=firstFit_fc .any sets ru LF fn args hF
 generalize takI LF fn args=k at *
 by_cases hk:0≤k
 ·rw[show setB lv k=lv.set k.toNat true from if_pos hk]
  refine fcbN Tryz.func54 rfl fun B=>?_
  repeat' first|exact h.elim|(exfalso;omega)|refine sw_n ?_|refine sw_go 0 kp54 fun K hK=>?_|refine fun (K:KT) (hK:KOk S 0 _ _ _ K)=>?_|refine runL_g ?_|refine sw_retg0 ?_|refine sw_retg ?_|(refine hK.n0 ?_;clear hK K)|refine sw_condg rfl (fun h=>?_) fun h=>?_|refine sw_loopEnd ?_|refine hK.c1 rfl rfl rfl (cF) ?_|with_reducible refine and_o ?_|apply tTT
  all_goals (refine sw_nil ?_;unfold RetN;simp only[go_sem];refine ret_bools ?_;first|(simp only[Lg.look,if_true,List.map_set];done)|(simp only[go_sem];rw[List.map_set];done)|trace_state)
 ·rw[show setB lv k=lv from if_neg hk]
  refine fcbN Tryz.func54 rfl fun B=>?_
  repeat' first|exact h.elim|(exfalso;omega)|refine sw_n ?_|refine sw_go 0 kp54 fun K hK=>?_|refine fun (K:KT) (hK:KOk S 0 _ _ _ K)=>?_|refine runL_g ?_|refine sw_retg0 ?_|refine sw_retg ?_|(refine hK.n0 ?_;clear hK K)|refine sw_condg rfl (fun h=>?_) fun h=>?_|refine sw_loopEnd ?_|refine hK.c1 rfl rfl rfl (cF) ?_|with_reducible refine and_o ?_|apply tTT
  all_goals (refine sw_nil ?_;unfold RetN;simp only[go_sem];refine ret_bools ?_;first|rfl|(simp only[Lg.look,if_true];done)|trace_state)
end Go.Proofs.YtkfkdgginfpdnaaGreatDoor
end
section
namespace Go.Proofs.YtkfkdgginfpdnaaGreatDoor
open Go Go.Lg
set_option linter.unusedSimpArgs false
set_option linter.unusedVariables false
set_option maxHeartbeats 4000000
attribute [local irreducible] Lg.SW runL runQ runG runQG FC Ret1 RetN toF redoL
attribute [local go_sem] tksL_B idsL_B shTL_B pu1_B mTL_B
theorem countUpZ_fc:FC S 108 [] [] [] [.sl .any [],.sl .any [],.sl .any []] (.bool false) [] []:=by
 refine fcb Tryz.func108 fun B=>?_
 repeat' first|exact h.elim|(exfalso;omega)|refine sw_n ?_|refine sw_go 0 kp108 fun K hK=>?_|refine fun (K:KT) (hK:KOk S 0 _ _ _ K)=>?_|refine sw_goD kp108 (by kernel_rfl) fun K hK=>?_|refine runL_g ?_|refine runQ_g ?_|refine sw_retg0 ?_|refine sw_retg ?_|(refine hK.n0 ?_;clear hK K)|refine sw_condg rfl (fun h=>?_) fun h=>?_|refine sw_exit rfl ?_|refine sw_loopEnd ?_|with_reducible refine and_o ?_|apply tTT
 refine sw_loopT (ι:=Nat) (fun _=>[(7,.int .i64 (-1))]) (fun _=>[]) (fun _=>[]) (fun _=>True) (fun x=>x) 0 cvB trivial (fun x _=>?_)
 simp only[go_sem]
 repeat' first|exact h.elim|(exfalso;omega)|refine sw_n ?_|refine sw_go 0 kp108 fun K hK=>?_|refine fun (K:KT) (hK:KOk S 0 _ _ _ K)=>?_|refine sw_goD kp108 (by kernel_rfl) fun K hK=>?_|refine runL_g ?_|refine runQ_g ?_|refine sw_retg0 ?_|refine sw_retg ?_|(refine hK.n0 ?_;clear hK K)|refine sw_condg rfl (fun h=>?_) fun h=>?_|refine sw_exit rfl ?_|refine sw_loopEnd ?_|with_reducible refine and_o ?_|apply tTT
def kp53:List (Nat×List Nat):=[(0,[0,1,2,22]),(1,[0,2,6,7]),(2,[0,2,6,7,8]),(3,[0,2,6,7,8,9]),(4,[0,2,6,7,8,35]),(6,[0,2,6,7,8,10]),(7,[0,2,6,7,8,10,40,41,42]),(8,[0,2,6,7,8,10,40,41,42,43]),(9,[0,2,6,7,8,10,12,40,41,42]),(10,[0,2,6,7,8,10,40,41,42]),(11,[0,2,6,7,8,10,40,41,42]),(12,[0,2,6,7,8]),(5,[0,2,6,7,8,9])]
attribute [go_sem] kp53 Tryz.results53 Tryz.ntmps53
theorem argLists_fc (rs:List Int) (g:Nat) (har:0≤rs.getD g default∧rs.getD g default≤3) (sets:List (List Int)) (h16:sets.length≤16) (ru:List D) (LF:List FormT) (hF:FormsOk (g:Int) (rs.getD g default).toNat LF) (lv:List Bool) (m:Nat) (hm:m=lv.length) (hlm:m=LF.length) (hm8:m≤8):FC S 53 [(3,[.imm (vC sets ru LF)]),(7,[.int .i64 g]),(5,[.ms 24 m])] [(24,lv.map .bool)] [] [.imm (vC sets ru LF),.int .i64 (rs.getD g default),.fn 54 [.box 3 0,.box 7 0,.box 5 0]] (.tup []) [(24,(liveU LF sets (evF rs sets.length g) lv).map .bool)] []:=by
 unfold vC
 obtain⟨n,hn⟩:∃n:Nat,rs.getD g default=n:=⟨(rs.getD g default).toNat,by omega⟩
 have hnt:(rs.getD g default).toNat=n:=by omega
 rw[hnt] at hF
 have hal:=liveU_len LF sets (evF rs sets.length g) lv
 by_cases hs0:sets.length=0∧0<n
 ·rw[show evF rs sets.length g=[] from if_pos ⟨hs0.1,by omega⟩,liveU]
  have h1:=hs0.1
  have h2:=hs0.2
  refine fcbN Tryz.func53 rfl fun B=>?_
  repeat' first|exact h.elim|(exfalso;omega)|refine sw_n ?_|refine sw_go 0 kp53 fun K hK=>?_|refine fun (K:KT) (hK:KOk S 0 _ _ _ K)=>?_|refine sw_goD kp53 (by kernel_rfl) fun K hK=>?_|refine runL_g ?_|refine runQ_g ?_|refine sw_retg0 ?_|refine sw_retg ?_|(refine hK.n0 ?_;clear hK K)|refine runG_fk (fun h=>?_) fun h=>?_|refine runQG_fk (fun h=>?_) fun h=>?_|refine sw_condg rfl (fun h=>?_) fun h=>?_|refine hK.skp rfl rfl ?_|refine sw_exit rfl ?_|refine sw_loopEnd ?_|(refine hK.fork rfl rfl rfl ?_ ?_<;>intro h<;>try simp (disch:=(refine Om.mk ?_;omega)) only[go_sem] at h)|with_reducible refine and_o ?_|((with_reducible refine And.intro ?_ ?_);· first|(intro x hx;subst hx;rfl)|(intro x;refine And.intro ?_ ?_<;>(intros;subst_vars;rfl)))|apply tTT
  all_goals (unfold RetN;simp only[go_sem];refine ret_bools ?_;first|rfl|(simp only[Lg.look,if_true];done)|trace_state)
 ·have he:evF rs sets.length g=(digs sets.length n).map (fun l=>(g,l)):=by rw[←hnt];exact if_neg fun h=>hs0 ⟨h.1,by omega⟩
  rw[he] at hal ⊢
  have hd0:0<sets.length∨n=0:=by omega
  obtain⟨hseq,A0,hA0⟩:=digs_ok hd0
  have hdig:=digs_dig hd0
  rw[hA0] at hseq hdig hal ⊢
  generalize hALL:liveU LF sets ((List.replicate n 0::A0).map (fun l=>(g,l))) lv=ALL at *
  have cA:=repeatedA_fc 0 n (by omega)
  have cB:=repeatedA_fc ((sets.length:Int)-1) n (by omega)
  rw[←hn] at cA cB
  have hng:¬(sets.length=0∧0<n):=hs0
  cases n with
  | zero =>
   have cK:=(cloneOwnK_fc .any [] (by simp)).weak (bx'':=[]) (tk'':=[]) .any (by simp) (by simp)
   simp only[List.replicate_zero,List.map_nil] at cA cB cK hseq hdig hal hALL ⊢
   refine fcbN Tryz.func53 rfl fun B=>?_
   apply mrgN
   ·intro key
    repeat' first|exact h.elim|(exfalso;omega)|refine sw_n ?_|refine sw_go 0 kp53 fun K hK=>?_|refine fun (K:KT) (hK:KOk S 0 _ _ _ K)=>?_|refine sw_goD kp53 (by kernel_rfl) fun K hK=>?_|refine runL_g ?_|refine runQ_g ?_|refine sw_retg0 ?_|refine sw_retg ?_|(refine hK.n0 ?_;clear hK K)|refine runG_fk (fun h=>?_) fun h=>?_|refine runQG_fk (fun h=>?_) fun h=>?_|refine sw_condg rfl (fun h=>?_) fun h=>?_|refine hK.skp rfl rfl ?_|refine sw_exit rfl ?_|refine sw_loopEnd ?_|refine hK.c1 rfl rfl rfl (cA) ?_|refine hK.c1 rfl rfl rfl (cB) ?_|refine hK.c1 rfl rfl rfl (cK) ?_|(refine hK.fork rfl rfl rfl ?_ ?_<;>intro h<;>try simp (disch:=(refine Om.mk ?_;omega)) only[go_sem] at h)|with_reducible refine and_o ?_|((with_reducible refine And.intro ?_ ?_);· first|(intro x hx;subst hx;rfl)|(intro x;refine And.intro ?_ ?_<;>(intros;subst_vars;rfl)))|apply tTT
    all_goals exact key.get
   refine sw_loopT (ι:=(List Int×Bool)×List (List Int)×List Bool) (fun p=>[(9,.bool p.1.2)]) (fun p=>[(24,p.2.2.map .bool)]) (fun _=>[]) (fun p=>((p.1.1.length=0∧∀x∈p.1.1,0≤x∧x<sets.length)∧p.2.2.length=m)∧(p.1.2=true→(SeqD [] (p.1.1::p.2.1)∧∀l∈p.2.1,l.length=0∧∀x∈l,0≤x∧x<sets.length)∧liveU LF sets ((p.1.1::p.2.1).map (fun l=>(g,l))) p.2.2=ALL)∧(p.1.2=false→p.2.2=ALL)) (fun p=>if p.1.2=true then p.2.1.length+1 else 0) (([],true),A0,lv) (by(refine covers_mk0 rfl rfl ?_ ?_ ?_ ?_<;>simp (disch:=(refine Om.mk ?_;omega)) only[go_sem]<;>(try omega));all_goals first|rfl|exact⟨rfl,rfl⟩|exact⟨rfl,rfl,rfl⟩|trace_state) ⟨⟨hdig _ List.mem_cons_self,hm.symm⟩,(fun _=>⟨⟨hseq,fun l hl=>hdig l (List.mem_cons_of_mem _ hl)⟩,hALL⟩),(fun h=>by cases h)⟩ (fun p hp=>?_)
   obtain⟨⟨l,mr⟩,A,lw⟩:=p
   obtain⟨⟨⟨hl1,hl2⟩,hlw⟩,hm1,hm2⟩:=hp
   dsimp only at hl1 hl2 hlw hm1 hm2
   simp only[go_sem]
   cases mr with
   | false =>
    obtain rfl:=hm2 rfl
    repeat' first|exact h.elim|(exfalso;omega)|refine sw_n ?_|refine sw_go 0 kp53 fun K hK=>?_|refine fun (K:KT) (hK:KOk S 0 _ _ _ K)=>?_|refine sw_goD kp53 (by kernel_rfl) fun K hK=>?_|refine runL_g ?_|refine runQ_g ?_|refine sw_retg0 ?_|refine sw_retg ?_|(refine hK.n0 ?_;clear hK K)|refine runG_fk (fun h=>?_) fun h=>?_|refine runQG_fk (fun h=>?_) fun h=>?_|refine sw_condg rfl (fun h=>?_) fun h=>?_|refine hK.skp rfl rfl ?_|refine sw_exit rfl ?_|refine sw_loopEnd ?_|(refine hK.fork rfl rfl rfl ?_ ?_<;>intro h<;>try simp (disch:=(refine Om.mk ?_;omega)) only[go_sem] at h)|with_reducible refine and_o ?_|((with_reducible refine And.intro ?_ ?_);· first|(intro x hx;subst hx;rfl)|(intro x;refine And.intro ?_ ?_<;>(intros;subst_vars;rfl)))|apply tTT
    all_goals (first|refine sw_nil ?_|skip);unfold RetN;simp only[go_sem];refine ret_bools ?_;first|rfl|(simp only[Lg.look,if_true];done)|trace_state
   | true =>
    obtain⟨⟨hs,hA1⟩,hcc⟩:=hm1 rfl
    rw[List.map_cons,liveU] at hcc
    dsimp only at hcc
    have hget:∀j<l.length,0≤l.getD j default∧l.getD j default<sets.length:=fun j hj=>hl2 _ (getD_mem l j hj)
    have hll:=lst_len sets l
    have hnx:=loop_next hl1 hl2 hs
    have hF2:FormsOk (g:Int) (lstS sets l).length LF:=by rw[hll,hl1];exact hF
    have cD:=dead1Z_fc 0 [] sets ru LF (g:Int) (lstS sets l) hF2 lw m hlw.symm hlm hm8
    simp only[vC,List.cons_append,List.nil_append] at cD
    have cD:=FC.args cD (args:=[.sl .any [],.sl (.own 56000 22 1) ((lstS sets l).map IntsD),.box 3 0,.box 7 0,.box 5 0]) ⟨.refl _,.any,.refl _,.refl _,.refl _,trivial⟩
    have hsl:=setB_len lw (takI LF (g:Int) (lstS sets l))
    generalize setB lw (takI LF (g:Int) (lstS sets l))=lx at *
    repeat' first|exact h.elim|(exfalso;omega)|refine sw_n ?_|refine sw_go 0 kp53 fun K hK=>?_|refine fun (K:KT) (hK:KOk S 0 _ _ _ K)=>?_|refine sw_goD kp53 (by kernel_rfl) fun K hK=>?_|refine runL_g ?_|refine runQ_g ?_|refine sw_retg0 ?_|refine sw_retg ?_|(refine hK.n0 ?_;clear hK K)|refine runG_fk (fun h=>?_) fun h=>?_|refine runQG_fk (fun h=>?_) fun h=>?_|refine sw_condg rfl (fun h=>?_) fun h=>?_|refine hK.skp rfl rfl ?_|refine sw_exit rfl ?_|refine sw_loopEnd ?_|(refine hK.fork rfl rfl rfl ?_ ?_<;>intro h<;>try simp (disch:=(refine Om.mk ?_;omega)) only[go_sem] at h)|with_reducible refine and_o ?_|((with_reducible refine And.intro ?_ ?_);· first|(intro x hx;subst hx;rfl)|(intro x;refine And.intro ?_ ?_<;>(intros;subst_vars;rfl)))|apply tTT
    refine sw_tok 10 56000 22 1 rfl (.inl rfl) (by simp[LS.purge,LS.clean,mapA,pu1_c,pu1_cB,D.pu,D.pu1,D.tks,D.tksL,tksL_i,tksL_B,pu1_i,pu1_B]) ?_
    simp only[go_sem]
    refine sw_loopT (ι:=Nat) (fun i=>[(42,.int .i64 i),(10,.sl (.own 56000 22 1) ((lstS sets (l.take i)).map IntsD))]) (fun _=>[]) (fun _=>[56000]) (fun i=>i≤l.length) (fun i=>l.length-i) 0 cvB (Nat.zero_le _) (fun i hi=>?_)
    simp only[go_sem]
    obtain rfl:l=[]:=List.length_eq_zero_iff.1 hl1
    obtain rfl:i=0:=by simpa using hi
    repeat' first|exact h.elim|(exfalso;omega)|(refine hK.callB rfl rfl rfl (cD) (by refine⟨⟨?_,?_,?_,?_,?_⟩,⟨?_,?_,?_,?_,?_⟩,?_⟩<;>simp[LS.getBox,Lg.look,D.ids,D.idsL,idsL_i,idsL_B,idsL_L,LS.clean,D.puOk,D.pu,D.pu1,D.tks,D.tksL,inTok,tksL_i,tksL_B,tksL_L,puOk_i,puOk_B,puOk_L]) ?_;simp (disch:=(refine Om.mk ?_;omega)) only[go_sem])|refine sw_n ?_|refine sw_go 0 kp53 fun K hK=>?_|refine fun (K:KT) (hK:KOk S 0 _ _ _ K)=>?_|refine sw_goD kp53 (by kernel_rfl) fun K hK=>?_|refine runL_g ?_|refine runQ_g ?_|refine sw_retg0 ?_|refine sw_retg ?_|(refine hK.n0 ?_;clear hK K)|refine runG_fk (fun h=>?_) fun h=>?_|refine runQG_fk (fun h=>?_) fun h=>?_|refine sw_condg rfl (fun h=>?_) fun h=>?_|refine hK.skp rfl rfl ?_|refine sw_exit rfl ?_|refine sw_loopEnd ?_|refine hK.c1 rfl rfl rfl (countUpZ_fc) ?_|(refine hK.fork rfl rfl rfl ?_ ?_<;>intro h<;>try simp (disch:=(refine Om.mk ?_;omega)) only[go_sem] at h)|with_reducible refine and_o ?_|((with_reducible refine And.intro ?_ ?_);· first|(intro x hx;subst hx;rfl)|(intro x;refine And.intro ?_ ?_<;>(intros;subst_vars;rfl)))|apply tTT
    all_goals first|exact⟨(([],false),A.tail,lx),(by(refine covers_mk0 rfl rfl ?_ ?_ ?_ ?_<;>simp (disch:=(refine Om.mk ?_;omega)) only[go_sem]<;>(try omega));all_goals first|exact rfl|exact⟨rfl,rfl⟩|exact⟨rfl,rfl,rfl⟩|trace_state),⟨⟨⟨rfl,fun x hx=>absurd hx List.not_mem_nil⟩,hsl.trans hlw⟩,(fun h=>by cases h),(fun h=>by have:=hnx.2.2 rfl;rw[this] at hcc;exact hcc)⟩,by dsimp only;simp⟩|trace_state
  | succ n =>
   have cK:=cloneOwnK_fc .any (List.replicate (n+1) 0) (by simp;omega)
   have hne0:List.replicate (n+1) (0:Int)≠[]:=by simp[List.replicate_succ]
   refine fcbN Tryz.func53 rfl fun B=>?_
   apply mrgN
   ·intro key
    repeat' first|exact h.elim|(exfalso;omega)|refine sw_n ?_|refine sw_go 0 kp53 fun K hK=>?_|refine fun (K:KT) (hK:KOk S 0 _ _ _ K)=>?_|refine sw_goD kp53 (by kernel_rfl) fun K hK=>?_|refine runL_g ?_|refine runQ_g ?_|refine sw_retg0 ?_|refine sw_retg ?_|(refine hK.n0 ?_;clear hK K)|refine runG_fk (fun h=>?_) fun h=>?_|refine runQG_fk (fun h=>?_) fun h=>?_|refine sw_condg rfl (fun h=>?_) fun h=>?_|refine hK.skp rfl rfl ?_|refine sw_exit rfl ?_|refine sw_loopEnd ?_|refine hK.c1 rfl rfl rfl (cA) ?_|refine hK.c1 rfl rfl rfl (cB) ?_|refine hK.cT rfl rfl rfl (cK) ?_|(refine hK.fork rfl rfl rfl ?_ ?_<;>intro h<;>try simp (disch:=(refine Om.mk ?_;omega)) only[go_sem] at h)|with_reducible refine and_o ?_|((with_reducible refine And.intro ?_ ?_);· first|(intro x hx;subst hx;rfl)|(intro x;refine And.intro ?_ ?_<;>(intros;subst_vars;rfl)))|apply tTT
    all_goals exact key.get
   rw[List.length_replicate]
   refine sw_loopT (ι:=(List Int×Bool)×List (List Int)×List Bool) (fun p=>[(9,.bool p.1.2)]) (fun p=>[(24,p.2.2.map .bool),(34,p.1.1.map (.int .i64))]) (fun _=>[]) (fun p=>((p.1.1.length=(n+1)∧∀x∈p.1.1,0≤x∧x<sets.length)∧p.2.2.length=m)∧(p.1.2=true→(SeqD (List.replicate (n+1) (0,(sets.length:Int)-1)) (p.1.1::p.2.1)∧∀l∈p.2.1,l.length=(n+1)∧∀x∈l,0≤x∧x<sets.length)∧liveU LF sets ((p.1.1::p.2.1).map (fun l=>(g,l))) p.2.2=ALL)∧(p.1.2=false→p.2.2=ALL)) (fun p=>if p.1.2=true then p.2.1.length+1 else 0) ((List.replicate (n+1) 0,true),A0,lv) (by(refine covers_mk0 rfl rfl ?_ ?_ ?_ ?_<;>simp (disch:=(refine Om.mk ?_;omega)) only[go_sem]<;>(try omega));all_goals first|rfl|exact⟨rfl,rfl⟩|exact⟨rfl,rfl,rfl⟩|trace_state) ⟨⟨hdig _ List.mem_cons_self,hm.symm⟩,(fun _=>⟨⟨hseq,fun l hl=>hdig l (List.mem_cons_of_mem _ hl)⟩,hALL⟩),(fun h=>by cases h)⟩ (fun p hp=>?_)
   obtain⟨⟨l,mr⟩,A,lw⟩:=p
   obtain⟨⟨⟨hl1,hl2⟩,hlw⟩,hm1,hm2⟩:=hp
   dsimp only at hl1 hl2 hlw hm1 hm2
   simp only[go_sem]
   cases mr with
   | false =>
    obtain rfl:=hm2 rfl
    repeat' first|exact h.elim|(exfalso;omega)|refine sw_n ?_|refine sw_go 0 kp53 fun K hK=>?_|refine fun (K:KT) (hK:KOk S 0 _ _ _ K)=>?_|refine sw_goD kp53 (by kernel_rfl) fun K hK=>?_|refine runL_g ?_|refine runQ_g ?_|refine sw_retg0 ?_|refine sw_retg ?_|(refine hK.n0 ?_;clear hK K)|refine runG_fk (fun h=>?_) fun h=>?_|refine runQG_fk (fun h=>?_) fun h=>?_|refine sw_condg rfl (fun h=>?_) fun h=>?_|refine hK.skp rfl rfl ?_|refine sw_exit rfl ?_|refine sw_loopEnd ?_|(refine hK.fork rfl rfl rfl ?_ ?_<;>intro h<;>try simp (disch:=(refine Om.mk ?_;omega)) only[go_sem] at h)|with_reducible refine and_o ?_|((with_reducible refine And.intro ?_ ?_);· first|(intro x hx;subst hx;rfl)|(intro x;refine And.intro ?_ ?_<;>(intros;subst_vars;rfl)))|apply tTT
    all_goals (first|refine sw_nil ?_|skip);unfold RetN;simp only[go_sem];refine ret_bools ?_;first|rfl|(simp only[Lg.look,if_true];done)|trace_state
   | true =>
    obtain⟨⟨hs,hA1⟩,hcc⟩:=hm1 rfl
    rw[List.map_cons,liveU] at hcc
    dsimp only at hcc
    have hget:∀j<l.length,0≤l.getD j default∧l.getD j default<sets.length:=fun j hj=>hl2 _ (getD_mem l j hj)
    have hll:=lst_len sets l
    have hnx:=loop_next hl1 hl2 hs
    have cU:=countUp_fc 34 (List.replicate (n+1) (0,(sets.length:Int)-1)) l (by simp[hl1]) (by omega) (fun x hx=>by have:=hl2 x hx;omega)
    rw[show List.replicate (n+1) ((0:Int),(sets.length:Int)-1)=List.replicate l.length (0,(sets.length:Int)-1) by rw[hl1],←next_nxt,hl1,show lowD (List.replicate (n+1) ((0:Int),(sets.length:Int)-1))=List.replicate (n+1) 0 by simp[lowD],show (List.replicate (n+1) ((0:Int),(sets.length:Int)-1)).map (·.2)=List.replicate (n+1) ((sets.length:Int)-1) by simp] at cU
    have hF2:FormsOk (g:Int) (lstS sets l).length LF:=by rw[hll,hl1];exact hF
    have cD:=dead1M_fc (n+1) l sets ru LF (g:Int) (lstS sets l) hF2 lw m hlw.symm hlm hm8
    simp only[vC,List.cons_append,List.nil_append] at cD
    have cD:=FC.args cD (args:=[.ms 34 (n+1),.sl (.own 56000 22 1) ((lstS sets l).map IntsD),.box 3 0,.box 7 0,.box 5 0]) ⟨.refl _,.any,.refl _,.refl _,.refl _,trivial⟩
    have hsl:=setB_len lw (takI LF (g:Int) (lstS sets l))
    generalize setB lw (takI LF (g:Int) (lstS sets l))=lx at *
    repeat' first|exact h.elim|(exfalso;omega)|refine sw_n ?_|refine sw_go 0 kp53 fun K hK=>?_|refine fun (K:KT) (hK:KOk S 0 _ _ _ K)=>?_|refine sw_goD kp53 (by kernel_rfl) fun K hK=>?_|refine runL_g ?_|refine runQ_g ?_|refine sw_retg0 ?_|refine sw_retg ?_|(refine hK.n0 ?_;clear hK K)|refine runG_fk (fun h=>?_) fun h=>?_|refine runQG_fk (fun h=>?_) fun h=>?_|refine sw_condg rfl (fun h=>?_) fun h=>?_|refine hK.skp rfl rfl ?_|refine sw_exit rfl ?_|refine sw_loopEnd ?_|(refine hK.fork rfl rfl rfl ?_ ?_<;>intro h<;>try simp (disch:=(refine Om.mk ?_;omega)) only[go_sem] at h)|with_reducible refine and_o ?_|((with_reducible refine And.intro ?_ ?_);· first|(intro x hx;subst hx;rfl)|(intro x;refine And.intro ?_ ?_<;>(intros;subst_vars;rfl)))|apply tTT
    refine sw_tok 10 56000 22 1 rfl (.inl rfl) (by simp[LS.purge,LS.clean,mapA,pu1_c,pu1_cB,D.pu,D.pu1,D.tks,D.tksL,tksL_i,tksL_B,pu1_i,pu1_B]) ?_
    simp only[go_sem]
    refine sw_loopT (ι:=Nat) (fun i=>[(42,.int .i64 i),(10,.sl (.own 56000 22 1) ((lstS sets (l.take i)).map IntsD))]) (fun _=>[]) (fun _=>[56000]) (fun i=>i≤l.length) (fun i=>l.length-i) 0 cvB (Nat.zero_le _) (fun i hi=>?_)
    simp only[go_sem]
    have hjl:=lst_len sets (l.take i)
    rw[List.length_take] at hjl
    by_cases hil:i<l.length
    ·have hx:=hget i hil
     have hst:=lst_snoc sets (l:=l) hil
     repeat' first|exact h.elim|(exfalso;omega)|refine sw_n ?_|refine sw_go 0 kp53 fun K hK=>?_|refine fun (K:KT) (hK:KOk S 0 _ _ _ K)=>?_|refine sw_goD kp53 (by kernel_rfl) fun K hK=>?_|refine runL_g ?_|refine runQ_g ?_|refine sw_retg0 ?_|refine sw_retg ?_|(refine hK.n0 ?_;clear hK K)|refine runG_fk (fun h=>?_) fun h=>?_|refine runQG_fk (fun h=>?_) fun h=>?_|refine sw_condg rfl (fun h=>?_) fun h=>?_|refine hK.skp rfl rfl ?_|refine sw_exit rfl ?_|refine sw_loopEnd ?_|(refine hK.fork rfl rfl rfl ?_ ?_<;>intro h<;>try simp (disch:=(refine Om.mk ?_;omega)) only[go_sem] at h)|with_reducible refine and_o ?_|((with_reducible refine And.intro ?_ ?_);· first|(intro x hx;subst hx;rfl)|(intro x;refine And.intro ?_ ?_<;>(intros;subst_vars;rfl)))|apply tTT
     all_goals exact⟨i+1,(by(refine covers_mk0 rfl rfl ?_ ?_ ?_ ?_<;>simp (disch:=(refine Om.mk ?_;omega)) only[go_sem]<;>(try omega));all_goals first|exact⟨by rw[hst,List.map_append];rfl,by omega⟩|(rw[hst,List.map_append];rfl)|trace_state),by omega,by omega⟩
    ·obtain rfl:i=l.length:=by omega
     rw[List.take_of_length_le (Nat.le_refl _)]
     repeat' first|exact h.elim|(exfalso;omega)|(refine hK.callB rfl rfl rfl (cD) (by refine⟨⟨?_,?_,?_,?_,?_⟩,⟨?_,?_,?_,?_,?_⟩,?_⟩<;>simp[LS.getBox,Lg.look,D.ids,D.idsL,idsL_i,idsL_B,idsL_L,LS.clean,D.puOk,D.pu,D.pu1,D.tks,D.tksL,inTok,tksL_i,tksL_B,tksL_L,puOk_i,puOk_B,puOk_L]) ?_;simp (disch:=(refine Om.mk ?_;omega)) only[go_sem])|(refine hK.callB rfl rfl rfl (cU) (by refine⟨⟨?_,?_,?_,?_,?_⟩,⟨?_,?_,?_,?_,?_⟩,?_⟩<;>simp[LS.getBox,Lg.look,D.ids,D.idsL,idsL_i,idsL_B,idsL_L,LS.clean,D.puOk,D.pu,D.pu1,D.tks,D.tksL,inTok,tksL_i,tksL_B,tksL_L,puOk_i,puOk_B,puOk_L]) ?_;simp (disch:=(refine Om.mk ?_;omega)) only[go_sem])|refine sw_n ?_|refine sw_go 0 kp53 fun K hK=>?_|refine fun (K:KT) (hK:KOk S 0 _ _ _ K)=>?_|refine sw_goD kp53 (by kernel_rfl) fun K hK=>?_|refine runL_g ?_|refine runQ_g ?_|refine sw_retg0 ?_|refine sw_retg ?_|(refine hK.n0 ?_;clear hK K)|refine runG_fk (fun h=>?_) fun h=>?_|refine runQG_fk (fun h=>?_) fun h=>?_|refine sw_condg rfl (fun h=>?_) fun h=>?_|refine hK.skp rfl rfl ?_|refine sw_exit rfl ?_|refine sw_loopEnd ?_|(refine hK.fork rfl rfl rfl ?_ ?_<;>intro h<;>try simp (disch:=(refine Om.mk ?_;omega)) only[go_sem] at h)|with_reducible refine and_o ?_|((with_reducible refine And.intro ?_ ?_);· first|(intro x hx;subst hx;rfl)|(intro x;refine And.intro ?_ ?_<;>(intros;subst_vars;rfl)))|apply tTT
     all_goals first|exact⟨(((nextL (sets.length:Int) l).1,(nextL (sets.length:Int) l).2),A.tail,lx),(by(refine covers_mk0 rfl rfl ?_ ?_ ?_ ?_<;>simp (disch:=(refine Om.mk ?_;omega)) only[go_sem]<;>(try omega));all_goals first|exact rfl|exact⟨rfl,rfl⟩|exact⟨rfl,rfl,rfl⟩|trace_state),⟨⟨hnx.1,hsl.trans hlw⟩,(fun h=>⟨⟨(hnx.2.1 h).1,fun m hm=>hA1 m (List.mem_of_mem_tail hm)⟩,by have e:=(hnx.2.1 h).2;rw[e] at hcc;exact hcc⟩),(fun h=>by have:=hnx.2.2 h;rw[this] at hcc;exact hcc)⟩,nx_meas hnx⟩|trace_state
end Go.Proofs.YtkfkdgginfpdnaaGreatDoor
end
section
namespace Go.Lg
open Go Go.RowKit
theorem FCw.args {S:Setup} {T:World→Prop} {f:FuncId} {ro bx bx':List (Nat×List D)} {tk tk':List Nat} {args args':List D} {d:D} (h:FCw S T f ro bx tk args' d bx' tk') (hle:leL args args'):FCw S T f ro bx tk args d bx' tk':=⟨h.1,fun w G vals hT hs=>by
 have hl:=leL_len hle
 refine h.2 w G vals hT ⟨hs.defers,by rw[←hl];exact hs.size,fun t d hd=>?_,hs.W,hs.fixed⟩
 simp only[look_enumD,Nat.zero_le,if_true,Nat.sub_zero] at hd
 obtain⟨a,ha,hle'⟩:=leL_get hle t d hd
 obtain⟨v,h1,h2⟩:=hs.env t a (by simpa only[look_enumD,Nat.zero_le,if_true,Nat.sub_zero] using ha)
 exact⟨v,h1,h2.le hle'⟩⟩
theorem law_contractW {H:Type} {enc:TypeId×Value→H} (S:Setup) {T:World→Prop} {f:FuncId} {fn:Func} {s:ChangeSpec} {ts:List TypeId} {tb m:Nat} (hl:laidOutB S.P=true) (hts:fn.params.toList=ts) (hcl:∀t∈ts,clB S.tab m t=true) (hrd:∀t∈ts,S.P.readableRec t=true∧t<S.P.types.size)
  (hres:fn.resultTypes=#[tb]) (hb:S.P.underlying tb=some .bool) (hvars:s.vars=[]) (hspec:∀ds:List (DataW H),ds.length=ts.length→s.fn H ds={results:=[.lit (.bool true)],args:=ds})
  (hfc:∀args:List D,args.length=ts.length→(∀(j:Nat) t d,ts[j]?=some t→args[j]?=some d→∃i cs,S.tab t=some i∧cs.length=i.size∧WC S t cs∧d=ofCells i cs)→FCw S T f [] [] [] args (.bool true) [] [])
  {apart fresh handsOn again:Bool} {W:World} {base:Nat} {args:Array Value} {ds gs:List (DataW H)} {before:List MemPlace}
  (hT:∀w2:World,(∀b,b<W.heap.size→w2.heap[b]?=W.heap[b]?)→W.heap.size≤w2.heap.size→T w2) (hval:∀(j:Nat) t v,fn.params[j]?=some t→args[j]?=some v→Value.okWide S.P W .any base t v) (hW:DataW.Whole enc S.P fn.params.toList s.vars apart W args.toList ds gs before) :
  Calls S.P f args W fun e W'=>∃v,e=.returned v∧s.post enc S.P fn apart fresh handsOn again W args v W':=by
 have hW0:=hW
 have hlt:=hW.lt
 rw[hts,hvars] at hW
 obtain⟨p,q,hA,hV,rfl,hz,hn⟩:=hW
 obtain⟨rfl,rfl⟩:gs=[]∧q=[]:=by
  cases gs with
  | nil=>exact⟨rfl,hV⟩
  | cons _ _=>simp[DataW.TrodVars] at hV
 simp only[List.append_nil] at hz hn hlt hW0
 obtain⟨k1,k0,ads,k2,k3,k4⟩:=args_open (S:=S) hA (fun j t v ht hv=>hval j t v (by rw[←hts] at ht;simpa using ht) (by simpa using hv)) hcl
 refine(fcw_open (hfc ads k2 k3) hT (vals:=args) (by rw[k2,←k1];simp) (fun j d v hd hv=>k4 j d v hd (by simpa using hv))).mono ?_
 rintro e W' ⟨v,G',rfl,hr,hbel⟩
 cases hr
 refine⟨_,rfl,ds,[],p,[],p,[],hW0,?_,?_,?_,?_,fun _=>⟨?_,?_⟩⟩
 ·rw[hres,List.append_nil,hspec ds k0]
  exact⟨[],[],shut_bool hb true,rfl,rfl⟩
 ·rw[hts,List.append_nil,hspec ds k0]
  exact args_stay hl hbel _ hA hrd (fun x hx=>⟨hlt x hx,by simpa using hlt x hx⟩)
 ·rw[hvars,List.append_nil,hspec ds k0]
  exact rfl
 ·exact hbel.frame _
 ·exact ok_one hres rfl (okWide_bool_mk hb true)
 ·refine⟨[.lit (.bool true)]++ds,[],[]++p,?_,fun x hx _=>by simpa using hx⟩
  refine⟨[]++p,[],?_,by rw[hvars];exact rfl,by simp,fun b off hx=>?_,fun ha=>by simpa using hn ha⟩
  ·rw[hts,hres]
   exact trod_app (ts:=[tb]) (vs:=[.bool true]) ⟨[],[],shut_bool hb true,rfl,rfl⟩ (args_stay hl hbel _ hA hrd (fun x hx=>⟨hlt x hx,rfl⟩))
  ·have hx':MemPlace.cell b off∈p:=by simpa using hx
   rw[hbel.frozen (hlt _ hx')]
   exact hz b off hx'
end Go.Lg
namespace Go.Proofs.YtkfkdgginfpdnaaGreatDoor
open Go Go.Lg
set_option linter.unusedSimpArgs false
set_option linter.unusedVariables false
set_option maxHeartbeats 4000000
theorem tab_of_laid {W:World} {a b:DataW Unit} {na nb:String} (h:laidMet Tryz.prog [(na,a),(nb,b),("internal/strconv.uint64pow10", Lib.tabData .u64 Lib.pow10Tab)] W):∀w2:World,(∀b,b<W.heap.size→w2.heap[b]?=W.heap[b]?)→W.heap.size≤w2.heap.size→TabW w2:=by
 have h1:Lib.TabIs Tryz.prog W "internal/strconv.uint64pow10" .u64 Lib.pow10Tab:=Lib.tabIs_of_head (g:=0) (by kernel_rfl) (by kernel_rfl) Tryz.underlying256 Tryz.underlying215 (by kernel_rfl) (by kernel_rfl) h.tail.tail
 intro w2 h2 _
 show Lib.TabIs Tryz.prog w2 "internal/strconv.uint64pow10" .u64 Lib.pow10Tab
 unfold Lib.TabIs World.var? at *
 cases hg:Program.globalNamed Tryz.prog "internal/strconv.uint64pow10" with
 | none=>simp[hg] at h1
 | some g =>
  simp only[hg,Option.bind_some] at h1 ⊢
  have hlt:g<W.heap.size:=by
   rcases Nat.lt_or_ge g W.heap.size with h'|h'
   ·exact h'
   ·rw[Array.getElem?_eq_none h'] at h1;simp at h1
  rw[h2 g hlt]
  exact h1
end Go.Proofs.YtkfkdgginfpdnaaGreatDoor
end
section
namespace Go.Proofs.YtkfkdgginfpdnaaGreatDoor
open Go Go.Lg
set_option linter.unusedSimpArgs false
set_option linter.unusedVariables false
set_option maxHeartbeats 4000000
attribute [local irreducible] Lg.SW runL runQ runG runQG FC FCw Ret1 RetN toF redoL anyB
theorem flat_repB (n:Nat) (b:Bool):(List.replicate n [D.bool b]).flatten=(List.replicate n b).map D.bool:=by rw[flatten_one,List.map_replicate]
theorem one_ptr:(Value.pointer none).oneCell'=true:=rfl
attribute [local go_sem] tksL_B idsL_B shTL_B pu1_B mTL_B flat_repB one_ptr
theorem deadR_mc (f:FrontT):mcInt64S (deadR f)≤8:=by
 unfold mcInt64S
 by_cases h:FrontOkP f
 ·obtain⟨sets,ok,hN⟩:∃s b,setV f=(s,b):=⟨_,_,rfl⟩
  cases ok with
  | true =>
   rw[deadR_yes h hN]
   have h8:=h.1.2.2
   exact Nat.le_trans (deadL_len _ _) (by omega)
  | false=>rw[deadR_no2 (by rw[hN])];simp
 ·rw[deadR_no1 h];simp
theorem forms_lines {f:FrontT} (h:FrontOkP f) {g:Nat} (hg:g<f.sig.length):FormsOk (g:Int) (f.sig.getD g default).toNat ((lefsL f).map (formR f.sig (shpV f))):=forms_ok h.1.1 (by rw[lefsL_len];have:=h.1.2.2;omega) g hg
def kp18:List (Nat×List Nat):=[(0,[1]),(1,[1,13]),(2,[2]),(3,[1,3,4]),(4,[1,3,20]),(5,[2]),(6,[1,3,5]),(7,[1,3,5,26,27,28]),(8,[1,3,5,26,27,28,29]),(9,[1,3,5,7,26,27,28]),(10,[1,3,5,26,27,28]),(11,[1,3,5,26,27,28]),(12,[5,8]),(13,[8,42,43,44]),(14,[8,42,43,44,45]),(15,[8,9,10,42,43,44]),(16,[8,9,42,43,44,50]),(17,[8,42,43,44]),(18,[8,42,43,44]),(19,[2])]
attribute [go_sem] kp18 Tryz.results18 Tryz.ntmps18
theorem implDeadLines_fc (q:List Nat) (hq:q≠[]) (f:FrontT):FCw S TabW 18 [] [] [] [FrontD f] (Int64SL q (deadR f)) [] []:=by
 have cF:=implFrontOk_fc f leftC
 refine fcbW Tryz.func18 rfl fun B hw hTB hI hpan=>?_
 by_cases h:FrontOkP f
 ·rw[tst_true h] at cF
  obtain⟨sets,ok,hN⟩:∃s b,setV f=(s,b):=⟨_,_,rfl⟩
  cases ok with
  | false =>
   have cV:=valuesOfNo_fc f h (by rw[hN])
   rw[deadR_no2 (by rw[hN])]
   repeat' first|exact h.elim|(exfalso;omega)|(refine hK.raw ?_;clear hK K;refine LopsW.callW rfl rfl rfl hw hTB (cV) (by refine⟨⟨?_,?_,?_,?_,?_⟩,⟨?_,?_,?_,?_,?_⟩,?_⟩<;>simp[LS.getBox,Lg.look,D.ids,D.idsL,LS.clean,D.tks,D.tksL,inTok,D.un]) (lops_go 0 (fun (K:List Oper→LS→Prop) (hK:KOk S 0 _ _ _ K)=>?_));simp (disch:=(refine Om.mk ?_;omega)) only[go_sem,List.filter_cons,List.filter_nil,Bool.false_eq_true])|refine sw_n ?_|refine sw_go 0 kp18 fun K hK=>?_|refine fun (K:KT) (hK:KOk S 0 _ _ _ K)=>?_|refine sw_goD kp18 (by kernel_rfl) fun K hK=>?_|refine runL_g ?_|refine runQ_g ?_|refine sw_retg0 ?_|refine sw_retg ?_|(refine hK.n0 ?_;clear hK K)|refine sw_condg rfl (fun h=>?_) fun h=>?_|refine sw_exit rfl ?_|refine sw_loopEnd ?_|refine hK.c1 rfl rfl rfl (cF) ?_|with_reducible refine and_o ?_|((with_reducible refine And.intro ?_ ?_);· first|(intro x hx;subst hx;rfl)|(intro x;refine And.intro ?_ ?_<;>(intros;subst_vars;rfl)))|apply tTT
   all_goals first|(unfold RetN;simp only[go_sem];exact ret_le (le0_le (by simp[le0])) rfl fun f=>rfl)|trace_state
  | true =>
   obtain⟨rl,cV⟩:=valuesOf_ex f h sets hN
   rw[deadR_yes h hN]
   have h16:=iterZ_le (I:=imgH f.sig (shpV f) []) (E:=evY f.sig (symsK f.sig f.funs)) 18 [] (by simp)
   rw[show iterZ (imgH f.sig (shpV f) []) (evY f.sig (symsK f.sig f.funs)) 18 []=setV f from rfl,hN] at h16
   dsimp only at h16
   have hSG:=h.1.1
   have hrs:=h.1.1.1.2
   have hfu:=h.1.2.1
   have h8:=h.1.2.2
   have hLl:=lefsL_len f
   have hFl:(funN f.funs).length=f.funs.length:=List.length_map _
   have hFg:=fun i (hi:i<f.funs.length)=>funN_get hi
   have hful:=hfu.len (by omega)
   have hfo:=fun g hg=>forms_lines h (g:=g) hg
   have hLFl:((lefsL f).map (formR f.sig (shpV f))).length=f.lines.length:=by rw[List.length_map,hLl]
   have hal:=liveU_len ((lefsL f).map (formR f.sig (shpV f))) sets
   have hall:liveU ((lefsL f).map (formR f.sig (shpV f))) sets (evY f.sig ((funN f.funs).drop 0) sets.length) (List.replicate f.lines.length false)=liveU ((lefsL f).map (formR f.sig (shpV f))) sets (evY f.sig (funN f.funs) sets.length) (List.replicate f.lines.length false):=by rw[List.drop_zero]
   have halz:=liveU_len ((lefsL f).map (formR f.sig (shpV f))) sets (evY f.sig (funN f.funs) sets.length) (List.replicate f.lines.length false)
   rw[List.length_replicate] at halz
   generalize hLF:(lefsL f).map (formR f.sig (shpV f))=LF at *
   generalize hALL:liveU LF sets (evY f.sig (funN f.funs) sets.length) (List.replicate f.lines.length false)=ALL at *
   generalize hFN:funN f.funs=FN at *
   unfold vC at cV
   repeat' first|exact h.elim|(exfalso;omega)|(refine hK.raw ?_;clear hK K;refine LopsW.callW rfl rfl rfl hw hTB (cV) (by refine⟨⟨?_,?_,?_,?_,?_⟩,⟨?_,?_,?_,?_,?_⟩,?_⟩<;>simp[LS.getBox,Lg.look,D.ids,D.idsL,LS.clean,D.tks,D.tksL,inTok,D.un]) (lops_go 0 (fun (K:List Oper→LS→Prop) (hK:KOk S 0 _ _ _ K)=>?_));simp (disch:=(refine Om.mk ?_;omega)) only[go_sem,List.filter_cons,List.filter_nil,Bool.false_eq_true])|refine sw_n ?_|refine sw_go 0 kp18 fun K hK=>?_|refine fun (K:KT) (hK:KOk S 0 _ _ _ K)=>?_|refine sw_goD kp18 (by kernel_rfl) fun K hK=>?_|refine runL_g ?_|refine runQ_g ?_|refine sw_retg0 ?_|refine sw_retg ?_|(refine hK.n0 ?_;clear hK K)|refine sw_condg rfl (fun h=>?_) fun h=>?_|refine sw_exit rfl ?_|refine sw_loopEnd ?_|refine hK.c1 rfl rfl rfl (cF) ?_|with_reducible refine and_o ?_|((with_reducible refine And.intro ?_ ?_);· first|(intro x hx;subst hx;rfl)|(intro x;refine And.intro ?_ ?_<;>(intros;subst_vars;rfl)))|apply tTT
   refine sw_loopT (ι:=Nat×List Bool) (fun x=>[(28,.int .i64 x.1)]) (fun x=>[(24,x.2.map .bool)]) (fun _=>[]) (fun x=>(x.1≤f.funs.length∧x.2.length=f.lines.length)∧liveU LF sets (evY f.sig (FN.drop x.1) sets.length) x.2=ALL) (fun x=>f.funs.length-x.1) (0,List.replicate f.lines.length false) cvB ⟨⟨Nat.zero_le _,by simp⟩,hall⟩ (fun x hx=>?_)
   obtain⟨i,lv⟩:=x
   obtain⟨⟨hi,hlv⟩,hc⟩:=hx
   dsimp only at hi hlv hc
   simp only[go_sem]
   by_cases hil:i<f.funs.length
   ·have hfi:=(hfu i hil).1
    obtain⟨g,hg⟩:∃g:Nat,f.funs.getD i default=g:=⟨(f.funs.getD i default).toNat,by omega⟩
    have hgl:g<f.sig.length:=by omega
    have hFi:=hFg i hil
    rw[hg,Int.toNat_natCast] at hFi
    obtain⟨har,hr0,hr3⟩:=ar_at hSG hgl
    rw[evY_cons f.sig (show i<FN.length by omega),hFi,liveU_app] at hc
    have cD:=argLists_fc f.sig g ⟨hr0,hr3⟩ sets h16 rl LF (hfo g hgl) lv f.lines.length hlv.symm hLFl.symm h8
    have hal2:=hal (evF f.sig sets.length g) lv
    generalize liveU LF sets (evF f.sig sets.length g) lv=lw at *
    unfold vC at cD
    rw[←hg,show f.sig.getD g default=f.sig.getD (f.funs.getD i default).toNat default by rw[hg,Int.toNat_natCast]] at cD
    have hgr:0≤f.funs.getD i default∧f.funs.getD i default<f.sig.length:=by omega
    repeat' first|exact h.elim|(exfalso;omega)|(refine hK.callB rfl rfl rfl (cD) (by refine⟨⟨?_,?_,?_,?_,?_⟩,⟨?_,?_,?_,?_,?_⟩,?_⟩<;>simp[LS.getBox,Lg.look,D.ids,D.idsL,idsL_i,idsL_B,idsL_L,LS.clean,D.puOk,D.pu,D.pu1,D.tks,D.tksL,inTok,tksL_i,tksL_B,tksL_L,puOk_i,puOk_B,puOk_L]) ?_;simp (disch:=(refine Om.mk ?_;omega)) only[go_sem])|refine sw_n ?_|refine sw_go 0 kp18 fun K hK=>?_|refine sw_goT 0 kp18 8 (id:=10) (by kernel_rfl) fun K hK=>?_|refine fun (K:KT) (hK:KOk S 0 _ _ _ K)=>?_|refine sw_goD kp18 (by kernel_rfl) fun K hK=>?_|refine runL_g ?_|refine runQ_g ?_|refine sw_retg0 ?_|refine sw_retg ?_|(refine hK.n0 ?_;clear hK K)|refine sw_condg rfl (fun h=>?_) fun h=>?_|refine sw_exit rfl ?_|refine sw_loopEnd ?_|with_reducible refine and_o ?_|((with_reducible refine And.intro ?_ ?_);· first|(intro x hx;subst hx;rfl)|(intro x;refine And.intro ?_ ?_<;>(intros;subst_vars;rfl)))|apply tTT
    all_goals first|exact⟨(i+1,lw),(by(refine covers_mk0 rfl rfl ?_ ?_ ?_ ?_<;>simp (disch:=(refine Om.mk ?_;omega)) only[go_sem]<;>(try omega));all_goals first|exact rfl|exact⟨rfl,rfl⟩|trace_state),⟨⟨hil,hal2.trans hlv⟩,hc⟩,by dsimp only;omega⟩|trace_state
   ·obtain rfl:i=f.funs.length:=by omega
    have e0:evY f.sig (FN.drop f.funs.length) sets.length=[]:=by rw[←hFl,List.drop_length];rfl
    rw[e0] at hc
    have hlA:lv=ALL:=hc
    subst hlA
    repeat' first|exact h.elim|(exfalso;omega)|refine sw_n ?_|refine sw_go 0 kp18 fun K hK=>?_|refine fun (K:KT) (hK:KOk S 0 _ _ _ K)=>?_|refine sw_goD kp18 (by kernel_rfl) fun K hK=>?_|refine runL_g ?_|refine runQ_g ?_|refine sw_retg0 ?_|refine sw_retg ?_|(refine hK.n0 ?_;clear hK K)|refine sw_condg rfl (fun h=>?_) fun h=>?_|refine sw_exit rfl ?_|refine sw_loopEnd ?_|with_reducible refine and_o ?_|((with_reducible refine And.intro ?_ ?_);· first|(intro x hx;subst hx;rfl)|(intro x;refine And.intro ?_ ?_<;>(intros;subst_vars;rfl)))|apply tTT
    refine sw_tok 8 55000 2 1 rfl (.inl rfl) (by simp[LS.purge,LS.clean,mapA,D.pu,D.pu1,D.tks,D.tksL,tksL_B,pu1_B,pu1_cB]) ?_
    simp only[go_sem]
    refine sw_loopT (ι:=Nat) (fun k=>[(44,.int .i64 k),(8,.sl (.own 55000 2 1) ((deadL lv k).map (.int .i64)))]) (fun _=>[]) (fun _=>[55000]) (fun k=>k≤f.lines.length) (fun k=>f.lines.length-k) 0 (by(refine covers_mk0 rfl rfl ?_ ?_ ?_ ?_<;>simp (disch:=(refine Om.mk ?_;omega)) only[go_sem]<;>(try omega));all_goals first|exact rfl|exact⟨rfl,rfl⟩|trace_state) (Nat.zero_le _) (fun k hk=>?_)
    simp only[go_sem]
    have hdl:=deadL_len lv k
    by_cases hkl:k<f.lines.length
    ·repeat' first|exact h.elim|(exfalso;omega)|refine sw_n ?_|refine sw_go 0 kp18 fun K hK=>?_|refine fun (K:KT) (hK:KOk S 0 _ _ _ K)=>?_|refine sw_goD kp18 (by kernel_rfl) fun K hK=>?_|refine runL_g ?_|refine runQ_g ?_|refine sw_retg0 ?_|refine sw_retg ?_|(refine hK.n0 ?_;clear hK K)|refine sw_condg rfl (fun h=>?_) fun h=>?_|refine sw_exit rfl ?_|refine sw_loopEnd ?_|with_reducible refine and_o ?_|((with_reducible refine And.intro ?_ ?_);· first|(intro x hx;subst hx;rfl)|(intro x;refine And.intro ?_ ?_<;>(intros;subst_vars;rfl)))|apply tTT
     all_goals first|exact⟨k+1,(by rw[deadL_n (by simpa using h),List.map_append];(refine covers_mk0 rfl rfl ?_ ?_ ?_ ?_<;>simp (disch:=(refine Om.mk ?_;omega)) only[go_sem]<;>(try omega));all_goals first|exact rfl|exact⟨rfl,by omega⟩|exact⟨by omega,rfl⟩|trace_state),by omega,by omega⟩|exact⟨k+1,(by rw[deadL_y (by simpa using h)];(refine covers_mk0 rfl rfl ?_ ?_ ?_ ?_<;>simp (disch:=(refine Om.mk ?_;omega)) only[go_sem]<;>(try omega));all_goals first|exact rfl|exact⟨rfl,by omega⟩|exact⟨by omega,rfl⟩|trace_state),by omega,by omega⟩|trace_state
    ·obtain rfl:k=f.lines.length:=by omega
     refine sw_lab 8 q (k:=55000) rfl (by simp) hq ?_
     simp only[go_sem]
     repeat' first|exact h.elim|(exfalso;omega)|refine sw_n ?_|refine sw_go 0 kp18 fun K hK=>?_|refine fun (K:KT) (hK:KOk S 0 _ _ _ K)=>?_|refine sw_goD kp18 (by kernel_rfl) fun K hK=>?_|refine runL_g ?_|refine runQ_g ?_|refine sw_retg0 ?_|refine sw_retg ?_|(refine hK.n0 ?_;clear hK K)|refine sw_condg rfl (fun h=>?_) fun h=>?_|refine sw_exit rfl ?_|refine sw_loopEnd ?_|with_reducible refine and_o ?_|((with_reducible refine And.intro ?_ ?_);· first|(intro x hx;subst hx;rfl)|(intro x;refine And.intro ?_ ?_<;>(intros;subst_vars;rfl)))|apply tTT
     all_goals first|(unfold RetN;simp only[go_sem];exact ret_plain rfl fun f=>rfl)|trace_state
 ·rw[tst_false h] at cF
  rw[deadR_no1 h]
  repeat' first|exact h.elim|(exfalso;omega)|refine sw_n ?_|refine sw_go 0 kp18 fun K hK=>?_|refine fun (K:KT) (hK:KOk S 0 _ _ _ K)=>?_|refine sw_goD kp18 (by kernel_rfl) fun K hK=>?_|refine runL_g ?_|refine runQ_g ?_|refine sw_retg0 ?_|refine sw_retg ?_|(refine hK.n0 ?_;clear hK K)|refine sw_condg rfl (fun h=>?_) fun h=>?_|refine sw_exit rfl ?_|refine sw_loopEnd ?_|refine hK.c1 rfl rfl rfl (cF) ?_|with_reducible refine and_o ?_|((with_reducible refine And.intro ?_ ?_);· first|(intro x hx;subst hx;rfl)|(intro x;refine And.intro ?_ ?_<;>(intros;subst_vars;rfl)))|apply tTT
  all_goals first|(unfold RetN;simp only[go_sem];exact ret_le (le0_le (by simp[le0])) rfl fun f=>rfl)|trace_state
end Go.Proofs.YtkfkdgginfpdnaaGreatDoor
end
