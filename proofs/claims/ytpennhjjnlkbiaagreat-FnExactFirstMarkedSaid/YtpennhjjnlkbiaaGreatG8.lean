/-
  A17l, A17m, K6, K7, K8, one behind the other.
-/
import Derived.Test.YtpennhjjnlkbiaaGreatG7
import Derived.Test.YtpennhjjnlkbiaaGreatG6
section
namespace Go.Proofs.YtpennhjjnlkbiaaGreat
open Go Go.Lg
set_option linter.unusedSimpArgs false
set_option linter.unusedVariables false
set_option maxHeartbeats 4000000
attribute [local irreducible] SW runL runQ runG runQG FC Ret1 toF redoL anyB addJ sumF formM
theorem cmpF_most {rs:List Int} {ps:List PolyT} {s t:List Int}:(cmpF rs ps s t).1=tst (AtMostF rs ps s t):=by
 unfold cmpF AtMostF
 split
 ·rename_i h
  by_cases hm:MostP (formM rs ps 60 s).1 (formM rs ps 60 t).1
  ·rw[mostR_yes hm]
   exact tst_congr ⟨fun e=>⟨h,hm,e⟩,fun e=>e.2.2⟩
  ·rw[mostR_no hm,tst_false fun e=>hm e.2.1]
 ·rename_i h
  rw[tst_false fun e=>h e.1]
theorem polyRulesF_fc (x:SystemT) (ps:List PolyT) (hx:SystemOkP x) (hQ:PsOk x.sig ps):FC S 93 [] [] [] [SystemD x,.sl .any (ps.map PolyD),.bool false] (.bool (tst (∀j<x.rules.length,AtMostF x.sig ps (x.rules.getD j default).r (x.rules.getD j default).l))) [] []:=by
 have h12:=hx.1.2
 refine fc_body Tryz.func93 rfl (by kernel_rfl) (by simp[Tryz.f93]) fun B=>?_
 simp only[Tryz.ntmps93,enumD,lst0,Nat.reduceAdd]
 repeat' first|refine sw_seq ?_|refine sw_block ?_|refine sw_go 0 kp93 fun K hK=>?_|((first|refine runL_go ?_|refine sw_ret (ret0 ?_)|refine sw_ret ?_);simp (disch:=(refine Om.mk ?_;omega)) only[go_sem,Tryz.results93])|(refine hK.nil ?_;clear hK K;simp only[go_sem])|fail
 refine sw_loopU (ι:=Nat) (fun i=>[(14,.int .i64 i)]) (fun _=>[]) (fun i=>i≤x.rules.length∧(∀j<i,AtMostF x.sig ps (x.rules.getD j default).r (x.rules.getD j default).l)) (fun i=>x.rules.length-i) 0 (by(refine covers_mk0 rfl rfl ?_ ?_ ?_ ?_<;>simp (disch:=(refine Om.mk ?_;omega)) only[go_sem]<;>(try omega))) ⟨by omega,?_⟩ (fun i ⟨hi,hj⟩=>?_)
 rotate_left
 simp only[go_sem]
 by_cases hil:i<x.rules.length
 ·have hr:=hx.2 i hil
  have c:=compareForms_fc x.sig ps (x.rules.getD i default).r (x.rules.getD i default).l hQ hr.1.2.1 hr.1.1
  rw[cmpF_most] at c
  repeat' first|((exfalso;omega))|refine sw_seq ?_|refine sw_block ?_|refine sw_inBlock ?_|refine sw_skip ?_|refine sw_go 0 kp93 fun K hK=>?_|((first|refine runL_go ?_|refine sw_ret (ret0 ?_)|refine sw_ret ?_);simp (disch:=(refine Om.mk ?_;omega)) only[go_sem,Tryz.results93])|(refine hK.nil ?_;clear hK K;simp only[go_sem])|((first|refine runG_fork rfl rfl rfl rfl rfl ?_ ?_|refine sw_cond rfl ?_ ?_)<;>intro h<;>try simp (disch:=(refine Om.mk ?_;omega)) only[go_sem] at h)|refine sw_loopEnd ?_|refine hK.c0 rfl rfl rfl (c) rfl rfl rfl ?_|(with_reducible refine And.intro (by first|omega|(simp only[lens];omega)) ?_)|fail
  ·exact fun hall=>absurd (hall i hil) (by assumption)
  ·exact⟨i+1,(by(refine covers_mk0 rfl rfl ?_ ?_ ?_ ?_<;>simp (disch:=(refine Om.mk ?_;omega)) only[go_sem]<;>(try omega))),⟨by omega,upto_succ hj (by assumption)⟩,by omega⟩
 ·repeat' first|((exfalso;omega))|refine sw_seq ?_|refine sw_go 0 kp93 fun K hK=>?_|((first|refine runL_go ?_|refine sw_ret (ret0 ?_)|refine sw_ret ?_);simp (disch:=(refine Om.mk ?_;omega)) only[go_sem,Tryz.results93])|(refine hK.nil ?_;clear hK K;simp only[go_sem])|((first|refine runG_fork rfl rfl rfl rfl rfl ?_ ?_|refine sw_cond rfl ?_ ?_)<;>intro h<;>try simp (disch:=(refine Om.mk ?_;omega)) only[go_sem] at h)|refine sw_exit rfl ?_|fail
  exact fun j hj'=>hj j (by omega)
 ·intro j hj';omega
end Go.Proofs.YtpennhjjnlkbiaaGreat
end
section
namespace Go.Proofs.YtpennhjjnlkbiaaGreat
open Go Go.Lg
set_option linter.unusedSimpArgs false
set_option linter.unusedVariables false
set_option maxHeartbeats 4000000
attribute [local irreducible] SW runL runQ runG runQG FC Ret1 toF redoL anyB addJ sumF formM
def kp57:List (Nat×List Nat):=[(0,[1,2,3,4]),(1,[1,2,3,4,23]),(2,[8,9]),(3,[1,2,3,4,10]),(4,[1,3,4,10,24,25,26]),(5,[1,3,4,10,24,25,26,27]),(6,[1,3,4,10,12,24,25,26]),(7,[1,3,4,10,12,13,14,24,25,26]),(8,[1,3,4,10,12,14,24,25,26,42]),(9,[8,9]),(10,[1,3,4,10,12,24,25,26,43]),(11,[1,3,4,10,24,25,26]),(12,[1,3,4,10,24,25,26]),(13,[8,9])]
attribute [go_sem] kp57
theorem weighPairs_fc (p:List Nat) (hp:p≠[]) (x:SystemT) (P:List DepPairT) (set:List Int) (ps:List PolyT) (hA:AllowP x (ps.take x.sig.length)) (hM:MarkedP x.sig ps) (hP:∀p∈P,PrOk x.sig p) (hS:SetPP set P.length) (hl:P.length≤64):FC S 57 [] [] [] [SystemD x,.sl .any (P.map DepPairD),.sl .any (set.map (.int .i64)),.sl .any (ps.map PolyD)] (.tup [Int64SL p (wR x.sig P set ps).1,.bool (wR x.sig P set ps).2]) [] []:=by
 have hsl:=set_le hS
 have hm:=hM.1
 have hat:∀i<set.length,(0≤set.getD i default∧set.getD i default<P.length)∧PrOk x.sig (P.getD (set.getD i default).toNat default):=fun i hi=>by
  have h:=(hS i hi).1
  exact⟨h,hP _ (getD_mem P _ (by omega))⟩
 refine fc_body Tryz.func57 rfl (by kernel_rfl) (by simp[Tryz.f57]) fun B=>?_
 simp only[Tryz.ntmps57,enumD,lst0,Nat.reduceAdd]
 repeat' first|((exact absurd hA.2 (by assumption)))|refine sw_seq ?_|refine sw_block ?_|refine sw_skip ?_|refine sw_go 0 kp57 fun K hK=>?_|refine sw_goD kp57 (by kernel_rfl) fun K hK=>?_|((first|refine runL_go ?_|refine runQ_go ?_|refine sw_ret (ret0 ?_)|refine sw_ret ?_);simp (disch:=(refine Om.mk ?_;omega)) only[go_sem,Tryz.results57])|(refine hK.nil ?_;clear hK K;simp only[go_sem])|((first|refine sw_cond rfl ?_ ?_)<;>intro h<;>try simp (disch:=(refine Om.mk ?_;omega)) only[go_sem] at h)|refine hK.c0 rfl rfl rfl (polyRulesF_fc x (ps.take x.sig.length) hA.1.1 hA.1.2.ps) rfl rfl rfl ?_|(with_reducible refine And.intro (by first|omega|(simp only[lens];omega)) ?_)|fail
 refine sw_tok 10 48000 2 1 rfl (.inl rfl) rfl ?_
 simp only[go_sem]
 refine sw_loopT (ι:=Nat) (fun i=>[(26,.int .i64 i),(10,.sl (.own 48000 2 1) ((wL x.sig P set ps i).map (.int .i64)))]) (fun _=>[]) (fun _=>[48000]) (fun i=>i≤set.length∧∀j<i,PMost x.sig ps (P.getD (set.getD j default).toNat default)) (fun i=>set.length-i) 0 (by(refine covers_mk0 rfl rfl ?_ ?_ ?_ ?_<;>simp (disch:=(refine Om.mk ?_;omega)) only[go_sem]<;>(try omega));all_goals exact⟨rfl,rfl⟩) ⟨by omega,fun j hj=>absurd hj (by omega)⟩ (fun i hi=>?_)
 obtain⟨hi,hj⟩:=hi
 simp only[go_sem]
 have hwl:=wL_len x.sig P set ps i
 by_cases hil:i<set.length
 ·have hq:=hat i hil
  have h1:=hq.1
  repeat' first|((exfalso;omega))|refine sw_seq ?_|refine sw_block ?_|refine sw_inBlock ?_|refine sw_skip ?_|refine sw_go 0 kp57 fun K hK=>?_|refine sw_goD kp57 (by kernel_rfl) fun K hK=>?_|((first|refine runL_go ?_|refine runQ_go ?_|refine sw_ret (ret0 ?_)|refine sw_ret ?_);simp (disch:=(refine Om.mk ?_;omega)) only[go_sem,Tryz.results57])|(refine hK.nil ?_;clear hK K;simp only[go_sem])|((first|refine sw_cond rfl ?_ ?_)<;>intro h<;>try simp (disch:=(refine Om.mk ?_;omega)) only[go_sem] at h)|refine sw_loopEnd ?_|refine hK.c0 rfl rfl rfl (comparePair_fc x.sig ps (P.getD (set.getD i default).toNat default) hM hq.2) rfl rfl rfl ?_|(with_reducible refine And.intro (by first|omega|(simp only[lens];omega)) ?_)|fail
  ·rw[wR_no fun e=>h (e i hil)]
   first|exact⟨rfl,rfl⟩|exact⟨le0_refl _,rfl⟩|(refine⟨?_,rfl⟩;simp[le0])
  ·exact⟨i+1,(by(refine covers_mk0 rfl rfl ?_ ?_ ?_ ?_<;>simp (disch:=(refine Om.mk ?_;omega)) only[go_sem]<;>(try omega));rw[wL_yes (by assumption)];exact⟨rfl,by omega⟩),⟨by omega,upto_succ hj (by assumption)⟩,by omega⟩
  ·exact⟨i+1,(by(refine covers_mk0 rfl rfl ?_ ?_ ?_ ?_<;>simp (disch:=(refine Om.mk ?_;omega)) only[go_sem]<;>(try omega));rw[wL_no (by assumption)];exact⟨rfl,by omega⟩),⟨by omega,upto_succ hj (by assumption)⟩,by omega⟩
 ·repeat' first|((exfalso;omega))|(refine sw_lab 10 p (k:=48000) rfl (by simp) hp ?_;simp only[go_sem])|refine sw_seq ?_|refine sw_go 0 kp57 fun K hK=>?_|((first|refine runL_go ?_|refine runQ_go ?_|refine sw_ret (ret0 ?_)|refine sw_ret ?_);simp (disch:=(refine Om.mk ?_;omega)) only[go_sem,Tryz.results57])|(refine hK.nil ?_;clear hK K;simp only[go_sem])|((first|refine sw_cond rfl ?_ ?_)<;>intro h<;>try simp (disch:=(refine Om.mk ?_;omega)) only[go_sem] at h)|refine sw_exit rfl ?_|fail
  rw[wR_yes fun j hj'=>hj j (by omega),show i=set.length by omega]
  exact⟨rfl,rfl⟩
theorem weighNo_fc (x:SystemT) (P:List DepPairT) (set:List Int) (ps:List PolyT) (p:List Nat) (hx:SystemOkP x) (hA:¬AllowP x (ps.take x.sig.length)) (hM:MarkedP x.sig ps):FC S 57 [] [] [] [SystemD x,.sl .any (P.map DepPairD),.sl .any (set.map (.int .i64)),.sl .any (ps.map PolyD)] (.tup [Int64SL p [],.bool false]) [] []:=by
 have hm:=hM.1
 refine fc_body Tryz.func57 rfl (by kernel_rfl) (by simp[Tryz.f57]) fun B=>?_
 simp only[Tryz.ntmps57,enumD,lst0,Nat.reduceAdd]
 repeat' first|((exact absurd ⟨⟨hx,hM.2.1⟩,by assumption⟩ hA))|refine sw_seq ?_|refine sw_go 0 kp57 fun K hK=>?_|refine sw_goD kp57 (by kernel_rfl) fun K hK=>?_|((first|refine runL_go ?_|refine runQ_go ?_|refine sw_ret (ret0 ?_)|refine sw_ret ?_);simp (disch:=(refine Om.mk ?_;omega)) only[go_sem,Tryz.results57])|(refine hK.nil ?_;clear hK K;simp only[go_sem])|((first|refine sw_cond rfl ?_ ?_)<;>intro h<;>try simp (disch:=(refine Om.mk ?_;omega)) only[go_sem] at h)|refine hK.c0 rfl rfl rfl (polyRulesF_fc x (ps.take x.sig.length) hx hM.2.1.ps) rfl rfl rfl ?_|(with_reducible refine And.intro (by first|omega|(simp only[lens];omega)) ?_)|fail
end Go.Proofs.YtpennhjjnlkbiaaGreat
end
section
namespace Go.Proofs.YtpennhjjnlkbiaaGreat
open Go Go.Lg
set_option linter.unusedSimpArgs false
set_option linter.unusedVariables false
set_option maxHeartbeats 4000000
attribute [local irreducible] SW runL runQ runG runQG FC Ret1 toF redoL anyB addJ sumF formM
def RuleB (l:List Nat) (r:RuleT):D:=.agg [.sl (.lab l) (r.l.map (.int .i64)),.sl (.lab l) (r.r.map (.int .i64))]
def SystemB (l:List Nat) (x:SystemT):D:=.agg [.sl (.lab l) (x.sig.map (.int .i64)),.sl (.lab l) (x.rules.map (RuleB l))]
def DepB (l:List Nat) (p:DepPairT):D:=.agg [.sl (.lab l) (p.l.map (.int .i64)),.sl (.lab l) (p.r.map (.int .i64)),.int .i64 p.rule,.int .i64 p.at_]
attribute [go_sem] RuleB SystemB DepB
theorem lb_rule (l:List Nat) (r:RuleT):(RuleD r).lb l=RuleB l r:=by simp only[RuleD,RuleB,D.lbL,D.lb,lbL_ints]
theorem lb_dep (l:List Nat) (r:DepPairT):(DepPairD r).lb l=DepB l r:=by simp only[DepPairD,DepB,D.lbL,D.lb,lbL_ints]
theorem lb_system (l:List Nat) (x:SystemT):(SystemD x).lb l=SystemB l x:=by simp only[SystemD,SystemB,D.lbL,D.lb,lbL_ints,lbL_mapf,lb_rule]
theorem okLb_ints (xs:List Int):D.okLbL (xs.map (.int .i64))=true:=okLbL_map (fun _=>rfl) xs
theorem okLb_rule (r:RuleT):(RuleD r).okLb=true:=by simp[RuleD,D.okLb,D.okLbL,okLb_ints]
theorem okLb_dep (r:DepPairT):(DepPairD r).okLb=true:=by simp[DepPairD,D.okLb,D.okLbL,okLb_ints]
theorem okLb_system (x:SystemT):(SystemD x).okLb=true:=by simp[SystemD,D.okLb,D.okLbL,okLb_ints,okLbL_map okLb_rule]
theorem le_system (l:List Nat) (x:SystemT):D.le (SystemB l x) (SystemD x):=lb_system l x ▸ lb_le l (okLb_system x)
theorem le_deps (l:List Nat) (P:List DepPairT):D.le (.sl (.lab l) (P.map (DepB l))) (.sl .any (P.map DepPairD)):=by
 have h:=lb_le l (d:=.sl .any (P.map DepPairD)) (by simp[D.okLb,okLbL_map okLb_dep])
 simpa only[D.lb,lbL_mapf,lb_dep] using h
theorem le_sigB (l:List Nat) (rs:List Int):D.le (.agg [.sl (.lab l) (rs.map (.int .i64))]) (.agg [.sl .any (rs.map (.int .i64))]):=by
 rw[le_agg];exact⟨.any,trivial⟩
theorem safe_ints (q tk:List Nat) (xs:List Int):D.safePL q tk (xs.map (.int .i64))=true:=safePL_map (fun _=>rfl) xs
theorem safe_rule {q l tk:List Nat} (h:l≠q) (r:RuleT):(RuleB l r).safeP q tk=true:=by simp[RuleB,D.safeP,D.safePL,safe_ints,h]
theorem safe_dep {q l tk:List Nat} (h:l≠q) (r:DepPairT):(DepB l r).safeP q tk=true:=by simp[DepB,D.safeP,D.safePL,safe_ints,h]
def tI (hs:List Int) (i:Nat):Int:=min (prodD hs i) 20001
theorem tI_bnd {hs:List Int} (hh:∀h∈hs,0≤h∧h≤1) {i:Nat} (hi:i≤hs.length):(1≤tI hs i∧tI hs i≤20001)∧(tI hs i≤20000↔prodD hs i≤20000):=by
 have:=prodD_pos hh i hi
 unfold tI
 rw[Int.min_def];split<;>omega
theorem tI_succ {hs:List Int} (hh:∀h∈hs,0≤h∧h≤1) {i:Nat} (hi:i<hs.length):min (tI hs i*(hs.getD i default+1)) 20001=tI hs (i+1):=by
 have h0:=prodD_pos hh i (by omega)
 have hd:=hh _ (getD_mem hs i hi)
 have e:prodD hs (i+1)=prodD hs i*(hs.getD i default+1):=rfl
 unfold tI
 rw[e]
 rcases (show hs.getD i default=0∨hs.getD i default=1 by omega) with e1|e1<;>rw[e1]<;>simp only[Int.min_def]<;>repeat' split
 all_goals omega
end Go.Proofs.YtpennhjjnlkbiaaGreat
end
section
namespace Go.Proofs.YtpennhjjnlkbiaaGreat
open Go Go.Lg
set_option linter.unusedSimpArgs false
set_option linter.unusedVariables false
set_option maxHeartbeats 4000000
attribute [local irreducible] SW runL runQ runG runQG FC Ret1 toF redoL anyB addJ sumF formM
theorem up_join (p:List Nat) (A B:List PolyT) (n:Nat) (hA:A.length=n) (hB:B.length=n):upR (fun i y=>PolyL (p++[0+i]) y) A n++upR (fun i y=>PolyL (p++[n+i]) y) B n=mapR (fun i y=>PolyL (p++[i]) y) (A++B):=by
 refine List.ext_getElem (by rw[List.length_append,upR_length,upR_length,mapR_length,List.length_append,hA,hB]) fun j h1 h2=>?_
 simp only[upR,mapR,List.getElem_append,List.length_map,List.length_range,List.getElem_map,List.getElem_range]
 split
 ·rename_i h
  rw[Nat.zero_add]
  congr 1
  rw[List.getD_eq_getElem?_getD,List.getD_eq_getElem?_getD,List.getElem?_append_left (by omega)]
 ·rename_i h
  rw[show n+(j-n)=j by omega]
  congr 1
  rw[List.getD_eq_getElem?_getD,List.getD_eq_getElem?_getD,List.getElem?_append_right (by omega),hA]
theorem idsL_int0 (k:IntKind) (xs:List Int):D.idsL (xs.map (.int k))=[]:=by
 induction xs with
 | nil=>rfl
 | cons x r ih=>simp[D.idsL,D.ids,ih]
theorem tksL_int0 (k:IntKind) (xs:List Int):D.tksL (xs.map (.int k))=[]:=by
 induction xs with
 | nil=>rfl
 | cons x r ih=>simp[D.tksL,D.tks,ih]
theorem puOk_int0 (p:Nat→Bool) (k:IntKind) (xs:List Int):(xs.map (.int k)).all (D.puOk p)=true:=by
 rw[List.all_map]
 exact List.all_eq_true.2 fun _ _=>rfl
theorem shTL_int0 (o:Nat) (k:IntKind) (xs:List Int):D.shTL o (xs.map (.int k))=xs.map (.int k):=by
 induction xs with
 | nil=>rfl
 | cons x r ih=>simp[D.shTL,D.shT,ih]
attribute [local go_sem] idsL_int0 shTL_int0 PL
def kp40:List (Nat×List Nat):=[(0,[1,2,3]),(1,[1,2,3,8]),(2,[1,2,3,8,29,30,31]),(3,[1,2,3,8,29,30,31,32]),(4,[1,2,3,8,10,29,30,31]),(5,[1,2,3,8,29,30,31]),(6,[1,2,3,8,29,30,31]),(7,[1,2,3,8,45,46,47]),(8,[1,2,3,8,45,46,47,48]),(9,[1,2,3,8,11,12,45,46,47]),(10,[1,2,3,8,11,12,45,46,47]),(11,[1,2,3,8,11,12,13,45,46,47]),(12,[1,2,3,8,11,13,45,46,47,55]),(13,[1,2,3,8,11,13,45,46,47]),(14,[1,2,3,8,45,46,47]),(15,[1,2,3,8,45,46,47]),(16,[1,2,3,8,14]),(17,[1,2,3,8,14,67,68,69]),(18,[1,2,3,8,14,67,68,69,70]),(19,[1,2,3,8,14,16,67,68,69]),(20,[1,2,3,8,14,67,68,69]),(21,[1,2,3,8,14,67,68,69]),(22,[1,2,3,8,79]),(23,[6,7]),(24,[1,2,3,8,17]),(25,[1,2,3,8,17,18]),(26,[1,2,3,8,17,18,19]),(27,[1,2,3,8,17,18,85]),(29,[1,2,3,8,17,18,20,21]),(30,[1,2,3,8,17,18,20,22]),(31,[1,2,3,8,17,18,24]),(32,[1,2,3,8,17,18,24,25,26]),(33,[1,2,3,8,17,18,24,120]),(34,[6,7]),(28,[1,2,3,8,17,18,19]),(35,[6,7])]
attribute [go_sem] kp40
theorem firstMarkedO_fc (a0:Nat) (r0:List Nat) (x:SystemT) (P:List DepPairT) (set:List Int) (hx:SystemOkP x) (hP:∀p∈P,PrOk x.sig p) (hS:SetPP set P.length) (h64:P.length≤64):FCO S [a0+1] 40 [SystemB [a0+1] x,.sl (.lab [a0+1]) (P.map (DepB [a0+1])),.sl (.lab [a0+1]) (set.map (.int .i64))] (.tup [PolySL (a0::r0) (resM x.sig (firstM x P set)).1,.bool (resM x.sig (firstM x P set)).2]) []:=by
 have hsg:=hx.1.1
 have h12:=hx.1.2
 have hs8:=hsg.1.2
 have hsl:=set_le hS
 have hat:=atN_le hsg x.sig.length (Nat.le_refl _)
 have hat1:1≤atN x.sig x.sig.length:=by
  have h1:=atN_mono x.sig (show 1≤x.sig.length from hsg.1.1)
  have h2:atN x.sig 1=0+(x.sig.getD 0 default).toNat+1:=rfl
  omega
 have cH:=(heads_fc x.sig P set hs8 hP hS h64).args (args:=[.agg [.sl (.lab [a0+1]) (x.sig.map (.int .i64))],.sl (.lab [a0+1]) (P.map (DepB [a0+1])),.sl (.lab [a0+1]) (set.map (.int .i64))]) ⟨le_sigB _ _,le_deps _ _,.any,trivial⟩
 have hT0:topM x.sig (HeadP P set set.length)=halfA x.sig x.sig.length++halfB x.sig (HeadP P set set.length) x.sig.length:=rfl
 have hbg:=fun f=>@headB_get P set x.sig.length set.length f
 have hbl:=headB_len P set x.sig.length set.length
 generalize headB P set x.sig.length set.length=hB at *
 have hfm:=@firstM_yes x P set
 have hfn:=@firstM_no x P set
 generalize firstM x P set=o at *
 generalize hH:HeadP P set set.length=H at *
 have hdl:=topM_dig x.sig H
 have htl:=topM_len x.sig H
 refine fc_bodyO Tryz.func40 rfl (by kernel_rfl) (by simp[Tryz.f40]) fun B hOld=>?_
 simp only[Tryz.ntmps40,enumD,lst0,Nat.reduceAdd]
 repeat' first|refine sw_seq ?_|refine sw_block ?_|refine sw_inBlock ?_|refine sw_skip ?_|refine sw_go 0 kp40 fun K hK=>?_|refine fun (K:KT) (hK:KOk S 0 _ _ _ K)=>?_|((first|refine runL_go ?_|refine sw_ret (ret0 ?_)|refine sw_ret ?_);simp (disch:=(refine Om.mk ?_;omega)) only[go_sem,Tryz.results40])|(refine hK.nil ?_;clear hK K;simp only[go_sem])|((first|refine runG_fork rfl rfl rfl rfl rfl ?_ ?_|refine sw_cond rfl ?_ ?_)<;>intro h<;>try simp (disch:=(refine Om.mk ?_;omega)) only[go_sem] at h)|refine hK.skp rfl rfl ?_|refine sw_exit rfl ?_|refine sw_loopEnd ?_|(refine hK.fork rfl rfl rfl ?_ ?_<;>intro h<;>try simp (disch:=(refine Om.mk ?_;omega)) only[go_sem] at h)|(with_reducible refine And.intro (by first|omega|(simp only[lens];omega)) ?_)|((with_reducible refine And.intro ?_ ?_);· first|(intro x hx;subst hx;rfl)|exact upR_mem fun _ _=>rfl|exact mapR_mem fun _ _=>rfl|(intro x;refine And.intro ?_ ?_<;>(intros;subst_vars;rfl)))|fail
 refine sw_tok 8 40000 2 1 rfl (.inl rfl) rfl ?_
 simp only[go_sem]
 repeat' first|refine sw_seq ?_|refine sw_block ?_|refine sw_inBlock ?_|refine sw_skip ?_|refine sw_go 0 kp40 fun K hK=>?_|refine fun (K:KT) (hK:KOk S 0 _ _ _ K)=>?_|((first|refine runL_go ?_|refine sw_ret (ret0 ?_)|refine sw_ret ?_);simp (disch:=(refine Om.mk ?_;omega)) only[go_sem,Tryz.results40])|(refine hK.nil ?_;clear hK K;simp only[go_sem])|((first|refine runG_fork rfl rfl rfl rfl rfl ?_ ?_|refine sw_cond rfl ?_ ?_)<;>intro h<;>try simp (disch:=(refine Om.mk ?_;omega)) only[go_sem] at h)|refine hK.skp rfl rfl ?_|refine sw_exit rfl ?_|refine sw_loopEnd ?_|(refine hK.fork rfl rfl rfl ?_ ?_<;>intro h<;>try simp (disch:=(refine Om.mk ?_;omega)) only[go_sem] at h)|(with_reducible refine And.intro (by first|omega|(simp only[lens];omega)) ?_)|((with_reducible refine And.intro ?_ ?_);· first|(intro x hx;subst hx;rfl)|exact upR_mem fun _ _=>rfl|exact mapR_mem fun _ _=>rfl|(intro x;refine And.intro ?_ ?_<;>(intros;subst_vars;rfl)))|fail
 refine sw_loopT (ι:=Nat) (fun f=>[(31,.int .i64 f),(8,.sl (.own 40000 2 1) ((halfA x.sig f).map (.int .i64)))]) (fun _=>[]) (fun _=>[40000]) (fun f=>f≤x.sig.length) (fun f=>x.sig.length-f) 0 (by(refine covers_mk0 rfl rfl ?_ ?_ ?_ ?_<;>simp (disch:=(refine Om.mk ?_;omega)) only[go_sem]<;>(try omega));all_goals exact⟨rfl,rfl⟩) (by omega) (fun f hf=>?_)
 simp only[go_sem]
 have hla:=halfA_len x.sig f
 have hal:=atN_le hsg f hf
 by_cases hfl:f<x.sig.length
 ·have har:=hsg.2 f hfl
  obtain⟨n,hn⟩:∃n:Nat,x.sig.getD f default=n:=⟨_,(Int.toNat_of_nonneg har.1).symm⟩
  have hhA:halfA x.sig (f+1)=halfA x.sig f++List.replicate (n+1) 1:=by rw[halfA,hn];rfl
  have c:=repeatedA_fc 1 (n+1) (by omega)
  rw[show ((n+1:Nat):Int)=x.sig.getD f default+1 by omega] at c
  have hrl:(List.replicate (n+1) (1:Int)).length=n+1:=List.length_replicate
  repeat' first|((exfalso;omega))|refine sw_seq ?_|refine sw_block ?_|refine sw_inBlock ?_|refine sw_skip ?_|refine sw_go 0 kp40 fun K hK=>?_|refine fun (K:KT) (hK:KOk S 0 _ _ _ K)=>?_|((first|refine runL_go ?_|refine sw_ret (ret0 ?_)|refine sw_ret ?_);simp (disch:=(refine Om.mk ?_;omega)) only[go_sem,Tryz.results40])|(refine hK.nil ?_;clear hK K;simp only[go_sem])|((first|refine runG_fork rfl rfl rfl rfl rfl ?_ ?_|refine sw_cond rfl ?_ ?_)<;>intro h<;>try simp (disch:=(refine Om.mk ?_;omega)) only[go_sem] at h)|refine hK.skp rfl rfl ?_|refine sw_exit rfl ?_|refine sw_loopEnd ?_|refine hK.c0 rfl rfl rfl (c) rfl rfl rfl ?_|(refine hK.fork rfl rfl rfl ?_ ?_<;>intro h<;>try simp (disch:=(refine Om.mk ?_;omega)) only[go_sem] at h)|(with_reducible refine And.intro (by first|omega|(simp only[lens];omega)) ?_)|((with_reducible refine And.intro ?_ ?_);· first|(intro x hx;subst hx;rfl)|exact upR_mem fun _ _=>rfl|exact mapR_mem fun _ _=>rfl|(intro x;refine And.intro ?_ ?_<;>(intros;subst_vars;rfl)))|fail
  exact⟨f+1,(by(refine covers_mk0 rfl rfl ?_ ?_ ?_ ?_<;>simp (disch:=(refine Om.mk ?_;omega)) only[go_sem]<;>(try omega));rw[hhA];exact⟨rfl,by omega⟩),by omega,by omega⟩
 ·obtain rfl:f=x.sig.length:=by omega
  repeat' first|((exfalso;omega))|refine sw_seq ?_|refine sw_block ?_|refine sw_inBlock ?_|refine sw_skip ?_|refine sw_go 0 kp40 fun K hK=>?_|refine fun (K:KT) (hK:KOk S 0 _ _ _ K)=>?_|((first|refine runL_go ?_|refine sw_ret (ret0 ?_)|refine sw_ret ?_);simp (disch:=(refine Om.mk ?_;omega)) only[go_sem,Tryz.results40])|(refine hK.nil ?_;clear hK K;simp only[go_sem])|((first|refine runG_fork rfl rfl rfl rfl rfl ?_ ?_|refine sw_cond rfl ?_ ?_)<;>intro h<;>try simp (disch:=(refine Om.mk ?_;omega)) only[go_sem] at h)|refine hK.skp rfl rfl ?_|refine sw_exit rfl ?_|refine sw_loopEnd ?_|refine hK.c0 rfl rfl rfl (cH) rfl rfl rfl ?_|(refine hK.fork rfl rfl rfl ?_ ?_<;>intro h<;>try simp (disch:=(refine Om.mk ?_;omega)) only[go_sem] at h)|(with_reducible refine And.intro (by first|omega|(simp only[lens];omega)) ?_)|((with_reducible refine And.intro ?_ ?_);· first|(intro x hx;subst hx;rfl)|exact upR_mem fun _ _=>rfl|exact mapR_mem fun _ _=>rfl|(intro x;refine And.intro ?_ ?_<;>(intros;subst_vars;rfl)))|fail
  refine sw_loopT (ι:=Nat) (fun f=>[(47,.int .i64 f),(8,.sl (.own 40000 2 1) ((halfA x.sig x.sig.length++halfB x.sig H f).map (.int .i64)))]) (fun _=>[]) (fun _=>[40000]) (fun f=>f≤x.sig.length) (fun f=>x.sig.length-f) 0 (by(refine covers_mk0 rfl rfl ?_ ?_ ?_ ?_<;>simp (disch:=(refine Om.mk ?_;omega)) only[go_sem]<;>(try omega));all_goals first|rfl|(simp[halfB];done)|exact⟨by simp[halfB],rfl⟩) (by omega) (fun f hf=>?_)
  simp only[go_sem]
  have hlb:=halfB_len x.sig H f
  have hbl2:=atN_le hsg f hf
  by_cases hfl:f<x.sig.length
  ·have har:=hsg.2 f hfl
   obtain⟨n,hn⟩:∃n:Nat,x.sig.getD f default=n:=⟨_,(Int.toNat_of_nonneg har.1).symm⟩
   have hhB:halfB x.sig H (f+1)=halfB x.sig H f++0::List.replicate n (oneP H f):=by rw[halfB,hn];rfl
   have hl0:(halfA x.sig x.sig.length++halfB x.sig H f).length≤4*x.sig.length+4*f:=by simp;omega
   have hbf:=hbg f hfl
   by_cases hHf:H f
   ·rw[tst_true hHf] at hbf
    rw[oneP_yes hHf] at hhB
    have c:=repeatedA_fc 1 n (by omega)
    rw[←hn] at c
    have hrl:(List.replicate n (1:Int)).length=n:=List.length_replicate
    generalize hZ:halfA x.sig x.sig.length++halfB x.sig H f=Z at hl0 ⊢
    have hz1:(Z++[0]).length=Z.length+1:=by simp
    repeat' first|((simp only[hbf];simp only[go_sem]))|((refine sw_renC 55000 40000 rfl rfl ?_;simp only[go_sem]))|((refine sw_renC 66000 40000 rfl rfl ?_;simp only[go_sem]))|((exfalso;omega))|((refine And.intro (fun y=>⟨fun z _ e=>(by subst e;rfl),fun e=>(by subst e;rfl)⟩) ?_))|refine sw_seq ?_|refine sw_block ?_|refine sw_inBlock ?_|refine sw_skip ?_|refine sw_go 0 kp40 fun K hK=>?_|refine fun (K:KT) (hK:KOk S 0 _ _ _ K)=>?_|((first|refine runL_go ?_|refine sw_ret (ret0 ?_)|refine sw_ret ?_);simp (disch:=(refine Om.mk ?_;omega)) only[go_sem,Tryz.results40])|(refine hK.nil ?_;clear hK K;simp only[go_sem])|((first|refine runG_fork rfl rfl rfl rfl rfl ?_ ?_|refine sw_cond rfl ?_ ?_)<;>intro h<;>try simp (disch:=(refine Om.mk ?_;omega)) only[go_sem] at h)|refine hK.skp rfl rfl ?_|refine sw_exit rfl ?_|refine sw_loopEnd ?_|refine hK.c0 rfl rfl rfl (c) rfl rfl rfl ?_|(refine hK.fork rfl rfl rfl ?_ ?_<;>intro h<;>try simp (disch:=(refine Om.mk ?_;omega)) only[go_sem] at h)|(with_reducible refine And.intro (by first|omega|(simp only[lens];omega)) ?_)|((with_reducible refine And.intro ?_ ?_);· first|(intro x hx;subst hx;rfl)|exact upR_mem fun _ _=>rfl|exact mapR_mem fun _ _=>rfl|(intro x;refine And.intro ?_ ?_<;>(intros;subst_vars;rfl)))|fail
    exact⟨f+1,(by(refine covers_mk0 rfl rfl ?_ ?_ ?_ ?_<;>simp (disch:=(refine Om.mk ?_;omega)) only[go_sem]<;>(try omega));rw[hhB,←hZ,List.append_assoc,List.append_assoc];exact⟨rfl,by omega⟩),by omega,by omega⟩
   ·rw[tst_false hHf] at hbf
    rw[oneP_no hHf] at hhB
    have c:=repeatedA_fc 0 n (by omega)
    rw[←hn] at c
    have hrl:(List.replicate n (0:Int)).length=n:=List.length_replicate
    generalize hZ:halfA x.sig x.sig.length++halfB x.sig H f=Z at hl0 ⊢
    have hz1:(Z++[0]).length=Z.length+1:=by simp
    repeat' first|((simp only[hbf];simp only[go_sem]))|((refine sw_renC 55000 40000 rfl rfl ?_;simp only[go_sem]))|((refine sw_renC 66000 40000 rfl rfl ?_;simp only[go_sem]))|((exfalso;omega))|((refine And.intro (fun y=>⟨fun z _ e=>(by subst e;rfl),fun e=>(by subst e;rfl)⟩) ?_))|refine sw_seq ?_|refine sw_block ?_|refine sw_inBlock ?_|refine sw_skip ?_|refine sw_go 0 kp40 fun K hK=>?_|refine fun (K:KT) (hK:KOk S 0 _ _ _ K)=>?_|((first|refine runL_go ?_|refine sw_ret (ret0 ?_)|refine sw_ret ?_);simp (disch:=(refine Om.mk ?_;omega)) only[go_sem,Tryz.results40])|(refine hK.nil ?_;clear hK K;simp only[go_sem])|((first|refine runG_fork rfl rfl rfl rfl rfl ?_ ?_|refine sw_cond rfl ?_ ?_)<;>intro h<;>try simp (disch:=(refine Om.mk ?_;omega)) only[go_sem] at h)|refine hK.skp rfl rfl ?_|refine sw_exit rfl ?_|refine sw_loopEnd ?_|refine hK.c0 rfl rfl rfl (c) rfl rfl rfl ?_|(refine hK.fork rfl rfl rfl ?_ ?_<;>intro h<;>try simp (disch:=(refine Om.mk ?_;omega)) only[go_sem] at h)|(with_reducible refine And.intro (by first|omega|(simp only[lens];omega)) ?_)|((with_reducible refine And.intro ?_ ?_);· first|(intro x hx;subst hx;rfl)|exact upR_mem fun _ _=>rfl|exact mapR_mem fun _ _=>rfl|(intro x;refine And.intro ?_ ?_<;>(intros;subst_vars;rfl)))|fail
    exact⟨f+1,(by(refine covers_mk0 rfl rfl ?_ ?_ ?_ ?_<;>simp (disch:=(refine Om.mk ?_;omega)) only[go_sem]<;>(try omega));rw[hhB,←hZ,List.append_assoc,List.append_assoc];exact⟨rfl,by omega⟩),by omega,by omega⟩
  ·obtain rfl:f=x.sig.length:=by omega
   have hTe:halfA x.sig x.sig.length++halfB x.sig H x.sig.length=topM x.sig H:=rfl
   rw[hTe]
   generalize topM x.sig H=T at *
   repeat' first|((exfalso;omega))|refine sw_seq ?_|refine sw_block ?_|refine sw_inBlock ?_|refine sw_skip ?_|refine sw_go 0 kp40 fun K hK=>?_|refine fun (K:KT) (hK:KOk S 0 _ _ _ K)=>?_|((first|refine runL_go ?_|refine sw_ret (ret0 ?_)|refine sw_ret ?_);simp (disch:=(refine Om.mk ?_;omega)) only[go_sem,Tryz.results40])|(refine hK.nil ?_;clear hK K;simp only[go_sem])|((first|refine runG_fork rfl rfl rfl rfl rfl ?_ ?_|refine sw_cond rfl ?_ ?_)<;>intro h<;>try simp (disch:=(refine Om.mk ?_;omega)) only[go_sem] at h)|refine hK.skp rfl rfl ?_|refine sw_exit rfl ?_|refine sw_loopEnd ?_|(refine hK.fork rfl rfl rfl ?_ ?_<;>intro h<;>try simp (disch:=(refine Om.mk ?_;omega)) only[go_sem] at h)|(with_reducible refine And.intro (by first|omega|(simp only[lens];omega)) ?_)|((with_reducible refine And.intro ?_ ?_);· first|(intro x hx;subst hx;rfl)|exact upR_mem fun _ _=>rfl|exact mapR_mem fun _ _=>rfl|(intro x;refine And.intro ?_ ?_<;>(intros;subst_vars;rfl)))|fail
   refine sw_loopU (ι:=Nat) (fun p=>[(14,.int .i64 (tI T p)),(69,.int .i64 p)]) (fun p=>[]) (fun p=>p≤T.length) (fun p=>T.length-p) 0 (by(refine covers_mk0 rfl rfl ?_ ?_ ?_ ?_<;>simp (disch:=(refine Om.mk ?_;omega)) only[go_sem]<;>(try omega));exact⟨rfl,rfl⟩) ?_ (fun p hp=>?_)
   rotate_left
   simp only[go_sem]
   ·have htb:=tI_bnd hdl hp
    by_cases hpl:p<T.length
    ·have hd1:=hdl _ (getD_mem T p hpl)
     repeat' first|((exfalso;omega))|refine sw_seq ?_|refine sw_block ?_|refine sw_inBlock ?_|refine sw_skip ?_|refine sw_go 0 kp40 fun K hK=>?_|refine fun (K:KT) (hK:KOk S 0 _ _ _ K)=>?_|((first|refine runL_go ?_|refine sw_ret (ret0 ?_)|refine sw_ret ?_);simp (disch:=(refine Om.mk ?_;omega)) only[go_sem,Tryz.results40])|(refine hK.nil ?_;clear hK K;simp only[go_sem])|((first|refine runG_fork rfl rfl rfl rfl rfl ?_ ?_|refine sw_cond rfl ?_ ?_)<;>intro h<;>try simp (disch:=(refine Om.mk ?_;omega)) only[go_sem] at h)|refine hK.skp rfl rfl ?_|refine sw_exit rfl ?_|refine sw_loopEnd ?_|refine hK.c0 rfl rfl rfl (tries_fc (tI T p) (T.getD p default+1) htb.1 (by omega)) rfl rfl rfl ?_|(refine hK.fork rfl rfl rfl ?_ ?_<;>intro h<;>try simp (disch:=(refine Om.mk ?_;omega)) only[go_sem] at h)|(with_reducible refine And.intro (by first|omega|(simp only[lens];omega)) ?_)|((with_reducible refine And.intro ?_ ?_);· first|(intro x hx;subst hx;rfl)|exact upR_mem fun _ _=>rfl|exact mapR_mem fun _ _=>rfl|(intro x;refine And.intro ?_ ?_<;>(intros;subst_vars;rfl)))|fail
     exact⟨p+1,(by(refine covers_mk0 rfl rfl ?_ ?_ ?_ ?_<;>simp (disch:=(refine Om.mk ?_;omega)) only[go_sem]<;>(try omega));rw[tI_succ hdl hpl];exact⟨rfl,by omega⟩),by omega,by omega⟩
    ·obtain rfl:p=T.length:=by omega
     by_cases hpr:prodD T T.length≤20000
     ·have ho:=hfm hpr
      have cL:=repeatedL_fc [a0+3] (by simp) 0 T.length (by omega) (by omega)
      obtain⟨Lw,hLw⟩:∃Lw,lowD (upD T)=Lw:=⟨_,rfl⟩
      have hLl:Lw.length=T.length:=by rw[←hLw,lowD_len,upD_len]
      rw[←lowD_up,hLw] at cL
      have hne0:Lw≠[]:=by intro e;rw[e] at hLl;simp only[List.length_nil] at hLl;omega
      repeat' first|((exfalso;omega))|((refine sw_toPL [a0+2] (by simp) 18 84 (ys:=Lw) rfl (by simp[Lg.look]) rfl hne0 (by simp) ?_;simp only[go_sem]))|refine sw_seq ?_|refine sw_block ?_|refine sw_inBlock ?_|refine sw_skip ?_|refine sw_go 0 kp40 fun K hK=>?_|refine fun (K:KT) (hK:KOk S 0 _ _ _ K)=>?_|((first|refine runL_go ?_|refine sw_ret (ret0 ?_)|refine sw_ret ?_);simp (disch:=(refine Om.mk ?_;omega)) only[go_sem,Tryz.results40])|(refine hK.nil ?_;clear hK K;simp only[go_sem])|((first|refine runG_fork rfl rfl rfl rfl rfl ?_ ?_|refine sw_cond rfl ?_ ?_)<;>intro h<;>try simp (disch:=(refine Om.mk ?_;omega)) only[go_sem] at h)|refine hK.skp rfl rfl ?_|refine sw_exit rfl ?_|refine sw_loopEnd ?_|refine hK.c0 rfl rfl rfl (cL) rfl rfl rfl ?_|(refine hK.callT rfl rfl rfl (cloneOwnK_fc _ Lw (by omega)) ⟨⟨by simp only[Nat.reduceLT],by simp,by simp[Lg.look]⟩,by assumption⟩ ?_;simp (disch:=(refine Om.mk ?_;omega)) only[go_sem])|(refine hK.fork rfl rfl rfl ?_ ?_<;>intro h<;>try simp (disch:=(refine Om.mk ?_;omega)) only[go_sem] at h)|(with_reducible refine And.intro (by first|omega|(simp only[lens];omega)) ?_)|((with_reducible refine And.intro ?_ ?_);· first|(intro x hx;subst hx;rfl)|exact upR_mem fun _ _=>rfl|exact mapR_mem fun _ _=>rfl|(intro x;refine And.intro ?_ ?_<;>(intros;subst_vars;rfl)))|fail
      have hok:=upD_ok hdl
      have hseq:=allD_seq hok
      have hdig:=allD_dig hok
      have hst:Lw=(allD (upD T)).headD Lw∧true=!(allD (upD T)).isEmpty:=by
       obtain⟨r1,hr1⟩:=hseq.2
       rw[hr1,List.headD_cons,hLw]
       exact⟨rfl,rfl⟩
      refine sw_loopU (ι:=List (List Int)) (fun p=>[(18,PL [a0+2] (p.headD Lw)),(19,.bool (!p.isEmpty))]) (fun p=>[]) (fun p=>(SeqD (upD T) p∧∀c∈p,DigP (upD T) c)∧findD (QM x P set) p=o) (fun p=>p.length) (allD (upD T)) (by(refine covers_mk0 rfl rfl ?_ ?_ ?_ ?_<;>simp (disch:=(refine Om.mk ?_;omega)) only[go_sem]<;>(try omega));(rw[←hst.1];exact⟨le0_refl _,hst.2⟩)) ?_ (fun p hp=>?_)
      rotate_left
      simp only[go_sem]
      ·obtain⟨⟨hq1,hq2⟩,hq3⟩:=hp
       cases p with
       | nil =>
        obtain rfl:none=o:=hq3
        simp only[List.isEmpty_nil,Bool.not_true]
        repeat' first|refine sw_seq ?_|refine sw_block ?_|refine sw_inBlock ?_|refine sw_skip ?_|refine sw_go 0 kp40 fun K hK=>?_|refine fun (K:KT) (hK:KOk S 0 _ _ _ K)=>?_|((first|refine runL_go ?_|refine sw_ret (ret0 ?_)|refine sw_ret ?_);simp (disch:=(refine Om.mk ?_;omega)) only[go_sem,Tryz.results40])|(refine hK.nil ?_;clear hK K;simp only[go_sem])|((first|refine runG_fork rfl rfl rfl rfl rfl ?_ ?_|refine sw_cond rfl ?_ ?_)<;>intro h<;>try simp (disch:=(refine Om.mk ?_;omega)) only[go_sem] at h)|refine hK.skp rfl rfl ?_|refine sw_exit rfl ?_|refine sw_loopEnd ?_|(refine hK.fork rfl rfl rfl ?_ ?_<;>intro h<;>try simp (disch:=(refine Om.mk ?_;omega)) only[go_sem] at h)|(with_reducible refine And.intro (by first|omega|(simp only[lens];omega)) ?_)|((with_reducible refine And.intro ?_ ?_);· first|(intro x hx;subst hx;rfl)|exact upR_mem fun _ _=>rfl|exact mapR_mem fun _ _=>rfl|(intro x;refine And.intro ?_ ?_<;>(intros;subst_vars;rfl)))|fail
        refine⟨?_,rfl⟩
        simp[resM,mapR,le0]
       | cons a r =>
        have ha:=hq2 a List.mem_cons_self
        have hal:a.length=T.length:=by rw[digP_len ha,upD_len]
        have hab:=upD_dig hdl ha
        obtain⟨hn1,hn2⟩:=seq_next hq1
        rw[hLw] at hn1
        have hne:a≠[]:=by intro e;rw[e] at hal;simp only[List.length_nil] at hal;omega
        have hnl:(r.headD Lw).length=a.length:=by
         have:=(nxtD_end (bs:=upD T) (xs:=a) (by rw[hal,upD_len])).1
         rw[hn1] at this
         rw[this,upD_len,hal]
        have hnn:r.headD Lw≠[]:=by intro e;rw[e] at hnl;simp only[List.length_nil] at hnl;omega
        simp only[List.headD_cons,List.isEmpty_cons,Bool.not_false]
        obtain⟨hpA,hpB⟩:=pol2_ok (H:=H) hsg (by rw[show topM x.sig H=T from hT0.symm];exact ha)
        obtain⟨hM,htk⟩:=marked_of hpA hpB
        obtain⟨U1,hU1⟩:∃U,U=upR (fun i y=>PolyL (a0::r0++[0+i]) y) (polD x.sig a) x.sig.length:=⟨_,rfl⟩
        obtain⟨U2,hU2⟩:∃U,U=upR (fun i y=>PolyL (a0::r0++[x.sig.length+i]) y) (polD x.sig (a.drop (atN x.sig x.sig.length))) x.sig.length:=⟨_,rfl⟩
        have c1:=polysBy_fc (a0::r0) (by simp) 0 x.sig a hsg (by omega) (by omega)
        rw[←hU1] at c1
        have c1:=c1.args (args:=[.agg [.sl (.lab [a0+1]) (x.sig.map (.int .i64))],PL [a0+2] a]) ⟨le_sigB _ _,PL_le,trivial⟩
        have c2:=polysBy_fc (a0::r0) (by simp) x.sig.length x.sig (a.drop (atN x.sig x.sig.length)) hsg (by rw[List.length_drop];omega) (by rw[List.length_drop];omega)
        rw[←hU2] at c2
        have c2:=c2.args (args:=[.agg [.sl (.lab [a0+1]) (x.sig.map (.int .i64))],.sl .any ((a.drop (atN x.sig x.sig.length)).map (.int .i64))]) ⟨le_sigB _ _,.refl _,trivial⟩
        have hU:U1++U2=mapR (fun i y=>PolyL (a0::r0++[i]) y) (pol2 x.sig a):=by rw[hU1,hU2];exact up_join _ _ _ _ hpA.1.2 hpB.1.2
        have hUl:U1.length=x.sig.length∧U2.length=x.sig.length:=by rw[hU1,hU2];exact⟨upR_length _ _ _,upR_length _ _ _⟩
        have hU1c:∀d∈U1,d.cells.length=2:=by rw[hU1];exact upR_mem fun _ _=>rfl
        have hU2c:∀d∈U2,d.cells.length=2:=by rw[hU2];exact upR_mem fun _ _=>rfl
        have cC:=countUp_fc 500 (upD T) a (by rw[hal,upD_len]) hne (by omega) (fun z hz=>by have:=hab z hz;omega)
        rw[hn1,hLw,show (upD T).map (·.2)=T by simp[upD,Function.comp_def]] at cC
        have cC:=cC.args (args:=[.ms 500 a.length,.sl (.lab [a0+3]) (Lw.map (.int .i64)),.sl (.own 40000 2 1) (T.map (.int .i64))]) ⟨.refl _,.any,.any,trivial⟩
        have hnx:¬QM x P set a→findD (QM x P set) r=o:=fun h=>by rw[←hq3,findD_no h]
        have hyx:QM x P set a→o=some a:=fun h=>by rw[←hq3,findD_yes h]
        have hs1:∀tk,(D.sl (.lab [a0+1]) (P.map (DepB [a0+1]))).safeP [a0+2] tk=true:=fun tk=>by simp[D.safeP,safePL_map (safe_dep (q:=[a0+2]) (l:=[a0+1]) (tk:=tk) (by simp))]
        have hs2:∀tk,(D.sl (.lab [a0+1]) (set.map (.int .i64))).safeP [a0+2] tk=true:=fun tk=>by simp[D.safeP,safe_ints]
        have hs3:∀tk,(D.sl (.lab [a0+3]) (Lw.map (.int .i64))).safeP [a0+2] tk=true:=fun tk=>by simp only[D.safeP,safe_ints];simp
        have hs4:∀tk,D.safePL [a0+2] tk [.sl (.lab [a0+1]) (x.sig.map (.int .i64)),.sl (.lab [a0+1]) (x.rules.map (RuleB [a0+1]))]=true:=fun tk=>by simp[D.safePL,D.safeP,safe_ints,safePL_map (safe_rule (q:=[a0+2]) (l:=[a0+1]) (tk:=tk) (by simp))]
        by_cases hA:AllowP x (polD x.sig a)
        ·have cW:=(weighPairs_fc [a0+4] (by simp) x P set (pol2 x.sig a) (by unfold pol2;rw[htk];exact hA) hM hP hS h64).args (args:=[SystemB [a0+1] x,.sl (.lab [a0+1]) (P.map (DepB [a0+1])),.sl (.lab [a0+1]) (set.map (.int .i64)),.sl (.own 107000 71 2) (U1++U2)]) ⟨le_system _ _,le_deps _ _,.any,by rw[hU];exact le_mapR _ fun j x=>le_PolyLc _ _,trivial⟩
         repeat' first|((exfalso;omega))|((refine hK.callB rfl rfl rfl (cC) (by refine⟨⟨?_,?_,?_,?_,?_⟩,⟨?_,?_,?_,?_,?_⟩,?_⟩<;>simp[LS.getBox,Lg.look,D.ids,D.idsL,idsL_int0,LS.clean,D.puOk,D.pu,D.pu1,D.tks,D.tksL,inTok,tksL_int0,puOk_int0]) ?_;simp (disch:=(refine Om.mk ?_;omega)) only[go_sem]))|((refine sw_lab 6 (a0::r0) (k:=107000) rfl (by simp) (by simp) ?_;simp only[go_sem]))|((refine sw_toPL [a0+2] (by simp) 18 500 (n:=a.length) (ys:=r.headD Lw) rfl rfl hnl.symm hnn (by simp) ?_;simp only[go_sem]))|((refine⟨List.mem_filter.2 ⟨by simp,by simp⟩,hU1c,hU2c,by omega,by omega,?_⟩))|((refine sw_ofPLAt 28 [a0+1] [a0+2] hOld (by simp) (by simp) 18 500 rfl hne (by simp) [(1,.sl (.lab [a0+1]) (P.map (DepB [a0+1]))),(2,.sl (.lab [a0+1]) (set.map (.int .i64))),(3,.box 3 0),(8,.sl (.own 40000 2 1) (T.map (.int .i64))),(17,.sl (.lab [a0+3]) (Lw.map (.int .i64)))] [(3,[.sl (.lab [a0+1]) (x.sig.map (.int .i64)),.sl (.lab [a0+1]) (x.rules.map (RuleB [a0+1]))])] (List.forall_mem_cons.2 ⟨⟨rfl,hs1 _,by simp[D.ids]⟩,List.forall_mem_cons.2 ⟨⟨rfl,hs2 _,by simp[D.ids]⟩,List.forall_mem_cons.2 ⟨⟨rfl,rfl,by simp[D.ids]⟩,List.forall_mem_cons.2 ⟨⟨rfl,by simp[D.safeP,safe_ints],by simp[D.ids]⟩,List.forall_mem_cons.2 ⟨⟨rfl,hs3 _,by simp[D.ids]⟩,fun q hq=>by cases hq⟩⟩⟩⟩⟩) (List.forall_mem_cons.2 ⟨⟨by simp,rfl,hs4 _,by simp[D.idsL,D.ids]⟩,fun q hq=>by cases hq⟩) ?_;simp only[go_sem]))|refine sw_seq ?_|refine sw_block ?_|refine sw_inBlock ?_|refine sw_skip ?_|refine sw_go 0 kp40 fun K hK=>?_|refine fun (K:KT) (hK:KOk S 0 _ _ _ K)=>?_|((first|refine runL_go ?_|refine sw_ret (ret0 ?_)|refine sw_ret ?_);simp (disch:=(refine Om.mk ?_;omega)) only[go_sem,Tryz.results40])|(refine hK.nil ?_;clear hK K;simp only[go_sem])|((first|refine runG_fork rfl rfl rfl rfl rfl ?_ ?_|refine sw_cond rfl ?_ ?_)<;>intro h<;>try simp (disch:=(refine Om.mk ?_;omega)) only[go_sem] at h)|refine hK.skp rfl rfl ?_|refine sw_exit rfl ?_|refine sw_loopEnd ?_|(refine hK.callB rfl rfl rfl (c1) ⟨⟨by simp only[Nat.reduceLT],(by first|(simp;all_goals fail)|(simp[LS.getBox,Lg.look];all_goals fail)),by(simp[Lg.look];all_goals fail),by(simp;all_goals fail),by(simp;all_goals fail)⟩,⟨by(simp[D.ids,D.idsL];all_goals fail),by(simp[D.ids,D.idsL];all_goals fail),by(simp[D.tks,D.tksL];all_goals fail),by(simp[D.tks,D.tksL];all_goals fail),by(simp;all_goals fail)⟩,rfl⟩ ?_;simp (disch:=(refine Om.mk ?_;omega)) only[go_sem])|(refine hK.callB rfl rfl rfl (c2) ⟨⟨by simp only[Nat.reduceLT],(by first|(simp;all_goals fail)|(simp[LS.getBox,Lg.look];all_goals fail)),by(simp[Lg.look];all_goals fail),by(simp;all_goals fail),by(simp;all_goals fail)⟩,⟨by(simp[D.ids,D.idsL];all_goals fail),by(simp[D.ids,D.idsL];all_goals fail),by(simp[D.tks,D.tksL];all_goals fail),by(simp[D.tks,D.tksL];all_goals fail),by(simp;all_goals fail)⟩,rfl⟩ ?_;simp (disch:=(refine Om.mk ?_;omega)) only[go_sem])|refine hK.c0 rfl rfl rfl (cW) rfl rfl rfl ?_|(refine hK.fork rfl rfl rfl ?_ ?_<;>intro h<;>try simp (disch:=(refine Om.mk ?_;omega)) only[go_sem] at h)|(with_reducible refine And.intro (by first|omega|(simp only[lens];omega)) ?_)|((with_reducible refine And.intro ?_ ?_);· first|(intro x hx;subst hx;rfl)|exact upR_mem fun _ _=>rfl|exact mapR_mem fun _ _=>rfl|(intro x;refine And.intro ?_ ?_<;>(intros;subst_vars;rfl)))|fail
         ·rw[hyx ⟨hA,wq_iff.2 ⟨by assumption,by assumption⟩⟩]
          exact⟨hU,rfl⟩
         ·have hQ:¬QM x P set a:=fun e=>by have:=(wq_iff.1 e.2).2;omega
          exact⟨r,(by(refine covers_mk0 rfl rfl ?_ ?_ ?_ ?_<;>simp (disch:=(refine Om.mk ?_;omega)) only[go_sem]<;>(try omega));first|exact le0_refl _|exact .refl _|(simp;done)|exact⟨le0_refl _,by simp⟩|trace_state),⟨⟨hn2,fun d hd=>hq2 d (List.mem_cons_of_mem _ hd)⟩,hnx hQ⟩,by simp⟩
         ·have hQ:¬QM x P set a:=fun e=>by
           have h1:=(wq_iff.1 e.2).1
           have h2:(wR x.sig P set (pol2 x.sig a)).2=false:=by assumption
           rw[h1] at h2
           cases h2
          exact⟨r,(by(refine covers_mk0 rfl rfl ?_ ?_ ?_ ?_<;>simp (disch:=(refine Om.mk ?_;omega)) only[go_sem]<;>(try omega));first|exact le0_refl _|exact .refl _|(simp;done)|exact⟨le0_refl _,by simp⟩|trace_state),⟨⟨hn2,fun d hd=>hq2 d (List.mem_cons_of_mem _ hd)⟩,hnx hQ⟩,by simp⟩
        ·have hQ:¬QM x P set a:=fun e=>hA e.1
         have cW:=(weighNo_fc x P set (pol2 x.sig a) [a0+4] hx (by unfold pol2;rw[htk];exact hA) hM).args (args:=[SystemB [a0+1] x,.sl (.lab [a0+1]) (P.map (DepB [a0+1])),.sl (.lab [a0+1]) (set.map (.int .i64)),.sl (.own 107000 71 2) (U1++U2)]) ⟨le_system _ _,le_deps _ _,.any,by rw[hU];exact le_mapR _ fun j x=>le_PolyLc _ _,trivial⟩
         repeat' first|((exfalso;omega))|((refine hK.callB rfl rfl rfl (cC) (by refine⟨⟨?_,?_,?_,?_,?_⟩,⟨?_,?_,?_,?_,?_⟩,?_⟩<;>simp[LS.getBox,Lg.look,D.ids,D.idsL,idsL_int0,LS.clean,D.puOk,D.pu,D.pu1,D.tks,D.tksL,inTok,tksL_int0,puOk_int0]) ?_;simp (disch:=(refine Om.mk ?_;omega)) only[go_sem]))|((refine sw_lab 6 (a0::r0) (k:=107000) rfl (by simp) (by simp) ?_;simp only[go_sem]))|((refine sw_toPL [a0+2] (by simp) 18 500 (n:=a.length) (ys:=r.headD Lw) rfl rfl hnl.symm hnn (by simp) ?_;simp only[go_sem]))|((refine⟨List.mem_filter.2 ⟨by simp,by simp⟩,hU1c,hU2c,by omega,by omega,?_⟩))|((refine sw_ofPLAt 28 [a0+1] [a0+2] hOld (by simp) (by simp) 18 500 rfl hne (by simp) [(1,.sl (.lab [a0+1]) (P.map (DepB [a0+1]))),(2,.sl (.lab [a0+1]) (set.map (.int .i64))),(3,.box 3 0),(8,.sl (.own 40000 2 1) (T.map (.int .i64))),(17,.sl (.lab [a0+3]) (Lw.map (.int .i64)))] [(3,[.sl (.lab [a0+1]) (x.sig.map (.int .i64)),.sl (.lab [a0+1]) (x.rules.map (RuleB [a0+1]))])] (List.forall_mem_cons.2 ⟨⟨rfl,hs1 _,by simp[D.ids]⟩,List.forall_mem_cons.2 ⟨⟨rfl,hs2 _,by simp[D.ids]⟩,List.forall_mem_cons.2 ⟨⟨rfl,rfl,by simp[D.ids]⟩,List.forall_mem_cons.2 ⟨⟨rfl,by simp[D.safeP,safe_ints],by simp[D.ids]⟩,List.forall_mem_cons.2 ⟨⟨rfl,hs3 _,by simp[D.ids]⟩,fun q hq=>by cases hq⟩⟩⟩⟩⟩) (List.forall_mem_cons.2 ⟨⟨by simp,rfl,hs4 _,by simp[D.idsL,D.ids]⟩,fun q hq=>by cases hq⟩) ?_;simp only[go_sem]))|refine sw_seq ?_|refine sw_block ?_|refine sw_inBlock ?_|refine sw_skip ?_|refine sw_go 0 kp40 fun K hK=>?_|refine fun (K:KT) (hK:KOk S 0 _ _ _ K)=>?_|((first|refine runL_go ?_|refine sw_ret (ret0 ?_)|refine sw_ret ?_);simp (disch:=(refine Om.mk ?_;omega)) only[go_sem,Tryz.results40])|(refine hK.nil ?_;clear hK K;simp only[go_sem])|((first|refine runG_fork rfl rfl rfl rfl rfl ?_ ?_|refine sw_cond rfl ?_ ?_)<;>intro h<;>try simp (disch:=(refine Om.mk ?_;omega)) only[go_sem] at h)|refine hK.skp rfl rfl ?_|refine sw_exit rfl ?_|refine sw_loopEnd ?_|(refine hK.callB rfl rfl rfl (c1) ⟨⟨by simp only[Nat.reduceLT],(by first|(simp;all_goals fail)|(simp[LS.getBox,Lg.look];all_goals fail)),by(simp[Lg.look];all_goals fail),by(simp;all_goals fail),by(simp;all_goals fail)⟩,⟨by(simp[D.ids,D.idsL];all_goals fail),by(simp[D.ids,D.idsL];all_goals fail),by(simp[D.tks,D.tksL];all_goals fail),by(simp[D.tks,D.tksL];all_goals fail),by(simp;all_goals fail)⟩,rfl⟩ ?_;simp (disch:=(refine Om.mk ?_;omega)) only[go_sem])|(refine hK.callB rfl rfl rfl (c2) ⟨⟨by simp only[Nat.reduceLT],(by first|(simp;all_goals fail)|(simp[LS.getBox,Lg.look];all_goals fail)),by(simp[Lg.look];all_goals fail),by(simp;all_goals fail),by(simp;all_goals fail)⟩,⟨by(simp[D.ids,D.idsL];all_goals fail),by(simp[D.ids,D.idsL];all_goals fail),by(simp[D.tks,D.tksL];all_goals fail),by(simp[D.tks,D.tksL];all_goals fail),by(simp;all_goals fail)⟩,rfl⟩ ?_;simp (disch:=(refine Om.mk ?_;omega)) only[go_sem])|refine hK.c0 rfl rfl rfl (cW) rfl rfl rfl ?_|(refine hK.fork rfl rfl rfl ?_ ?_<;>intro h<;>try simp (disch:=(refine Om.mk ?_;omega)) only[go_sem] at h)|(with_reducible refine And.intro (by first|omega|(simp only[lens];omega)) ?_)|((with_reducible refine And.intro ?_ ?_);· first|(intro x hx;subst hx;rfl)|exact upR_mem fun _ _=>rfl|exact mapR_mem fun _ _=>rfl|(intro x;refine And.intro ?_ ?_<;>(intros;subst_vars;rfl)))|fail
         exact⟨r,(by(refine covers_mk0 rfl rfl ?_ ?_ ?_ ?_<;>simp (disch:=(refine Om.mk ?_;omega)) only[go_sem]<;>(try omega));first|exact le0_refl _|exact .refl _|(simp;done)|exact⟨le0_refl _,by simp⟩|trace_state),⟨⟨hn2,fun d hd=>hq2 d (List.mem_cons_of_mem _ hd)⟩,hnx hQ⟩,by simp⟩
      ·exact⟨⟨hseq.1,hdig⟩,ho.symm⟩
     ·have ho:=hfn hpr
      subst ho
      repeat' first|((exfalso;omega))|refine sw_seq ?_|refine sw_block ?_|refine sw_inBlock ?_|refine sw_skip ?_|refine sw_go 0 kp40 fun K hK=>?_|refine fun (K:KT) (hK:KOk S 0 _ _ _ K)=>?_|((first|refine runL_go ?_|refine sw_ret (ret0 ?_)|refine sw_ret ?_);simp (disch:=(refine Om.mk ?_;omega)) only[go_sem,Tryz.results40])|(refine hK.nil ?_;clear hK K;simp only[go_sem])|((first|refine runG_fork rfl rfl rfl rfl rfl ?_ ?_|refine sw_cond rfl ?_ ?_)<;>intro h<;>try simp (disch:=(refine Om.mk ?_;omega)) only[go_sem] at h)|refine hK.skp rfl rfl ?_|refine sw_exit rfl ?_|refine sw_loopEnd ?_|(refine hK.fork rfl rfl rfl ?_ ?_<;>intro h<;>try simp (disch:=(refine Om.mk ?_;omega)) only[go_sem] at h)|(with_reducible refine And.intro (by first|omega|(simp only[lens];omega)) ?_)|((with_reducible refine And.intro ?_ ?_);· first|(intro x hx;subst hx;rfl)|exact upR_mem fun _ _=>rfl|exact mapR_mem fun _ _=>rfl|(intro x;refine And.intro ?_ ?_<;>(intros;subst_vars;rfl)))|fail
      refine⟨?_,rfl⟩
      simp[resM,mapR,le0]
   ·exact Nat.zero_le _
end Go.Proofs.YtpennhjjnlkbiaaGreat
end
section
namespace Go.Proofs.YtpennhjjnlkbiaaGreat
open Go Go.Lg
set_option linter.unusedSimpArgs false
set_option linter.unusedVariables false
set_option maxHeartbeats 4000000
attribute [local irreducible] SW runL runQ runG runQG FC Ret1 toF redoL anyB addJ sumF formM
theorem noLL_of {l:List Nat}:∀ {ds:List D},(∀d∈ds,d.noL l=true)→D.noLL l ds=true
 | [],_=>rfl
 | d::r,h=>by simp only[D.noLL,h d List.mem_cons_self,noLL_of fun e he=>h e (List.mem_cons_of_mem _ he),Bool.and_self]
theorem noL_poly {l p:List Nat} (h:p++[1]≠l) (y:PolyT):(PolyL p y).noL l=true:=by
 have h1:D.noLL l (y.coef.map (D.int .i64))=true:=noLL_map (fun _=>rfl) _
 have h2:(p++[1] != l)=true:=by simpa using h
 simp only[PolyL,Int64SL,D.noL,D.noLL,h1,h2,Bool.and_self]
theorem firstMarked_fc (p:List Nat) (hp:p≠[]) (x:SystemT) (P:List DepPairT) (set:List Int) (hx:SystemOkP x) (hP:∀p∈P,PrOk x.sig p) (hS:SetPP set P.length) (h64:P.length≤64):FC S 40 [] [] [] [SystemD x,.sl .any (P.map DepPairD),.sl .any (set.map (.int .i64))] (.tup [PolySL p (resM x.sig (firstM x P set)).1,.bool (resM x.sig (firstM x P set)).2]) [] []:=by
 obtain⟨a0,r0,rfl⟩:∃a r,p=a::r:=by
  cases p with
  | nil=>exact absurd rfl hp
  | cons a r=>exact⟨a,r,rfl⟩
 refine fc_oldL [a0+1] (by simp) ?_ ?_ ?_
 ·simp[D.okLbL,okLb_system,D.okLb,okLbL_map okLb_dep,okLb_ints]
 ·simp only[PolySL,D.noL,D.noLL,Bool.and_true,Bool.and_eq_true,bne_iff_ne,ne_eq]
  exact⟨by simp,noLL_of fun d hd=>by
   obtain⟨j,_,rfl⟩:=List.mem_map.1 hd
   exact noL_poly (by simp) _⟩
 ·simp only[D.lbL,lb_system,D.lb,lbL_mapf,lb_dep,lbL_ints]
  exact firstMarkedO_fc a0 r0 x P set hx hP hS h64
def kp10:List (Nat×List Nat):=[(0,[1,2]),(1,[1,2,6,7]),(2,[1,2,6,21]),(3,[4,5]),(4,[4,5])]
attribute [go_sem] kp10
theorem implFirstMarked_fc (p:List Nat) (hp:p≠[]) (x:SystemT) (set:List Int):FC S 10 [] [] [] [SystemD x,.sl .any (set.map (.int .i64))] (.tup [PolySL p (markR x set).1,.bool (markR x set).2]) [] []:=by
 have cP:=implPairsOf_fc x
 rcases Classical.em (MarkIn x set) with hW|hW
 ·rw[markR_yes hW]
  obtain⟨hx,hS⟩:=hW
  rw[pairsR_yes hx] at cP
  have h64:(allP x).length≤64:=hx.2
  refine fc_body Tryz.func10 rfl (by kernel_rfl) (by simp[Tryz.f10]) fun B=>?_
  simp only[Tryz.ntmps10,enumD,lst0,Nat.reduceAdd]
  repeat' first|((exfalso;omega))|((exact absurd hS (by assumption)))|refine sw_seq ?_|refine sw_skip ?_|refine sw_go 0 kp10 fun K hK=>?_|refine fun (K:KT) (hK:KOk S 0 _ _ _ K)=>?_|((first|refine runL_go ?_|refine sw_ret (ret0 ?_)|refine sw_ret ?_);simp (disch:=(refine Om.mk ?_;omega)) only[go_sem,Tryz.results10])|(refine hK.nil ?_;clear hK K;simp only[go_sem])|((first|refine runG_fork rfl rfl rfl rfl rfl ?_ ?_|refine sw_cond rfl ?_ ?_)<;>intro h<;>try simp (disch:=(refine Om.mk ?_;omega)) only[go_sem] at h)|refine hK.skp rfl rfl ?_|refine sw_loopEnd ?_|refine hK.c0 rfl rfl rfl (cP) rfl rfl rfl ?_|refine hK.c0 rfl rfl rfl (setOk_fc set _ (by omega)) rfl rfl rfl ?_|refine hK.c0 rfl rfl rfl (firstMarked_fc p hp x (allP x) set hx.1 (allP_ok hx) hS h64) rfl rfl rfl ?_|(refine hK.fork rfl rfl rfl ?_ ?_<;>intro h<;>try simp (disch:=(refine Om.mk ?_;omega)) only[go_sem] at h)|(with_reducible refine And.intro (by first|omega|(simp only[lens];omega)) ?_)|fail
 ·rw[markR_no hW]
  rcases Classical.em (PairsP x) with hx|hx
  ·rw[pairsR_yes hx] at cP
   have h64:(allP x).length≤64:=hx.2
   refine fc_body Tryz.func10 rfl (by kernel_rfl) (by simp[Tryz.f10]) fun B=>?_
   simp only[Tryz.ntmps10,enumD,lst0,Nat.reduceAdd]
   repeat' first|((exact absurd (show MarkIn x set from⟨hx,by assumption⟩) hW))|refine sw_seq ?_|refine sw_skip ?_|refine sw_go 0 kp10 fun K hK=>?_|refine fun (K:KT) (hK:KOk S 0 _ _ _ K)=>?_|((first|refine runL_go ?_|refine sw_ret (ret0 ?_)|refine sw_ret ?_);simp (disch:=(refine Om.mk ?_;omega)) only[go_sem,Tryz.results10])|(refine hK.nil ?_;clear hK K;simp only[go_sem])|((first|refine runG_fork rfl rfl rfl rfl rfl ?_ ?_|refine sw_cond rfl ?_ ?_)<;>intro h<;>try simp (disch:=(refine Om.mk ?_;omega)) only[go_sem] at h)|refine hK.skp rfl rfl ?_|refine sw_loopEnd ?_|refine hK.c0 rfl rfl rfl (cP) rfl rfl rfl ?_|refine hK.c0 rfl rfl rfl (setOk_fc set _ (by omega)) rfl rfl rfl ?_|(refine hK.fork rfl rfl rfl ?_ ?_<;>intro h<;>try simp (disch:=(refine Om.mk ?_;omega)) only[go_sem] at h)|(with_reducible refine And.intro (by first|omega|(simp only[lens];omega)) ?_)|fail
   all_goals (simp[mapR,le0])
  ·rw[pairsR_no hx] at cP
   refine fc_body Tryz.func10 rfl (by kernel_rfl) (by simp[Tryz.f10]) fun B=>?_
   simp only[Tryz.ntmps10,enumD,lst0,Nat.reduceAdd]
   repeat' first|refine sw_seq ?_|refine sw_skip ?_|refine sw_go 0 kp10 fun K hK=>?_|refine fun (K:KT) (hK:KOk S 0 _ _ _ K)=>?_|((first|refine runL_go ?_|refine sw_ret (ret0 ?_)|refine sw_ret ?_);simp (disch:=(refine Om.mk ?_;omega)) only[go_sem,Tryz.results10])|(refine hK.nil ?_;clear hK K;simp only[go_sem])|((first|refine runG_fork rfl rfl rfl rfl rfl ?_ ?_|refine sw_cond rfl ?_ ?_)<;>intro h<;>try simp (disch:=(refine Om.mk ?_;omega)) only[go_sem] at h)|refine hK.skp rfl rfl ?_|refine sw_loopEnd ?_|refine hK.c0 rfl rfl rfl (cP) rfl rfl rfl ?_|(refine hK.fork rfl rfl rfl ?_ ?_<;>intro h<;>try simp (disch:=(refine Om.mk ?_;omega)) only[go_sem] at h)|(with_reducible refine And.intro (by first|omega|(simp only[lens];omega)) ?_)|fail
   all_goals (simp[mapR,le0])
theorem mc_le {ps:List PolyT} (h:∀y∈ps,y.coef.length≤3):mcPolyS ps≤4*ps.length:=by
 induction ps with
 | nil=>exact Nat.le_refl _
 | cons y r ih =>
  have h1:=h y List.mem_cons_self
  have h2:=ih fun z hz=>h z (List.mem_cons_of_mem _ hz)
  have e:mcPolyS (y::r)=(y.coef.length+0+1)+mcPolyS r:=by simp only[mcPolyS,List.map_cons,List.sum_cons];rfl
  rw[e,List.length_cons];omega
theorem pols_coef {rs:List Int} {ps:List PolyT} (h:PolysOkP rs ps):∀y∈ps,y.coef.length≤3:=fun y hy=>by
 obtain⟨i,hi,rfl⟩:=List.getElem_of_mem hy
 have h1:=(h.2 i hi).1.1
 have h2:=(h.1.1.2 i (by rw[←h.1.2];exact hi)).2
 rw[List.getD_eq_getElem?_getD,List.getElem?_eq_getElem hi,Option.getD_some] at h1
 omega
theorem markR_mc (x:SystemT) (set:List Int):mcPolyS (markR x set).1≤64:=by
 by_cases h:MarkIn x set
 ·rw[markR_yes h]
  have hsg:=h.1.1.1.1
  have hs8:=hsg.1.2
  by_cases hp:prodD (topM x.sig (HeadP (allP x) set set.length)) (topM x.sig (HeadP (allP x) set set.length)).length≤20000
  ·rw[firstM_yes hp]
   cases hf:findD (QM x (allP x) set) (allD (upD (topM x.sig (HeadP (allP x) set set.length)))) with
   | none=>exact Nat.zero_le _
   | some l =>
    obtain⟨h1,_⟩:=findD_mem hf
    obtain⟨hA,hB⟩:=pol2_ok hsg (allD_dig (upD_ok (topM_dig _ _)) l h1)
    have h2:mcPolyS (pol2 x.sig l)≤4*(pol2 x.sig l).length:=mc_le fun y hy=>by
     rcases List.mem_append.1 hy with hy|hy
     ·exact pols_coef hA y hy
     ·exact pols_coef hB y hy
    have h3:(pol2 x.sig l).length=x.sig.length+x.sig.length:=by rw[pol2,List.length_append,hA.1.2,hB.1.2]
    show mcPolyS (pol2 x.sig l)≤64
    omega
  ·rw[firstM_no hp];exact Nat.zero_le _
 ·rw[markR_no h];exact Nat.zero_le _
end Go.Proofs.YtpennhjjnlkbiaaGreat
end
