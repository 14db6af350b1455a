/-
  A15i, A15j, A04p, A20p, A04, A15k, A25, A17s, A17k, one behind the other.
-/
import Derived.Test.YtpennhjjnlkbiaaGreatG3
import Derived.Test.YtpennhjjnlkbiaaGreatG2
import Derived.Test.YtpennhjjnlkbiaaGreatG1
import Derived.Test.YtpennhjjnlkbiaaGreatG4
section
namespace Go.Proofs.YtpennhjjnlkbiaaGreat
open Go Go.Lg
set_option linter.unusedSimpArgs false
set_option linter.unusedVariables false
set_option maxHeartbeats 4000000
attribute [local irreducible] SW runL runQ runG runQG FC Ret1 toF redoL anyB
def maxAt (xs:List Int):Nat→Int
 | 0=>xs.getD 0 default
 | p+1=>if xs.getD (p+1) default>maxAt xs p then xs.getD (p+1) default else maxAt xs p
theorem maxAt_le (xs:List Int) (c:Int):∀n,maxAt xs n≤c↔∀j≤n,xs.getD j default≤c
 | 0=>⟨fun h j hj=>by rwa [show j=0 by omega],fun h=>h 0 (Nat.le_refl _)⟩
 | n+1=>by
  have ih:=maxAt_le xs c n
  simp only[maxAt]
  constructor
  ·intro h j hj
   rcases Nat.lt_or_ge j (n+1) with h1|h1
   ·exact ih.1 (by split at h<;>omega) j (by omega)
   ·rw[show j=n+1 by omega];split at h<;>omega
  ·intro h
   have h1:=ih.2 fun j hj=>h j (by omega)
   have h2:=h (n+1) (Nat.le_refl _)
   split<;>omega
theorem maxAt_all {xs:List Int} {c:Int} (h:0<xs.length):maxAt xs (xs.length-1)≤c↔∀x∈xs,x≤c:=by
 rw[maxAt_le]
 exact⟨fun h1=>all_getD (P:=fun x=>x≤c) fun j hj=>h1 j (by omega),fun h1 j hj=>h1 _ (getD_mem xs j (by omega))⟩
def kp165:List (Nat×List Nat):=[(0,[0]),(1,[0,7]),(2,[0]),(3,[0,3]),(4,[0,3,4]),(5,[0,3,4,15]),(7,[0,3,4]),(6,[0,3,4]),(8,[2])]
attribute [go_sem] kp165
theorem max_fc (tk:Tk) (xs:List Int) (h0:0<xs.length):FC S 165 [] [] [] [.sl tk (xs.map (.int .i64))] (.int .i64 (maxAt xs (xs.length-1))) [] []:=by
 refine fc_body Tryz.func165 rfl (by kernel_rfl) (by simp[Tryz.f165]) fun B=>?_
 simp only[Tryz.ntmps165,enumD,lst0,Nat.reduceAdd]
 refine sw_bnd 0 rfl fun hb0=>?_
 simp only[D.bnd,List.length_map] at hb0
 repeat' first|refine sw_seq ?_|refine sw_block ?_|refine sw_skip ?_|refine sw_go 0 kp165 fun K hK=>?_|((first|refine runL_go ?_|refine sw_ret (ret0 ?_)|refine sw_ret ?_);simp (disch:=(refine Om.mk ?_;omega)) only[go_sem,Tryz.results165])|(refine hK.nil ?_;clear hK K;simp only[go_sem])|((first|refine sw_cond rfl ?_ ?_)<;>intro h<;>try simp (disch:=(refine Om.mk ?_;omega)) only[go_sem] at h)|(with_reducible refine And.intro (by first|omega|(simp only[lens];omega)) ?_)|fail
 ·omega
 refine sw_loopU (ι:=Nat) (fun p=>[(4,.int .i64 (p+1)),(3,.int .i64 (maxAt xs p))]) (fun p=>[]) (fun p=>p<xs.length) (fun p=>xs.length-p) 0 (by(refine covers_mk0 rfl rfl ?_ ?_ ?_ ?_<;>simp (disch:=(refine Om.mk ?_;omega)) only[go_sem]<;>(try omega));exact⟨rfl,rfl⟩) ?_ (fun p hp=>?_)
 rotate_left
 simp only[go_sem]
 repeat' first|refine sw_seq ?_|refine sw_block ?_|refine sw_inBlock ?_|refine sw_skip ?_|refine sw_go 0 kp165 fun K hK=>?_|((first|refine runL_go ?_|refine sw_ret (ret0 ?_)|refine sw_ret ?_);simp (disch:=(refine Om.mk ?_;omega)) only[go_sem,Tryz.results165])|(refine hK.nil ?_;clear hK K;simp only[go_sem])|((first|refine sw_cond rfl ?_ ?_)<;>intro h<;>try simp (disch:=(refine Om.mk ?_;omega)) only[go_sem] at h)|refine sw_exit rfl ?_|refine sw_loopEnd ?_|(with_reducible refine And.intro (by first|omega|(simp only[lens];omega)) ?_)|fail
 ·exact⟨p+1,(by(refine covers_mk0 rfl rfl ?_ ?_ ?_ ?_<;>simp (disch:=(refine Om.mk ?_;omega)) only[go_sem]<;>(try omega));exact⟨rfl,by omega⟩),by omega,by omega⟩
 ·rw[show p=xs.length-1 by omega]
 ·exact h0
def kp157:List (Nat×List Nat):=[(0,[1,2]),(1,[1,2,19]),(2,[4]),(3,[2,20,21,22]),(4,[2,20,21,22,23]),(5,[2,5,6,20,21,22]),(6,[2,6,20,21,22,45]),(7,[4]),(8,[2,20,21,22,47,48,49]),(9,[2,20,21,22,47,48,49,50]),(10,[2,8,20,21,22,47,48,49]),(11,[2,20,21,22,47,48,49,58]),(12,[4]),(13,[2,20,21,22,47,48,49]),(14,[2,20,21,22]),(15,[4])]
attribute [go_sem] kp157
theorem implPolysOk_fc (rs:List Int) (ps:List PolyT):FC S 157 [] [] [] [.agg [.sl .any (rs.map (.int .i64))],.sl .any (ps.map PolyD)] (.bool (tst (PolysOkP rs ps))) [] []:=by
 refine fc_body Tryz.func157 rfl (by kernel_rfl) (by simp[Tryz.f157]) fun B=>?_
 simp only[Tryz.ntmps157,enumD,lst0,Nat.reduceAdd]
 refine sw_bnd 1 rfl fun hb1=>?_
 simp only[D.bnd,List.length_map] at hb1
 repeat' first|refine sw_seq ?_|refine sw_block ?_|refine sw_skip ?_|refine sw_go 0 kp157 fun K hK=>?_|((first|refine runL_go ?_|refine runQ_go ?_|refine sw_ret (ret0 ?_)|refine sw_ret ?_);simp (disch:=(refine Om.mk ?_;omega)) only[go_sem,Tryz.results157])|(refine hK.nil ?_;clear hK K;simp only[go_sem])|((first|refine runG_fork rfl rfl rfl rfl rfl ?_ ?_|refine runQG_fork rfl rfl rfl rfl rfl ?_ ?_|refine sw_cond rfl ?_ ?_)<;>intro h<;>try simp (disch:=(refine Om.mk ?_;omega)) only[go_sem] at h)|refine hK.c0 rfl rfl rfl (implSigOk_fc _ _) rfl rfl rfl ?_|fail
 ·exact fun h=>absurd h.1.1 (by assumption)
 ·exact fun h=>absurd h.1.2 (by omega)
 refine sw_loopU (ι:=Nat) (fun i=>[(22,.int .i64 i)]) (fun _=>[]) (fun i=>i≤ps.length∧(∀j<i,PolyOkP (rs.getD j default) (ps.getD j default))) (fun i=>ps.length-i) 0 (by(refine covers_mk0 rfl rfl ?_ ?_ ?_ ?_<;>simp (disch:=(refine Om.mk ?_;omega)) only[go_sem]<;>(try omega))) ⟨by omega,?_⟩ (fun i ⟨hi,hj⟩=>?_)
 rotate_left
 simp only[go_sem]
 have hsg:=(by assumption:SigOkP rs)
 have hla:i<ps.length→rs.getD i default≤3:=fun h=>(hsg.2 i (by omega)).2
 repeat' first|refine sw_seq ?_|refine sw_block ?_|refine sw_skip ?_|refine sw_go 0 kp157 fun K hK=>?_|refine sw_goD kp157 (by kernel_rfl) fun K hK=>?_|((first|refine runL_go ?_|refine runQ_go ?_|refine sw_ret (ret0 ?_)|refine sw_ret ?_);simp (disch:=(refine Om.mk ?_;omega)) only[go_sem,Tryz.results157])|(refine hK.nil ?_;clear hK K;simp only[go_sem])|((first|refine runG_fork rfl rfl rfl rfl rfl ?_ ?_|refine runQG_fork rfl rfl rfl rfl rfl ?_ ?_|refine sw_cond rfl ?_ ?_)<;>intro h<;>try simp (disch:=(refine Om.mk ?_;omega)) only[go_sem] at h)|refine sw_exit rfl ?_|(with_reducible refine And.intro (by first|omega|(simp only[lens];omega)) ?_)|fail
 ·exact fun hp=>absurd (hp.2 i (by omega)).1 (by omega)
 ·exact fun hp=>absurd (hp.2 i (by omega)).1 (by omega)
 ·exact fun hp=>absurd (hp.2 i (by omega)).1 (by omega)
 ·have hla:=hla (by omega)
  refine sw_loopT (ι:=Nat) (fun k=>[(49,.int .i64 k)]) (fun _=>[]) (fun _=>[]) (fun k=>k≤(ps.getD i default).coef.length∧∀j<k,0≤(ps.getD i default).coef.getD j default∧(ps.getD i default).coef.getD j default≤9) (fun k=>(ps.getD i default).coef.length-k) 0 (by(refine covers_mk0 rfl rfl ?_ ?_ ?_ ?_<;>simp (disch:=(refine Om.mk ?_;omega)) only[go_sem]<;>(try omega))) ⟨by omega,fun j hj=>absurd hj (by omega)⟩ (fun k hk=>?_)
  obtain⟨hk,hk1⟩:=hk
  simp only[go_sem]
  repeat' first|refine sw_seq ?_|refine sw_block ?_|refine sw_inBlock ?_|refine sw_skip ?_|refine sw_go 0 kp157 fun K hK=>?_|((first|refine runL_go ?_|refine runQ_go ?_|refine sw_ret (ret0 ?_)|refine sw_ret ?_);simp (disch:=(refine Om.mk ?_;omega)) only[go_sem,Tryz.results157])|(refine hK.nil ?_;clear hK K;simp only[go_sem])|((first|refine runG_fork rfl rfl rfl rfl rfl ?_ ?_|refine runQG_fork rfl rfl rfl rfl rfl ?_ ?_|refine sw_cond rfl ?_ ?_)<;>intro h<;>try simp (disch:=(refine Om.mk ?_;omega)) only[go_sem] at h)|refine sw_exit rfl ?_|refine sw_loopEnd ?_|(with_reducible refine And.intro (by first|omega|(simp only[lens];omega)) ?_)|fail
  ·exact fun hp=>absurd ((hp.2 i (by omega)).2 _ (getD_mem _ k (by omega))) (by omega)
  ·exact fun hp=>absurd ((hp.2 i (by omega)).2 _ (getD_mem _ k (by omega))) (by omega)
  ·exact⟨k+1,(by(refine covers_mk0 rfl rfl ?_ ?_ ?_ ?_<;>simp (disch:=(refine Om.mk ?_;omega)) only[go_sem]<;>(try omega))),⟨by omega,upto_succ hk1 ⟨by omega,by omega⟩⟩,by omega⟩
  ·exact⟨i+1,(by(refine covers_mk0 rfl rfl ?_ ?_ ?_ ?_<;>simp (disch:=(refine Om.mk ?_;omega)) only[go_sem]<;>(try omega))),⟨by omega,upto_succ hj ⟨⟨by omega,by omega,by omega⟩,all_getD (P:=fun x=>0≤x∧x≤9) fun j hj'=>hk1 j (by omega)⟩⟩,by omega⟩
 ·exact⟨⟨by assumption,by omega⟩,fun j hj'=>hj j (by omega)⟩
 ·intro j hj';omega
def kp158:List (Nat×List Nat):=[(0,[1,2]),(1,[1,2,9]),(2,[4]),(3,[4])]
attribute [go_sem] kp158
theorem lineAt_fc (p:PolyT) (i:Nat):FC S 158 [] [] [] [PolyD p,.int .i64 i] (.int .i64 (p.coef.getD i default)) [] []:=by
 have hz:=fun h=>addJ_past [] p.coef 0 (j:=i) h
 refine fc_body Tryz.func158 rfl (by kernel_rfl) (by simp[Tryz.f158]) fun B=>?_
 simp only[Tryz.ntmps158,enumD,lst0,Nat.reduceAdd]
 refine sw_bnd_agg 0 1 rfl rfl fun hb0_1=>?_
 simp only[D.bnd,List.length_map] at hb0_1
 repeat' first|refine sw_seq ?_|refine sw_skip ?_|refine sw_go 0 kp158 fun K hK=>?_|((first|refine runL_go ?_|refine sw_ret (ret0 ?_)|refine sw_ret ?_);simp (disch:=(refine Om.mk ?_;omega)) only[go_sem,Tryz.results158])|(refine hK.nil ?_;clear hK K;simp only[go_sem])|((first|refine sw_cond rfl ?_ ?_)<;>intro h<;>try simp (disch:=(refine Om.mk ?_;omega)) only[go_sem] at h)|(with_reducible refine And.intro (by first|omega|(simp only[lens];omega)) ?_)|fail
 exact(hz (by omega)).symm
def kp145:List (Nat×List Nat):=[(0,[1,2]),(1,[4])]
attribute [go_sem] kp145
theorem coef_fc (p:PolyT) (i:Nat):FC S 145 [] [] [] [PolyD p,.int .i64 i] (.int .i64 (p.coef.getD i default)) [] []:=by
 refine fc_body Tryz.func145 rfl (by kernel_rfl) (by simp[Tryz.f145]) fun B=>?_
 simp only[Tryz.ntmps145,enumD,lst0,Nat.reduceAdd]
 repeat' first|refine sw_seq ?_|refine sw_go 0 kp145 fun K hK=>?_|((first|refine runL_go ?_|refine sw_ret (ret0 ?_)|refine sw_ret ?_);simp (disch:=(refine Om.mk ?_;omega)) only[go_sem,Tryz.results145])|(refine hK.nil ?_;clear hK K;simp only[go_sem])|refine hK.c0 rfl rfl rfl (lineAt_fc p i) rfl rfl rfl ?_|fail
open Classical in
noncomputable def mostR (a b:PolyT):Bool×Bool:=if MostP a b then (tst (a.const≤b.const),tst (a.const<b.const)) else (false,false)
theorem mostR_yes {a b:PolyT} (h:MostP a b):mostR a b=(tst (a.const≤b.const),tst (a.const<b.const)):=if_pos h
theorem mostR_no {a b:PolyT} (h:¬MostP a b):mostR a b=(false,false):=if_neg h
def kp125:List (Nat×List Nat):=[(0,[2,3]),(1,[2,3,9,10,11]),(2,[2,3,9,10,11,12]),(3,[2,3,6,7,9,10,11]),(4,[2,3,9,10,11,20]),(5,[4,5]),(6,[2,3,9,10,11]),(7,[4,5])]
attribute [go_sem] kp125
theorem atMost_fc (a b:PolyT):FC S 125 [] [] [] [PolyD a,PolyD b] (.tup [.bool (mostR a b).1,.bool (mostR a b).2]) [] []:=by
 refine fc_body Tryz.func125 rfl (by kernel_rfl) (by simp[Tryz.f125]) fun B=>?_
 simp only[Tryz.ntmps125,enumD,lst0,Nat.reduceAdd]
 refine sw_bnd_agg 0 1 rfl rfl fun hb0_1=>?_
 simp only[D.bnd,List.length_map] at hb0_1
 repeat' first|refine sw_seq ?_|refine sw_block ?_|refine sw_go 0 kp125 fun K hK=>?_|((first|refine runL_go ?_|refine runQ_go ?_|refine sw_ret (ret0 ?_)|refine sw_ret ?_);simp (disch:=(refine Om.mk ?_;omega)) only[go_sem,Tryz.results125])|(refine hK.nil ?_;clear hK K;simp only[go_sem])|fail
 refine sw_loopU (ι:=Nat) (fun i=>[(11,.int .i64 i)]) (fun _=>[]) (fun i=>i≤a.coef.length∧(∀j<i,a.coef.getD j default≤b.coef.getD j default)) (fun i=>a.coef.length-i) 0 (by(refine covers_mk0 rfl rfl ?_ ?_ ?_ ?_<;>simp (disch:=(refine Om.mk ?_;omega)) only[go_sem]<;>(try omega))) ⟨by omega,?_⟩ (fun i ⟨hi,hj⟩=>?_)
 rotate_left
 simp only[go_sem]
 repeat' first|refine sw_seq ?_|refine sw_block ?_|refine sw_inBlock ?_|refine sw_skip ?_|refine sw_go 0 kp125 fun K hK=>?_|refine sw_goD kp125 (by kernel_rfl) fun K hK=>?_|((first|refine runL_go ?_|refine runQ_go ?_|refine sw_ret (ret0 ?_)|refine sw_ret ?_);simp (disch:=(refine Om.mk ?_;omega)) only[go_sem,Tryz.results125])|(refine hK.nil ?_;clear hK K;simp only[go_sem])|((first|refine sw_cond rfl ?_ ?_)<;>intro h<;>try simp (disch:=(refine Om.mk ?_;omega)) only[go_sem] at h)|refine sw_exit rfl ?_|refine sw_loopEnd ?_|refine hK.c0 rfl rfl rfl (coef_fc b i) rfl rfl rfl ?_|(with_reducible refine And.intro (by first|omega|(simp only[lens];omega)) ?_)|fail
 ·rw[mostR_no fun hm=>absurd (hm i (by omega)) (by omega)]
  exact⟨rfl,rfl⟩
 ·exact⟨i+1,(by(refine covers_mk0 rfl rfl ?_ ?_ ?_ ?_<;>simp (disch:=(refine Om.mk ?_;omega)) only[go_sem]<;>(try omega))),⟨by omega,upto_succ hj (by omega)⟩,by omega⟩
 ·rw[mostR_yes fun j hj'=>hj j (by omega)]
  exact⟨decide_tst _,decide_tst _⟩
 ·intro j hj';omega
attribute [local go_sem] flat_zeros idsL_intsF
def kp163:List (Nat×List Nat):=[(0,[0,2]),(1,[0,2,3]),(2,[2,3]),(3,[2])]
attribute [go_sem] kp163
theorem varForm_fc (n:Int) (h0:n<0) (h1:-24≤n):FC S 163 [] [] [] [.int .i64 n] (PolyD (varF n)) [] []:=by
 refine fc_body Tryz.func163 rfl (by kernel_rfl) (by simp[Tryz.f163]) fun B=>?_
 simp only[Tryz.ntmps163,enumD,lst0,Nat.reduceAdd]
 repeat' first|((refine⟨by rw[List.length_replicate];omega,?_⟩))|((refine sw_hold (id:=3) ?_))|refine sw_seq ?_|refine sw_go 0 kp163 fun K hK=>?_|((first|refine runL_go ?_|refine sw_ret (ret0 ?_)|refine sw_ret ?_);simp (disch:=(refine Om.mk ?_;omega)) only[go_sem,Tryz.results163])|(refine hK.nil ?_;clear hK K;simp only[go_sem])|(with_reducible refine And.intro (by first|omega|(simp only[lens];omega)) ?_)|fail
 refine HoldP.go ?_
 refine sw_freeze 3 1 .any ((varF n).coef.map (.int .i64)) rfl rfl (by rw[flat_ints];unfold varF;rw[Int.zero_sub]) (by simp[varF]) (fun x hx=>by obtain⟨y,_,rfl⟩:=List.mem_map.1 hx;rfl) (fun d hd=>by obtain⟨y,_,rfl⟩:=List.mem_map.1 hd;rfl) (.inl rfl) ?_
 simp only[go_sem]
 repeat' first|refine sw_go 0 kp163 fun K hK=>?_|((first|refine runL_go ?_|refine sw_ret (ret0 ?_)|refine sw_ret ?_);simp (disch:=(refine Om.mk ?_;omega)) only[go_sem,Tryz.results163])|(refine hK.nil ?_;clear hK K;simp only[go_sem])|fail
 all_goals rfl
def PolyLb (a:PolyT):D:=.agg [.int .i64 a.const,.sl (.lab [1]) (a.coef.map (.int .i64))]
attribute [local go_sem] PolyLb
theorem sto_polyL {k:Nat} {e:TypeId} {tk:List Nat} {ys zs:List Int} (qs:List PolyT):StO k e tk ys zs (.sl (.lab [1]) (qs.map PolyLb)) (.sl (.lab [1]) (qs.map PolyLb)):=by
 refine sto_plain ?_
 show D.safeIL k tk (qs.map PolyLb)=true
 refine safeIL_of fun d hd=>?_
 obtain⟨a,_,rfl⟩:=List.mem_map.1 hd
 simp[PolyLb,D.safeI,D.safeIL,safeIL_ints]
theorem addJ_zero (cs ds:List Int) (c:Int):addJ cs ds c 0=cs++List.replicate (ds.length-cs.length) 0:=rfl
theorem addJ_succ (cs ds:List Int) (c:Int) (j:Nat):addJ cs ds c (j+1)=(addJ cs ds c j).set j ((addJ cs ds c j).getD j default+c*ds.getD j default):=rfl
end Go.Proofs.YtpennhjjnlkbiaaGreat
end
section
namespace Go.Proofs.YtpennhjjnlkbiaaGreat
open Go Go.Lg
set_option linter.unusedSimpArgs false
set_option linter.unusedVariables false
set_option maxHeartbeats 4000000
attribute [local irreducible] SW runL runQ runG runQG FC Ret1 toF redoL anyB addJ sumF
attribute [local go_sem] PolyLb
def kp164:List (Nat×List Nat):=[(0,[1,2,4]),(1,[1,2,4,6]),(2,[2,4,6,14,15,16]),(3,[2,4,6,14,15,16,17]),(4,[2,4,6,7,8,14,15,16]),(5,[2,4,6,7,8,14,15,16]),(6,[2,4,6,7,8,14,15,16,39]),(7,[2,4,6,7,8,14,15,16]),(8,[2,4,6,7,14,15,16,46,47,48]),(9,[2,4,6,7,14,15,16,46,47,48,49]),(10,[2,4,6,7,9,10,14,15,16,46,47,48]),(11,[2,4,6,7,14,15,16,46,47,48]),(12,[2,4,6,7,14,15,16,46,47,48]),(13,[2,4,6,14,15,16]),(14,[4,6,83]),(15,[4,5]),(16,[4,5])]
attribute [go_sem] kp164
theorem appliedL_fc (p:PolyT) (qs:List PolyT) (hp:PolyOkP qs.length p) (hn:qs.length≤3) (hA:∀j<qs.length,GoodB MF (qs.getD j default)):FC S 164 [] [] [] [.agg [.int .i64 p.const,.sl (.lab [1]) (p.coef.map (.int .i64))],.sl (.lab [1]) (qs.map PolyLb)] (.tup [PolyD (appF1 (fun j=>(qs.getD j default,true)) p qs.length).1,.bool (appF1 (fun j=>(qs.getD j default,true)) p qs.length).2]) [] []:=by
 have hpl:=hp.1
 have hz:sumF (fun j=>(qs.getD j default,true)) p 0=⟨p.const,[]⟩:=by unfold sumF;rfl
 have hs:∀i,sumF (fun j=>(qs.getD j default,true)) p (i+1)=addF (sumF (fun j=>(qs.getD j default,true)) p i) (qs.getD i default) (p.coef.getD i default):=fun i=>by conv=>lhs;unfold sumF
 have hgood:=fun i (hi:i≤qs.length)=>good_le (good_sum (F:=fun j=>(qs.getD j default,true)) hp i fun j hj=>hA j (by omega)) (show (9+9*MF*(i:Int))≤100*MF by simp only[MF];omega)
 unfold appF1
 generalize sumF (fun j=>(qs.getD j default,true)) p=F at *
 refine fc_bodyF Tryz.func164 rfl (by kernel_rfl) (by simp[Tryz.f164]) fun B N hOff=>?_
 simp only[Tryz.ntmps164,enumD,lst0,Nat.reduceAdd]
 repeat' first|refine sw_seq ?_|refine sw_block ?_|refine sw_go 0 kp164 fun K hK=>?_|((first|refine runL_go ?_|refine runQ_go ?_|refine sw_ret (ret0 ?_)|refine sw_ret ?_);simp (disch:=(refine Om.mk ?_;omega)) only[go_sem,Tryz.results164])|(refine hK.nil ?_;clear hK K;simp only[go_sem])|fail
 refine sw_tokBox 6 1 44000 2 1 rfl rfl rfl ?_
 simp only[go_sem]
 refine sw_loopT (ι:=Nat) (fun i=>[(16,.int .i64 i)]) (fun i=>[(6,[.int .i64 (F i).const,.sl (.own 44000 2 1) ((F i).coef.map (.int .i64))])]) (fun _=>[44000]) (fun i=>i≤qs.length) (fun i=>qs.length-i) 0 (by rw[hz];(refine covers_mk0 rfl rfl ?_ ?_ ?_ ?_<;>simp (disch:=(refine Om.mk ?_;omega)) only[go_sem]<;>(try omega))) (by omega) (fun i hi=>?_)
 simp only[go_sem]
 have hci:=coef_get hp i
 have hgo:=hgood i hi
 have hlo:=hgo.2.2
 have hco:=hgo.1
 simp only[MF] at hco
 by_cases hil:i<qs.length
 ·have ha:=hA i hil
  have hla:=ha.2.2
  have hs1:=hs i
  have hm:0≤p.coef.getD i default*(qs.getD i default).const∧p.coef.getD i default*(qs.getD i default).const≤9*MF:=⟨Int.mul_nonneg hci.1 ha.1.1,Int.mul_le_mul hci.2 ha.1.2 ha.1.1 (by omega)⟩
  simp only[MF] at hm
  repeat' first|((exfalso;omega))|refine sw_seq ?_|refine sw_block ?_|refine sw_skip ?_|refine sw_go 0 kp164 fun K hK=>?_|refine sw_goT 0 kp164 12 (id:=5) (by kernel_rfl) fun K hK=>?_|refine fun (K:KT) (hK:KOk S 0 _ _ _ K)=>?_|((first|refine runL_go ?_|refine runQ_go ?_|refine sw_ret (ret0 ?_)|refine sw_ret ?_);simp (disch:=(refine Om.mk ?_;omega)) only[go_sem,Tryz.results164])|(refine hK.nil ?_;clear hK K;simp only[go_sem])|((first|refine runG_fork rfl rfl rfl rfl rfl ?_ ?_|refine runQG_fork rfl rfl rfl rfl rfl ?_ ?_|refine sw_cond rfl ?_ ?_)<;>intro h<;>try simp (disch:=(refine Om.mk ?_;omega)) only[go_sem] at h)|(with_reducible refine And.intro (by first|omega|(simp only[lens];omega)) ?_)|fail
  generalize ho:F i=o at *
  refine sw_loopT (ι:=Nat) (fun _=>[]) (fun j=>[(6,[.int .i64 (o.const+p.coef.getD i default*(qs.getD i default).const),.sl (.own 44000 2 1) ((o.coef++List.replicate j 0).map (.int .i64))])]) (fun _=>[44000]) (fun j=>j≤(qs.getD i default).coef.length-o.coef.length) (fun j=>(qs.getD i default).coef.length-o.coef.length-j) 0 (by rw[List.replicate_zero,List.append_nil];(refine covers_mk0 rfl rfl ?_ ?_ ?_ ?_<;>simp (disch:=(refine Om.mk ?_;omega)) only[go_sem]<;>(try omega))) (by omega) (fun j hj=>?_)
  simp only[go_sem]
  have hjl:(o.coef++List.replicate j (0:Int)).length=o.coef.length+j:=by simp
  have hjs:o.coef++List.replicate (j+1) (0:Int)=(o.coef++List.replicate j 0)++[0]:=by rw[List.replicate_succ',List.append_assoc]
  repeat' first|refine sw_seq ?_|refine sw_block ?_|refine sw_inBlock ?_|refine sw_skip ?_|refine sw_go 0 kp164 fun K hK=>?_|((first|refine runL_go ?_|refine runQ_go ?_|refine sw_ret (ret0 ?_)|refine sw_ret ?_);simp (disch:=(refine Om.mk ?_;omega)) only[go_sem,Tryz.results164])|(refine hK.nil ?_;clear hK K;simp only[go_sem])|((first|refine runG_fork rfl rfl rfl rfl rfl ?_ ?_|refine runQG_fork rfl rfl rfl rfl rfl ?_ ?_|refine sw_cond rfl ?_ ?_)<;>intro h<;>try simp (disch:=(refine Om.mk ?_;omega)) only[go_sem] at h)|refine sw_exit rfl ?_|refine sw_loopEnd ?_|(with_reducible refine And.intro (by first|omega|(simp only[lens];omega)) ?_)|((with_reducible refine And.intro ?_ ?_);· first|(intro x hx;subst hx;rfl)|(intro x;refine And.intro ?_ ?_<;>(intros;subst_vars;rfl)))|fail
  ·exact⟨j+1,(by rw[hjs];(refine covers_mk0 rfl rfl ?_ ?_ ?_ ?_<;>simp (disch:=(refine Om.mk ?_;omega)) only[go_sem]<;>(try omega))),by omega,by omega⟩
  ·rw[show j=(qs.getD i default).coef.length-o.coef.length by omega,←addJ_zero o.coef (qs.getD i default).coef (p.coef.getD i default)]
   refine sw_loopT (ι:=Nat) (fun v=>[(48,.int .i64 v)]) (fun v=>[(6,[.int .i64 (o.const+p.coef.getD i default*(qs.getD i default).const),.sl (.own 44000 2 1) ((addJ o.coef (qs.getD i default).coef (p.coef.getD i default) v).map (.int .i64))])]) (fun _=>[44000]) (fun v=>v≤(qs.getD i default).coef.length) (fun v=>(qs.getD i default).coef.length-v) 0 (by(refine covers_mk0 rfl rfl ?_ ?_ ?_ ?_<;>simp (disch:=(refine Om.mk ?_;omega)) only[go_sem]<;>(try omega))) (by omega) (fun v hv=>?_)
   simp only[go_sem]
   have hbv:=mem_getD (P:=fun x=>0≤x∧x≤MF) ⟨Int.le_refl _,by decide⟩ ha.2.1 v
   have hav:=mem_getD (P:=fun x=>0≤x∧x≤100*MF) ⟨Int.le_refl _,by decide⟩ hgo.2.1 v
   have hmv:0≤p.coef.getD i default*(qs.getD i default).coef.getD v default∧p.coef.getD i default*(qs.getD i default).coef.getD v default≤9*MF:=⟨Int.mul_nonneg hci.1 hbv.1,Int.mul_le_mul hci.2 hbv.2 hbv.1 (by omega)⟩
   have hLv:(addJ o.coef (qs.getD i default).coef (p.coef.getD i default) v).getD v default=o.coef.getD v default:=by rw[addJ_get _ _ _ _ hv,if_neg (by omega),Int.add_zero]
   have hLl:=addJ_len o.coef (qs.getD i default).coef (p.coef.getD i default) v
   have hLs:=addJ_succ o.coef (qs.getD i default).coef (p.coef.getD i default) v
   simp only[MF] at hav hmv
   repeat' first|((refine sw_goTW kp164 13 (id:=11) (by kernel_rfl) fun K hK=>?_))|refine sw_seq ?_|refine sw_block ?_|refine sw_inBlock ?_|refine sw_skip ?_|refine sw_go 0 kp164 fun K hK=>?_|((first|refine runL_go ?_|refine runQ_go ?_|refine sw_ret (ret0 ?_)|refine sw_ret ?_);simp (disch:=(refine Om.mk ?_;omega)) only[go_sem,Tryz.results164])|(refine hK.nil ?_;clear hK K;simp only[go_sem])|((first|refine runG_fork rfl rfl rfl rfl rfl ?_ ?_|refine runQG_fork rfl rfl rfl rfl rfl ?_ ?_|refine sw_cond rfl ?_ ?_)<;>intro h<;>try simp (disch:=(refine Om.mk ?_;omega)) only[go_sem] at h)|refine sw_exit rfl ?_|refine sw_loopEnd ?_|(with_reducible refine And.intro (by first|omega|(simp only[lens];omega)) ?_)|fail
   ·refine LopsW.storeOwnL [(2,.box 2 0),(4,.box 4 0),(6,.box 6 0),(7,.int .i64 i),(14,.sl (.lab [1]) (qs.map PolyLb)),(15,.int .i64 qs.length),(16,.int .i64 i),(46,.sl (.lab [1]) ((qs.getD i default).coef.map (.int .i64))),(47,.int .i64 (qs.getD i default).coef.length),(48,.int .i64 v)] [(2,[.int .i64 p.const,.sl (.lab [1]) (p.coef.map (.int .i64))]),(4,[.int .i64 0,.sl .nil []]),(6,[.int .i64 (o.const+p.coef.getD i default*(qs.getD i default).const),.sl (.own 44000 2 1) (((addJ o.coef (qs.getD i default).coef (p.coef.getD i default) v).set v ((addJ o.coef (qs.getD i default).coef (p.coef.getD i default) v).getD v default+p.coef.getD i default*(qs.getD i default).coef.getD v default)).map (.int .i64))]),(8,[.int .i64 (qs.getD i default).const,.sl (.lab [1]) ((qs.getD i default).coef.map (.int .i64))])] hOff.1 rfl rfl rfl rfl rfl rfl rfl (fun _=>rfl) (by simp) ⟨by omega,by omega⟩ (by simp only[Nat.reduceLT]) ⟨⟨by decide,_,rfl,sto_plain rfl⟩,⟨by decide,_,rfl,sto_plain rfl⟩,⟨by decide,_,rfl,sto_plain rfl⟩,⟨by decide,_,rfl,sto_plain rfl⟩,⟨by decide,_,rfl,sto_polyL qs⟩,⟨by decide,_,rfl,sto_plain rfl⟩,⟨by decide,_,rfl,sto_plain rfl⟩,⟨by decide,_,rfl,sto_lab _ _ _⟩,⟨by decide,_,rfl,sto_plain rfl⟩,⟨by decide,_,rfl,sto_plain rfl⟩,trivial⟩ ⟨⟨_,rfl,sto_plain rfl,sto_lab _ _ _,trivial⟩,⟨_,rfl,sto_plain rfl,sto_plain rfl,trivial⟩,⟨_,rfl,sto_plain rfl,sto_own,trivial⟩,⟨_,rfl,sto_plain rfl,sto_lab _ _ _,trivial⟩,trivial⟩ ?_
    refine LopsW.nil ?_
    rw[←hLs]
    simp only[go_sem]
    repeat' first|refine sw_inBlock ?_|refine sw_go 0 kp164 fun K hK=>?_|((first|refine runL_go ?_|refine runQ_go ?_|refine sw_ret (ret0 ?_)|refine sw_ret ?_);simp (disch:=(refine Om.mk ?_;omega)) only[go_sem,Tryz.results164])|(refine hK.nil ?_;clear hK K;simp only[go_sem])|refine sw_loopEnd ?_|fail
    exact⟨v+1,(by(refine covers_mk0 rfl rfl ?_ ?_ ?_ ?_<;>simp (disch:=(refine Om.mk ?_;omega)) only[go_sem]<;>(try omega))),by omega,by omega⟩
   ·have e1:(addF o (qs.getD i default) (p.coef.getD i default)).const=o.const+p.coef.getD i default*(qs.getD i default).const:=rfl
    have e2:(addF o (qs.getD i default) (p.coef.getD i default)).coef=addJ o.coef (qs.getD i default).coef (p.coef.getD i default) (qs.getD i default).coef.length:=rfl
    exact⟨i+1,(by rw[hs1,e1,e2,show v=(qs.getD i default).coef.length by omega];(refine covers_mk0 rfl rfl ?_ ?_ ?_ ?_<;>simp (disch:=(refine Om.mk ?_;omega)) only[go_sem]<;>(try omega))),by omega,by omega⟩
 ·obtain rfl:i=qs.length:=by omega
  rcases Classical.em (okF (F qs.length)) with hok|hok
  ·rw[if_pos ⟨(fun _ _=>rfl),hok⟩]
   have h1:=hok.1
   have h2:=hok.2
   simp only[MF] at h2
   repeat' first|((exfalso;omega))|refine sw_seq ?_|refine sw_skip ?_|refine sw_go 0 kp164 fun K hK=>?_|((first|refine runL_go ?_|refine runQ_go ?_|refine sw_ret (ret0 ?_)|refine sw_ret ?_);simp (disch:=(refine Om.mk ?_;omega)) only[go_sem,Tryz.results164])|(refine hK.nil ?_;clear hK K;simp only[go_sem])|((first|refine runG_fork rfl rfl rfl rfl rfl ?_ ?_|refine runQG_fork rfl rfl rfl rfl rfl ?_ ?_|refine sw_cond rfl ?_ ?_)<;>intro h<;>try simp (disch:=(refine Om.mk ?_;omega)) only[go_sem] at h)|refine hK.skp rfl rfl ?_|refine sw_exit rfl ?_|refine hK.c0 rfl rfl rfl (max_fc _ (F qs.length).coef (by omega)) rfl rfl rfl ?_|fail
   exact absurd ((maxAt_all (c:=MF) (by omega)).2 h1) (by simp only[MF];omega)
  ·rw[if_neg fun e=>hok e.2]
   repeat' first|((exfalso;omega))|refine sw_seq ?_|refine sw_skip ?_|refine sw_go 0 kp164 fun K hK=>?_|((first|refine runL_go ?_|refine runQ_go ?_|refine sw_ret (ret0 ?_)|refine sw_ret ?_);simp (disch:=(refine Om.mk ?_;omega)) only[go_sem,Tryz.results164])|(refine hK.nil ?_;clear hK K;simp only[go_sem])|((first|refine runG_fork rfl rfl rfl rfl rfl ?_ ?_|refine runQG_fork rfl rfl rfl rfl rfl ?_ ?_|refine sw_cond rfl ?_ ?_)<;>intro h<;>try simp (disch:=(refine Om.mk ?_;omega)) only[go_sem] at h)|refine hK.skp rfl rfl ?_|refine sw_exit rfl ?_|refine hK.c0 rfl rfl rfl (max_fc _ (F qs.length).coef (by omega)) rfl rfl rfl ?_|fail
   ·exact⟨rfl,rfl⟩
   ·exact⟨rfl,rfl⟩
   ·exact absurd (show okF (F qs.length) from⟨(maxAt_all (c:=MF) (by omega)).1 (by simp only[MF];omega),by simp only[MF];omega⟩) hok
   ·exact absurd (show okF (F qs.length) from⟨fun x hx=>by have:=List.length_pos_of_mem hx;omega,by simp only[MF];omega⟩) hok
theorem applied_fc (p:PolyT) (qs:List PolyT) (hp:PolyOkP qs.length p) (hn:qs.length≤3) (hA:∀j<qs.length,GoodB MF (qs.getD j default)):FC S 164 [] [] [] [PolyD p,.sl .any (qs.map PolyD)] (.tup [PolyD (appF1 (fun j=>(qs.getD j default,true)) p qs.length).1,.bool (appF1 (fun j=>(qs.getD j default,true)) p qs.length).2]) [] []:=by
 refine fc_old [1] (by simp) ?_ ?_ ?_
 ·have h:∀q:PolyT,(PolyD q).okLb=true:=fun q=>by simp[PolyD,D.okLb,D.okLbL,okLbL_map (f:=fun x=>D.int .i64 x) fun _=>rfl]
  simp[h,D.okLb,D.okLbL,okLbL_map (f:=PolyD) h]
 ·simp[PolyD,D.noLb,D.noLbL,noLbL_map (f:=fun x=>D.int .i64 x) fun _=>rfl]
 ·have h:∀q:PolyT,(PolyD q).lb [1]=PolyLb q:=fun q=>by simp only[PolyD,PolyLb,D.lbL,D.lb,lbL_ints]
  simp only[D.lbL,D.lb,lbL_mapf,h]
  exact appliedL_fc p qs hp hn hA
end Go.Proofs.YtpennhjjnlkbiaaGreat
end
section
namespace Go.Proofs.YtpennhjjnlkbiaaGreat
open Go Go.Lg
set_option linter.unusedSimpArgs false
set_option linter.unusedVariables false
abbrev Bnd:=List (List Int)
def vx (n:Int):Nat:=(-1-n).toNat
def linM (rs t:List Int):List Int→Nat→Bnd→Bnd×Bool
 | [],_,g=>(g,true)
 | n::p,a,g=>if t.length≤a then (g,false) else if 0≤n then (if t.getD a default=n then linM rs t p (a+1) g else (g,false))
   else if g.getD (vx n) default=[] then linM rs t p (a+(subS rs t a).length) (g.set (vx n) (subS rs t a))
   else if g.getD (vx n) default=subS rs t a then linM rs t p (a+(subS rs t a).length) g else (g,false)
theorem linM_len (rs t:List Int):∀(p:List Int) (a:Nat) (g:Bnd),(linM rs t p a g).1.length=g.length
 | [],_,_=>rfl
 | n::p,a,g=>by
  have h1:=linM_len rs t p (a+1) g
  have h2:=linM_len rs t p (a+(subS rs t a).length) (g.set (vx n) (subS rs t a))
  have h3:=linM_len rs t p (a+(subS rs t a).length) g
  rw[List.length_set] at h2
  simp only[linM]
  split
  ·rfl
  ·split
   ·split
    ·exact h1
    ·rfl
   ·split
    ·exact h2
    ·split
     ·exact h3
     ·rfl
def G0:Bnd:=List.replicate 24 []
end Go.Proofs.YtpennhjjnlkbiaaGreat
end
section
namespace Go.Proofs.YtpennhjjnlkbiaaGreat
open Go Go.Lg
set_option linter.unusedSimpArgs false
set_option linter.unusedVariables false
set_option maxHeartbeats 4000000
attribute [local irreducible] SW runL runQ runG runQG FC Ret1
def tkN (u:List Int):Tk:=if u=[] then .nil else .any
def optD (u:List Int):D:=.sl (tkN u) (u.map (.int .i64))
attribute [go_sem] optD
theorem nilY_tkN (u:List Int) (K:D→Prop):nilY .eql (tkN u) (u.map (.int .i64)) K=K (.bool (tst (u=[]))):=by
 unfold tkN
 by_cases h:u=[]
 ·subst h;simp[nilY,tst]
 ·rw[if_neg h,tst_false h]
  simp[nilY,h]
theorem take_full {α:Type} (xs:List α) (n:Nat) (h:Om (xs.length≤n)):xs.take n=xs:=List.take_of_length_le h.out
theorem putC_full (cs new:List D) (h:Om (cs.length=new.length)):putC cs 0 new=new:=by
 have h:=h.out
 unfold putC
 split
 ·match cs,h with
  | [c],_=>rfl
 ·unfold putCells
  rw[List.take_zero,List.nil_append,Nat.zero_add,←h,List.drop_length,List.append_nil]
theorem idsL_opt (g:List (List Int)):D.idsL (g.map optD)=[]:=by
 induction g with
 | nil=>rfl
 | cons u g ih=>simp[D.idsL,optD,D.ids];exact ih
theorem tksL_opt (g:List (List Int)):D.tksL (g.map optD)=[]:=by
 induction g with
 | nil=>rfl
 | cons u g ih =>
  simp only[List.map_cons,D.tksL,ih,optD,tkN]
  split<;>rfl
theorem all_opt (g:List (List Int)):(g.map optD).all D.one=true:=by
 rw[List.all_eq_true]
 intro d hd
 obtain⟨u,_,rfl⟩:=List.mem_map.1 hd
 rfl
attribute [local go_sem] idsL_opt tksL_opt nilY_tkN take_full all_opt linM_len
theorem putC_opt (g:List (List Int)) (h:Om (g.length=24)):putC [D.sl .nil [],D.sl .nil [],D.sl .nil [],D.sl .nil [],D.sl .nil [],D.sl .nil [],D.sl .nil [],D.sl .nil [],D.sl .nil [],D.sl .nil [],D.sl .nil [],D.sl .nil [],D.sl .nil [],D.sl .nil [],D.sl .nil [],D.sl .nil [],D.sl .nil [],D.sl .nil [],D.sl .nil [],D.sl .nil [],D.sl .nil [],D.sl .nil [],D.sl .nil [],D.sl .nil []] 0 (g.map optD)=g.map optD:=putC_full _ _ ⟨by rw[List.length_map,h.out];rfl⟩
attribute [local go_sem] putC_opt
theorem flat_intsD (g:List (List Int)):flat (g.map IntsD)=g.map IntsD:=by
 induction g with
 | nil=>rfl
 | cons u g ih=>simp[flat] at ih ⊢;simp[D.cells,IntsD];exact ih
theorem flatMap_intsD (g:List (List Int)):List.flatMap D.cells (g.map IntsD)=g.map IntsD:=flat_intsD g
attribute [local go_sem] flatMap_intsD
theorem argsS_len (rs t:List Int) (a:Nat):(argsS rs t a).length=(arS rs (t.getD a default)).toNat:=begS_length _ _ _ _
theorem argsS_get (rs t:List Int) (a j:Nat) (h:j<(arS rs (t.getD a default)).toNat):(argsS rs t a).getD j default=nthB rs t (a+1) j:=begS_get _ _ _ _ _ h
end Go.Proofs.YtpennhjjnlkbiaaGreat
end
section
namespace Go.Proofs.YtpennhjjnlkbiaaGreat
open Go Go.Lg
set_option linter.unusedSimpArgs false
set_option linter.unusedVariables false
set_option maxHeartbeats 4000000
attribute [local irreducible] SW runL runQ runG runQG FC Ret1 toF redoL anyB addJ sumF formM
def PsOk (rs:List Int) (ps:List PolyT):Prop:=(SigOkP rs∧rs.length≤ps.length)∧∀f<rs.length,PolyOkP (rs.getD f default) (ps.getD f default)
theorem PolysOkP.ps {rs:List Int} {ps:List PolyT} (h:PolysOkP rs ps):PsOk rs ps:=⟨⟨h.1.1,Nat.le_of_eq h.1.2.symm⟩,fun f hf=>h.2 f (by rw[h.1.2];exact hf)⟩
theorem PsOk.at {rs:List Int} {ps:List PolyT} (h:PsOk rs ps) {n:Int} (h0:0≤n) (h1:n<rs.length):PolyOkP (arS rs n) (ps.getD n.toNat default):=by
 rw[arS_sym (by omega)]
 exact h.2 n.toNat (by omega)
theorem form_goodQ {rs:List Int} {ps:List PolyT} (hP:PsOk rs ps):∀f t,TermOkP rs t→GoodB MF (formM rs ps f t).1
 | 0,_,_=>by unfold formM;exact good_zero
 | f+1,t,ht=>by
  have hl:=ht.low (show 0<t.length from ht.2.1.1)
  by_cases h:t.getD 0 default<0
  ·rw[formM_var h];exact good_var h hl.1.1
  ·rw[formM_app h]
   exact good_app (hP.at (by omega) hl.1.2) fun j hj=>form_goodQ hP f _ (argU_ok ht hj).1
noncomputable def headM (rs:List Int) (ps:List PolyT) (bh:Int) (f:Nat) (u:List Int):PolyT×Bool:=if u.getD 0 default<0 then (varF (u.getD 0 default),true) else appF1 (fun j=>formM rs ps f (argU rs u j)) (ps.getD (u.getD 0 default+bh).toNat default) (arS rs (u.getD 0 default)).toNat
theorem headM_var {rs:List Int} {ps:List PolyT} {bh:Int} {f:Nat} {u:List Int} (h:u.getD 0 default<0):headM rs ps bh f u=(varF (u.getD 0 default),true):=if_pos h
theorem headM_app {rs:List Int} {ps:List PolyT} {bh:Int} {f:Nat} {u:List Int} (h:¬u.getD 0 default<0):headM rs ps bh f u=appF1 (fun j=>formM rs ps f (argU rs u j)) (ps.getD (u.getD 0 default+bh).toNat default) (arS rs (u.getD 0 default)).toNat:=if_neg h
theorem headM_zero (rs:List Int) (ps:List PolyT) (f:Nat) (u:List Int):headM rs ps 0 f u=formM rs ps (f+1) u:=by
 by_cases h:u.getD 0 default<0
 ·rw[headM_var h,formM_var h]
 ·rw[headM_app h,formM_app h,Int.add_zero]
theorem sumF_congr {F G:Nat→PolyT×Bool} {p:PolyT}:∀n,(∀j<n,(F j).1=(G j).1)→sumF F p n=sumF G p n
 | 0,_=>by unfold sumF;rfl
 | n+1,h=>by
  have e:∀H:Nat→PolyT×Bool,sumF H p (n+1)=addF (sumF H p n) (H n).1 (p.coef.getD n default):=fun H=>by conv=>lhs;unfold sumF
  rw[e,e,sumF_congr n fun j hj=>h j (by omega),h n (by omega)]
theorem appF1_congr {F G:Nat→PolyT×Bool} {p:PolyT} {n:Nat} (h1:∀j<n,(F j).1=(G j).1) (h2:∀j<n,(F j).2=(G j).2):appF1 F p n=appF1 G p n:=by
 have e:=sumF_congr (p:=p) n h1
 rcases Classical.em ((∀j<n,(F j).2=true)∧okF (sumF F p n)) with h|h
 ·rw[appF1_yes h,appF1_yes ⟨fun j hj=>by rw[←h2 j hj];exact h.1 j hj,by rw[←e];exact h.2⟩,e]
 ·rw[appF1_no h,appF1_no fun h'=>h ⟨fun j hj=>by rw[h2 j hj];exact h'.1 j hj,by rw[e];exact h'.2⟩]
def kp156:List (Nat×List Nat):=[(0,[1,2,3,4,5,10]),(1,[1,2,3,4,5,10,21]),(2,[10,11]),(3,[1,2,3,4,5,10,12]),(4,[1,2,3,4,5,10,12,30,31,32]),(5,[1,2,3,4,5,10,12,30,31,32,33]),(6,[1,2,3,4,5,10,12,14,30,31,32]),(7,[1,2,3,4,5,10,12,15,16,30,31,32]),(8,[1,2,3,4,5,10,12,15,30,31,32,45]),(9,[10,11]),(10,[1,2,3,4,5,10,12,30,31,32]),(11,[1,2,3,4,5,10,12,30,31,32]),(12,[10,11])]
attribute [go_sem] kp156
theorem markedForm_fc (rs:List Int) (ps:List PolyT) (t:List Int) (hT:TermOkP rs t) (hQ:PsOk rs ps) (bh:Int) (hb:0≤bh∧bh≤1000) (f a:Nat) (ha:a<t.length) (hx:0≤t.getD a default→t.getD a default+bh<ps.length∧PolyOkP (arS rs (t.getD a default)) (ps.getD (t.getD a default+bh).toNat default))
  (hform:∀q:Nat,a<q→q<t.length→(subS rs t q).length≤f→FC S 142 [] [] [] [.agg [.sl .any (rs.map (.int .i64))],.sl .any (ps.map PolyD),.sl .any (t.map (.int .i64)),.int .i64 q] (.tup [PolyD (formM rs ps f (subS rs t q)).1,.bool (formM rs ps f (subS rs t q)).2]) [] []) (hlen:(subS rs t a).length≤f+1) :
  FC S 156 [] [] [] [.agg [.sl .any (rs.map (.int .i64))],.sl .any (ps.map PolyD),.int .i64 bh,.sl .any (t.map (.int .i64)),.int .i64 a] (.tup [PolyD (headM rs ps bh f (subS rs t a)).1,.bool (headM rs ps bh f (subS rs t a)).2]) [] []:=by
 have hl:=hT.2.1.2
 have hlo:=hT.low ha
 have hsa:=(sub_sub hT ha).1
 have hU:=subS_ok hT ha
 have hlt:=argsS_lt hT ha
 have hal:=argsS_len rs t a
 have hget:=argsS_get rs t a
 have hco:∀x∈argsS rs t a,((x:Nat):Int)=x:=fun _ _=>rfl
 by_cases h0:t.getD a default<0
 ·rw[headM_var (by rw[hsa];exact h0),hsa]
  refine fc_body Tryz.func156 rfl (by kernel_rfl) (by simp[Tryz.f156]) fun B=>?_
  simp only[Tryz.ntmps156,enumD,lst0,Nat.reduceAdd]
  refine sw_bnd 3 rfl fun hb3=>?_
  simp only[D.bnd,List.length_map] at hb3
  repeat' first|((exfalso;omega))|refine sw_seq ?_|refine sw_go 0 kp156 fun K hK=>?_|((first|refine runL_go ?_|refine sw_ret (ret0 ?_)|refine sw_ret ?_);simp (disch:=(refine Om.mk ?_;omega)) only[go_sem,Tryz.results156])|(refine hK.nil ?_;clear hK K;simp only[go_sem])|((first|refine sw_cond rfl ?_ ?_)<;>intro h<;>try simp (disch:=(refine Om.mk ?_;omega)) only[go_sem] at h)|refine hK.c0 rfl rfl rfl (varForm_fc _ h0 hlo.1.1) rfl rfl rfl ?_|(with_reducible refine And.intro (by first|omega|(simp only[lens];omega)) ?_)|fail
 ·rw[headM_app (by rw[hsa];exact h0),hsa]
  have hx:=hx (by omega)
  have harg:∀j<(arS rs (t.getD a default)).toNat,argU rs (subS rs t a) j=subS rs t ((argsS rs t a).getD j default):=fun j hj=>by rw[argU_sub hT ha hj,hget j hj]
  generalize hz:argsS rs t a=zs at *
  have hsub:∀q∈zs,(subS rs t q).length≤f:=fun q hq=>by
   obtain⟨j,hj,e⟩:=List.getElem_of_mem hq
   have h1:=harg j (by omega)
   have h2:=(argU_ok hU (j:=j) (by rw[hsa];omega)).2
   rw[h1,List.getD_eq_getElem?_getD,List.getElem?_eq_getElem hj,Option.getD_some,e] at h2
   omega
  have hgood:∀q∈zs,GoodB MF (formM rs ps f (subS rs t q)).1:=fun q hq=>form_goodQ hQ f _ (subS_ok hT (hlt q hq).2)
  have hFG:(∀j<zs.length,(formM rs ps f (subS rs t (zs.getD j default))).2=true)→appF1 (fun j=>((zs.map fun q=>(formM rs ps f (subS rs t q)).1).getD j default,true)) (ps.getD (t.getD a default+bh).toNat default) (zs.map fun q=>(formM rs ps f (subS rs t q)).1).length=appF1 (fun j=>formM rs ps f (argU rs (subS rs t a) j)) (ps.getD (t.getD a default+bh).toNat default) (arS rs (t.getD a default)).toNat:=fun hok=>by
   rw[List.length_map,←hal]
   refine appF1_congr (fun j hj=>?_) fun j hj=>?_
   ·dsimp only
    rw[harg j (by omega)]
    simp[List.getD,hj]
   ·dsimp only
    rw[harg j (by omega)]
    exact(hok j hj).symm
  have hno:∀i<zs.length,(formM rs ps f (subS rs t (zs.getD i default))).2=false→appF1 (fun j=>formM rs ps f (argU rs (subS rs t a) j)) (ps.getD (t.getD a default+bh).toNat default) (arS rs (t.getD a default)).toNat=(zeroF,false):=fun i hi e=>appF1_no fun h=>by
   have:=h.1 i (by omega)
   rw[harg i (by omega),e] at this
   cases this
  have hz3:zs.length≤3:=by omega
  have cA:=applied_fc (ps.getD (t.getD a default+bh).toNat default) (zs.map fun q=>(formM rs ps f (subS rs t q)).1) (by rw[List.length_map,hal,show (((arS rs (t.getD a default)).toNat:Nat):Int)=arS rs (t.getD a default) by omega];exact hx.2) (by rw[List.length_map];exact hz3) (fun j hj=>by
   rw[List.length_map] at hj
   have:=hgood _ (getD_mem zs j hj)
   simpa[List.getD,hj] using this)
  have cG:=argsAt_fc .any .any rs t a hT ha
  rw[hz] at cG
  refine fc_body Tryz.func156 rfl (by kernel_rfl) (by simp[Tryz.f156]) fun B=>?_
  simp only[Tryz.ntmps156,enumD,lst0,Nat.reduceAdd]
  refine sw_bnd 3 rfl fun hb3=>?_
  simp only[D.bnd,List.length_map] at hb3
  repeat' first|((exfalso;omega))|((refine sw_tok 12 51000 71 2 rfl (.inl rfl) rfl ?_;simp only[go_sem]))|refine sw_seq ?_|refine sw_block ?_|refine sw_skip ?_|refine sw_go 0 kp156 fun K hK=>?_|((first|refine runL_go ?_|refine sw_ret (ret0 ?_)|refine sw_ret ?_);simp (disch:=(refine Om.mk ?_;omega)) only[go_sem,Tryz.results156])|(refine hK.nil ?_;clear hK K;simp only[go_sem])|((first|refine sw_cond rfl ?_ ?_)<;>intro h<;>try simp (disch:=(refine Om.mk ?_;omega)) only[go_sem] at h)|refine hK.c0 rfl rfl rfl (cG) rfl rfl rfl ?_|(with_reducible refine And.intro (by first|omega|(simp only[lens];omega)) ?_)|fail
  refine sw_loopT (ι:=Nat) (fun i=>[(32,.int .i64 i),(12,.sl (.own 51000 71 2) (((zs.take i).map fun q=>(formM rs ps f (subS rs t q)).1).map PolyD))]) (fun _=>[]) (fun _=>[51000]) (fun i=>i≤zs.length∧∀j<i,(formM rs ps f (subS rs t (zs.getD j default))).2=true) (fun i=>zs.length-i) 0 (by(refine covers_mk0 rfl rfl ?_ ?_ ?_ ?_<;>simp (disch:=(refine Om.mk ?_;omega)) only[go_sem]<;>(try omega));all_goals first|rfl|(simp;done)) ⟨by omega,fun j hj=>absurd hj (by omega)⟩ (fun i hi=>?_)
  obtain⟨hi,hj⟩:=hi
  simp only[go_sem]
  have htl:((zs.take i).map fun q=>(formM rs ps f (subS rs t q)).1).length≤3:=by rw[List.length_map,List.length_take];omega
  by_cases hil:i<zs.length
  ·have hm:=hlt _ (getD_mem zs i hil)
   have cF:=hform (zs.getD i default) hm.1 hm.2 (hsub _ (getD_mem zs i hil))
   have htk:(zs.take (i+1)).map (fun q=>(formM rs ps f (subS rs t q)).1)=(zs.take i).map (fun q=>(formM rs ps f (subS rs t q)).1)++[(formM rs ps f (subS rs t (zs.getD i default))).1]:=by
    rw[List.take_succ_eq_append_getElem hil,List.map_append];congr 1;simp[List.getD,hil]
   repeat' first|((exfalso;omega))|refine sw_seq ?_|refine sw_block ?_|refine sw_inBlock ?_|refine sw_skip ?_|refine sw_go 0 kp156 fun K hK=>?_|((first|refine runL_go ?_|refine sw_ret (ret0 ?_)|refine sw_ret ?_);simp (disch:=(refine Om.mk ?_;omega)) only[go_sem,Tryz.results156])|(refine hK.nil ?_;clear hK K;simp only[go_sem])|((first|refine sw_cond rfl ?_ ?_)<;>intro h<;>try simp (disch:=(refine Om.mk ?_;omega)) only[go_sem] at h)|refine sw_loopEnd ?_|refine hK.c0 rfl rfl rfl (cF) rfl rfl rfl ?_|(with_reducible refine And.intro (by first|omega|(simp only[lens];omega)) ?_)|fail
   ·rw[hno i hil h]
    exact⟨⟨rfl,rfl⟩,rfl⟩
   ·exact⟨i+1,(by(refine covers_mk0 rfl rfl ?_ ?_ ?_ ?_<;>simp (disch:=(refine Om.mk ?_;omega)) only[go_sem]<;>(try omega));rw[htk,List.map_append];exact⟨rfl,by omega⟩),⟨by omega,upto_succ hj h⟩,by omega⟩
  ·rw[List.take_of_length_le (by omega)]
   rw[←hFG fun j hj'=>hj j (by omega)]
   have hpl:(t.getD a default+bh).toNat<ps.length:=by omega
   have hsl:=hQ.1.1.1
   repeat' first|((exfalso;omega))|refine sw_seq ?_|refine sw_go 0 kp156 fun K hK=>?_|((first|refine runL_go ?_|refine sw_ret (ret0 ?_)|refine sw_ret ?_);simp (disch:=(refine Om.mk ?_;omega)) only[go_sem,Tryz.results156])|(refine hK.nil ?_;clear hK K;simp only[go_sem])|((first|refine sw_cond rfl ?_ ?_)<;>intro h<;>try simp (disch:=(refine Om.mk ?_;omega)) only[go_sem] at h)|refine sw_exit rfl ?_|(refine hK.c0 rfl rfl rfl (FC.args (cA) ?le) rfl rfl rfl ?_;case le=>(simp only[go_sem];repeat' first|exact trivial|exact D.le.refl _|exact D.le.any|refine And.intro ?_ ?_))|(with_reducible refine And.intro (by first|omega|(simp only[lens];omega)) ?_)|fail
def kp142:List (Nat×List Nat):=[(0,[1,2,3,4,8]),(1,[8,9])]
attribute [go_sem] kp142
theorem formAt_fc (rs:List Int) (ps:List PolyT) (t:List Int) (hT:TermOkP rs t) (hQ:PsOk rs ps):∀f a:Nat,a<t.length→(subS rs t a).length≤f→FC S 142 [] [] [] [.agg [.sl .any (rs.map (.int .i64))],.sl .any (ps.map PolyD),.sl .any (t.map (.int .i64)),.int .i64 a] (.tup [PolyD (formM rs ps f (subS rs t a)).1,.bool (formM rs ps f (subS rs t a)).2]) [] []:=by
 intro f
 induction f with
 | zero=>intro a ha hl;have:=(subS_ok hT ha).2.1.1;omega
 | succ f ih =>
  intro a ha hl
  have c:=markedForm_fc rs ps t hT hQ 0 (by omega) f a ha (fun h=>⟨by have:=(hT.low ha).1.2;have:=hQ.1.2;omega,by rw[Int.add_zero];exact hQ.at h (hT.low ha).1.2⟩) (fun q h1 h2 h3=>ih q h2 h3) hl
  rw[headM_zero] at c
  refine fc_body Tryz.func142 rfl (by kernel_rfl) (by simp[Tryz.f142]) fun B=>?_
  simp only[Tryz.ntmps142,enumD,lst0,Nat.reduceAdd]
  repeat' first|refine sw_seq ?_|refine sw_go 0 kp142 fun K hK=>?_|((first|refine runL_go ?_|refine sw_ret (ret0 ?_)|refine sw_ret ?_);simp (disch:=(refine Om.mk ?_;omega)) only[go_sem,Tryz.results142])|(refine hK.nil ?_;clear hK K;simp only[go_sem])|refine hK.c0 rfl rfl rfl (c) rfl rfl rfl ?_|fail
end Go.Proofs.YtpennhjjnlkbiaaGreat
end
section
namespace Go.Proofs.YtpennhjjnlkbiaaGreat
open Go Go.Lg
set_option linter.unusedSimpArgs false
set_option linter.unusedVariables false
set_option maxHeartbeats 4000000
attribute [local irreducible] SW runL runQ runG runQG FC Ret1 toF redoL anyB addJ sumF formM
theorem formTop_fc (rs:List Int) (ps:List PolyT) (t:List Int) (hT:TermOkP rs t) (hQ:PsOk rs ps):FC S 142 [] [] [] [.agg [.sl .any (rs.map (.int .i64))],.sl .any (ps.map PolyD),.sl .any (t.map (.int .i64)),.int .i64 0] (.tup [PolyD (formM rs ps 60 t).1,.bool (formM rs ps 60 t).2]) [] []:=by
 have h:=formAt_fc rs ps t hT hQ 60 0 hT.2.1.1 (by rw[subS_zeroU hT];exact hT.2.1.2)
 rw[subS_zeroU hT] at h
 exact h
open Classical in
noncomputable def cmpF (rs:List Int) (ps:List PolyT) (s t:List Int):Bool×Bool:=if (formM rs ps 60 s).2=true∧(formM rs ps 60 t).2=true then mostR (formM rs ps 60 s).1 (formM rs ps 60 t).1 else (false,false)
def kp123:List (Nat×List Nat):=[(0,[1,2,3,4]),(1,[1,3,4,10,11]),(2,[10,11,12,13]),(3,[10,12,33]),(4,[8,9]),(5,[8,9])]
attribute [go_sem] kp123
theorem compareForms_fc (rs:List Int) (ps:List PolyT) (s t:List Int) (hQ:PsOk rs ps) (hs:TermOkP rs s) (ht:TermOkP rs t):FC S 123 [] [] [] [.agg [.sl .any (rs.map (.int .i64))],.sl .any (ps.map PolyD),.sl .any (s.map (.int .i64)),.sl .any (t.map (.int .i64))] (.tup [.bool (cmpF rs ps s t).1,.bool (cmpF rs ps s t).2]) [] []:=by
 have c1:=formTop_fc rs ps s hs hQ
 have c2:=formTop_fc rs ps t ht hQ
 unfold cmpF
 generalize formM rs ps 60 s=a at *
 generalize formM rs ps 60 t=b at *
 obtain⟨a,oa⟩:=a
 obtain⟨b,ob⟩:=b
 dsimp only at c1 c2 ⊢
 by_cases hnb:oa=true∧ob=true
 ·rw[if_pos hnb]
  obtain⟨rfl,rfl⟩:=hnb
  refine fc_body Tryz.func123 rfl (by kernel_rfl) (by simp[Tryz.f123]) fun B=>?_
  simp only[Tryz.ntmps123,enumD,lst0,Nat.reduceAdd]
  repeat' first|refine sw_seq ?_|refine sw_skip ?_|refine sw_go 0 kp123 fun K hK=>?_|((first|refine runL_go ?_|refine sw_ret (ret0 ?_)|refine sw_ret ?_);simp (disch:=(refine Om.mk ?_;omega)) only[go_sem,Tryz.results123])|(refine hK.nil ?_;clear hK K;simp only[go_sem])|((first|refine runG_fork rfl rfl rfl rfl rfl ?_ ?_|refine sw_cond rfl ?_ ?_)<;>intro h<;>try simp (disch:=(refine Om.mk ?_;omega)) only[go_sem] at h)|refine hK.c0 rfl rfl rfl (c1) rfl rfl rfl ?_|refine hK.c0 rfl rfl rfl (c2) rfl rfl rfl ?_|refine hK.c0 rfl rfl rfl (atMost_fc a b) rfl rfl rfl ?_|fail
 ·rw[if_neg hnb]
  refine fc_body Tryz.func123 rfl (by kernel_rfl) (by simp[Tryz.f123]) fun B=>?_
  simp only[Tryz.ntmps123,enumD,lst0,Nat.reduceAdd]
  repeat' first|((exact absurd ⟨(by assumption),(by assumption)⟩ hnb))|refine sw_seq ?_|refine sw_go 0 kp123 fun K hK=>?_|((first|refine runL_go ?_|refine sw_ret (ret0 ?_)|refine sw_ret ?_);simp (disch:=(refine Om.mk ?_;omega)) only[go_sem,Tryz.results123])|(refine hK.nil ?_;clear hK K;simp only[go_sem])|((first|refine runG_fork rfl rfl rfl rfl rfl ?_ ?_|refine sw_cond rfl ?_ ?_)<;>intro h<;>try simp (disch:=(refine Om.mk ?_;omega)) only[go_sem] at h)|refine hK.c0 rfl rfl rfl (c1) rfl rfl rfl ?_|refine hK.c0 rfl rfl rfl (c2) rfl rfl rfl ?_|fail
  all_goals exact absurd ⟨(by assumption),(by assumption)⟩ hnb
def kp93:List (Nat×List Nat):=[(0,[1,2,3]),(1,[1,2,3,12,13,14]),(2,[1,2,3,12,13,14,15]),(3,[1,2,3,8,12,13,14]),(4,[1,2,3,9,10,12,13,14]),(5,[1,2,3,12,13,14,37]),(6,[6]),(7,[1,2,3,12,13,14]),(8,[6])]
attribute [go_sem] kp93
end Go.Proofs.YtpennhjjnlkbiaaGreat
end
section
namespace Go.Proofs.YtpennhjjnlkbiaaGreat
open Go Go.Lg
set_option linter.unusedSimpArgs false
set_option linter.unusedVariables false
set_option maxHeartbeats 4000000
attribute [local irreducible] SW runL runQ runG runQG FC Ret1 toF redoL anyB addJ sumF formM
def kp39:List (Nat×List Nat):=[(0,[0,1]),(1,[0,1,7,8,9]),(2,[0,1,7,8,9,10]),(3,[0,1,5,6,7,8,9]),(4,[0,1,7,8,9,33]),(5,[4]),(6,[0,1,7,8,9]),(7,[4])]
attribute [go_sem] kp39
theorem setOk_fc (set:List Int) (n:Nat) (hn:n≤1000):FC S 39 [] [] [] [.sl .any (set.map (.int .i64)),.int .i64 n] (.bool (tst (SetPP set n))) [] []:=by
 refine fc_body Tryz.func39 rfl (by kernel_rfl) (by simp[Tryz.f39]) fun B=>?_
 simp only[Tryz.ntmps39,enumD,lst0,Nat.reduceAdd]
 refine sw_bnd 0 rfl fun hb0=>?_
 simp only[D.bnd,List.length_map] at hb0
 repeat' first|refine sw_seq ?_|refine sw_block ?_|refine sw_inBlock ?_|refine sw_skip ?_|refine sw_go 0 kp39 fun K hK=>?_|refine fun (K:KT) (hK:KOk S 0 _ _ _ K)=>?_|((first|refine runL_go ?_|refine sw_ret (ret0 ?_)|refine sw_ret ?_);simp (disch:=(refine Om.mk ?_;omega)) only[go_sem,Tryz.results39])|(refine hK.nil ?_;clear hK K;simp only[go_sem])|((first|refine runG_fork rfl rfl rfl rfl rfl ?_ ?_|refine sw_cond rfl ?_ ?_)<;>intro h<;>try simp (disch:=(refine Om.mk ?_;omega)) only[go_sem] at h)|refine hK.skp rfl rfl ?_|refine sw_exit rfl ?_|refine sw_loopEnd ?_|(refine hK.fork rfl rfl rfl ?_ ?_<;>intro h<;>try simp (disch:=(refine Om.mk ?_;omega)) only[go_sem] at h)|(with_reducible refine And.intro (by first|omega|(simp only[lens];omega)) ?_)|fail
 refine sw_loopU (ι:=Nat) (fun p=>[(9,.int .i64 p)]) (fun p=>[]) (fun p=>p≤set.length∧∀j<p,(0≤set.getD j default∧set.getD j default<n)∧(0<j→set.getD (j-1) default<set.getD j default)) (fun p=>set.length-p) 0 (by(refine covers_mk0 rfl rfl ?_ ?_ ?_ ?_<;>simp (disch:=(refine Om.mk ?_;omega)) only[go_sem]<;>(try omega))) ?_ (fun p hp=>?_)
 rotate_left
 simp only[go_sem]
 obtain⟨hp,hj⟩:=hp
 repeat' first|refine sw_seq ?_|refine sw_block ?_|refine sw_inBlock ?_|refine sw_skip ?_|refine sw_go 0 kp39 fun K hK=>?_|refine fun (K:KT) (hK:KOk S 0 _ _ _ K)=>?_|((first|refine runL_go ?_|refine sw_ret (ret0 ?_)|refine sw_ret ?_);simp (disch:=(refine Om.mk ?_;omega)) only[go_sem,Tryz.results39])|(refine hK.nil ?_;clear hK K;simp only[go_sem])|((first|refine runG_fork rfl rfl rfl rfl rfl ?_ ?_|refine sw_cond rfl ?_ ?_)<;>intro h<;>try simp (disch:=(refine Om.mk ?_;omega)) only[go_sem] at h)|refine hK.skp rfl rfl ?_|refine sw_exit rfl ?_|refine sw_loopEnd ?_|(refine hK.fork rfl rfl rfl ?_ ?_<;>intro h<;>try simp (disch:=(refine Om.mk ?_;omega)) only[go_sem] at h)|(with_reducible refine And.intro (by first|omega|(simp only[lens];omega)) ?_)|fail
 all_goals first|exact fun hS=>absurd (hS p (by omega)) (by omega)|exact fun j hj'=>hj j (by omega)|exact⟨p+1,(by(refine covers_mk0 rfl rfl ?_ ?_ ?_ ?_<;>simp (disch:=(refine Om.mk ?_;omega)) only[go_sem]<;>(try omega))),⟨by omega,upto_succ hj (by omega)⟩,by omega⟩|exact fun j hj'=>absurd hj' (by omega)|skip
end Go.Proofs.YtpennhjjnlkbiaaGreat
end
section
namespace Go.Proofs.YtpennhjjnlkbiaaGreat
open Go Go.Lg
set_option linter.unusedSimpArgs false
set_option linter.unusedVariables false
set_option maxHeartbeats 4000000
attribute [local irreducible] SW runL runQ runG runQG FC Ret1 toF redoL anyB addJ sumF formM
def kp143:List (Nat×List Nat):=[(0,[1,2]),(1,[1,2,5]),(2,[4])]
attribute [go_sem] kp143
theorem implMarkedOk_fc (rs:List Int) (ps:List PolyT) (hn:rs.length≤1000):FC S 143 [] [] [] [.agg [.sl .any (rs.map (.int .i64))],.sl .any (ps.map PolyD)] (.bool (tst (MarkedP rs ps))) [] []:=by
 refine fc_body Tryz.func143 rfl (by kernel_rfl) (by simp[Tryz.f143]) fun B=>?_
 simp only[Tryz.ntmps143,enumD,lst0,Nat.reduceAdd]
 refine sw_bnd_agg 0 0 rfl rfl fun hb0_0=>?_
 simp only[D.bnd,List.length_map] at hb0_0
 refine sw_bnd 1 rfl fun hb1=>?_
 simp only[D.bnd,List.length_map] at hb1
 repeat' first|refine sw_seq ?_|refine sw_go 0 kp143 fun K hK=>?_|refine sw_goD kp143 (by kernel_rfl) fun K hK=>?_|((first|refine runL_go ?_|refine runQ_go ?_|refine sw_ret (ret0 ?_)|refine sw_ret ?_);simp (disch:=(refine Om.mk ?_;omega)) only[go_sem,Tryz.results143])|(refine hK.nil ?_;clear hK K;simp only[go_sem])|((first|refine runG_fork rfl rfl rfl rfl rfl ?_ ?_|refine runQG_fork rfl rfl rfl rfl rfl ?_ ?_)<;>intro h<;>try simp (disch:=(refine Om.mk ?_;omega)) only[go_sem] at h)|refine hK.skp rfl rfl ?_|refine hK.c0 rfl rfl rfl (implPolysOk_fc rs (ps.take rs.length)) rfl rfl rfl ?_|refine hK.c0 rfl rfl rfl (implPolysOk_fc rs (ps.drop rs.length)) rfl rfl rfl ?_|(with_reducible refine And.intro (by first|omega|(simp only[lens];omega)) ?_)|fail
 all_goals first|exact fun hm=>absurd hm.1 (by omega)|exact fun hm=>absurd hm.2.1 (by assumption)|exact fun hm=>absurd hm.2.2 (by assumption)|exact⟨by omega,by assumption,by assumption⟩|exact⟨fun h=>⟨by omega,by assumption,h⟩,fun h=>h.2.2⟩|skip
theorem MarkedP.ps {rs:List Int} {ps:List PolyT} (h:MarkedP rs ps):PsOk rs ps:=by
 refine⟨⟨h.2.1.1.1,by have:=h.1;omega⟩,fun f hf=>?_⟩
 have h1:=h.2.1.2 f (by rw[h.2.1.1.2];exact hf)
 rwa [List.getD_eq_getElem?_getD (l:=ps.take _),List.getElem?_take,if_pos hf,←List.getD_eq_getElem?_getD] at h1
theorem form_take {rs:List Int} {ps:List PolyT}:∀f t,TermOkP rs t→formM rs (ps.take rs.length) f t=formM rs ps f t
 | 0,_,_=>by unfold formM;rfl
 | f+1,t,ht=>by
  have hl:=ht.low (show 0<t.length from ht.2.1.1)
  by_cases h:t.getD 0 default<0
  ·rw[formM_var h,formM_var h]
  ·rw[formM_app h,formM_app h]
   have e:(ps.take rs.length).getD (t.getD 0 default).toNat default=ps.getD (t.getD 0 default).toNat default:=by
    rw[List.getD_eq_getElem?_getD,List.getElem?_take,if_pos (by have:=hl.1.2;omega),←List.getD_eq_getElem?_getD]
   rw[e]
   exact appF1_congr (fun j hj=>by show (formM rs (ps.take rs.length) f (argU rs t j)).1=(formM rs ps f (argU rs t j)).1;rw[form_take f _ (argU_ok ht hj).1]) fun j hj=>by show (formM rs (ps.take rs.length) f (argU rs t j)).2=(formM rs ps f (argU rs t j)).2;rw[form_take f _ (argU_ok ht hj).1]
theorem headM_eq {rs:List Int} {ps:List PolyT} {t:List Int} (ht:TermOkP rs t):headM rs ps rs.length 60 t=headR rs ps t:=by
 by_cases h:t.getD 0 default<0
 ·rw[headM_var h,headR_var h]
 ·rw[headM_app h,headR_app h,Int.add_comm]
  exact appF1_congr (fun j hj=>by show (formM rs ps 60 (argU rs t j)).1=(formM rs (ps.take rs.length) 60 (argU rs t j)).1;rw[form_take 60 _ (argU_ok ht hj).1]) fun j hj=>by show (formM rs ps 60 (argU rs t j)).2=(formM rs (ps.take rs.length) 60 (argU rs t j)).2;rw[form_take 60 _ (argU_ok ht hj).1]
def kp144:List (Nat×List Nat):=[(0,[1,2,3,6]),(1,[6,7])]
attribute [go_sem] kp144
theorem headForm_fc (rs:List Int) (ps:List PolyT) (t:List Int) (hM:MarkedP rs ps) (hT:TermOkP rs t):FC S 144 [] [] [] [.agg [.sl .any (rs.map (.int .i64))],.sl .any (ps.map PolyD),.sl .any (t.map (.int .i64))] (.tup [PolyD (headR rs ps t).1,.bool (headR rs ps t).2]) [] []:=by
 have hl:=hT.low (show 0<t.length from hT.2.1.1)
 have hs:=hM.ps.1.1.1
 have hm:=hM.1
 have c:=markedForm_fc rs ps t hT hM.ps rs.length (by omega) 60 0 hT.2.1.1 (fun h=>⟨by omega,by rw[Int.add_comm];exact marked_at hM h hl.1.2⟩) (fun q h1 h2 h3=>formAt_fc rs ps t hT hM.ps 60 q h2 h3) (by rw[subS_zeroU hT];have:=hT.2.1.2;omega)
 rw[subS_zeroU hT,headM_eq hT] at c
 refine fc_body Tryz.func144 rfl (by kernel_rfl) (by simp[Tryz.f144]) fun B=>?_
 simp only[Tryz.ntmps144,enumD,lst0,Nat.reduceAdd]
 repeat' first|refine sw_seq ?_|refine sw_go 0 kp144 fun K hK=>?_|((first|refine runL_go ?_|refine sw_ret (ret0 ?_)|refine sw_ret ?_);simp (disch:=(refine Om.mk ?_;omega)) only[go_sem,Tryz.results144])|(refine hK.nil ?_;clear hK K;simp only[go_sem])|refine hK.c0 rfl rfl rfl (c) rfl rfl rfl ?_|fail
def kp124:List (Nat×List Nat):=[(0,[1,2,3,6]),(1,[1,2,3,6,17]),(2,[6,7]),(3,[6,7])]
attribute [go_sem] kp124
theorem implHeadForm_fc (rs:List Int) (ps:List PolyT) (t:List Int) (hM:MarkedP rs ps) (hT:TermOkP rs t):FC S 124 [] [] [] [.agg [.sl .any (rs.map (.int .i64))],.sl .any (ps.map PolyD),.sl .any (t.map (.int .i64))] (.tup [PolyD (headR rs ps t).1,.bool (headR rs ps t).2]) [] []:=by
 have hs:=hT.1.1
 refine fc_body Tryz.func124 rfl (by kernel_rfl) (by simp[Tryz.f124]) fun B=>?_
 simp only[Tryz.ntmps124,enumD,lst0,Nat.reduceAdd]
 repeat' first|((exact absurd hM (by assumption)))|((exact absurd hT (by assumption)))|refine sw_seq ?_|refine sw_skip ?_|refine sw_go 0 kp124 fun K hK=>?_|((first|refine runL_go ?_|refine sw_ret (ret0 ?_)|refine sw_ret ?_);simp (disch:=(refine Om.mk ?_;omega)) only[go_sem,Tryz.results124])|(refine hK.nil ?_;clear hK K;simp only[go_sem])|((first|refine runG_fork rfl rfl rfl rfl rfl ?_ ?_|refine sw_cond rfl ?_ ?_)<;>intro h<;>try simp (disch:=(refine Om.mk ?_;omega)) only[go_sem] at h)|refine hK.c0 rfl rfl rfl (implMarkedOk_fc _ _ (by omega)) rfl rfl rfl ?_|refine hK.c0 rfl rfl rfl (implTermOk_fc _ _ _ _) rfl rfl rfl ?_|refine hK.c0 rfl rfl rfl (headForm_fc rs ps t hM hT) rfl rfl rfl ?_|fail
open Classical in
noncomputable def cmpP (rs:List Int) (ps:List PolyT) (p:DepPairT):Bool×Bool:=if (headR rs ps p.r).2=true∧(headR rs ps p.l).2=true then mostR (headR rs ps p.r).1 (headR rs ps p.l).1 else (false,false)
theorem cmpP_less {rs:List Int} {ps:List PolyT} {p:DepPairT}:(cmpP rs ps p).2=tst (PLess rs ps p):=by
 unfold cmpP PLess
 split
 ·rename_i h
  by_cases hm:MostP (headR rs ps p.r).1 (headR rs ps p.l).1
  ·rw[mostR_yes hm]
   exact tst_congr ⟨fun e=>⟨h,hm,e⟩,fun e=>e.2.2⟩
  ·rw[mostR_no hm,tst_false fun e=>hm e.2.1]
 ·rename_i h
  rw[tst_false fun e=>h e.1]
theorem cmpP_most {rs:List Int} {ps:List PolyT} {p:DepPairT}:(cmpP rs ps p).1=tst (PMost rs ps p):=by
 unfold cmpP PMost
 split
 ·rename_i h
  by_cases hm:MostP (headR rs ps p.r).1 (headR rs ps p.l).1
  ·rw[mostR_yes hm]
   exact tst_congr ⟨fun e=>⟨h,hm,e⟩,fun e=>e.2.2⟩
  ·rw[mostR_no hm,tst_false fun e=>hm e.2.1]
 ·rename_i h
  rw[tst_false fun e=>h e.1]
def kp94:List (Nat×List Nat):=[(0,[1,3,5]),(1,[1,3,5,8,9]),(2,[8,9,10,11]),(3,[8,10,33]),(4,[6,7]),(5,[6,7])]
attribute [go_sem] kp94
theorem comparePair_fc (rs:List Int) (ps:List PolyT) (p:DepPairT) (hM:MarkedP rs ps) (hp:PrOk rs p):FC S 94 [] [] [] [.agg [.sl .any (rs.map (.int .i64))],.sl .any (ps.map PolyD),DepPairD p] (.tup [.bool (tst (PMost rs ps p)),.bool (tst (PLess rs ps p))]) [] []:=by
 have c1:=implHeadForm_fc rs ps p.r hM hp.1.2
 have c2:=implHeadForm_fc rs ps p.l hM hp.1.1
 rw[←cmpP_less,←cmpP_most]
 unfold cmpP
 generalize headR rs ps p.r=a at *
 generalize headR rs ps p.l=b at *
 obtain⟨a,oa⟩:=a
 obtain⟨b,ob⟩:=b
 dsimp only at c1 c2 ⊢
 by_cases hnb:oa=true∧ob=true
 ·rw[if_pos hnb]
  obtain⟨rfl,rfl⟩:=hnb
  refine fc_body Tryz.func94 rfl (by kernel_rfl) (by simp[Tryz.f94]) fun B=>?_
  simp only[Tryz.ntmps94,enumD,lst0,Nat.reduceAdd]
  repeat' first|refine sw_seq ?_|refine sw_skip ?_|refine sw_go 0 kp94 fun K hK=>?_|((first|refine runL_go ?_|refine sw_ret (ret0 ?_)|refine sw_ret ?_);simp (disch:=(refine Om.mk ?_;omega)) only[go_sem,Tryz.results94])|(refine hK.nil ?_;clear hK K;simp only[go_sem])|((first|refine runG_fork rfl rfl rfl rfl rfl ?_ ?_|refine sw_cond rfl ?_ ?_)<;>intro h<;>try simp (disch:=(refine Om.mk ?_;omega)) only[go_sem] at h)|refine hK.c0 rfl rfl rfl (c1) rfl rfl rfl ?_|refine hK.c0 rfl rfl rfl (c2) rfl rfl rfl ?_|refine hK.c0 rfl rfl rfl (atMost_fc a b) rfl rfl rfl ?_|fail
 ·rw[if_neg hnb]
  refine fc_body Tryz.func94 rfl (by kernel_rfl) (by simp[Tryz.f94]) fun B=>?_
  simp only[Tryz.ntmps94,enumD,lst0,Nat.reduceAdd]
  repeat' first|((exact absurd ⟨(by assumption),(by assumption)⟩ hnb))|refine sw_seq ?_|refine sw_go 0 kp94 fun K hK=>?_|((first|refine runL_go ?_|refine sw_ret (ret0 ?_)|refine sw_ret ?_);simp (disch:=(refine Om.mk ?_;omega)) only[go_sem,Tryz.results94])|(refine hK.nil ?_;clear hK K;simp only[go_sem])|((first|refine runG_fork rfl rfl rfl rfl rfl ?_ ?_|refine sw_cond rfl ?_ ?_)<;>intro h<;>try simp (disch:=(refine Om.mk ?_;omega)) only[go_sem] at h)|refine hK.c0 rfl rfl rfl (c1) rfl rfl rfl ?_|refine hK.c0 rfl rfl rfl (c2) rfl rfl rfl ?_|fail
  all_goals exact absurd ⟨(by assumption),(by assumption)⟩ hnb
end Go.Proofs.YtpennhjjnlkbiaaGreat
end
