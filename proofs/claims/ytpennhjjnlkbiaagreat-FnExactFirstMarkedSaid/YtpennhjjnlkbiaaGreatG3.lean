/-
  A15s, A15t, A29, one behind the other.
-/
import Derived.Test.YtpennhjjnlkbiaaGreatG1
import Derived.Test.YtpennhjjnlkbiaaGreatG2
import Derived.Test.YtpennhjjnlkbiaaGreatLgK13
import Derived.Test.YtpennhjjnlkbiaaGreatLgK10
import Derived.Test.YtpennhjjnlkbiaaGreatLgK12
import Derived.Test.YtpennhjjnlkbiaaGreatSet
import Derived.Test.YtpennhjjnlkbiaaGreatG0
section
namespace Go.Proofs.YtpennhjjnlkbiaaGreat
open Go Go.Lg
set_option linter.unusedSimpArgs false
set_option linter.unusedVariables false
set_option maxHeartbeats 4000000
attribute [local irreducible] SW runL runQ runG runQG FC Ret1 toF redoL anyB
def kp100:List (Nat×List Nat):=[(0,[1,2]),(1,[2,16]),(2,[4]),(3,[2,5]),(4,[2,5,21]),(6,[2,5,30]),(7,[4]),(5,[2,5]),(8,[4])]
attribute [go_sem] kp100
theorem l15Poly_fc (p:PolyT) (n:Int):FC S 100 [] [] [] [PolyD p,.int .i64 n] (.bool (tst (PolyOkP n p))) [] []:=by
 refine fc_body Tryz.func100 rfl (by kernel_rfl) (by simp[Tryz.f100]) fun B=>?_
 simp only[Tryz.ntmps100,enumD,lst0,Nat.reduceAdd]
 refine sw_bnd_agg 0 1 rfl rfl fun hb0_1=>?_
 simp only[D.bnd,List.length_map] at hb0_1
 repeat' first|refine sw_seq ?_|refine sw_block ?_|refine sw_skip ?_|refine sw_go 0 kp100 fun K hK=>?_|((first|refine runL_go ?_|refine sw_ret (ret0 ?_)|refine sw_ret ?_);simp (disch:=(refine Om.mk ?_;omega)) only[go_sem,Tryz.results100])|(refine hK.nil ?_;clear hK K;simp only[go_sem])|((first|refine runG_fork rfl rfl rfl rfl rfl ?_ ?_|refine sw_cond rfl ?_ ?_)<;>intro h<;>try simp (disch:=(refine Om.mk ?_;omega)) only[go_sem] at h)|refine hK.c0 rfl rfl rfl (l1In_fc _ _ _) rfl rfl rfl ?_|fail
 ·exact fun h=>absurd h.1 (by omega)
 ·exact fun h=>absurd h.1 (by omega)
 refine sw_loopU (ι:=Nat) (fun i=>[(5,.int .i64 i)]) (fun _=>[]) (fun i=>i≤p.coef.length∧(∀j<i,0≤p.coef.getD j default∧p.coef.getD j default≤9)) (fun i=>p.coef.length-i) 0 (by(refine covers_mk0 rfl rfl ?_ ?_ ?_ ?_<;>simp (disch:=(refine Om.mk ?_;omega)) only[go_sem]<;>(try omega))) ⟨by omega,?_⟩ (fun i ⟨hi,hj⟩=>?_)
 rotate_left
 simp only[go_sem]
 repeat' first|refine sw_seq ?_|refine sw_block ?_|refine sw_inBlock ?_|refine sw_skip ?_|refine sw_go 0 kp100 fun K hK=>?_|((first|refine runL_go ?_|refine sw_ret (ret0 ?_)|refine sw_ret ?_);simp (disch:=(refine Om.mk ?_;omega)) only[go_sem,Tryz.results100])|(refine hK.nil ?_;clear hK K;simp only[go_sem])|((first|refine runG_fork rfl rfl rfl rfl rfl ?_ ?_|refine sw_cond rfl ?_ ?_)<;>intro h<;>try simp (disch:=(refine Om.mk ?_;omega)) only[go_sem] at h)|refine sw_exit rfl ?_|refine sw_loopEnd ?_|refine hK.c0 rfl rfl rfl (l1In_fc _ _ _) rfl rfl rfl ?_|(with_reducible refine And.intro (by first|omega|(simp only[lens];omega)) ?_)|fail
 ·exact fun hp=>h (hp.2 _ (getD_mem _ i (by omega)))
 ·exact⟨i+1,by(refine covers_mk0 rfl rfl ?_ ?_ ?_ ?_<;>simp (disch:=(refine Om.mk ?_;omega)) only[go_sem]<;>(try omega)),⟨by omega,upto_succ hj h⟩,by omega⟩
 ·exact⟨⟨by assumption,by assumption⟩,all_getD (P:=fun x=>0≤x∧x≤9) fun j hj'=>hj j (by omega)⟩
 ·intro j hj';omega
def kp69:List (Nat×List Nat):=[(0,[1,2]),(1,[1,2,16]),(2,[4]),(3,[1,2,5]),(4,[1,2,5,20]),(6,[1,2,5,33]),(7,[4]),(5,[1,2,5]),(8,[4])]
attribute [go_sem] kp69
theorem specPolysOk_fc (tk:Tk) (rs:List Int) (ps:List PolyT):FC S 69 [] [] [] [.agg [.sl .any (rs.map (.int .i64))],.sl tk (ps.map PolyD)] (.bool (tst (PolysOkP rs ps))) [] []:=by
 refine fc_body Tryz.func69 rfl (by kernel_rfl) (by simp[Tryz.f69]) fun B=>?_
 simp only[Tryz.ntmps69,enumD,lst0,Nat.reduceAdd]
 refine sw_bnd 1 rfl fun hb1=>?_
 simp only[D.bnd,List.length_map] at hb1
 repeat' first|refine sw_seq ?_|refine sw_block ?_|refine sw_skip ?_|refine sw_go 0 kp69 fun K hK=>?_|((first|refine runL_go ?_|refine runQ_go ?_|refine sw_ret (ret0 ?_)|refine sw_ret ?_);simp (disch:=(refine Om.mk ?_;omega)) only[go_sem,Tryz.results69])|(refine hK.nil ?_;clear hK K;simp only[go_sem])|((first|refine runG_fork rfl rfl rfl rfl rfl ?_ ?_|refine runQG_fork rfl rfl rfl rfl rfl ?_ ?_|refine sw_cond rfl ?_ ?_)<;>intro h<;>try simp (disch:=(refine Om.mk ?_;omega)) only[go_sem] at h)|refine hK.c0 rfl rfl rfl (specSigOk_fc _ _) rfl rfl rfl ?_|fail
 ·exact fun h=>absurd h.1.1 (by assumption)
 ·exact fun h=>absurd h.1.2 (by omega)
 refine sw_loopU (ι:=Nat) (fun i=>[(5,.int .i64 i)]) (fun _=>[]) (fun i=>i≤ps.length∧(∀j<i,PolyOkP (rs.getD j default) (ps.getD j default))) (fun i=>ps.length-i) 0 (by(refine covers_mk0 rfl rfl ?_ ?_ ?_ ?_<;>simp (disch:=(refine Om.mk ?_;omega)) only[go_sem]<;>(try omega))) ⟨by omega,?_⟩ (fun i ⟨hi,hj⟩=>?_)
 rotate_left
 simp only[go_sem]
 repeat' first|refine sw_seq ?_|refine sw_block ?_|refine sw_inBlock ?_|refine sw_skip ?_|refine sw_go 0 kp69 fun K hK=>?_|refine sw_goD kp69 (by kernel_rfl) fun K hK=>?_|((first|refine runL_go ?_|refine runQ_go ?_|refine sw_ret (ret0 ?_)|refine sw_ret ?_);simp (disch:=(refine Om.mk ?_;omega)) only[go_sem,Tryz.results69])|(refine hK.nil ?_;clear hK K;simp only[go_sem])|((first|refine runG_fork rfl rfl rfl rfl rfl ?_ ?_|refine runQG_fork rfl rfl rfl rfl rfl ?_ ?_|refine sw_cond rfl ?_ ?_)<;>intro h<;>try simp (disch:=(refine Om.mk ?_;omega)) only[go_sem] at h)|refine sw_exit rfl ?_|refine sw_loopEnd ?_|refine hK.c0 rfl rfl rfl (l15Poly_fc (ps.getD i default) (rs.getD i default)) rfl rfl rfl ?_|(with_reducible refine And.intro (by first|omega|(simp only[lens];omega)) ?_)|fail
 ·exact fun hp=>h (hp.2 i (by omega))
 ·exact⟨i+1,by(refine covers_mk0 rfl rfl ?_ ?_ ?_ ?_<;>simp (disch:=(refine Om.mk ?_;omega)) only[go_sem]<;>(try omega)),⟨by omega,upto_succ hj h⟩,by omega⟩
 ·exact⟨⟨by assumption,by assumption⟩,fun j hj'=>hj j (by omega)⟩
 ·intro j hj';omega
def kp102:List (Nat×List Nat):=[(0,[2,3]),(1,[2,3,5]),(2,[2,3,5,10]),(4,[2,3,5,38]),(5,[4]),(3,[2,3,5]),(6,[4])]
attribute [go_sem] kp102
theorem l15Most_fc (a b:PolyT) (ha:∀x∈a.coef,0≤x) (hb:∀x∈b.coef,0≤x):FC S 102 [] [] [] [PolyD a,PolyD b] (.bool (tst (MostP a b))) [] []:=by
 refine fc_body Tryz.func102 rfl (by kernel_rfl) (by simp[Tryz.f102]) fun B=>?_
 simp only[Tryz.ntmps102,enumD,lst0,Nat.reduceAdd]
 refine sw_bnd_agg 0 1 rfl rfl fun hb0_1=>?_
 simp only[D.bnd,List.length_map] at hb0_1
 refine sw_bnd_agg 1 1 rfl rfl fun hb1_1=>?_
 simp only[D.bnd,List.length_map] at hb1_1
 repeat' first|refine sw_seq ?_|refine sw_block ?_|refine sw_go 0 kp102 fun K hK=>?_|((first|refine runL_go ?_|refine runQ_go ?_|refine sw_ret (ret0 ?_)|refine sw_ret ?_);simp (disch:=(refine Om.mk ?_;omega)) only[go_sem,Tryz.results102])|(refine hK.nil ?_;clear hK K;simp only[go_sem])|fail
 refine sw_loopU (ι:=Nat) (fun i=>[(5,.int .i64 i)]) (fun _=>[]) (fun i=>i≤a.coef.length∧(∀j<i,a.coef.getD j default≤b.coef.getD j default)) (fun i=>a.coef.length-i) 0 (by(refine covers_mk0 rfl rfl ?_ ?_ ?_ ?_<;>simp (disch:=(refine Om.mk ?_;omega)) only[go_sem]<;>(try omega))) ⟨by omega,?_⟩ (fun i ⟨hi,hj⟩=>?_)
 rotate_left
 simp only[go_sem]
 have h1:=mem_getD (P:=fun x=>0≤x) (Int.le_refl _) ha i
 have h2:=mem_getD (P:=fun x=>0≤x) (Int.le_refl _) hb i
 have h3:b.coef.length≤i→b.coef.getD i default=0:=fun h=>addJ_past a.coef b.coef 0 h
 repeat' first|refine sw_seq ?_|refine sw_block ?_|refine sw_inBlock ?_|refine sw_skip ?_|refine sw_go 0 kp102 fun K hK=>?_|refine sw_goD kp102 (by kernel_rfl) fun K hK=>?_|((first|refine runL_go ?_|refine runQ_go ?_|refine sw_ret (ret0 ?_)|refine sw_ret ?_);simp (disch:=(refine Om.mk ?_;omega)) only[go_sem,Tryz.results102])|(refine hK.nil ?_;clear hK K;simp only[go_sem])|((first|refine runG_fork rfl rfl rfl rfl rfl ?_ ?_|refine runQG_fork rfl rfl rfl rfl rfl ?_ ?_|refine sw_cond rfl ?_ ?_)<;>intro h<;>try simp (disch:=(refine Om.mk ?_;omega)) only[go_sem] at h)|refine sw_exit rfl ?_|refine sw_loopEnd ?_|(with_reducible refine And.intro (by first|omega|(simp only[lens];omega)) ?_)|fail
 ·exact fun hp=>absurd (hp i (by omega)) (by have:=h3 (by omega);omega)
 ·exact fun hp=>absurd (hp i (by omega)) (by omega)
 ·exact⟨i+1,by(refine covers_mk0 rfl rfl ?_ ?_ ?_ ?_<;>simp (disch:=(refine Om.mk ?_;omega)) only[go_sem]<;>(try omega)),⟨by omega,upto_succ hj (by omega)⟩,by omega⟩
 ·exact⟨i+1,by(refine covers_mk0 rfl rfl ?_ ?_ ?_ ?_<;>simp (disch:=(refine Om.mk ?_;omega)) only[go_sem]<;>(try omega)),⟨by omega,upto_succ hj (by omega)⟩,by omega⟩
 ·exact fun j hj'=>hj j (by omega)
 ·intro j hj';omega
theorem end_step {rs t:List Int} {a i:Nat} {need m:Int} (hi:i<t.length) (h3:1≤need) (h4:endS rs t a=scan rs (t.drop i) need i) (h0:0≤arS rs (t.getD i default)) (hm:m=need+arS rs (t.getD i default)-1):(m=0∧endS rs t a=((i+1:Nat):Int))∨(1≤m∧endS rs t a=scan rs (t.drop (i+1)) m (i+1)):=by
 have hb:=scan_step rs t need i hi
 rw[if_neg (by omega)] at hb
 subst hm
 by_cases h:need+arS rs (t.getD i default)-1=0
 ·rw[if_pos h] at hb
  exact .inl ⟨h,by rw[h4,hb];omega⟩
 ·rw[if_neg h] at hb
  exact .inr ⟨by omega,by rw[h4,hb]⟩
def kp98:List (Nat×List Nat):=[(0,[1,2,3]),(1,[1,2,3,7]),(2,[1,2,3,7,9]),(3,[1,2,3,7,14]),(4,[1,2,3,7]),(5,[1,2,3,7]),(6,[1,2,3,7]),(7,[6])]
attribute [go_sem] kp98
theorem l13End_fc (rs t:List Int) (a:Nat) (hT:TermOkP rs t) (ha:a<t.length):FC S 98 [] [] [] [.agg [.sl .any (rs.map (.int .i64))],.sl .any (t.map (.int .i64)),.int .i64 a] (.int .i64 (endS rs t a)) [] []:=by
 have he:=endS_ge hT ha
 have hl:=hT.2.1.2
 refine fc_body Tryz.func98 rfl (by kernel_rfl) (by simp[Tryz.f98]) fun B=>?_
 simp only[Tryz.ntmps98,enumD,lst0,Nat.reduceAdd]
 refine sw_bnd 1 rfl fun hb1=>?_
 simp only[D.bnd,List.length_map] at hb1
 repeat' first|refine sw_seq ?_|refine sw_block ?_|refine sw_go 0 kp98 fun K hK=>?_|((first|refine runL_go ?_|refine runQ_go ?_|refine sw_ret (ret0 ?_)|refine sw_ret ?_);simp (disch:=(refine Om.mk ?_;omega)) only[go_sem,Tryz.results98])|(refine hK.nil ?_;clear hK K;simp only[go_sem])|fail
 refine sw_loopU (ι:=Nat×Int) (fun p=>[(2,.int .i64 p.1),(7,.int .i64 p.2)]) (fun p=>[]) (fun p=>(p.1≤t.length∧0≤p.2∧p.2≤1+3*p.1)∧((p.2=0∧endS rs t a=p.1)∨(1≤p.2∧endS rs t a=scan rs (t.drop p.1) p.2 p.1))) (fun p=>t.length-p.1) (a,1) (by(refine covers_mk0 rfl rfl ?_ ?_ ?_ ?_<;>simp (disch:=(refine Om.mk ?_;omega)) only[go_sem]<;>(try omega))) ?_ (fun p hp=>?_)
 rotate_left
 simp only[go_sem]
 obtain⟨i,need⟩:=p
 obtain⟨⟨h1,h2,h2'⟩,h3⟩:=hp
 dsimp only at h1 h2 h2' h3
 have hlt:1≤need→i<t.length:=fun h=>Classical.byContradiction fun hn=>by
  have hx:=scan_end rs t need i (by omega)
  omega
 have hlow:i<t.length→_:=fun h=>hT.low h
 have hv:i<t.length→t.getD i default<0→arS rs (t.getD i default)=0:=fun hi h=>arS_var (by have:=hlow hi;omega)
 have hsy:0≤t.getD i default→t.getD i default<rs.length→arS rs (t.getD i default)=rs.getD (t.getD i default).toNat default:=fun h h'=>arS_sym (by omega)
 repeat' first|refine sw_seq ?_|refine sw_block ?_|refine sw_inBlock ?_|refine sw_skip ?_|refine sw_go 0 kp98 fun K hK=>?_|refine sw_goD kp98 (by kernel_rfl) fun K hK=>?_|((first|refine runL_go ?_|refine runQ_go ?_|refine sw_ret (ret0 ?_)|refine sw_ret ?_);simp (disch:=(refine Om.mk ?_;omega)) only[go_sem,Tryz.results98])|(refine hK.nil ?_;clear hK K;simp only[go_sem])|((first|refine sw_cond rfl ?_ ?_)<;>intro h<;>try simp (disch:=(refine Om.mk ?_;omega)) only[go_sem] at h)|refine sw_exit rfl ?_|refine sw_loopEnd ?_|(with_reducible refine And.intro (by first|omega|(simp only[lens];omega)) ?_)|fail
 ·have hi:=hlt (by omega)
  have e:=hsy (by omega) (hlow hi).1.2
  have hl0:=(hlow hi).2
  exact⟨(i+1,need+rs.getD (t.getD i default).toNat default-1),by(refine covers_mk0 rfl rfl ?_ ?_ ?_ ?_<;>simp (disch:=(refine Om.mk ?_;omega)) only[go_sem]<;>(try omega)),⟨⟨by omega,by omega,by omega⟩,end_step (need:=need) (m:=need+rs.getD (t.getD i default).toNat default-1) hi (by omega) (by omega) hl0.1 (by rw[e])⟩,by omega⟩
 ·have hi:=hlt (by omega)
  have e:=hv hi (by omega)
  exact⟨(i+1,need-1),by(refine covers_mk0 rfl rfl ?_ ?_ ?_ ?_<;>simp (disch:=(refine Om.mk ?_;omega)) only[go_sem]<;>(try omega)),⟨⟨by omega,by omega,by omega⟩,end_step (need:=need) (m:=need-1) hi (by omega) (by omega) (by omega) (by rw[e];omega)⟩,by omega⟩
 ·omega
 ·exact .inr ⟨by simp,rfl⟩
def kp136:List (Nat×List Nat):=[(0,[1,2]),(1,[1,2,5]),(2,[1,2,5,13]),(3,[4]),(4,[1,2,5,6]),(5,[1,2,5,6,7]),(6,[1,2,5,6,7,23]),(8,[1,2,5,6,7,8]),(9,[1,2,5,7,8]),(10,[1,2,5,6,7]),(7,[1,2,5,6,7]),(11,[4])]
attribute [go_sem] kp136
theorem l13Parts_fc (rs t:List Int) (hT:TermOkP rs t):FC S 136 [] [] [] [.agg [.sl .any (rs.map (.int .i64))],.sl .any (t.map (.int .i64))] (.sl .any ((partsU rs t (arS rs (t.getD 0 default)).toNat).map IntsD)) [] []:=by
 have hl:=hT.2.1
 have hlo:=hT.low (show 0<t.length by omega)
 have hv:t.getD 0 default<0→arS rs (t.getD 0 default)=0:=fun h=>arS_var (by omega)
 have hsy:0≤t.getD 0 default→t.getD 0 default<rs.length→arS rs (t.getD 0 default)=rs.getD (t.getD 0 default).toNat default:=fun h h'=>arS_sym (by omega)
 have hlt:∀j<(arS rs (t.getD 0 default)).toNat,0<nthB rs t 1 j∧nthB rs t 1 j<t.length:=fun j hj=>nthB_lt hT (by omega) (by omega)
 have hle:∀j≤(arS rs (t.getD 0 default)).toNat,0<nthB rs t 1 j∧nthB rs t 1 j≤t.length:=fun j hj=>nthB_le hT (by omega) (by omega)
 generalize hk:(arS rs (t.getD 0 default)).toNat=k at *
 refine fc_body Tryz.func136 rfl (by kernel_rfl) (by simp[Tryz.f136]) fun B=>?_
 simp only[Tryz.ntmps136,enumD,lst0,Nat.reduceAdd]
 refine sw_bnd 1 rfl fun hb1=>?_
 simp only[D.bnd,List.length_map] at hb1
 repeat' first|refine sw_seq ?_|refine sw_block ?_|refine sw_skip ?_|refine sw_go 0 kp136 fun K hK=>?_|((first|refine runL_go ?_|refine runQ_go ?_|refine sw_ret (ret0 ?_)|refine sw_ret ?_);simp (disch:=(refine Om.mk ?_;omega)) only[go_sem,Tryz.results136])|(refine hK.nil ?_;clear hK K;simp only[go_sem])|((first|refine sw_cond rfl ?_ ?_)<;>intro h<;>try simp (disch:=(refine Om.mk ?_;omega)) only[go_sem] at h)|(with_reducible refine And.intro (by first|omega|(simp only[lens];omega)) ?_)|fail
 ·rw[show k=0 by omega];rfl
 refine sw_tok 5 37000 22 1 rfl (.inr rfl) rfl ?_
 simp only[go_sem]
 refine sw_loopT (ι:=Nat) (fun j=>[(7,.int .i64 j),(6,.int .i64 (nthB rs t 1 j)),(5,.sl (.own 37000 22 1) ((partsU rs t j).map IntsD))]) (fun _=>[]) (fun _=>[37000]) (fun j=>j≤k) (fun j=>k-j) 0 (by(refine covers_mk0 rfl rfl ?_ ?_ ?_ ?_<;>simp (disch:=(refine Om.mk ?_;omega)) only[go_sem]<;>(try omega));all_goals exact⟨rfl,rfl,rfl⟩) (by omega) (fun j hj=>?_)
 simp only[go_sem]
 have h3:=hle j hj
 have h4:=hlt j
 have h5:j<k→nthB rs t 1 j<endS rs t (nthB rs t 1 j)∧endS rs t (nthB rs t 1 j)≤t.length:=fun h=>endS_ge hT (h4 h).2
 have h6:j<k→((endS rs t (nthB rs t 1 j)).toNat:Int)=endS rs t (nthB rs t 1 j):=fun h=>by have:=h5 h;omega
 have h7:=partsU_len rs t j
 have h8:=partsU_succ rs t j
 have e:=hsy (by omega) (by omega)
 by_cases hjk:j<k
 ·repeat' first|((exfalso;omega))|refine sw_seq ?_|refine sw_block ?_|refine sw_inBlock ?_|refine sw_skip ?_|refine sw_go 0 kp136 fun K hK=>?_|refine sw_goD kp136 (by kernel_rfl) fun K hK=>?_|((first|refine runL_go ?_|refine runQ_go ?_|refine sw_ret (ret0 ?_)|refine sw_ret ?_);simp (disch:=(refine Om.mk ?_;omega)) only[go_sem,Tryz.results136])|(refine hK.nil ?_;clear hK K;simp only[go_sem])|((first|refine sw_cond rfl ?_ ?_)<;>intro h<;>try simp (disch:=(refine Om.mk ?_;omega)) only[go_sem] at h)|refine sw_loopEnd ?_|refine hK.c0 rfl rfl rfl (l13End_fc rs t (nthB rs t 1 j) hT (h4 hjk).2) rfl rfl rfl ?_|(with_reducible refine And.intro (by first|omega|(simp only[lens];omega)) ?_)|fail
  exact⟨j+1,(by(refine covers_mk0 rfl rfl ?_ ?_ ?_ ?_<;>simp (disch:=(refine Om.mk ?_;omega)) only[go_sem]<;>(try omega));rw[h8,List.map_append];exact⟨rfl,(h6 hjk).symm,by omega⟩),by omega,by omega⟩
 ·repeat' first|((exfalso;omega))|refine sw_seq ?_|refine sw_go 0 kp136 fun K hK=>?_|refine sw_goD kp136 (by kernel_rfl) fun K hK=>?_|((first|refine runL_go ?_|refine runQ_go ?_|refine sw_ret (ret0 ?_)|refine sw_ret ?_);simp (disch:=(refine Om.mk ?_;omega)) only[go_sem,Tryz.results136])|(refine hK.nil ?_;clear hK K;simp only[go_sem])|((first|refine sw_cond rfl ?_ ?_)<;>intro h<;>try simp (disch:=(refine Om.mk ?_;omega)) only[go_sem] at h)|refine sw_exit rfl ?_|(with_reducible refine And.intro (by first|omega|(simp only[lens];omega)) ?_)|fail
  rw[show j=k by omega]
attribute [local irreducible] addJ specJ specL
def kp160:List (Nat×List Nat):=[(0,[2,3,4,6]),(1,[2,4,6,8]),(2,[2,4,6,8,9]),(3,[2,4,6,8,9,27]),(5,[2,4,6,8,9,34]),(6,[2,4,6,8,9]),(7,[2,4,6,8,9]),(4,[2,4,6,8,9]),(8,[6,8,10]),(9,[6,8,10,61]),(11,[6,8,10,69]),(12,[6,7]),(10,[6,8,10]),(13,[6,7])]
attribute [go_sem] kp160
theorem l15AddL_fc (a b:PolyT) (c:Int) (ha:GoodB (100*MF) a) (hb:GoodB MF b) (hc:0≤c∧c≤9):FC S 160 [] [] [] [.agg [.int .i64 a.const,.sl (.lab [1]) (a.coef.map (.int .i64))],.agg [.int .i64 b.const,.sl (.lab [1]) (b.coef.map (.int .i64))],.int .i64 c] (.tup [PolyD (addR a b c).1,.bool (addR a b c).2]) [] []:=by
 have hla:=ha.2.2
 have hlb:=hb.2.2
 have hcc:0≤c*b.const∧c*b.const≤9*MF:=⟨Int.mul_nonneg hc.1 hb.1.1,Int.mul_le_mul hc.2 hb.1.2 hb.1.1 (by omega)⟩
 have hac:=ha.1
 simp only[MF] at hcc hac
 refine fc_bodyF Tryz.func160 rfl (by kernel_rfl) (by simp[Tryz.f160]) fun B N hOff=>?_
 simp only[Tryz.ntmps160,enumD,lst0,Nat.reduceAdd]
 repeat' first|((refine sw_goXL 0 kp160 13 [11] (id:=1) (by kernel_rfl) (by kernel_rfl) ?_))|refine sw_seq ?_|refine sw_go 0 kp160 fun K hK=>?_|((first|refine runL_go ?_|refine runQ_go ?_|refine sw_ret (ret0 ?_)|refine sw_ret ?_);simp (disch:=(refine Om.mk ?_;omega)) only[go_sem,Tryz.results160])|(refine hK.nil ?_;clear hK K;simp only[go_sem])|fail
 refine LexX.part 10 fun K hK=>?_
 repeat' first|((first|refine runL_go ?_|refine runQ_go ?_|refine sw_ret (ret0 ?_)|refine sw_ret ?_);simp (disch:=(refine Om.mk ?_;omega)) only[go_sem,Tryz.results160])|(refine hK.nil ?_;clear hK K;simp only[go_sem])|fail
 refine LexX.app 22000 rfl rfl rfl rfl rfl ⟨by decide,(fun x hx=>by obtain⟨y,_,rfl⟩:=List.mem_map.1 hx;rfl),by simp;omega,by simp;omega⟩ ⟨by simp only[Nat.reduceLT],rfl⟩ ?_
 refine LexX.go fun K hK=>?_
 repeat' first|((refine hK.alloc rfl rfl ⟨(by simp only[Nat.reduceLT]),rfl⟩ ?_;simp only[go_sem]))|((refine lops_go 0 ?_;refine fun (K:List Oper→LS→Prop) (hK:KOk S 0 _ _ _ K)=>?_;simp only[go_sem]))|refine sw_seq ?_|refine sw_block ?_|refine sw_go 0 kp160 fun K hK=>?_|((first|refine runL_go ?_|refine runQ_go ?_|refine sw_ret (ret0 ?_)|refine sw_ret ?_);simp (disch:=(refine Om.mk ?_;omega)) only[go_sem,Tryz.results160])|(refine hK.nil ?_;clear hK K;simp only[go_sem])|fail
 refine sw_loopT (ι:=Nat) (fun i=>[(9,.int .i64 i)]) (fun i=>[(8,[.int .i64 (a.const+c*b.const),.sl (.own 22000 2 1) ((specJ a.coef b.coef c i).map (.int .i64))])]) (fun _=>[22000]) (fun i=>i≤b.coef.length) (fun i=>b.coef.length-i) 0 (by rw[specJ_zero];(refine covers_mk0 rfl rfl ?_ ?_ ?_ ?_<;>simp (disch:=(refine Om.mk ?_;omega)) only[go_sem]<;>(try omega))) (by omega) (fun i hi=>?_)
 simp only[go_sem]
 have l1:=specJ_len a.coef b.coef c hi
 have hbi:=mem_getD (P:=fun x=>0≤x∧x≤MF) ⟨Int.le_refl _,by decide⟩ hb.2.1 i
 have hai:=mem_getD (P:=fun x=>0≤x∧x≤100*MF) ⟨Int.le_refl _,by decide⟩ ha.2.1 i
 have hm:0≤c*b.coef.getD i default∧c*b.coef.getD i default≤9*MF:=⟨Int.mul_nonneg hc.1 hbi.1,Int.mul_le_mul hc.2 hbi.2 hbi.1 (by omega)⟩
 have hLi:(specL a.coef b.coef c i).getD i default=a.coef.getD i default:=by rw[specL_get,addJ_get _ _ _ _ hi,if_neg (by omega),Int.add_zero]
 simp only[MF] at hai hm
 repeat' first|((refine sw_renC 39000 22000 rfl rfl ?_;simp only[go_sem]))|((refine sw_hold (id:=7) ?_))|refine sw_seq ?_|refine sw_block ?_|refine sw_skip ?_|refine sw_go 0 kp160 fun K hK=>?_|((first|refine runL_go ?_|refine runQ_go ?_|refine sw_ret (ret0 ?_)|refine sw_ret ?_);simp (disch:=(refine Om.mk ?_;omega)) only[go_sem,Tryz.results160])|(refine hK.nil ?_;clear hK K;simp only[go_sem])|((first|refine sw_cond rfl ?_ ?_)<;>intro h<;>try simp (disch:=(refine Om.mk ?_;omega)) only[go_sem] at h)|refine sw_exit rfl ?_|(with_reducible refine And.intro (by first|omega|(simp only[lens];omega)) ?_)|fail
 ·refine HoldP.go ?_
  rw[specJ_pad _ _ _ (by omega) (by omega)]
  have l2:=specL_len a.coef b.coef c (i:=i) (by omega)
  repeat' first|((refine sw_goTW kp160 16 (id:=7) (by kernel_rfl) fun K hK=>?_))|((first|refine runL_go ?_|refine runQ_go ?_|refine sw_ret (ret0 ?_)|refine sw_ret ?_);simp (disch:=(refine Om.mk ?_;omega)) only[go_sem,Tryz.results160])|(refine hK.nil ?_;clear hK K;simp only[go_sem])|(with_reducible refine And.intro (by first|omega|(simp only[lens];omega)) ?_)|fail
  refine LopsW.storeOwnL [(2,.int .i64 c),(4,.box 4 0),(6,.box 6 0),(8,.box 8 0),(9,.int .i64 i)] [(3,[.int .i64 a.const,.sl (.lab [1]) (a.coef.map (.int .i64))]),(4,[.int .i64 b.const,.sl (.lab [1]) (b.coef.map (.int .i64))]),(6,[.int .i64 0,.sl .nil []]),(8,[.int .i64 (a.const+c*b.const),.sl (.own 22000 2 1) (((specL a.coef b.coef c i).set i ((specL a.coef b.coef c i).getD i default+c*b.coef.getD i default)).map (.int .i64))])] hOff.1 rfl rfl rfl rfl rfl rfl rfl (fun _=>rfl) (by simp) ⟨by omega,by omega⟩ (by simp only[Nat.reduceLT]) ⟨⟨by decide,_,rfl,sto_plain rfl⟩,⟨by decide,_,rfl,sto_plain rfl⟩,⟨by decide,_,rfl,sto_plain rfl⟩,⟨by decide,_,rfl,sto_plain rfl⟩,⟨by decide,_,rfl,sto_plain rfl⟩,trivial⟩ ⟨⟨_,rfl,sto_plain rfl,sto_lab _ _ _,trivial⟩,⟨_,rfl,sto_plain rfl,sto_lab _ _ _,trivial⟩,⟨_,rfl,sto_plain rfl,sto_plain rfl,trivial⟩,⟨_,rfl,sto_plain rfl,sto_own,trivial⟩,trivial⟩ ?_
  refine LopsW.nil ?_
  rw[specL_set]
  simp only[go_sem]
  repeat' first|refine sw_inBlock ?_|refine sw_go 0 kp160 fun K hK=>?_|((first|refine runL_go ?_|refine runQ_go ?_|refine sw_ret (ret0 ?_)|refine sw_ret ?_);simp (disch:=(refine Om.mk ?_;omega)) only[go_sem,Tryz.results160])|(refine hK.nil ?_;clear hK K;simp only[go_sem])|refine sw_loopEnd ?_|fail
  exact⟨i+1,(by(refine covers_mk0 rfl rfl ?_ ?_ ?_ ?_<;>simp (disch:=(refine Om.mk ?_;omega)) only[go_sem]<;>(try omega))),by omega,by omega⟩
 ·refine HoldP.go ?_
  rw[specJ_stay _ _ _ (by omega)]
  have l2:=specL_len a.coef b.coef c (i:=i) (by omega)
  repeat' first|((refine sw_goTW kp160 16 (id:=7) (by kernel_rfl) fun K hK=>?_))|((first|refine runL_go ?_|refine runQ_go ?_|refine sw_ret (ret0 ?_)|refine sw_ret ?_);simp (disch:=(refine Om.mk ?_;omega)) only[go_sem,Tryz.results160])|(refine hK.nil ?_;clear hK K;simp only[go_sem])|(with_reducible refine And.intro (by first|omega|(simp only[lens];omega)) ?_)|fail
  refine LopsW.storeOwnL [(2,.int .i64 c),(4,.box 4 0),(6,.box 6 0),(8,.box 8 0),(9,.int .i64 i)] [(3,[.int .i64 a.const,.sl (.lab [1]) (a.coef.map (.int .i64))]),(4,[.int .i64 b.const,.sl (.lab [1]) (b.coef.map (.int .i64))]),(6,[.int .i64 0,.sl .nil []]),(8,[.int .i64 (a.const+c*b.const),.sl (.own 22000 2 1) (((specL a.coef b.coef c i).set i ((specL a.coef b.coef c i).getD i default+c*b.coef.getD i default)).map (.int .i64))])] hOff.1 rfl rfl rfl rfl rfl rfl rfl (fun _=>rfl) (by simp) ⟨by omega,by omega⟩ (by simp only[Nat.reduceLT]) ⟨⟨by decide,_,rfl,sto_plain rfl⟩,⟨by decide,_,rfl,sto_plain rfl⟩,⟨by decide,_,rfl,sto_plain rfl⟩,⟨by decide,_,rfl,sto_plain rfl⟩,⟨by decide,_,rfl,sto_plain rfl⟩,trivial⟩ ⟨⟨_,rfl,sto_plain rfl,sto_lab _ _ _,trivial⟩,⟨_,rfl,sto_plain rfl,sto_lab _ _ _,trivial⟩,⟨_,rfl,sto_plain rfl,sto_plain rfl,trivial⟩,⟨_,rfl,sto_plain rfl,sto_own,trivial⟩,trivial⟩ ?_
  refine LopsW.nil ?_
  rw[specL_set]
  simp only[go_sem]
  repeat' first|refine sw_inBlock ?_|refine sw_go 0 kp160 fun K hK=>?_|((first|refine runL_go ?_|refine runQ_go ?_|refine sw_ret (ret0 ?_)|refine sw_ret ?_);simp (disch:=(refine Om.mk ?_;omega)) only[go_sem,Tryz.results160])|(refine hK.nil ?_;clear hK K;simp only[go_sem])|refine sw_loopEnd ?_|fail
  exact⟨i+1,(by(refine covers_mk0 rfl rfl ?_ ?_ ?_ ?_<;>simp (disch:=(refine Om.mk ?_;omega)) only[go_sem]<;>(try omega))),by omega,by omega⟩
 ·rw[show i=b.coef.length by omega,specJ_end]
  have hlz:(addJ a.coef b.coef c b.coef.length).length≤24:=by rw[addJ_len];omega
  have hcoef:(addF a b c).coef=addJ a.coef b.coef c b.coef.length:=rfl
  have hconst:(addF a b c).const=a.const+c*b.const:=rfl
  generalize hz:addJ a.coef b.coef c b.coef.length=zs at *
  refine sw_loopT (ι:=Nat) (fun i=>[(10,.int .i64 i)]) (fun _=>[]) (fun _=>[22000]) (fun i=>i≤zs.length∧∀j<i,zs.getD j default≤MF) (fun i=>zs.length-i) 0 (by(refine covers_mk0 rfl rfl ?_ ?_ ?_ ?_<;>simp (disch:=(refine Om.mk ?_;omega)) only[go_sem]<;>(try omega))) ⟨by omega,fun j hj=>absurd hj (by omega)⟩ (fun i hi=>?_)
  obtain⟨hi,hj⟩:=hi
  simp only[go_sem]
  repeat' first|((refine sw_hold (id:=13) ?_))|refine sw_seq ?_|refine sw_block ?_|refine sw_inBlock ?_|refine sw_skip ?_|refine sw_go 0 kp160 fun K hK=>?_|((first|refine runL_go ?_|refine runQ_go ?_|refine sw_ret (ret0 ?_)|refine sw_ret ?_);simp (disch:=(refine Om.mk ?_;omega)) only[go_sem,Tryz.results160])|(refine hK.nil ?_;clear hK K;simp only[go_sem])|((first|refine sw_cond rfl ?_ ?_)<;>intro h<;>try simp (disch:=(refine Om.mk ?_;omega)) only[go_sem] at h)|refine sw_exit rfl ?_|refine sw_loopEnd ?_|(with_reducible refine And.intro (by first|omega|(simp only[lens];omega)) ?_)|fail
  ·have hn:¬ ∀x∈(addF a b c).coef,x≤MF:=fun hall=>absurd (hall _ (by rw[hcoef];exact getD_mem zs i (by omega))) (by simp only[MF];omega)
   rw[addR_no hn]
   exact⟨⟨rfl,rfl⟩,rfl⟩
  ·exact⟨i+1,(by(refine covers_mk0 rfl rfl ?_ ?_ ?_ ?_<;>simp (disch:=(refine Om.mk ?_;omega)) only[go_sem]<;>(try omega))),⟨by omega,upto_succ hj (by simp only[MF];omega)⟩,by omega⟩
  ·refine HoldP.go ?_
   refine sw_any (id:=13) kp160 [(false,[]),(false,[]),(false,[1]),(false,[2]),(false,[0,0]),(false,[3,4,0,1,2,3,4])] ⟨75,[(6,.box 6 0),(7,.bool (decide (a.const+c*b.const≤1000000000000)))],[(6,[.int .i64 (a.const+c*b.const),.sl (.own 22000 2 1) (zs.map (.int .i64))])],[],[22000],[]⟩ (by kernel_rfl) ?_ ?_;simp only[List.length_cons,List.length_nil,Nat.reduceAdd]
   repeat' first|((refine anyB_unf ?_;simp only[stepF_n,stepF_c,goR_n,goR_c,exR_n,exR_c,memB_n,memB_c,subB_n,subB_c,moveY_m,moveY_f,moveY_i,cond_t,cond_f,true_and,and_true,Bool.not_false,Bool.not_true,Bool.and_true,Bool.and_false,Bool.true_and,Bool.false_and,Bool.or_false,Bool.false_or,Bool.true_or,Bool.or_true,Nat.reduceBEq,Nat.reduceAdd]))|((refine hK.nil (anyB_id ?_);clear hK K))|((refine lops_and ?_ ?_))|((refine lops_go 0 ?_;refine fun (K:List Oper→LS→Prop) (hK:KOk S 0 _ _ _ K)=>?_;simp (disch:=(refine Om.mk ?_;omega)) only[go_sem]))|((refine anyB_end ?_;simp (disch:=(refine Om.mk ?_;omega)) only[go_sem];(refine covers_mk0 rfl rfl ?_ ?_ ?_ ?_<;>simp (disch:=(refine Om.mk ?_;omega)) only[go_sem]<;>(try omega));done))|((first|refine runL_go ?_|refine runQ_go ?_|refine sw_ret (ret0 ?_)|refine sw_ret ?_);simp (disch:=(refine Om.mk ?_;omega)) only[go_sem,Tryz.results160])|fail
   have hy:∀x∈(addF a b c).coef,x≤MF:=by rw[hcoef];exact all_getD (P:=fun x=>x≤MF) fun j hj'=>hj j (by omega)
   rw[addR_yes hy]
   refine⟨⟨hconst.symm,hcoef.symm⟩,?_⟩
   rw[hconst]
   by_cases h1:a.const+c*b.const≤MF
   ·rw[tst_true h1];simpa[MF] using h1
   ·rw[tst_false h1];simpa[MF] using h1
theorem l15Add_fc (a b:PolyT) (c:Int) (ha:GoodB (100*MF) a) (hb:GoodB MF b) (hc:0≤c∧c≤9):FC S 160 [] [] [] [PolyD a,PolyD b,.int .i64 c] (.tup [PolyD (addR a b c).1,.bool (addR a b c).2]) [] []:=by
 refine fc_old [1] (by simp) ?_ ?_ ?_
 ·simp[PolyD,D.okLb,D.okLbL,okLbL_map (f:=fun x=>D.int .i64 x) fun _=>rfl]
 ·simp[PolyD,D.noLb,D.noLbL,noLbL_map (f:=fun x=>D.int .i64 x) fun _=>rfl]
 ·simp only[PolyD,D.lbL,D.lb,lbL_ints]
  exact l15AddL_fc a b c ha hb hc
end Go.Proofs.YtpennhjjnlkbiaaGreat
end
section
namespace Go.Proofs.YtpennhjjnlkbiaaGreat
open Go Go.Lg
set_option linter.unusedSimpArgs false
set_option linter.unusedVariables false
set_option maxHeartbeats 4000000
attribute [local irreducible] SW runL runQ runG runQG FC Ret1 toF redoL anyB addJ specJ specL formM
theorem flat_zeros (n:Nat) (k:IntKind) (m:Int):(List.replicate n [D.int k m]).flatten=(List.replicate n m).map (.int k):=by rw[flatten_one,List.map_replicate]
theorem idsL_intsF (k:IntKind) (xs:List Int):D.idsL (xs.map (.int k))=[]:=by
 induction xs with
 | nil=>rfl
 | cons x r ih=>simp[D.idsL,D.ids,ih]
attribute [local go_sem] flat_zeros idsL_intsF
theorem addR_fst {a b:PolyT} {c:Int} (h:(addR a b c).2=true):(addR a b c).1=addF a b c:=by
 have h1:=(addR_ok.1 h).1
 rw[addR_yes h1]
def kp147:List (Nat×List Nat):=[(0,[1,3,4,6,8]),(1,[1,3,4,6,8,10]),(2,[1,3,4,6,8,10,11]),(3,[1,3,4,6,8,10,11,22]),(5,[1,3,4,6,8,10,11,12,13]),(6,[1,3,4,6,8,10,11,12,36]),(7,[8,9]),(8,[1,3,4,6,8,10,11,14,15]),(9,[1,3,4,6,8,10,11,14,50]),(10,[8,9]),(11,[1,3,4,6,8,10,11]),(4,[1,3,4,6,8,10,11]),(12,[8,9])]
attribute [go_sem] kp147
theorem l15Sum_fc (rs:List Int) (ps:List PolyT) (p:PolyT) (parts:List (List Int)) (F:Nat→PolyT×Bool) (hp:PolyOkP parts.length p) (hn:parts.length≤3) (hF:∀j<parts.length,GoodB MF (F j).1) (hform:∀j<parts.length,FC S 127 [] [] [] [.agg [.sl .any (rs.map (.int .i64))],.sl .any (ps.map PolyD),.sl .any ((parts.getD j default).map (.int .i64))] (.tup [PolyD (F j).1,.bool (F j).2]) [] []):FC S 147 [] [] [] [.agg [.sl .any (rs.map (.int .i64))],.sl .any (ps.map PolyD),PolyD p,.sl .any (parts.map IntsD)] (.tup [PolyD (appF1 F p parts.length).1,.bool (appF1 F p parts.length).2]) [] []:=by
 have hpl:=hp.1
 refine fc_body Tryz.func147 rfl (by kernel_rfl) (by simp[Tryz.f147]) fun B=>?_
 simp only[Tryz.ntmps147,enumD,lst0,Nat.reduceAdd]
 repeat' first|refine sw_seq ?_|refine sw_block ?_|refine sw_go 0 kp147 fun K hK=>?_|((first|refine runL_go ?_|refine runQ_go ?_|refine sw_ret (ret0 ?_)|refine sw_ret ?_);simp (disch:=(refine Om.mk ?_;omega)) only[go_sem,Tryz.results147])|(refine hK.nil ?_;clear hK K;simp only[go_sem])|fail
 refine sw_boxLe 10 [.int .i64 p.const,.sl .any (([]:List Int).map (.int .i64))] rfl rfl (le_two (.refl _) .any) ?_
 simp only[go_sem]
 refine sw_loopT (ι:=Nat) (fun i=>[(11,.int .i64 i)]) (fun i=>[(10,[.int .i64 (sumF F p i).const,.sl .any ((sumF F p i).coef.map (.int .i64))])]) (fun _=>[]) (fun i=>i≤parts.length∧(∀j<i,(F j).2=true)∧okF (sumF F p i)) (fun i=>parts.length-i) 0 (by(refine covers_mk0 rfl rfl ?_ ?_ ?_ ?_<;>simp (disch:=(refine Om.mk ?_;omega)) only[go_sem]<;>(try omega));all_goals first|rfl|exact⟨rfl,rfl⟩) ⟨by omega,(fun j hj=>absurd hj (by omega)),okF_zero hp⟩ (fun i hi=>?_)
 obtain⟨hi,hj,hok⟩:=hi
 simp only[go_sem]
 have hs1:sumF F p (i+1)=addF (sumF F p i) (F i).1 (p.coef.getD i default):=rfl
 have hci:=coef_get hp i
 by_cases hil:i<parts.length
 ·have cF:=hform i hil
  have hg:=hF i hil
  have hgs:=good_le (good_sum hp i fun j hj=>hF j (by omega)) (show (9+9*MF*(i:Int))≤100*MF by simp only[MF];omega)
  have cA:=l15Add_fc (sumF F p i) (F i).1 (p.coef.getD i default) hgs hg hci
  have hok1:=addR_ok (a:=sumF F p i) (b:=(F i).1) (c:=p.coef.getD i default)
  rw[←hs1] at hok1
  repeat' first|((exfalso;omega))|refine sw_seq ?_|refine sw_block ?_|refine sw_inBlock ?_|refine sw_skip ?_|refine sw_go 0 kp147 fun K hK=>?_|refine sw_goX 0 kp147 13 (id:=5) (by kernel_rfl) fun K hK=>?_|refine sw_goX 0 kp147 14 (id:=8) (by kernel_rfl) fun K hK=>?_|(refine hK.alloc rfl rfl ⟨(by simp only[Nat.reduceLT]),rfl⟩ ?_;simp (disch:=(refine Om.mk ?_;omega)) only[go_sem])|(refine hK.store rfl rfl rfl ⟨⟨(by simp only[go_sem]),(by simp only[go_sem])⟩,(by simp only[go_sem]),(by simp only[go_sem]),(by simp only[go_sem])⟩ ?_;simp (disch:=(refine Om.mk ?_;omega)) only[go_sem])|refine fun (K:KT) (hK:KOk S 0 _ _ _ K)=>?_|((first|refine runL_go ?_|refine runQ_go ?_|refine sw_ret (ret0 ?_)|refine sw_ret ?_);simp (disch:=(refine Om.mk ?_;omega)) only[go_sem,Tryz.results147])|(refine hK.nil ?_;clear hK K;simp only[go_sem])|((first|refine sw_cond rfl ?_ ?_)<;>intro h<;>try simp (disch:=(refine Om.mk ?_;omega)) only[go_sem] at h)|refine sw_loopEnd ?_|refine hK.c0 rfl rfl rfl (cF) rfl rfl rfl ?_|refine hK.c0 rfl rfl rfl (cA) rfl rfl rfl ?_|(with_reducible refine And.intro (by first|omega|(simp only[lens];omega)) ?_)|fail
  ·rw[appF1_no fun e=>by have:=e.1 i hil;rw[this] at h;cases h]
   exact⟨⟨rfl,rfl⟩,rfl⟩
  ·rw[appF1_no fun e=>by have:=hok1.2 (ok_sum hp hF e.2 (i+1) hil);rw[this] at h;cases h]
   exact⟨⟨rfl,rfl⟩,rfl⟩
  ·have e1:=addR_fst h
   rw[e1,←hs1]
   exact⟨i+1,(by(refine covers_mk0 rfl rfl ?_ ?_ ?_ ?_<;>simp (disch:=(refine Om.mk ?_;omega)) only[go_sem]<;>(try omega))),⟨by omega,upto_succ hj (by assumption),hok1.1 h⟩,by omega⟩
 ·repeat' first|((exfalso;omega))|refine sw_seq ?_|refine sw_go 0 kp147 fun K hK=>?_|((first|refine runL_go ?_|refine runQ_go ?_|refine sw_ret (ret0 ?_)|refine sw_ret ?_);simp (disch:=(refine Om.mk ?_;omega)) only[go_sem,Tryz.results147])|(refine hK.nil ?_;clear hK K;simp only[go_sem])|((first|refine sw_cond rfl ?_ ?_)<;>intro h<;>try simp (disch:=(refine Om.mk ?_;omega)) only[go_sem] at h)|refine sw_exit rfl ?_|fail
  obtain rfl:i=parts.length:=by omega
  rw[appF1_yes ⟨hj,hok⟩]
  exact⟨⟨rfl,rfl⟩,rfl⟩
def kp127:List (Nat×List Nat):=[(0,[1,2,3,6]),(1,[1,2,3,6,12]),(2,[2,6,8]),(3,[6,8]),(4,[6,7]),(5,[6,7])]
attribute [go_sem] kp127
theorem l15Form_fc (rs:List Int) (ps:List PolyT) (hP:PolysOkP rs ps):∀f t,TermOkP rs t→t.length≤f→FC S 127 [] [] [] [.agg [.sl .any (rs.map (.int .i64))],.sl .any (ps.map PolyD),.sl .any (t.map (.int .i64))] (.tup [PolyD (formM rs ps f t).1,.bool (formM rs ps f t).2]) [] []:=by
 intro f
 induction f with
 | zero=>intro t ht hl;have:=ht.2.1.1;omega
 | succ f ih =>
  intro t ht hl
  have hl2:=ht.2.1
  have hlo:=ht.low (show 0<t.length by omega)
  by_cases h0:t.getD 0 default<0
  ·rw[formM_var h0]
   refine fc_body Tryz.func127 rfl (by kernel_rfl) (by simp[Tryz.f127]) fun B=>?_
   simp only[Tryz.ntmps127,enumD,lst0,Nat.reduceAdd]
   refine sw_bnd 2 rfl fun hb2=>?_
   simp only[D.bnd,List.length_map] at hb2
   repeat' first|((exfalso;omega))|((refine⟨by rw[List.length_replicate];omega,?_⟩))|((refine sw_hold (id:=4) ?_))|refine sw_seq ?_|refine sw_go 0 kp127 fun K hK=>?_|refine sw_goT 0 kp127 7 (id:=3) (by kernel_rfl) fun K hK=>?_|refine fun (K:KT) (hK:KOk S 0 _ _ _ K)=>?_|((first|refine runL_go ?_|refine runQ_go ?_|refine sw_ret (ret0 ?_)|refine sw_ret ?_);simp (disch:=(refine Om.mk ?_;omega)) only[go_sem,Tryz.results127])|(refine hK.nil ?_;clear hK K;simp only[go_sem])|((first|refine sw_cond rfl ?_ ?_)<;>intro h<;>try simp (disch:=(refine Om.mk ?_;omega)) only[go_sem] at h)|(with_reducible refine And.intro (by first|omega|(simp only[lens];omega)) ?_)|fail
   refine HoldP.go ?_
   refine sw_freezeBox 8 1 1 .any ((varF (t.getD 0 default)).coef.map (.int .i64)) rfl rfl rfl (by decide) (by rw[flat_ints];unfold varF;rw[Int.zero_sub]) (by simp[varF]) (fun x hx=>by obtain⟨y,_,rfl⟩:=List.mem_map.1 hx;rfl) (fun d hd=>by obtain⟨y,_,rfl⟩:=List.mem_map.1 hd;rfl) (.inl rfl) ?_
   simp only[go_sem]
   repeat' first|refine sw_go 0 kp127 fun K hK=>?_|((first|refine runL_go ?_|refine runQ_go ?_|refine sw_ret (ret0 ?_)|refine sw_ret ?_);simp (disch:=(refine Om.mk ?_;omega)) only[go_sem,Tryz.results127])|(refine hK.nil ?_;clear hK K;simp only[go_sem])|fail
   rfl
  ·have hpp:=poly_at hP (n:=t.getD 0 default) (by omega) hlo.1.2
   have hk:(((arS rs (t.getD 0 default)).toNat:Nat):Int)=arS rs (t.getD 0 default):=by omega
   have hlen:=partsU_len rs t (arS rs (t.getD 0 default)).toNat
   rw[←hk,←hlen] at hpp
   have cS:=l15Sum_fc rs ps (ps.getD (t.getD 0 default).toNat default) (partsU rs t (arS rs (t.getD 0 default)).toNat) (fun j=>formM rs ps f (argU rs t j)) hpp (by omega) (fun j hj=>form_good hP f _ (argU_ok ht (by omega)).1) (fun j hj=>by
    rw[partsU_get rs t (by omega)]
    have h1:=argU_ok ht (j:=j) (by omega)
    exact ih _ h1.1 (by omega))
   have cP:=l13Parts_fc rs t ht
   have hpl:(t.getD 0 default).toNat<ps.length:=by have:=hP.1.2;omega
   rw[formM_app h0]
   rw[hlen] at cS
   refine fc_body Tryz.func127 rfl (by kernel_rfl) (by simp[Tryz.f127]) fun B=>?_
   simp only[Tryz.ntmps127,enumD,lst0,Nat.reduceAdd]
   refine sw_bnd 2 rfl fun hb2=>?_
   simp only[D.bnd,List.length_map] at hb2
   repeat' first|((exfalso;omega))|refine sw_seq ?_|refine sw_skip ?_|refine sw_go 0 kp127 fun K hK=>?_|refine sw_goT 0 kp127 14 (id:=5) (by kernel_rfl) fun K hK=>?_|refine fun (K:KT) (hK:KOk S 0 _ _ _ K)=>?_|((first|refine runL_go ?_|refine runQ_go ?_|refine sw_ret (ret0 ?_)|refine sw_ret ?_);simp (disch:=(refine Om.mk ?_;omega)) only[go_sem,Tryz.results127])|(refine hK.nil ?_;clear hK K;simp only[go_sem])|((first|refine sw_cond rfl ?_ ?_)<;>intro h<;>try simp (disch:=(refine Om.mk ?_;omega)) only[go_sem] at h)|refine hK.c0 rfl rfl rfl (cP) rfl rfl rfl ?_|refine hK.c0 rfl rfl rfl (cS) rfl rfl rfl ?_|(with_reducible refine And.intro (by first|omega|(simp only[lens];omega)) ?_)|fail
open Classical in
noncomputable def formR (rs:List Int) (ps:List PolyT) (t:List Int):PolyT×Bool:=if PolysOkP rs ps∧TermOkP rs t then formM rs ps 60 t else (zeroF,false)
theorem formR_yes {rs:List Int} {ps:List PolyT} {t:List Int} (h:PolysOkP rs ps∧TermOkP rs t):formR rs ps t=formM rs ps 60 t:=if_pos h
theorem formR_no {rs:List Int} {ps:List PolyT} {t:List Int} (h:¬(PolysOkP rs ps∧TermOkP rs t)):formR rs ps t=(zeroF,false):=if_neg h
theorem formR_good (rs:List Int) (ps:List PolyT) (t:List Int):GoodB MF (formR rs ps t).1:=by
 rcases Classical.em (PolysOkP rs ps∧TermOkP rs t) with h|h
 ·rw[formR_yes h];exact form_good h.1 60 t h.2
 ·rw[formR_no h];exact good_zero
def kp101:List (Nat×List Nat):=[(0,[1,2,3,6]),(1,[1,2,3,6,17]),(2,[6,7]),(3,[6,7])]
attribute [go_sem] kp101
theorem specFormOf_fc (rs:List Int) (ps:List PolyT) (t:List Int):FC S 101 [] [] [] [.agg [.sl .any (rs.map (.int .i64))],.sl .any (ps.map PolyD),.sl .any (t.map (.int .i64))] (.tup [PolyD (formR rs ps t).1,.bool (formR rs ps t).2]) [] []:=by
 rcases Classical.em (PolysOkP rs ps∧TermOkP rs t) with⟨h1,h2⟩|hn
 ·rw[formR_yes ⟨h1,h2⟩]
  refine fc_body Tryz.func101 rfl (by kernel_rfl) (by simp[Tryz.f101]) fun B=>?_
  simp only[Tryz.ntmps101,enumD,lst0,Nat.reduceAdd]
  repeat' first|refine sw_seq ?_|refine sw_skip ?_|refine sw_go 0 kp101 fun K hK=>?_|((first|refine runL_go ?_|refine sw_ret (ret0 ?_)|refine sw_ret ?_);simp (disch:=(refine Om.mk ?_;omega)) only[go_sem,Tryz.results101])|(refine hK.nil ?_;clear hK K;simp only[go_sem])|((first|refine runG_fork rfl rfl rfl rfl rfl ?_ ?_|refine sw_cond rfl ?_ ?_)<;>intro h<;>try simp (disch:=(refine Om.mk ?_;omega)) only[go_sem] at h)|refine hK.skp rfl rfl ?_|refine hK.c0 rfl rfl rfl (specPolysOk_fc _ _ _) rfl rfl rfl ?_|refine hK.c0 rfl rfl rfl (specTermOk_fc _ _ _ _) rfl rfl rfl ?_|refine hK.c0 rfl rfl rfl (l15Form_fc rs ps h1 60 t h2 h2.2.1.2) rfl rfl rfl ?_|fail
  all_goals first|exact absurd h1 (by assumption)|exact absurd h2 (by assumption)
 ·rw[formR_no hn]
  refine fc_body Tryz.func101 rfl (by kernel_rfl) (by simp[Tryz.f101]) fun B=>?_
  simp only[Tryz.ntmps101,enumD,lst0,Nat.reduceAdd]
  repeat' first|((exact absurd ⟨(by assumption),(by assumption)⟩ hn))|refine sw_seq ?_|refine sw_go 0 kp101 fun K hK=>?_|((first|refine runL_go ?_|refine sw_ret (ret0 ?_)|refine sw_ret ?_);simp (disch:=(refine Om.mk ?_;omega)) only[go_sem,Tryz.results101])|(refine hK.nil ?_;clear hK K;simp only[go_sem])|((first|refine runG_fork rfl rfl rfl rfl rfl ?_ ?_|refine sw_cond rfl ?_ ?_)<;>intro h<;>try simp (disch:=(refine Om.mk ?_;omega)) only[go_sem] at h)|refine hK.skp rfl rfl ?_|refine hK.c0 rfl rfl rfl (specPolysOk_fc _ _ _) rfl rfl rfl ?_|refine hK.c0 rfl rfl rfl (specTermOk_fc _ _ _ _) rfl rfl rfl ?_|fail
  all_goals exact⟨rfl,rfl⟩
end Go.Proofs.YtpennhjjnlkbiaaGreat
end
section
namespace Go.Proofs.YtpennhjjnlkbiaaGreat
open Go Go.Lg
set_option linter.unusedSimpArgs false
set_option maxHeartbeats 4000000
attribute [local irreducible] SW runL runQ runG runQG FC Ret1
def kp114:List (Nat×List Nat):=[(0,[0,1]),(1,[0,1,10]),(2,[4]),(3,[0,1,5]),(4,[0,1,5,14]),(6,[0,1,5,25]),(7,[4]),(5,[0,1,5]),(8,[4])]
attribute [go_sem] kp114
theorem specSameTerm_fc (tk tk':Tk) (xs ys:List Int):FC S 114 [] [] [] [.sl tk (xs.map (.int .i64)),.sl tk' (ys.map (.int .i64))] (.bool (tst (xs=ys))) [] []:=by
 refine fc_body Tryz.func114 rfl (by kernel_rfl) (by simp[Tryz.f114]) fun B=>?_
 simp only[Tryz.ntmps114,enumD,lst0,Nat.reduceAdd]
 refine sw_bnd 0 rfl fun hb0=>?_
 simp only[D.bnd,List.length_map] at hb0
 refine sw_bnd 1 rfl fun hb1=>?_
 simp only[D.bnd,List.length_map] at hb1
 repeat' first|refine sw_seq ?_|refine sw_block ?_|refine sw_skip ?_|refine sw_go 0 kp114 fun K hK=>?_|((first|refine runL_go ?_|refine runQ_go ?_|refine sw_ret (ret0 ?_)|refine sw_ret ?_);simp (disch:=(refine Om.mk ?_;omega)) only[go_sem,Tryz.results114])|(refine hK.nil ?_;clear hK K;simp only[go_sem])|((first|refine sw_cond rfl ?_ ?_)<;>intro h<;>try simp (disch:=(refine Om.mk ?_;omega)) only[go_sem] at h)|fail
 ·intro e;exact h (by rw[e])
 refine sw_loopU (ι:=Nat) (fun i=>[(5,.int .i64 i)]) (fun _=>[]) (fun i=>i≤xs.length∧(∀j<i,xs.getD j default=ys.getD j default)) (fun i=>xs.length-i) 0 (by(refine covers_mk0 rfl rfl ?_ ?_ ?_ ?_<;>simp (disch:=(refine Om.mk ?_;omega)) only[go_sem]<;>(try omega))) ⟨by omega,?_⟩ (fun i ⟨hi,hj⟩=>?_)
 rotate_left
 simp only[go_sem]
 repeat' first|refine sw_seq ?_|refine sw_block ?_|refine sw_inBlock ?_|refine sw_skip ?_|refine sw_go 0 kp114 fun K hK=>?_|refine sw_goD kp114 (by kernel_rfl) fun K hK=>?_|((first|refine runL_go ?_|refine runQ_go ?_|refine sw_ret (ret0 ?_)|refine sw_ret ?_);simp (disch:=(refine Om.mk ?_;omega)) only[go_sem,Tryz.results114])|(refine hK.nil ?_;clear hK K;simp only[go_sem])|((first|refine sw_cond rfl ?_ ?_)<;>intro h<;>try simp (disch:=(refine Om.mk ?_;omega)) only[go_sem] at h)|refine sw_exit rfl ?_|refine sw_loopEnd ?_|(with_reducible refine And.intro (by first|omega|(simp only[lens];omega)) ?_)|fail
 ·intro e;exact h (by rw[e])
 ·exact⟨i+1,by(refine covers_mk0 rfl rfl ?_ ?_ ?_ ?_<;>simp (disch:=(refine Om.mk ?_;omega)) only[go_sem]<;>(try omega)),⟨by omega,upto_succ hj (by assumption)⟩,by omega⟩
 ·exact ext_getD (by assumption) fun j hj'=>hj j (by omega)
 ·intro j hj';omega
end Go.Proofs.YtpennhjjnlkbiaaGreat
end
