/-
  A17q, K2p, one behind the other.
-/
import Derived.Test.YtpennhjjnlkbiaaGreatG3
import Derived.Test.YtpennhjjnlkbiaaGreatG2
section
namespace Go.Proofs.YtpennhjjnlkbiaaGreat
open Go Go.Lg
set_option linter.unusedSimpArgs false
set_option linter.unusedVariables false
set_option maxHeartbeats 4000000
attribute [local irreducible] SW runL runQ runG runQG FC Ret1 toF redoL anyB
theorem defP_mem {x:SystemT} {n:Int}:n∈defL x.rules x.rules.length↔DefP x n:=defL_all x.rules n
theorem hasSub_no {rs t:List Int} {u:List Int} (h:∀j<t.length,1≤j→subS rs t j≠u):¬HasSub rs t 1 u:=fun⟨a,h1,e⟩=>h a h1.2 h1.1 e
open Classical in
noncomputable def atR (x:SystemT) (r a:Nat):DepPairT×Bool:=if PairP x r a then (mkP x r a,true) else (⟨[],[],0,0⟩,false)
theorem atR_yes {x:SystemT} {r a:Nat} (h:PairP x r a):atR x r a=(mkP x r a,true):=if_pos h
theorem atR_no {x:SystemT} {r a:Nat} (h:¬PairP x r a):atR x r a=(⟨[],[],0,0⟩,false):=if_neg h
theorem prR_at {x:SystemT} {r a:Nat}:((atR x r a).2=true→prR x r (a+1)=prR x r a++[(atR x r a).1])∧((atR x r a).2=false→prR x r (a+1)=prR x r a):=by
 by_cases h:PairP x r a
 ·rw[atR_yes h,prR_yes h];exact⟨fun _=>rfl,fun e=>Bool.noConfusion e⟩
 ·rw[atR_no h,prR_no h];exact⟨fun e=>Bool.noConfusion e,fun _=>rfl⟩
def kp99:List (Nat×List Nat):=[(0,[1,2,3]),(1,[1,2,3,7]),(2,[1,2,3,7,11]),(4,[1,2,3,7,22]),(5,[6]),(3,[1,2,3,7]),(6,[6])]
attribute [go_sem] kp99
theorem l17Part_fc (rs t u:List Int) (hT:TermOkP rs t):FC S 99 [] [] [] [.agg [.sl .any (rs.map (.int .i64))],.sl .any (t.map (.int .i64)),.sl .any (u.map (.int .i64))] (.bool (tst (HasSub rs t 1 u))) [] []:=by
 have hl:=hT.2.1
 refine fc_body Tryz.func99 rfl (by kernel_rfl) (by simp[Tryz.f99]) fun B=>?_
 simp only[Tryz.ntmps99,enumD,lst0,Nat.reduceAdd]
 repeat' first|refine sw_seq ?_|refine sw_block ?_|refine sw_go 0 kp99 fun K hK=>?_|((first|refine runL_go ?_|refine sw_ret (ret0 ?_)|refine sw_ret ?_);simp (disch:=(refine Om.mk ?_;omega)) only[go_sem,Tryz.results99])|(refine hK.nil ?_;clear hK K;simp only[go_sem])|fail
 refine sw_loopU (ι:=Nat) (fun p=>[(7,.int .i64 p)]) (fun p=>[]) (fun p=>(1≤p∧p≤t.length)∧∀j<p,1≤j→subS rs t j≠u) (fun p=>t.length-p) 1 (by(refine covers_mk0 rfl rfl ?_ ?_ ?_ ?_<;>simp (disch:=(refine Om.mk ?_;omega)) only[go_sem]<;>(try omega))) ?_ (fun p hp=>?_)
 rotate_left
 simp only[go_sem]
 obtain⟨hp,hj⟩:=hp
 by_cases hil:p<t.length
 ·have h5:=endS_ge hT hil
  have h6:((endS rs t p).toNat:Int)=endS rs t p:=by omega
  repeat' first|((exfalso;omega))|refine sw_seq ?_|refine sw_block ?_|refine sw_inBlock ?_|refine sw_skip ?_|refine sw_go 0 kp99 fun K hK=>?_|((first|refine runL_go ?_|refine sw_ret (ret0 ?_)|refine sw_ret ?_);simp (disch:=(refine Om.mk ?_;omega)) only[go_sem,Tryz.results99])|(refine hK.nil ?_;clear hK K;simp only[go_sem])|((first|refine sw_cond rfl ?_ ?_)<;>intro h<;>try simp (disch:=(refine Om.mk ?_;omega)) only[go_sem] at h)|refine sw_loopEnd ?_|refine hK.c0 rfl rfl rfl (l13End_fc rs t p hT hil) rfl rfl rfl ?_|refine hK.c0 rfl rfl rfl (specSameTerm_fc _ _ (subS rs t p) u) rfl rfl rfl ?_|(with_reducible refine And.intro (by first|omega|(simp only[lens];omega)) ?_)|fail
  ·exact⟨p,⟨hp.1,hil⟩,h⟩
  ·exact⟨p+1,(by(refine covers_mk0 rfl rfl ?_ ?_ ?_ ?_<;>simp (disch:=(refine Om.mk ?_;omega)) only[go_sem]<;>(try omega))),⟨by omega,upto_succ hj fun _=>h⟩,by omega⟩
 ·repeat' first|((exfalso;omega))|refine sw_seq ?_|refine sw_go 0 kp99 fun K hK=>?_|((first|refine runL_go ?_|refine sw_ret (ret0 ?_)|refine sw_ret ?_);simp (disch:=(refine Om.mk ?_;omega)) only[go_sem,Tryz.results99])|(refine hK.nil ?_;clear hK K;simp only[go_sem])|((first|refine sw_cond rfl ?_ ?_)<;>intro h<;>try simp (disch:=(refine Om.mk ?_;omega)) only[go_sem] at h)|refine sw_exit rfl ?_|fail
  exact hasSub_no fun j hj'=>hj j (by omega)
 ·exact⟨⟨by omega,by omega⟩,fun j h1 h2=>absurd h1 (by omega)⟩
theorem l1CopyA_fc (tk:Tk) (xs:List Int) (hl:xs.length≤17592186044416):FC S 68 [] [] [] [.sl tk (xs.map (.int .i64))] (.sl .any (xs.map (.int .i64))) [] []:=by
 refine FC.args (args':=[.sl .any (xs.map (.int .i64))]) ?_ (by simp only[go_sem])
 refine fc_body Tryz.func68 rfl (by kernel_rfl) (by simp[Tryz.f68]) fun B=>?_
 simp only[Tryz.ntmps68,enumD,lst0,Nat.reduceAdd]
 refine sw_bnd 0 rfl fun hb0=>?_
 simp only[D.bnd,List.length_map] at hb0
 repeat' first|refine sw_seq ?_|refine sw_go 0 kp68 fun K hK=>?_|((first|refine runL_go ?_|refine sw_ret (ret0 ?_)|refine sw_ret ?_);simp (disch:=(refine Om.mk ?_;omega)) only[go_sem,Tryz.results68])|(refine hK.nil ?_;clear hK K;simp only[go_sem])|(with_reducible refine And.intro (by first|omega|(simp only[lens];omega)) ?_)|fail
def kp63:List (Nat×List Nat):=[(0,[1,2,3,6]),(1,[1,2,3,6,8]),(2,[1,2,3,6,8,31]),(3,[6,7]),(4,[1,2,3,6,8,9]),(5,[1,2,6,8,9,49]),(6,[6,7]),(7,[6,7])]
attribute [go_sem] kp63
theorem l17At_fc (x:SystemT) (hx:SystemOkP x) (r a:Nat) (hr:r<x.rules.length) (ha:a<(x.rules.getD r default).r.length):FC S 63 [] [] [] [SystemD x,.int .i64 r,.int .i64 a] (.tup [DepPairD (atR x r a).1,.bool (atR x r a).2]) [] []:=by
 have hR:=hx.2 r hr
 have h12:=hx.1.2
 have hT:=hR.1.2.1
 have h5:=endS_ge hT ha
 have h6:((endS x.sig (x.rules.getD r default).r a).toNat:Int)=endS x.sig (x.rules.getD r default).r a:=by omega
 have hl:=hT.2.1
 have hl1:=hR.1.1.2.1
 have hsl:(subS x.sig (x.rules.getD r default).r a).length≤60:=(subS_ok hT ha).2.1.2
 have h0:∀j<x.rules.length,1≤(x.rules.getD j default).l.length:=fun j hj=>(hx.2 j hj).1.1.2.1.1
 rcases Classical.em (PairP x r a) with hPA|hPA
 ·rw[atR_yes hPA]
  have hh:=hPA.1
  refine fc_body Tryz.func63 rfl (by kernel_rfl) (by simp[Tryz.f63]) fun B=>?_
  simp only[Tryz.ntmps63,enumD,lst0,Nat.reduceAdd]
  repeat' first|((exfalso;omega))|refine sw_seq ?_|refine sw_skip ?_|refine sw_go 0 kp63 fun K hK=>?_|refine sw_goD kp63 (by kernel_rfl) fun K hK=>?_|((first|refine runL_go ?_|refine runQ_go ?_|refine sw_ret (ret0 ?_)|refine sw_ret ?_);simp (disch:=(refine Om.mk ?_;omega)) only[go_sem,Tryz.results63])|(refine hK.nil ?_;clear hK K;simp only[go_sem])|((first|refine runG_fork rfl rfl rfl rfl rfl ?_ ?_|refine runQG_fork rfl rfl rfl rfl rfl ?_ ?_|refine sw_cond rfl ?_ ?_)<;>intro h<;>try simp (disch:=(refine Om.mk ?_;omega)) only[go_sem] at h)|refine hK.c0 rfl rfl rfl (l6Defined_fc x (by omega) h0) rfl rfl rfl ?_|refine hK.c0 rfl rfl rfl (l1Has_fc _ _ _) rfl rfl rfl ?_|refine hK.c0 rfl rfl rfl (l13End_fc x.sig (x.rules.getD r default).r a hT ha) rfl rfl rfl ?_|refine hK.c0 rfl rfl rfl (l1CopyA_fc _ (subS x.sig (x.rules.getD r default).r a) (by omega)) rfl rfl rfl ?_|refine hK.c0 rfl rfl rfl (l17Part_fc x.sig (x.rules.getD r default).l (subS x.sig (x.rules.getD r default).r a) hR.1.1) rfl rfl rfl ?_|refine hK.c0 rfl rfl rfl (l1CopyA_fc _ (x.rules.getD r default).l (by omega)) rfl rfl rfl ?_|(with_reducible refine And.intro (by first|omega|(simp only[lens];omega)) ?_)|fail
  all_goals first|exact absurd (defP_mem.2 hh.2) (by assumption)|exact absurd (by assumption) hPA.2|exact⟨rfl,rfl,rfl,rfl⟩|skip
 ·rw[atR_no hPA]
  refine fc_body Tryz.func63 rfl (by kernel_rfl) (by simp[Tryz.f63]) fun B=>?_
  simp only[Tryz.ntmps63,enumD,lst0,Nat.reduceAdd]
  repeat' first|refine sw_seq ?_|refine sw_skip ?_|refine sw_go 0 kp63 fun K hK=>?_|refine sw_goD kp63 (by kernel_rfl) fun K hK=>?_|((first|refine runL_go ?_|refine runQ_go ?_|refine sw_ret (ret0 ?_)|refine sw_ret ?_);simp (disch:=(refine Om.mk ?_;omega)) only[go_sem,Tryz.results63])|(refine hK.nil ?_;clear hK K;simp only[go_sem])|((first|refine runG_fork rfl rfl rfl rfl rfl ?_ ?_|refine runQG_fork rfl rfl rfl rfl rfl ?_ ?_|refine sw_cond rfl ?_ ?_)<;>intro h<;>try simp (disch:=(refine Om.mk ?_;omega)) only[go_sem] at h)|refine hK.skp rfl rfl ?_|refine hK.c0 rfl rfl rfl (l6Defined_fc x (by omega) h0) rfl rfl rfl ?_|refine hK.c0 rfl rfl rfl (l1Has_fc _ _ _) rfl rfl rfl ?_|refine hK.c0 rfl rfl rfl (l13End_fc x.sig (x.rules.getD r default).r a hT ha) rfl rfl rfl ?_|refine hK.c0 rfl rfl rfl (l1CopyA_fc _ (subS x.sig (x.rules.getD r default).r a) (by omega)) rfl rfl rfl ?_|refine hK.c0 rfl rfl rfl (l17Part_fc x.sig (x.rules.getD r default).l (subS x.sig (x.rules.getD r default).r a) hR.1.1) rfl rfl rfl ?_|refine hK.c0 rfl rfl rfl (l1CopyA_fc _ (x.rules.getD r default).l (by omega)) rfl rfl rfl ?_|(with_reducible refine And.intro (by first|omega|(simp only[lens];omega)) ?_)|fail
  all_goals first|exact absurd (show PairP x r a from⟨⟨(by assumption),defP_mem.1 (by assumption)⟩,(by assumption)⟩) hPA|skip
def kp27:List (Nat×List Nat):=[(0,[1]),(1,[1,4]),(2,[1,4,12]),(3,[2,3]),(4,[1,4,5]),(5,[1,4,5,18]),(7,[1,4,5,6]),(8,[1,4,5,6,29]),(10,[1,4,5,6,7,8]),(11,[1,4,5,6,7,39]),(12,[1,4,5,6]),(9,[1,4,5,6]),(6,[1,4,5]),(13,[4,46]),(14,[2,3]),(15,[2,3])]
attribute [go_sem] kp27
theorem specPairsOf_fc (x:SystemT):FC S 27 [] [] [] [SystemD x] (.tup [.sl .any ((pairsR x).1.map DepPairD),.bool (pairsR x).2]) [] []:=by
 rcases Classical.em (SystemOkP x) with hx|hx
 ·have h12:=hx.1.2
  have hA:(prA x x.rules.length).length≤64→pairsR x=(allP x,true):=fun h=>pairsR_yes ⟨hx,h⟩
  have hB:¬(prA x x.rules.length).length≤64→pairsR x=([],false):=fun h=>pairsR_no fun e=>h e.2
  refine fc_body Tryz.func27 rfl (by kernel_rfl) (by simp[Tryz.f27]) fun B=>?_
  simp only[Tryz.ntmps27,enumD,lst0,Nat.reduceAdd]
  repeat' first|((exact absurd hx (by assumption)))|refine sw_seq ?_|refine sw_block ?_|refine sw_skip ?_|refine sw_go 0 kp27 fun K hK=>?_|((first|refine runL_go ?_|refine sw_ret (ret0 ?_)|refine sw_ret ?_);simp (disch:=(refine Om.mk ?_;omega)) only[go_sem,Tryz.results27])|(refine hK.nil ?_;clear hK K;simp only[go_sem])|((first|refine sw_cond rfl ?_ ?_)<;>intro h<;>try simp (disch:=(refine Om.mk ?_;omega)) only[go_sem] at h)|refine hK.c0 rfl rfl rfl (specSystemOk_fc _) rfl rfl rfl ?_|fail
  refine sw_tok 4 44000 94 4 rfl (.inr rfl) rfl ?_
  simp only[go_sem]
  refine sw_loopT (ι:=Nat) (fun r=>[(5,.int .i64 r),(4,.sl (.own 44000 94 4) ((prA x r).map DepPairD))]) (fun _=>[]) (fun _=>[44000]) (fun r=>r≤x.rules.length) (fun r=>x.rules.length-r) 0 (by(refine covers_mk0 rfl rfl ?_ ?_ ?_ ?_<;>simp (disch:=(refine Om.mk ?_;omega)) only[go_sem]<;>(try omega));all_goals exact⟨rfl,rfl⟩) (by omega) (fun r hr=>?_)
  simp only[go_sem]
  have hl1:=prA_len hx r hr
  by_cases hrl:r<x.rules.length
  ·have hT:=(hx.2 r hrl).1.2.1
   have hTl:=hT.2.1
   repeat' first|((exfalso;omega))|refine sw_seq ?_|refine sw_block ?_|refine sw_skip ?_|refine sw_go 0 kp27 fun K hK=>?_|((first|refine runL_go ?_|refine sw_ret (ret0 ?_)|refine sw_ret ?_);simp (disch:=(refine Om.mk ?_;omega)) only[go_sem,Tryz.results27])|(refine hK.nil ?_;clear hK K;simp only[go_sem])|((first|refine sw_cond rfl ?_ ?_)<;>intro h<;>try simp (disch:=(refine Om.mk ?_;omega)) only[go_sem] at h)|fail
   refine sw_loopT (ι:=Nat) (fun a=>[(6,.int .i64 a),(4,.sl (.own 44000 94 4) ((prA x r++prR x r a).map DepPairD))]) (fun _=>[]) (fun _=>[44000]) (fun a=>a≤(x.rules.getD r default).r.length) (fun a=>(x.rules.getD r default).r.length-a) 0 (by(refine covers_mk0 rfl rfl ?_ ?_ ?_ ?_<;>simp (disch:=(refine Om.mk ?_;omega)) only[go_sem]<;>(try omega));all_goals first|rfl|(rw[show prR x r 0=[] from rfl,List.append_nil];exact⟨rfl,rfl⟩)|(rw[show prR x r 0=[] from rfl,List.append_nil])) (by omega) (fun a ha=>?_)
   simp only[go_sem]
   have hl2:=prR_len x r a
   have hl3:(prA x r++prR x r a).length≤60*r+a:=by rw[List.length_append];omega
   by_cases hal:a<(x.rules.getD r default).r.length
   ·have hst:=@prR_at x r a
    repeat' first|((exfalso;omega))|refine sw_seq ?_|refine sw_block ?_|refine sw_inBlock ?_|refine sw_skip ?_|refine sw_go 0 kp27 fun K hK=>?_|((first|refine runL_go ?_|refine sw_ret (ret0 ?_)|refine sw_ret ?_);simp (disch:=(refine Om.mk ?_;omega)) only[go_sem,Tryz.results27])|(refine hK.nil ?_;clear hK K;simp only[go_sem])|((first|refine sw_cond rfl ?_ ?_)<;>intro h<;>try simp (disch:=(refine Om.mk ?_;omega)) only[go_sem] at h)|refine sw_loopEnd ?_|refine hK.c0 rfl rfl rfl (l17At_fc x hx r a hrl hal) rfl rfl rfl ?_|(with_reducible refine And.intro (by first|omega|(simp only[lens];omega)) ?_)|((with_reducible refine And.intro ?_ ?_);· first|(intro x hx;subst hx;rfl)|(intro x;refine And.intro ?_ ?_<;>(intros;subst_vars;rfl)))|fail
    ·exact⟨a+1,(by(refine covers_mk0 rfl rfl ?_ ?_ ?_ ?_<;>simp (disch:=(refine Om.mk ?_;omega)) only[go_sem]<;>(try omega));rw[hst.1 h,←List.append_assoc,List.map_append (l₁:=prA x r++prR x r a),List.map_append (l₁:=prA x r)];exact⟨rfl,by omega⟩),by omega,by omega⟩
    ·exact⟨a+1,(by(refine covers_mk0 rfl rfl ?_ ?_ ?_ ?_<;>simp (disch:=(refine Om.mk ?_;omega)) only[go_sem]<;>(try omega));rw[hst.2 h];exact⟨rfl,by omega⟩),by omega,by omega⟩
   ·repeat' first|((exfalso;omega))|refine sw_seq ?_|refine sw_inBlock ?_|refine sw_go 0 kp27 fun K hK=>?_|((first|refine runL_go ?_|refine sw_ret (ret0 ?_)|refine sw_ret ?_);simp (disch:=(refine Om.mk ?_;omega)) only[go_sem,Tryz.results27])|(refine hK.nil ?_;clear hK K;simp only[go_sem])|((first|refine sw_cond rfl ?_ ?_)<;>intro h<;>try simp (disch:=(refine Om.mk ?_;omega)) only[go_sem] at h)|refine sw_exit rfl ?_|refine sw_loopEnd ?_|(with_reducible refine And.intro (by first|omega|(simp only[lens];omega)) ?_)|fail
    exact⟨r+1,(by(refine covers_mk0 rfl rfl ?_ ?_ ?_ ?_<;>simp (disch:=(refine Om.mk ?_;omega)) only[go_sem]<;>(try omega));rw[show prA x (r+1)=prA x r++prR x r (x.rules.getD r default).r.length from rfl,show a=(x.rules.getD r default).r.length by omega];exact⟨rfl,by omega⟩),by omega,by omega⟩
  ·obtain rfl:r=x.rules.length:=by omega
   repeat' first|((exfalso;omega))|refine sw_seq ?_|refine sw_skip ?_|refine sw_go 0 kp27 fun K hK=>?_|((first|refine runL_go ?_|refine sw_ret (ret0 ?_)|refine sw_ret ?_);simp (disch:=(refine Om.mk ?_;omega)) only[go_sem,Tryz.results27])|(refine hK.nil ?_;clear hK K;simp only[go_sem])|((first|refine sw_cond rfl ?_ ?_)<;>intro h<;>try simp (disch:=(refine Om.mk ?_;omega)) only[go_sem] at h)|refine sw_exit rfl ?_|fail
   ·rw[hB (by omega)];exact⟨rfl,rfl⟩
   ·rw[hA (by omega)];exact⟨rfl,rfl⟩
 ·rw[pairsR_no fun h=>hx h.1]
  refine fc_body Tryz.func27 rfl (by kernel_rfl) (by simp[Tryz.f27]) fun B=>?_
  simp only[Tryz.ntmps27,enumD,lst0,Nat.reduceAdd]
  repeat' first|((exact absurd (by assumption) hx))|refine sw_seq ?_|refine sw_go 0 kp27 fun K hK=>?_|((first|refine runL_go ?_|refine sw_ret (ret0 ?_)|refine sw_ret ?_);simp (disch:=(refine Om.mk ?_;omega)) only[go_sem,Tryz.results27])|(refine hK.nil ?_;clear hK K;simp only[go_sem])|((first|refine sw_cond rfl ?_ ?_)<;>intro h<;>try simp (disch:=(refine Om.mk ?_;omega)) only[go_sem] at h)|refine hK.c0 rfl rfl rfl (specSystemOk_fc _) rfl rfl rfl ?_|fail
def lastS (set:List Int) (p:Nat):Int:=if p=0 then -1 else set.getD (p-1) default
theorem lastS_succ (set:List Int) (p:Nat):lastS set (p+1)=set.getD p default:=rfl
def kp28:List (Nat×List Nat):=[(0,[0,1]),(1,[0,1,5]),(2,[0,1,5,6]),(3,[0,1,5,6,10]),(5,[0,1,6,22]),(6,[4]),(7,[0,1,5,6]),(4,[0,1,5,6]),(8,[4])]
attribute [go_sem] kp28
theorem l18Set_fc (set:List Int) (n:Nat) (hn:n≤1000):FC S 28 [] [] [] [.sl .any (set.map (.int .i64)),.int .i64 n] (.bool (tst (SetPP set n))) [] []:=by
 refine fc_body Tryz.func28 rfl (by kernel_rfl) (by simp[Tryz.f28]) fun B=>?_
 simp only[Tryz.ntmps28,enumD,lst0,Nat.reduceAdd]
 refine sw_bnd 0 rfl fun hb0=>?_
 simp only[D.bnd,List.length_map] at hb0
 repeat' first|refine sw_seq ?_|refine sw_block ?_|refine sw_go 0 kp28 fun K hK=>?_|((first|refine runL_go ?_|refine sw_ret (ret0 ?_)|refine sw_ret ?_);simp (disch:=(refine Om.mk ?_;omega)) only[go_sem,Tryz.results28])|(refine hK.nil ?_;clear hK K;simp only[go_sem])|fail
 refine sw_loopU (ι:=Nat) (fun p=>[(6,.int .i64 p),(5,.int .i64 (lastS set p))]) (fun p=>[]) (fun p=>p≤set.length∧∀j<p,(0≤set.getD j default∧set.getD j default<n)∧(0<j→set.getD (j-1) default<set.getD j default)) (fun p=>set.length-p) 0 (by(refine covers_mk0 rfl rfl ?_ ?_ ?_ ?_<;>simp (disch:=(refine Om.mk ?_;omega)) only[go_sem]<;>(try omega));exact⟨rfl,rfl⟩) ?_ (fun p hp=>?_)
 rotate_left
 simp only[go_sem]
 obtain⟨hp,hj⟩:=hp
 have hL:-1≤lastS set p∧lastS set p<1000∧(p=0→lastS set p=-1)∧(0<p→lastS set p=set.getD (p-1) default∧0≤lastS set p):=by
  unfold lastS
  split
  ·omega
  ·have:=(hj (p-1) (by omega)).1;omega
 have hC:(lastS set p+1≤set.getD p default∧set.getD p default≤(n:Int)-1)↔((0≤set.getD p default∧set.getD p default<n)∧(0<p→set.getD (p-1) default<set.getD p default)):=by
  rcases Nat.eq_zero_or_pos p with h0|h0
  ·have:=hL.2.2.1 h0;omega
  ·have:=hL.2.2.2 h0;omega
 repeat' first|refine sw_seq ?_|refine sw_block ?_|refine sw_inBlock ?_|refine sw_skip ?_|refine sw_go 0 kp28 fun K hK=>?_|((first|refine runL_go ?_|refine sw_ret (ret0 ?_)|refine sw_ret ?_);simp (disch:=(refine Om.mk ?_;omega)) only[go_sem,Tryz.results28])|(refine hK.nil ?_;clear hK K;simp only[go_sem])|((first|refine sw_cond rfl ?_ ?_)<;>intro h<;>try simp (disch:=(refine Om.mk ?_;omega)) only[go_sem] at h)|refine sw_exit rfl ?_|refine sw_loopEnd ?_|refine hK.c0 rfl rfl rfl (l1In_fc _ _ _) rfl rfl rfl ?_|(with_reducible refine And.intro (by first|omega|(simp only[lens];omega)) ?_)|fail
 ·intro hS
  exact h (hC.2 (hS p (by omega)))
 ·exact⟨p+1,(by(refine covers_mk0 rfl rfl ?_ ?_ ?_ ?_<;>simp (disch:=(refine Om.mk ?_;omega)) only[go_sem]<;>(try omega));exact⟨(lastS_succ set p).symm,by omega⟩),⟨by omega,upto_succ hj (hC.1 h)⟩,by omega⟩
 ·exact fun j hj'=>hj j (by omega)
 ·exact fun j hj'=>absurd hj' (by omega)
theorem marked_at {rs:List Int} {ps:List PolyT} (h:MarkedP rs ps) {n:Int} (h0:0≤n) (h1:n<rs.length):PolyOkP (arS rs n) (ps.getD (rs.length+n).toNat default):=by
 have:=poly_at h.2.2 h0 h1
 rwa [List.getD_eq_getElem?_getD,List.getElem?_drop,←List.getD_eq_getElem?_getD,show rs.length+n.toNat=(rs.length+n).toNat by omega] at this
def kp115:List (Nat×List Nat):=[(0,[1,2]),(1,[1,2,5]),(2,[4])]
attribute [go_sem] kp115
theorem specMarkedOk_fc (rs:List Int) (ps:List PolyT) (hn:rs.length≤1000):FC S 115 [] [] [] [.agg [.sl .any (rs.map (.int .i64))],.sl .any (ps.map PolyD)] (.bool (tst (MarkedP rs ps))) [] []:=by
 refine fc_body Tryz.func115 rfl (by kernel_rfl) (by simp[Tryz.f115]) fun B=>?_
 simp only[Tryz.ntmps115,enumD,lst0,Nat.reduceAdd]
 refine sw_bnd_agg 0 0 rfl rfl fun hb0_0=>?_
 simp only[D.bnd,List.length_map] at hb0_0
 refine sw_bnd 1 rfl fun hb1=>?_
 simp only[D.bnd,List.length_map] at hb1
 repeat' first|refine sw_seq ?_|refine sw_go 0 kp115 fun K hK=>?_|refine sw_goD kp115 (by kernel_rfl) fun K hK=>?_|((first|refine runL_go ?_|refine runQ_go ?_|refine sw_ret (ret0 ?_)|refine sw_ret ?_);simp (disch:=(refine Om.mk ?_;omega)) only[go_sem,Tryz.results115])|(refine hK.nil ?_;clear hK K;simp only[go_sem])|((first|refine runG_fork rfl rfl rfl rfl rfl ?_ ?_|refine runQG_fork rfl rfl rfl rfl rfl ?_ ?_)<;>intro h<;>try simp (disch:=(refine Om.mk ?_;omega)) only[go_sem] at h)|refine hK.skp rfl rfl ?_|refine hK.c0 rfl rfl rfl (specPolysOk_fc _ rs (ps.take rs.length)) rfl rfl rfl ?_|refine hK.c0 rfl rfl rfl (specPolysOk_fc _ rs (ps.drop rs.length)) rfl rfl rfl ?_|(with_reducible refine And.intro (by first|omega|(simp only[lens];omega)) ?_)|fail
 all_goals first|exact fun hm=>absurd hm.1 (by omega)|exact fun hm=>absurd hm.2.1 (by assumption)|exact fun hm=>absurd hm.2.2 (by assumption)|exact⟨by omega,by assumption,by assumption⟩|exact⟨fun h=>⟨by omega,by assumption,h⟩,fun h=>h.2.2⟩|skip
noncomputable def headF (rs:List Int) (ps:List PolyT) (t:List Int) (j:Nat):PolyT×Bool:=formM rs (ps.take rs.length) 60 (argU rs t j)
noncomputable def headR (rs:List Int) (ps:List PolyT) (t:List Int):PolyT×Bool:=if t.getD 0 default<0 then (varF (t.getD 0 default),true) else appF1 (headF rs ps t) (ps.getD (rs.length+t.getD 0 default).toNat default) (arS rs (t.getD 0 default)).toNat
theorem headR_var {rs:List Int} {ps:List PolyT} {t:List Int} (h:t.getD 0 default<0):headR rs ps t=(varF (t.getD 0 default),true):=if_pos h
theorem headR_app {rs:List Int} {ps:List PolyT} {t:List Int} (h:¬t.getD 0 default<0):headR rs ps t=appF1 (headF rs ps t) (ps.getD (rs.length+t.getD 0 default).toNat default) (arS rs (t.getD 0 default)).toNat:=if_neg h
theorem headF_good {rs:List Int} {ps:List PolyT} (hM:MarkedP rs ps) {t:List Int} (hT:TermOkP rs t):∀j<(arS rs (t.getD 0 default)).toNat,GoodB MF (headF rs ps t j).1:=fun j hj=>form_good hM.2.1 60 _ (argU_ok hT hj).1
theorem headR_good {rs:List Int} {ps:List PolyT} (hM:MarkedP rs ps) {t:List Int} (hT:TermOkP rs t):GoodB MF (headR rs ps t).1:=by
 have hl:=hT.low (show 0<t.length from hT.2.1.1)
 by_cases h:t.getD 0 default<0
 ·rw[headR_var h];exact good_var h hl.1.1
 ·rw[headR_app h]
  exact good_app (marked_at hM (by omega) hl.1.2) (headF_good hM hT)
def kp128:List (Nat×List Nat):=[(0,[1,2,3,6]),(1,[1,2,3,6,18]),(2,[6,7]),(3,[1,2,3,6,8]),(4,[1,2,3,6,8,26]),(5,[6,7]),(6,[6,7])]
attribute [go_sem] kp128
theorem specHeadForm_fc (rs:List Int) (ps:List PolyT) (t:List Int) (hM:MarkedP rs ps) (hT:TermOkP rs t):FC S 128 [] [] [] [.agg [.sl .any (rs.map (.int .i64))],.sl .any (ps.map PolyD),.sl .any (t.map (.int .i64))] (.tup [PolyD (headR rs ps t).1,.bool (headR rs ps t).2]) [] []:=by
 have hl:=hT.low (show 0<t.length from hT.2.1.1)
 have hl2:=hT.2.1
 have hs:=hT.1.1
 have hm:=hM.1
 by_cases h0:t.getD 0 default<0
 ·have cF:=l15Form_fc rs (ps.take rs.length) hM.2.1 60 t hT hT.2.1.2
  rw[formM_var h0] at cF
  rw[headR_var h0]
  refine fc_body Tryz.func128 rfl (by kernel_rfl) (by simp[Tryz.f128]) fun B=>?_
  simp only[Tryz.ntmps128,enumD,lst0,Nat.reduceAdd]
  repeat' first|((exfalso;omega))|((exact absurd hM (by assumption)))|((exact absurd hT (by assumption)))|refine sw_seq ?_|refine sw_skip ?_|refine sw_go 0 kp128 fun K hK=>?_|refine sw_goT 0 kp128 8 (id:=5) (by kernel_rfl) fun K hK=>?_|refine fun (K:KT) (hK:KOk S 0 _ _ _ K)=>?_|((first|refine runL_go ?_|refine runQ_go ?_|refine sw_ret (ret0 ?_)|refine sw_ret ?_);simp (disch:=(refine Om.mk ?_;omega)) only[go_sem,Tryz.results128])|(refine hK.nil ?_;clear hK K;simp only[go_sem])|((first|refine runG_fork rfl rfl rfl rfl rfl ?_ ?_|refine runQG_fork rfl rfl rfl rfl rfl ?_ ?_|refine sw_cond rfl ?_ ?_)<;>intro h<;>try simp (disch:=(refine Om.mk ?_;omega)) only[go_sem] at h)|refine hK.c0 rfl rfl rfl (specMarkedOk_fc _ _ (by omega)) rfl rfl rfl ?_|refine hK.c0 rfl rfl rfl (specTermOk_fc _ _ _ _) rfl rfl rfl ?_|refine hK.c0 rfl rfl rfl (cF) rfl rfl rfl ?_|(with_reducible refine And.intro (by first|omega|(simp only[lens];omega)) ?_)|fail
 ·rw[headR_app h0]
  have hk:(arS rs (t.getD 0 default)).toNat≤3:=by omega
  have cS:=l15Sum_fc rs (ps.take rs.length) (ps.getD (rs.length+t.getD 0 default).toNat default) (partsU rs t (arS rs (t.getD 0 default)).toNat) (headF rs ps t) (by rw[partsU_len,show (((arS rs (t.getD 0 default)).toNat:Nat):Int)=arS rs (t.getD 0 default) by omega];exact marked_at hM (by omega) hl.1.2) (by rw[partsU_len];exact hk) (fun j hj=>by rw[partsU_len] at hj;exact headF_good hM hT j hj) (fun j hj=>by
   rw[partsU_len] at hj
   rw[partsU_get rs t hj]
   have h:=(argU_ok hT hj).1
   exact l15Form_fc rs (ps.take rs.length) hM.2.1 60 _ h h.2.1.2)
  rw[partsU_len] at cS
  refine fc_body Tryz.func128 rfl (by kernel_rfl) (by simp[Tryz.f128]) fun B=>?_
  simp only[Tryz.ntmps128,enumD,lst0,Nat.reduceAdd]
  repeat' first|((exfalso;omega))|((exact absurd hM (by assumption)))|((exact absurd hT (by assumption)))|refine sw_seq ?_|refine sw_skip ?_|refine sw_go 0 kp128 fun K hK=>?_|refine sw_goT 0 kp128 18 (id:=6) (by kernel_rfl) fun K hK=>?_|refine fun (K:KT) (hK:KOk S 0 _ _ _ K)=>?_|((first|refine runL_go ?_|refine runQ_go ?_|refine sw_ret (ret0 ?_)|refine sw_ret ?_);simp (disch:=(refine Om.mk ?_;omega)) only[go_sem,Tryz.results128])|(refine hK.nil ?_;clear hK K;simp only[go_sem])|((first|refine runG_fork rfl rfl rfl rfl rfl ?_ ?_|refine runQG_fork rfl rfl rfl rfl rfl ?_ ?_|refine sw_cond rfl ?_ ?_)<;>intro h<;>try simp (disch:=(refine Om.mk ?_;omega)) only[go_sem] at h)|refine hK.c0 rfl rfl rfl (specMarkedOk_fc _ _ (by omega)) rfl rfl rfl ?_|refine hK.c0 rfl rfl rfl (specTermOk_fc _ _ _ _) rfl rfl rfl ?_|refine hK.c0 rfl rfl rfl (l13Parts_fc rs t hT) rfl rfl rfl ?_|refine hK.c0 rfl rfl rfl (cS) rfl rfl rfl ?_|(with_reducible refine And.intro (by first|omega|(simp only[lens];omega)) ?_)|fail
def PLess (rs:List Int) (ps:List PolyT) (p:DepPairT):Prop:=((headR rs ps p.r).2=true∧(headR rs ps p.l).2=true)∧MostP (headR rs ps p.r).1 (headR rs ps p.l).1∧(headR rs ps p.r).1.const<(headR rs ps p.l).1.const
def PMost (rs:List Int) (ps:List PolyT) (p:DepPairT):Prop:=((headR rs ps p.r).2=true∧(headR rs ps p.l).2=true)∧MostP (headR rs ps p.r).1 (headR rs ps p.l).1∧(headR rs ps p.r).1.const≤(headR rs ps p.l).1.const
def kp104:List (Nat×List Nat):=[(0,[1,3,5]),(1,[1,3,5,7,8]),(2,[7,8,9,10]),(3,[6])]
attribute [go_sem] kp104
theorem pairLess_fc (rs:List Int) (ps:List PolyT) (p:DepPairT) (hM:MarkedP rs ps) (hp:PrOk rs p):FC S 104 [] [] [] [.agg [.sl .any (rs.map (.int .i64))],.sl .any (ps.map PolyD),DepPairD p] (.bool (tst (PLess rs ps p))) [] []:=by
 have c1:=specHeadForm_fc rs ps p.r hM hp.1.2
 have c2:=specHeadForm_fc rs ps p.l hM hp.1.1
 have g1:=headR_good hM hp.1.2
 have g2:=headR_good hM hp.1.1
 unfold PLess
 generalize headR rs ps p.r=a at *
 generalize headR rs ps p.l=b at *
 obtain⟨a,oa⟩:=a
 obtain⟨b,ob⟩:=b
 dsimp only at c1 c2 g1 g2 ⊢
 have cM:=l15Most_fc a b (fun x hx=>(g1.2.1 x hx).1) (fun x hx=>(g2.2.1 x hx).1)
 refine fc_body Tryz.func104 rfl (by kernel_rfl) (by simp[Tryz.f104]) fun B=>?_
 simp only[Tryz.ntmps104,enumD,lst0,Nat.reduceAdd]
 repeat' first|refine sw_seq ?_|refine sw_go 0 kp104 fun K hK=>?_|((first|refine runL_go ?_|refine sw_ret (ret0 ?_)|refine sw_ret ?_);simp (disch:=(refine Om.mk ?_;omega)) only[go_sem,Tryz.results104])|(refine hK.nil ?_;clear hK K;simp only[go_sem])|((first|refine runG_fork rfl rfl rfl rfl rfl ?_ ?_)<;>intro h<;>try simp (disch:=(refine Om.mk ?_;omega)) only[go_sem] at h)|refine hK.skp rfl rfl ?_|refine hK.c0 rfl rfl rfl (c1) rfl rfl rfl ?_|refine hK.c0 rfl rfl rfl (c2) rfl rfl rfl ?_|refine hK.c0 rfl rfl rfl (cM) rfl rfl rfl ?_|fail
 all_goals (first|omega|grind)
def kp103:List (Nat×List Nat):=[(0,[1,3,5]),(1,[1,3,5,7,8]),(2,[7,8,9,10]),(3,[6])]
attribute [go_sem] kp103
theorem pairAtMost_fc (rs:List Int) (ps:List PolyT) (p:DepPairT) (hM:MarkedP rs ps) (hp:PrOk rs p):FC S 103 [] [] [] [.agg [.sl .any (rs.map (.int .i64))],.sl .any (ps.map PolyD),DepPairD p] (.bool (tst (PMost rs ps p))) [] []:=by
 have c1:=specHeadForm_fc rs ps p.r hM hp.1.2
 have c2:=specHeadForm_fc rs ps p.l hM hp.1.1
 have g1:=headR_good hM hp.1.2
 have g2:=headR_good hM hp.1.1
 unfold PMost
 generalize headR rs ps p.r=a at *
 generalize headR rs ps p.l=b at *
 obtain⟨a,oa⟩:=a
 obtain⟨b,ob⟩:=b
 dsimp only at c1 c2 g1 g2 ⊢
 have cM:=l15Most_fc a b (fun x hx=>(g1.2.1 x hx).1) (fun x hx=>(g2.2.1 x hx).1)
 refine fc_body Tryz.func103 rfl (by kernel_rfl) (by simp[Tryz.f103]) fun B=>?_
 simp only[Tryz.ntmps103,enumD,lst0,Nat.reduceAdd]
 repeat' first|refine sw_seq ?_|refine sw_go 0 kp103 fun K hK=>?_|((first|refine runL_go ?_|refine sw_ret (ret0 ?_)|refine sw_ret ?_);simp (disch:=(refine Om.mk ?_;omega)) only[go_sem,Tryz.results103])|(refine hK.nil ?_;clear hK K;simp only[go_sem])|((first|refine runG_fork rfl rfl rfl rfl rfl ?_ ?_)<;>intro h<;>try simp (disch:=(refine Om.mk ?_;omega)) only[go_sem] at h)|refine hK.skp rfl rfl ?_|refine hK.c0 rfl rfl rfl (c1) rfl rfl rfl ?_|refine hK.c0 rfl rfl rfl (c2) rfl rfl rfl ?_|refine hK.c0 rfl rfl rfl (cM) rfl rfl rfl ?_|fail
 all_goals (first|omega|grind)
def AtMostF (rs:List Int) (ps:List PolyT) (s t:List Int):Prop:=((formM rs ps 60 s).2=true∧(formM rs ps 60 t).2=true)∧MostP (formM rs ps 60 s).1 (formM rs ps 60 t).1∧(formM rs ps 60 s).1.const≤(formM rs ps 60 t).1.const
def kp70:List (Nat×List Nat):=[(0,[1,2,3,4]),(1,[1,3,4,9,10]),(2,[9,10,11,12]),(3,[8])]
attribute [go_sem] kp70
theorem specPolyAtMost_fc (rs:List Int) (ps:List PolyT) (s t:List Int) (hP:PolysOkP rs ps) (hs:TermOkP rs s) (ht:TermOkP rs t):FC S 70 [] [] [] [.agg [.sl .any (rs.map (.int .i64))],.sl .any (ps.map PolyD),.sl .any (s.map (.int .i64)),.sl .any (t.map (.int .i64))] (.bool (tst (AtMostF rs ps s t))) [] []:=by
 have c1:=specFormOf_fc rs ps s
 have c2:=specFormOf_fc rs ps t
 have g1:=formR_good rs ps s
 have g2:=formR_good rs ps t
 unfold AtMostF
 rw[←formR_yes ⟨hP,hs⟩,←formR_yes ⟨hP,ht⟩]
 generalize formR rs ps s=a at *
 generalize formR rs ps t=b at *
 obtain⟨a,oa⟩:=a
 obtain⟨b,ob⟩:=b
 dsimp only at c1 c2 g1 g2 ⊢
 have cM:=l15Most_fc a b (fun x hx=>(g1.2.1 x hx).1) (fun x hx=>(g2.2.1 x hx).1)
 refine fc_body Tryz.func70 rfl (by kernel_rfl) (by simp[Tryz.f70]) fun B=>?_
 simp only[Tryz.ntmps70,enumD,lst0,Nat.reduceAdd]
 repeat' first|refine sw_seq ?_|refine sw_go 0 kp70 fun K hK=>?_|((first|refine runL_go ?_|refine sw_ret (ret0 ?_)|refine sw_ret ?_);simp (disch:=(refine Om.mk ?_;omega)) only[go_sem,Tryz.results70])|(refine hK.nil ?_;clear hK K;simp only[go_sem])|((first|refine runG_fork rfl rfl rfl rfl rfl ?_ ?_)<;>intro h<;>try simp (disch:=(refine Om.mk ?_;omega)) only[go_sem] at h)|refine hK.skp rfl rfl ?_|refine hK.c0 rfl rfl rfl (c1) rfl rfl rfl ?_|refine hK.c0 rfl rfl rfl (c2) rfl rfl rfl ?_|refine hK.c0 rfl rfl rfl (cM) rfl rfl rfl ?_|fail
 all_goals (first|omega|grind)
def AllowP (x:SystemT) (ps:List PolyT):Prop:=(SystemOkP x∧PolysOkP x.sig ps)∧∀j<x.rules.length,AtMostF x.sig ps (x.rules.getD j default).r (x.rules.getD j default).l
def kp33:List (Nat×List Nat):=[(0,[1,2]),(1,[1,2,15]),(2,[4]),(3,[1,2,5]),(4,[1,2,5,20]),(6,[1,2,5,39]),(7,[4]),(5,[1,2,5]),(8,[4])]
attribute [go_sem] kp33
theorem specPolyAllows_fc (x:SystemT) (ps:List PolyT):FC S 33 [] [] [] [SystemD x,.sl .any (ps.map PolyD)] (.bool (tst (AllowP x ps))) [] []:=by
 refine fc_body Tryz.func33 rfl (by kernel_rfl) (by simp[Tryz.f33]) fun B=>?_
 simp only[Tryz.ntmps33,enumD,lst0,Nat.reduceAdd]
 repeat' first|refine sw_seq ?_|refine sw_block ?_|refine sw_skip ?_|refine sw_go 0 kp33 fun K hK=>?_|((first|refine runL_go ?_|refine runQ_go ?_|refine sw_ret (ret0 ?_)|refine sw_ret ?_);simp (disch:=(refine Om.mk ?_;omega)) only[go_sem,Tryz.results33])|(refine hK.nil ?_;clear hK K;simp only[go_sem])|((first|refine runG_fork rfl rfl rfl rfl rfl ?_ ?_|refine runQG_fork rfl rfl rfl rfl rfl ?_ ?_|refine sw_cond rfl ?_ ?_)<;>intro h<;>try simp (disch:=(refine Om.mk ?_;omega)) only[go_sem] at h)|refine hK.skp rfl rfl ?_|refine hK.c0 rfl rfl rfl (specSystemOk_fc _) rfl rfl rfl ?_|refine hK.c0 rfl rfl rfl (specPolysOk_fc _ _ _) rfl rfl rfl ?_|fail
 ·exact fun h=>absurd h.1.1 (by assumption)
 ·exact fun h=>absurd h.1.2 (by assumption)
 refine sw_loopU (ι:=Nat) (fun i=>[(5,.int .i64 i)]) (fun _=>[]) (fun i=>i≤x.rules.length∧(∀j<i,AtMostF x.sig ps (x.rules.getD j default).r (x.rules.getD j default).l)) (fun i=>x.rules.length-i) 0 (by(refine covers_mk0 rfl rfl ?_ ?_ ?_ ?_<;>simp (disch:=(refine Om.mk ?_;omega)) only[go_sem]<;>(try omega))) ⟨by omega,?_⟩ (fun i ⟨hi,hj⟩=>?_)
 rotate_left
 simp only[go_sem]
 have hR:i<x.rules.length→RuleP x.sig (x.rules.getD i default):=fun h=>(by assumption:SystemOkP x).2 i h
 have h12:=(by assumption:SystemOkP x).1.2
 by_cases hil:i<x.rules.length
 ·have hr:=hR hil
  repeat' first|((exfalso;omega))|refine sw_seq ?_|refine sw_block ?_|refine sw_inBlock ?_|refine sw_skip ?_|refine sw_go 0 kp33 fun K hK=>?_|refine sw_goD kp33 (by kernel_rfl) fun K hK=>?_|((first|refine runL_go ?_|refine runQ_go ?_|refine sw_ret (ret0 ?_)|refine sw_ret ?_);simp (disch:=(refine Om.mk ?_;omega)) only[go_sem,Tryz.results33])|(refine hK.nil ?_;clear hK K;simp only[go_sem])|((first|refine runG_fork rfl rfl rfl rfl rfl ?_ ?_|refine runQG_fork rfl rfl rfl rfl rfl ?_ ?_|refine sw_cond rfl ?_ ?_)<;>intro h<;>try simp (disch:=(refine Om.mk ?_;omega)) only[go_sem] at h)|refine sw_loopEnd ?_|refine hK.c0 rfl rfl rfl (specPolyAtMost_fc x.sig ps (x.rules.getD i default).r (x.rules.getD i default).l (by assumption:PolysOkP x.sig ps) hr.1.2.1 hr.1.1) rfl rfl rfl ?_|(with_reducible refine And.intro (by first|omega|(simp only[lens];omega)) ?_)|fail
  ·exact fun hO=>h (hO.2 i hil)
  ·exact⟨i+1,(by(refine covers_mk0 rfl rfl ?_ ?_ ?_ ?_<;>simp (disch:=(refine Om.mk ?_;omega)) only[go_sem]<;>(try omega))),⟨by omega,upto_succ hj h⟩,by omega⟩
 ·repeat' first|((exfalso;omega))|refine sw_seq ?_|refine sw_go 0 kp33 fun K hK=>?_|((first|refine runL_go ?_|refine runQ_go ?_|refine sw_ret (ret0 ?_)|refine sw_ret ?_);simp (disch:=(refine Om.mk ?_;omega)) only[go_sem,Tryz.results33])|(refine hK.nil ?_;clear hK K;simp only[go_sem])|((first|refine runG_fork rfl rfl rfl rfl rfl ?_ ?_|refine runQG_fork rfl rfl rfl rfl rfl ?_ ?_|refine sw_cond rfl ?_ ?_)<;>intro h<;>try simp (disch:=(refine Om.mk ?_;omega)) only[go_sem] at h)|refine sw_exit rfl ?_|fail
  exact⟨⟨by assumption,by assumption⟩,fun j hj'=>hj j (by omega)⟩
 ·intro j hj';omega
open Classical in
noncomputable def wL (rs:List Int) (P:List DepPairT) (set:List Int) (ps:List PolyT):Nat→List Int
 | 0=>[]
 | i+1=>if PLess rs ps (P.getD (set.getD i default).toNat default) then wL rs P set ps i++[set.getD i default] else wL rs P set ps i
theorem wL_yes {rs:List Int} {P:List DepPairT} {set:List Int} {ps:List PolyT} {i:Nat} (h:PLess rs ps (P.getD (set.getD i default).toNat default)):wL rs P set ps (i+1)=wL rs P set ps i++[set.getD i default]:=if_pos h
theorem wL_no {rs:List Int} {P:List DepPairT} {set:List Int} {ps:List PolyT} {i:Nat} (h:¬PLess rs ps (P.getD (set.getD i default).toNat default)):wL rs P set ps (i+1)=wL rs P set ps i:=if_neg h
theorem wL_len (rs:List Int) (P:List DepPairT) (set:List Int) (ps:List PolyT):∀i,(wL rs P set ps i).length≤i
 | 0=>Nat.le_refl _
 | i+1=>by
  have ih:=wL_len rs P set ps i
  by_cases h:PLess rs ps (P.getD (set.getD i default).toNat default)
  ·rw[wL_yes h,List.length_append];simp;omega
  ·rw[wL_no h];omega
def WAll (rs:List Int) (P:List DepPairT) (set:List Int) (ps:List PolyT):Prop:=∀i<set.length,PMost rs ps (P.getD (set.getD i default).toNat default)
open Classical in
noncomputable def wR (rs:List Int) (P:List DepPairT) (set:List Int) (ps:List PolyT):List Int×Bool:=if WAll rs P set ps then (wL rs P set ps set.length,true) else ([],false)
theorem wR_yes {rs:List Int} {P:List DepPairT} {set:List Int} {ps:List PolyT} (h:WAll rs P set ps):wR rs P set ps=(wL rs P set ps set.length,true):=if_pos h
theorem wR_no {rs:List Int} {P:List DepPairT} {set:List Int} {ps:List PolyT} (h:¬WAll rs P set ps):wR rs P set ps=([],false):=if_neg h
def kp71:List (Nat×List Nat):=[(0,[1,2,3,4]),(1,[1,2,3,4,10]),(2,[1,2,3,4,10,11]),(3,[1,2,3,4,10,11,16]),(5,[1,2,3,4,10,11,30]),(6,[8,9]),(7,[1,2,3,4,10,11,42]),(8,[1,2,3,4,10,11]),(4,[1,2,3,4,10,11]),(9,[8,9])]
attribute [go_sem] kp71
theorem l18Weighed_fc (x:SystemT) (P:List DepPairT) (set:List Int) (ps:List PolyT) (hM:MarkedP x.sig ps) (hP:∀p∈P,PrOk x.sig p) (hS:SetPP set P.length) (hl:P.length≤64):FC S 71 [] [] [] [SystemD x,.sl .any (P.map DepPairD),.sl .any (set.map (.int .i64)),.sl .any (ps.map PolyD)] (.tup [.sl .any ((wR x.sig P set ps).1.map (.int .i64)),.bool (wR x.sig P set ps).2]) [] []:=by
 have hsl:=set_le hS
 have hat:∀i<set.length,(0≤set.getD i default∧set.getD i default<P.length)∧PrOk x.sig (P.getD (set.getD i default).toNat default):=fun i hi=>by
  have h:=(hS i hi).1
  exact⟨h,hP _ (getD_mem P _ (by omega))⟩
 refine fc_body Tryz.func71 rfl (by kernel_rfl) (by simp[Tryz.f71]) fun B=>?_
 simp only[Tryz.ntmps71,enumD,lst0,Nat.reduceAdd]
 repeat' first|refine sw_seq ?_|refine sw_block ?_|refine sw_go 0 kp71 fun K hK=>?_|((first|refine runL_go ?_|refine runQ_go ?_|refine sw_ret (ret0 ?_)|refine sw_ret ?_);simp (disch:=(refine Om.mk ?_;omega)) only[go_sem,Tryz.results71])|(refine hK.nil ?_;clear hK K;simp only[go_sem])|fail
 refine sw_tok 10 50000 2 1 rfl (.inr rfl) rfl ?_
 simp only[go_sem]
 refine sw_loopT (ι:=Nat) (fun i=>[(11,.int .i64 i),(10,.sl (.own 50000 2 1) ((wL x.sig P set ps i).map (.int .i64)))]) (fun _=>[]) (fun _=>[50000]) (fun i=>i≤set.length∧∀j<i,PMost x.sig ps (P.getD (set.getD j default).toNat default)) (fun i=>set.length-i) 0 (by(refine covers_mk0 rfl rfl ?_ ?_ ?_ ?_<;>simp (disch:=(refine Om.mk ?_;omega)) only[go_sem]<;>(try omega));all_goals exact⟨rfl,rfl⟩) ⟨by omega,fun j hj=>absurd hj (by omega)⟩ (fun i hi=>?_)
 obtain⟨hi,hj⟩:=hi
 simp only[go_sem]
 have hwl:=wL_len x.sig P set ps i
 by_cases hil:i<set.length
 ·have hp:=hat i hil
  have h1:=hp.1
  repeat' first|((exfalso;omega))|refine sw_seq ?_|refine sw_block ?_|refine sw_inBlock ?_|refine sw_skip ?_|refine sw_go 0 kp71 fun K hK=>?_|refine sw_goD kp71 (by kernel_rfl) fun K hK=>?_|((first|refine runL_go ?_|refine runQ_go ?_|refine sw_ret (ret0 ?_)|refine sw_ret ?_);simp (disch:=(refine Om.mk ?_;omega)) only[go_sem,Tryz.results71])|(refine hK.nil ?_;clear hK K;simp only[go_sem])|((first|refine sw_cond rfl ?_ ?_)<;>intro h<;>try simp (disch:=(refine Om.mk ?_;omega)) only[go_sem] at h)|refine sw_loopEnd ?_|refine hK.c0 rfl rfl rfl (pairAtMost_fc x.sig ps (P.getD (set.getD i default).toNat default) hM hp.2) rfl rfl rfl ?_|refine hK.c0 rfl rfl rfl (pairLess_fc x.sig ps (P.getD (set.getD i default).toNat default) hM hp.2) rfl rfl rfl ?_|(with_reducible refine And.intro (by first|omega|(simp only[lens];omega)) ?_)|fail
  ·rw[wR_no fun e=>h (e i hil)]
   exact⟨rfl,rfl⟩
  ·exact⟨i+1,(by(refine covers_mk0 rfl rfl ?_ ?_ ?_ ?_<;>simp (disch:=(refine Om.mk ?_;omega)) only[go_sem]<;>(try omega));rw[wL_yes (by assumption)];exact⟨rfl,by omega⟩),⟨by omega,upto_succ hj (by assumption)⟩,by omega⟩
  ·exact⟨i+1,(by(refine covers_mk0 rfl rfl ?_ ?_ ?_ ?_<;>simp (disch:=(refine Om.mk ?_;omega)) only[go_sem]<;>(try omega));rw[wL_no (by assumption)];exact⟨rfl,by omega⟩),⟨by omega,upto_succ hj (by assumption)⟩,by omega⟩
 ·repeat' first|((exfalso;omega))|refine sw_seq ?_|refine sw_go 0 kp71 fun K hK=>?_|((first|refine runL_go ?_|refine runQ_go ?_|refine sw_ret (ret0 ?_)|refine sw_ret ?_);simp (disch:=(refine Om.mk ?_;omega)) only[go_sem,Tryz.results71])|(refine hK.nil ?_;clear hK K;simp only[go_sem])|((first|refine sw_cond rfl ?_ ?_)<;>intro h<;>try simp (disch:=(refine Om.mk ?_;omega)) only[go_sem] at h)|refine sw_exit rfl ?_|fail
  rw[wR_yes fun j hj'=>hj j (by omega),show i=set.length by omega]
  exact⟨rfl,rfl⟩
end Go.Proofs.YtpennhjjnlkbiaaGreat
end
section
namespace Go.Proofs.YtpennhjjnlkbiaaGreat
open Go Go.Lg
set_option linter.unusedSimpArgs false
set_option linter.unusedVariables false
def HeadP (P:List DepPairT) (set:List Int) (n:Nat) (f:Int):Prop:=∃i<n,(P.getD (set.getD i default).toNat default).l.getD 0 default=f∨(P.getD (set.getD i default).toNat default).r.getD 0 default=f
def hdL (P:List DepPairT) (set:List Int):Nat→List Int
 | 0=>[]
 | i+1=>intoL (intoL (hdL P set i) ((P.getD (set.getD i default).toNat default).l.getD 0 default)) ((P.getD (set.getD i default).toNat default).r.getD 0 default)
theorem hdL_mem (P:List DepPairT) (set:List Int) (f:Int):∀n,f∈hdL P set n↔HeadP P set n f
 | 0=>by
  constructor
  ·intro h;cases h
  ·rintro⟨i,hi,_⟩;exact absurd hi (Nat.not_lt_zero _)
 | n+1=>by
  rw[hdL,mem_intoL,mem_intoL,hdL_mem P set f n]
  constructor
  ·rintro ((⟨i,hi,h⟩|h)|h)
   ·exact⟨i,by omega,h⟩
   ·exact⟨n,by omega,.inl h.symm⟩
   ·exact⟨n,by omega,.inr h.symm⟩
  ·rintro⟨i,hi,h⟩
   rcases Nat.lt_or_ge i n with h1|h1
   ·exact .inl (.inl ⟨i,h1,h⟩)
   ·obtain rfl:i=n:=by omega
    rcases h with h|h
    ·exact .inl (.inr h.symm)
    ·exact .inr h.symm
theorem intoL_le (n:Int):∀xs:List Int,(intoL xs n).length≤xs.length+1
 | []=>by simp[intoL]
 | x::r=>by
  simp only[intoL]
  split
  ·have:=intoL_le n r;simp;omega
  ·split<;>simp
theorem hdL_len (P:List DepPairT) (set:List Int):∀n,(hdL P set n).length≤2*n
 | 0=>Nat.le_refl _
 | n+1=>by
  have:=hdL_len P set n
  have h1:=intoL_le ((P.getD (set.getD n default).toNat default).l.getD 0 default) (hdL P set n)
  have h2:=intoL_le ((P.getD (set.getD n default).toNat default).r.getD 0 default) (intoL (hdL P set n) ((P.getD (set.getD n default).toNat default).l.getD 0 default))
  rw[hdL];omega
def halfA (rs:List Int):Nat→List Int
 | 0=>[]
 | f+1=>halfA rs f++List.replicate ((rs.getD f default).toNat+1) 1
open Classical in
noncomputable def oneP (H:Int→Prop) (f:Nat):Int:=if H f then 1 else 0
theorem oneP_yes {H:Int→Prop} {f:Nat} (h:H f):oneP H f=1:=if_pos h
theorem oneP_no {H:Int→Prop} {f:Nat} (h:¬H f):oneP H f=0:=if_neg h
noncomputable def halfB (rs:List Int) (H:Int→Prop):Nat→List Int
 | 0=>[]
 | f+1=>halfB rs H f++0::List.replicate (rs.getD f default).toNat (oneP H f)
theorem halfA_len (rs:List Int):∀n,(halfA rs n).length=atN rs n
 | 0=>rfl
 | n+1=>by simp[halfA,halfA_len rs n,atN];omega
theorem halfB_len (rs:List Int) (H:Int→Prop):∀n,(halfB rs H n).length=atN rs n
 | 0=>rfl
 | n+1=>by simp[halfB,halfB_len rs H n,atN];omega
theorem halfA_dig (rs:List Int):∀n,∀h∈halfA rs n,0≤h∧h≤1
 | 0,h,hh=>by cases hh
 | n+1,h,hh=>by
  rcases List.mem_append.1 hh with hh|hh
  ·exact halfA_dig rs n h hh
  ·rw[(List.mem_replicate.1 hh).2];decide
theorem halfB_dig (rs:List Int) (H:Int→Prop):∀n,∀h∈halfB rs H n,0≤h∧h≤1
 | 0,h,hh=>by cases hh
 | n+1,h,hh=>by
  rcases List.mem_append.1 hh with hh|hh
  ·exact halfB_dig rs H n h hh
  ·rcases List.mem_cons.1 hh with rfl|hh
   ·decide
   ·rw[(List.mem_replicate.1 hh).2]
    by_cases h1:H n
    ·rw[oneP_yes h1];decide
    ·rw[oneP_no h1];decide
def upD (hs:List Int):List (Int×Int):=hs.map fun h=>(0,h)
theorem upD_len (hs:List Int):(upD hs).length=hs.length:=by simp[upD]
theorem upD_at (hs:List Int) {i:Nat} (h:i<hs.length):(upD hs).getD i default=(0,hs.getD i default):=by simp[upD,List.getD,List.getElem?_eq_getElem h]
theorem upD_ok {hs:List Int} (h:∀x∈hs,0≤x∧x≤1):∀b∈upD hs,b.1≤b.2:=fun b hb=>by
 obtain⟨x,hx,rfl⟩:=List.mem_map.1 hb
 exact(h x hx).1
theorem lowD_up (hs:List Int):lowD (upD hs)=List.replicate hs.length 0:=by
 induction hs with
 | nil=>rfl
 | cons x r ih=>simp[lowD,upD,List.replicate_succ] at ih ⊢;exact ih
theorem upD_dig:∀ {hs xs:List Int},(∀x∈hs,0≤x∧x≤1)→DigP (upD hs) xs→∀x∈xs,0≤x∧x≤1
 | [],[],_,_,x,hx=>by cases hx
 | h::hs,y::ys,hh,hd,x,hx=>by
  have h1:=hh h List.mem_cons_self
  have hd1:0≤y∧y≤h:=hd.1
  rcases List.mem_cons.1 hx with rfl|hx
  ·omega
  ·exact upD_dig (hs:=hs) (fun z hz=>hh z (List.mem_cons_of_mem _ hz)) hd.2 x hx
 | [],_::_,_,hd,_,_=>hd.elim
 | _::_,[],_,hd,_,_=>hd.elim
theorem upD_app (a b:List Int):upD (a++b)=upD a++upD b:=by simp[upD]
theorem seq_next {bs:List (Int×Int)} {x:List Int} {r:List (List Int)} (h:SeqD bs (x::r)):nxtD bs x=(r.headD (lowD bs),!r.isEmpty)∧SeqD bs r:=by
 cases r with
 | nil=>exact⟨h,trivial⟩
 | cons y r=>exact⟨h.1,h.2⟩
def prodD (hs:List Int):Nat→Int
 | 0=>1
 | i+1=>prodD hs i*(hs.getD i default+1)
theorem prodD_pos {hs:List Int} (h:∀x∈hs,0≤x∧x≤1):∀n≤hs.length,1≤prodD hs n
 | 0,_=>Int.le_refl _
 | n+1,hn=>by
  have ih:=prodD_pos h n (by omega)
  have h1:=h _ (getD_mem hs n (by omega))
  rw[prodD]
  rcases (show hs.getD n default=0∨hs.getD n default=1 by omega) with e|e<;>rw[e]<;>omega
theorem prodD_mono {hs:List Int} (h:∀x∈hs,0≤x∧x≤1) {i:Nat} (hi:i<hs.length):prodD hs i≤prodD hs (i+1)∧prodD hs (i+1)≤2*prodD hs i:=by
 have ih:=prodD_pos h i (by omega)
 have h1:=h _ (getD_mem hs i hi)
 rw[prodD]
 rcases (show hs.getD i default=0∨hs.getD i default=1 by omega) with e|e<;>rw[e]<;>omega
def WQ (rs:List Int) (P:List DepPairT) (set:List Int) (ps:List PolyT):Prop:=WAll rs P set ps∧wL rs P set ps set.length≠[]
theorem wq_iff {rs:List Int} {P:List DepPairT} {set:List Int} {ps:List PolyT}:WQ rs P set ps↔(wR rs P set ps).2=true∧(0:Int)<(wR rs P set ps).1.length:=by
 by_cases h:WAll rs P set ps
 ·rw[wR_yes h]
  have:wL rs P set ps set.length≠[]↔(0:Int)<(wL rs P set ps set.length).length:=by
   rw[←List.length_pos_iff];omega
  exact⟨fun h1=>⟨rfl,this.1 h1.2⟩,fun h1=>⟨h,this.2 h1.2⟩⟩
 ·rw[wR_no h]
  exact⟨fun h1=>absurd h1.1 h,fun h1=>Bool.noConfusion h1.1⟩
noncomputable def topM (rs:List Int) (H:Int→Prop):List Int:=halfA rs rs.length++halfB rs H rs.length
theorem topM_len (rs:List Int) (H:Int→Prop):(topM rs H).length=2*atN rs rs.length:=by simp[topM,halfA_len,halfB_len];omega
theorem topM_dig (rs:List Int) (H:Int→Prop):∀h∈topM rs H,0≤h∧h≤1:=fun h hh=>by
 rcases List.mem_append.1 hh with hh|hh
 ·exact halfA_dig rs _ h hh
 ·exact halfB_dig rs H _ h hh
def pol2 (rs l:List Int):List PolyT:=polD rs l++polD rs (l.drop (atN rs rs.length))
def QM (x:SystemT) (P:List DepPairT) (set l:List Int):Prop:=AllowP x (polD x.sig l)∧WQ x.sig P set (pol2 x.sig l)
def resM (rs:List Int):Option (List Int)→List PolyT×Bool
 | some l=>(pol2 rs l,true)
 | none=>([],false)
open Classical in
noncomputable def firstM (x:SystemT) (P:List DepPairT) (set:List Int):Option (List Int) :=
 if prodD (topM x.sig (HeadP P set set.length)) (topM x.sig (HeadP P set set.length)).length≤20000 then findD (QM x P set) (allD (upD (topM x.sig (HeadP P set set.length)))) else none
theorem firstM_yes {x:SystemT} {P:List DepPairT} {set:List Int} (h:prodD (topM x.sig (HeadP P set set.length)) (topM x.sig (HeadP P set set.length)).length≤20000):firstM x P set=findD (QM x P set) (allD (upD (topM x.sig (HeadP P set set.length)))):=if_pos h
theorem firstM_no {x:SystemT} {P:List DepPairT} {set:List Int} (h:¬prodD (topM x.sig (HeadP P set set.length)) (topM x.sig (HeadP P set set.length)).length≤20000):firstM x P set=none:=if_neg h
def MarkIn (x:SystemT) (set:List Int):Prop:=PairsP x∧SetPP set (allP x).length
open Classical in
noncomputable def markR (x:SystemT) (set:List Int):List PolyT×Bool:=if MarkIn x set then resM x.sig (firstM x (allP x) set) else ([],false)
theorem markR_yes {x:SystemT} {set:List Int} (h:MarkIn x set):markR x set=resM x.sig (firstM x (allP x) set):=if_pos h
theorem markR_no {x:SystemT} {set:List Int} (h:¬MarkIn x set):markR x set=([],false):=if_neg h
def GM (rs:List Int) (P:List DepPairT) (set:List Int) (pl:List PolyT) (c:List Int):Prop:=WQ rs P set (pl++polD rs c)
open Classical in
noncomputable def FM (x:SystemT) (P:List DepPairT) (set:List Int) (a:List Int):Option (List Int) :=
 if AllowP x (polD x.sig a) then (findD (GM x.sig P set (polD x.sig a)) (allD (upD (halfB x.sig (HeadP P set set.length) x.sig.length)))).map (a++·) else none
theorem FM_yes {x:SystemT} {P:List DepPairT} {set a:List Int} (h:AllowP x (polD x.sig a)):FM x P set a=(findD (GM x.sig P set (polD x.sig a)) (allD (upD (halfB x.sig (HeadP P set set.length) x.sig.length)))).map (a++·):=if_pos h
theorem FM_no {x:SystemT} {P:List DepPairT} {set a:List Int} (h:¬AllowP x (polD x.sig a)):FM x P set a=none:=if_neg h
theorem pol2_app {rs a c:List Int} (h:a.length=atN rs rs.length):pol2 rs (a++c)=polD rs a++polD rs c:=by
 unfold pol2
 rw[pol_app h,←h,List.drop_left]
theorem nest_eq (x:SystemT) (P:List DepPairT) (set:List Int):findD (QM x P set) (allD (upD (topM x.sig (HeadP P set set.length))))=find2 (FM x P set) (allD (upD (halfA x.sig x.sig.length))):=by
 unfold topM
 rw[upD_app,allD_app]
 refine find2_flat _ _ _ _ fun a ha=>?_
 have hd:=allD_dig (upD_ok (halfA_dig x.sig x.sig.length)) a ha
 have hl:a.length=atN x.sig x.sig.length:=by rw[digP_len hd,upD_len,halfA_len]
 by_cases hA:AllowP x (polD x.sig a)
 ·rw[FM_yes hA]
  refine findD_map a _ fun c hc=>?_
  unfold QM GM
  rw[pol_app hl,pol2_app hl]
  exact⟨fun h=>h.2,fun h=>⟨hA,h⟩⟩
 ·rw[FM_no hA]
  refine findD_none fun l hl' h=>?_
  obtain⟨c,_,rfl⟩:=List.mem_map.1 hl'
  exact hA (by have:=h.1;rwa [pol_app hl] at this)
theorem find2_yes {F:List Int→Option (List Int)} {a l:List Int} {r:List (List Int)} (h:F a=some l):find2 F (a::r)=some l:=by rw[find2,h];rfl
theorem find2_no {F:List Int→Option (List Int)} {a:List Int} {r:List (List Int)} (h:F a=none):find2 F (a::r)=find2 F r:=by rw[find2,h];rfl
theorem pol_dig {rs hs xs:List Int} (hs0:SigOkP rs) (h1:∀x∈hs,0≤x∧x≤1) (hl:hs.length=atN rs rs.length) (hd:DigP (upD hs) xs):PolysOkP rs (polD rs xs) :=
 pol_ok hs0 (by rw[digP_len hd,upD_len,hl];exact Nat.le_refl _) fun x hx=>by have:=upD_dig h1 hd x hx;omega
theorem digP_drop:∀ {bs cs:List (Int×Int)} {xs:List Int},DigP (bs++cs) xs→DigP bs (xs.take bs.length)∧DigP cs (xs.drop bs.length)
 | [],cs,xs,h=>⟨by simp[DigP],by simpa using h⟩
 | b::bs,cs,x::xs,h=>by
  obtain⟨h1,h2⟩:=digP_drop (bs:=bs) (cs:=cs) (xs:=xs) h.2
  exact⟨⟨h.1,h1⟩,by simpa using h2⟩
 | b::bs,cs,[],h=>h.elim
theorem pol2_ok {rs l:List Int} {H:Int→Prop} (hs:SigOkP rs) (hd:DigP (upD (topM rs H)) l):PolysOkP rs (polD rs l)∧PolysOkP rs (polD rs (l.drop (atN rs rs.length))):=by
 have h0:=hd
 unfold topM at hd
 rw[upD_app] at hd
 have h2:=(digP_drop hd).2
 rw[upD_len,halfA_len] at h2
 refine⟨pol_ok hs (by rw[digP_len h0,upD_len,topM_len];omega) fun x hx=>?_,pol_dig hs (halfB_dig rs H _) (halfB_len rs H _) h2⟩
 have:=upD_dig (topM_dig rs H) h0 x hx;omega
end Go.Proofs.YtpennhjjnlkbiaaGreat
end
