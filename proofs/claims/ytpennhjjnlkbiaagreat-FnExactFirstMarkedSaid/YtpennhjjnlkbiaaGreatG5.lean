/-
  K2, K3, one behind the other.
-/
import Derived.Test.YtpennhjjnlkbiaaGreatG4
import Derived.Test.YtpennhjjnlkbiaaGreatLgK10
section
namespace Go.Proofs.YtpennhjjnlkbiaaGreat
open Go Go.Lg
set_option linter.unusedSimpArgs false
set_option linter.unusedVariables false
set_option maxHeartbeats 4000000
attribute [local irreducible] SW runL runQ runG runQG FC Ret1 toF redoL anyB
theorem set_at {rs:List Int} {P:List DepPairT} {set:List Int} (hP:∀p∈P,PrOk rs p) (hS:SetPP set P.length):∀i<set.length,(0≤set.getD i default∧set.getD i default<P.length)∧PrOk rs (P.getD (set.getD i default).toNat default):=fun i hi=>by
 have h:=(hS i hi).1
 exact⟨h,hP _ (getD_mem P _ (by omega))⟩
def kp30:List (Nat×List Nat):=[(0,[0,1]),(1,[0,1,5]),(2,[0,1,5,6]),(3,[0,1,5,6,11]),(5,[0,1,5,6]),(4,[0,1,5,6]),(6,[4])]
attribute [go_sem] kp30
theorem l18Heads_fc (rs:List Int) (P:List DepPairT) (set:List Int) (hP:∀p∈P,PrOk rs p) (hS:SetPP set P.length) (hl:P.length≤64):FC S 30 [] [] [] [.sl .any (P.map DepPairD),.sl .any (set.map (.int .i64))] (.sl .any ((hdL P set set.length).map (.int .i64))) [] []:=by
 have hsl:=set_le hS
 have hat:=set_at hP hS
 refine fc_body Tryz.func30 rfl (by kernel_rfl) (by simp[Tryz.f30]) fun B=>?_
 simp only[Tryz.ntmps30,enumD,lst0,Nat.reduceAdd]
 repeat' first|refine sw_seq ?_|refine sw_block ?_|refine sw_inBlock ?_|refine sw_skip ?_|refine sw_go 0 kp30 fun K hK=>?_|refine fun (K:KT) (hK:KOk S 0 _ _ _ K)=>?_|refine sw_goD kp30 (by kernel_rfl) fun K hK=>?_|((first|refine runL_go ?_|refine runQ_go ?_|refine sw_ret (ret0 ?_)|refine sw_ret ?_);simp (disch:=(refine Om.mk ?_;omega)) only[go_sem,Tryz.results30])|(refine hK.nil ?_;clear hK K;simp only[go_sem])|((first|refine sw_cond rfl ?_ ?_)<;>intro h<;>try simp (disch:=(refine Om.mk ?_;omega)) only[go_sem] at h)|refine sw_exit rfl ?_|refine sw_loopEnd ?_|(with_reducible refine And.intro (by first|omega|(simp only[lens];omega)) ?_)|((with_reducible refine And.intro ?_ ?_);· first|(intro x hx;subst hx;rfl)|(intro x;refine And.intro ?_ ?_<;>(intros;subst_vars;rfl)))|fail
 refine sw_loopU (ι:=Nat) (fun p=>[(5,.sl .any ((hdL P set p).map (.int .i64))),(6,.int .i64 p)]) (fun p=>[]) (fun p=>p≤set.length) (fun p=>set.length-p) 0 (by(refine covers_mk0 rfl rfl ?_ ?_ ?_ ?_<;>simp (disch:=(refine Om.mk ?_;omega)) only[go_sem]<;>(try omega));exact⟨rfl,rfl⟩) ?_ (fun p hp=>?_)
 rotate_left
 simp only[go_sem]
 have hhl:=hdL_len P set p
 by_cases hil:p<set.length
 ·obtain⟨h1,⟨⟨h2,h3⟩,_⟩⟩:=hat p hil
  have h4:=h2.2.1
  have h5:=h3.2.1
  have h6:=intoL_le ((P.getD (set.getD p default).toNat default).l.getD 0 default) (hdL P set p)
  repeat' first|((exfalso;omega))|refine sw_seq ?_|refine sw_block ?_|refine sw_inBlock ?_|refine sw_skip ?_|refine sw_go 0 kp30 fun K hK=>?_|refine fun (K:KT) (hK:KOk S 0 _ _ _ K)=>?_|refine sw_goD kp30 (by kernel_rfl) fun K hK=>?_|((first|refine runL_go ?_|refine runQ_go ?_|refine sw_ret (ret0 ?_)|refine sw_ret ?_);simp (disch:=(refine Om.mk ?_;omega)) only[go_sem,Tryz.results30])|(refine hK.nil ?_;clear hK K;simp only[go_sem])|((first|refine sw_cond rfl ?_ ?_)<;>intro h<;>try simp (disch:=(refine Om.mk ?_;omega)) only[go_sem] at h)|refine sw_exit rfl ?_|refine sw_loopEnd ?_|refine hK.c0 rfl rfl rfl (l1Into_fc _ (hdL P set p) _ (by omega)) rfl rfl rfl ?_|refine hK.c0 rfl rfl rfl (l1Into_fc _ (intoL (hdL P set p) ((P.getD (set.getD p default).toNat default).l.getD 0 default)) _ (by omega)) rfl rfl rfl ?_|(with_reducible refine And.intro (by first|omega|(simp only[lens];omega)) ?_)|((with_reducible refine And.intro ?_ ?_);· first|(intro x hx;subst hx;rfl)|(intro x;refine And.intro ?_ ?_<;>(intros;subst_vars;rfl)))|fail
  exact⟨p+1,(by(refine covers_mk0 rfl rfl ?_ ?_ ?_ ?_<;>simp (disch:=(refine Om.mk ?_;omega)) only[go_sem]<;>(try omega));exact⟨rfl,by omega⟩),by omega,by omega⟩
 ·obtain rfl:p=set.length:=by omega
  repeat' first|((exfalso;omega))|refine sw_seq ?_|refine sw_block ?_|refine sw_inBlock ?_|refine sw_skip ?_|refine sw_go 0 kp30 fun K hK=>?_|refine fun (K:KT) (hK:KOk S 0 _ _ _ K)=>?_|refine sw_goD kp30 (by kernel_rfl) fun K hK=>?_|((first|refine runL_go ?_|refine runQ_go ?_|refine sw_ret (ret0 ?_)|refine sw_ret ?_);simp (disch:=(refine Om.mk ?_;omega)) only[go_sem,Tryz.results30])|(refine hK.nil ?_;clear hK K;simp only[go_sem])|((first|refine sw_cond rfl ?_ ?_)<;>intro h<;>try simp (disch:=(refine Om.mk ?_;omega)) only[go_sem] at h)|refine sw_exit rfl ?_|refine sw_loopEnd ?_|(with_reducible refine And.intro (by first|omega|(simp only[lens];omega)) ?_)|((with_reducible refine And.intro ?_ ?_);· first|(intro x hx;subst hx;rfl)|(intro x;refine And.intro ?_ ?_<;>(intros;subst_vars;rfl)))|fail
 ·exact Nat.zero_le _
def kp65:List (Nat×List Nat):=[(0,[0]),(1,[3]),(2,[2]),(3,[2])]
attribute [go_sem] kp65
theorem l1Flag_fc (b:Bool):FC S 65 [] [] [] [.bool b] (.int .i64 (if b=true then 1 else 0)) [] []:=by
 cases b
 ·skip
  refine fc_body Tryz.func65 rfl (by kernel_rfl) (by simp[Tryz.f65]) fun B=>?_
  simp only[Tryz.ntmps65,enumD,lst0,Nat.reduceAdd]
  repeat' first|refine sw_seq ?_|refine sw_skip ?_|refine sw_go 0 kp65 fun K hK=>?_|refine fun (K:KT) (hK:KOk S 0 _ _ _ K)=>?_|((first|refine runL_go ?_|refine sw_ret (ret0 ?_)|refine sw_ret ?_);simp (disch:=(refine Om.mk ?_;omega)) only[go_sem,Tryz.results65])|(refine hK.nil ?_;clear hK K;simp only[go_sem])|((first|refine sw_cond rfl ?_ ?_)<;>intro h<;>try simp (disch:=(refine Om.mk ?_;omega)) only[go_sem] at h)|refine sw_loopEnd ?_|(with_reducible refine And.intro (by first|omega|(simp only[lens];omega)) ?_)|fail
 ·skip
  refine fc_body Tryz.func65 rfl (by kernel_rfl) (by simp[Tryz.f65]) fun B=>?_
  simp only[Tryz.ntmps65,enumD,lst0,Nat.reduceAdd]
  repeat' first|refine sw_seq ?_|refine sw_skip ?_|refine sw_go 0 kp65 fun K hK=>?_|refine fun (K:KT) (hK:KOk S 0 _ _ _ K)=>?_|((first|refine runL_go ?_|refine sw_ret (ret0 ?_)|refine sw_ret ?_);simp (disch:=(refine Om.mk ?_;omega)) only[go_sem,Tryz.results65])|(refine hK.nil ?_;clear hK K;simp only[go_sem])|((first|refine sw_cond rfl ?_ ?_)<;>intro h<;>try simp (disch:=(refine Om.mk ?_;omega)) only[go_sem] at h)|refine sw_loopEnd ?_|(with_reducible refine And.intro (by first|omega|(simp only[lens];omega)) ?_)|fail
def kp31:List (Nat×List Nat):=[(0,[0,1]),(1,[0,1,12]),(2,[4]),(3,[4])]
attribute [go_sem] kp31
theorem l16Times_fc (n m:Int) (hn:-1≤n∧n≤20000) (hm:1≤m∧m≤2):FC S 31 [] [] [] [.int .i64 n,.int .i64 m] (.int .i64 (if n<0∨20000<n*m then -1 else n*m)) [] []:=by
 have hnm:-2≤n*m∧n*m≤40000:=by
  rcases (show m=1∨m=2 by omega) with rfl|rfl<;>omega
 generalize hq:n*m=q at *
 refine fc_body Tryz.func31 rfl (by kernel_rfl) (by simp[Tryz.f31]) fun B=>?_
 simp only[Tryz.ntmps31,enumD,lst0,Nat.reduceAdd]
 repeat' first|((rw[hq]))|refine sw_seq ?_|refine sw_skip ?_|refine sw_go 0 kp31 fun K hK=>?_|refine fun (K:KT) (hK:KOk S 0 _ _ _ K)=>?_|((first|refine runL_go ?_|refine sw_ret (ret0 ?_)|refine sw_ret ?_);simp (disch:=(refine Om.mk ?_;omega)) only[go_sem,Tryz.results31])|(refine hK.nil ?_;clear hK K;simp only[go_sem])|((first|refine runG_fork rfl rfl rfl rfl rfl ?_ ?_|refine sw_cond rfl ?_ ?_)<;>intro h<;>try simp (disch:=(refine Om.mk ?_;omega)) only[go_sem] at h)|refine hK.skp rfl rfl ?_|refine sw_loopEnd ?_|(refine hK.fork rfl rfl rfl ?_ ?_<;>intro h<;>try simp (disch:=(refine Om.mk ?_;omega)) only[go_sem] at h)|(with_reducible refine And.intro (by first|omega|(simp only[lens];omega)) ?_)|fail
 all_goals first|(rw[if_pos (by omega)];done)|(rw[if_neg (by omega)];done)
def kp29:List (Nat×List Nat):=[(0,[1,2]),(1,[1,2,5]),(2,[1,2,5,6]),(3,[1,2,5,6,15]),(5,[1,2,5,6,7]),(6,[1,2,5,6,7,24]),(8,[1,2,5,6,7]),(7,[1,2,5,6,7]),(4,[1,2,5,6]),(9,[1,2,5,8]),(10,[1,2,5,8,34]),(12,[1,2,5,8]),(13,[1,2,5,8,9]),(14,[1,2,5,8,9,46]),(16,[1,2,5,8,9]),(15,[1,2,5,8,9]),(11,[1,2,5,8]),(17,[4])]
attribute [go_sem] kp29
theorem l18Most_fc (rs:List Int) (H:Int→Prop) (hs:List Int) (hh:∀f,f∈hs↔H f) (hS:SigOkP rs):FC S 29 [] [] [] [.agg [.sl .any (rs.map (.int .i64))],.sl .any (hs.map (.int .i64))] (.sl .any ((topM rs H).map (.int .i64))) [] []:=by
 have hs8:=hS.1.2
 have cF:∀f:Nat,FC S 65 [] [] [] [.bool (tst ((f:Int)∈hs))] (.int .i64 (oneP H f)) [] []:=fun f=>by
  have c:=l1Flag_fc (tst ((f:Int)∈hs))
  by_cases h1:H f
  ·rw[tst_true ((hh f).2 h1)] at c ⊢
   rw[oneP_yes h1];exact c
  ·rw[tst_false fun e=>h1 ((hh f).1 e)] at c ⊢
   rw[oneP_no h1];exact c
 refine fc_body Tryz.func29 rfl (by kernel_rfl) (by simp[Tryz.f29]) fun B=>?_
 simp only[Tryz.ntmps29,enumD,lst0,Nat.reduceAdd]
 repeat' first|refine sw_seq ?_|refine sw_block ?_|refine sw_inBlock ?_|refine sw_skip ?_|refine sw_go 0 kp29 fun K hK=>?_|refine fun (K:KT) (hK:KOk S 0 _ _ _ K)=>?_|((first|refine runL_go ?_|refine sw_ret (ret0 ?_)|refine sw_ret ?_);simp (disch:=(refine Om.mk ?_;omega)) only[go_sem,Tryz.results29])|(refine hK.nil ?_;clear hK K;simp only[go_sem])|((first|refine sw_cond rfl ?_ ?_)<;>intro h<;>try simp (disch:=(refine Om.mk ?_;omega)) only[go_sem] at h)|refine sw_exit rfl ?_|refine sw_loopEnd ?_|(with_reducible refine And.intro (by first|omega|(simp only[lens];omega)) ?_)|((with_reducible refine And.intro ?_ ?_);· first|(intro x hx;subst hx;rfl)|(intro x;refine And.intro ?_ ?_<;>(intros;subst_vars;rfl)))|fail
 refine sw_tok 5 30000 2 1 rfl (.inr rfl) rfl ?_
 simp only[go_sem]
 refine sw_loopT (ι:=Nat) (fun f=>[(6,.int .i64 f),(5,.sl (.own 30000 2 1) ((halfA rs f).map (.int .i64)))]) (fun _=>[]) (fun _=>[30000]) (fun f=>f≤rs.length) (fun f=>rs.length-f) 0 (by(refine covers_mk0 rfl rfl ?_ ?_ ?_ ?_<;>simp (disch:=(refine Om.mk ?_;omega)) only[go_sem]<;>(try omega));all_goals exact⟨rfl,rfl⟩) (by omega) (fun f hf=>?_)
 simp only[go_sem]
 have hla:=halfA_len rs f
 have hal:=atN_le hS f hf
 by_cases hfl:f<rs.length
 ·have har:=hS.2 f hfl
  obtain⟨n,hn⟩:∃n:Nat,rs.getD f default=n:=⟨_,(Int.toNat_of_nonneg har.1).symm⟩
  have hhA:halfA rs (f+1)=halfA rs f++List.replicate (n+1) 1:=by rw[halfA,hn];rfl
  repeat' first|((exfalso;omega))|refine sw_seq ?_|refine sw_block ?_|refine sw_inBlock ?_|refine sw_skip ?_|refine sw_go 0 kp29 fun K hK=>?_|refine fun (K:KT) (hK:KOk S 0 _ _ _ K)=>?_|((first|refine runL_go ?_|refine sw_ret (ret0 ?_)|refine sw_ret ?_);simp (disch:=(refine Om.mk ?_;omega)) only[go_sem,Tryz.results29])|(refine hK.nil ?_;clear hK K;simp only[go_sem])|((first|refine sw_cond rfl ?_ ?_)<;>intro h<;>try simp (disch:=(refine Om.mk ?_;omega)) only[go_sem] at h)|refine sw_exit rfl ?_|refine sw_loopEnd ?_|(with_reducible refine And.intro (by first|omega|(simp only[lens];omega)) ?_)|((with_reducible refine And.intro ?_ ?_);· first|(intro x hx;subst hx;rfl)|(intro x;refine And.intro ?_ ?_<;>(intros;subst_vars;rfl)))|fail
  refine sw_loopT (ι:=Nat) (fun k=>[(7,.int .i64 k),(5,.sl (.own 30000 2 1) ((halfA rs f++List.replicate k 1).map (.int .i64)))]) (fun _=>[]) (fun _=>[30000]) (fun k=>k≤n+1) (fun k=>n+1-k) 0 (by(refine covers_mk0 rfl rfl ?_ ?_ ?_ ?_<;>simp (disch:=(refine Om.mk ?_;omega)) only[go_sem]<;>(try omega));all_goals first|rfl|(simp;done)|exact⟨by simp,rfl⟩) (by omega) (fun k hk=>?_)
  simp only[go_sem]
  have hll:(halfA rs f++List.replicate k 1).length≤4*f+k:=by simp;omega
  by_cases hkl:k<n+1
  ·repeat' first|((exfalso;omega))|refine sw_seq ?_|refine sw_block ?_|refine sw_inBlock ?_|refine sw_skip ?_|refine sw_go 0 kp29 fun K hK=>?_|refine fun (K:KT) (hK:KOk S 0 _ _ _ K)=>?_|((first|refine runL_go ?_|refine sw_ret (ret0 ?_)|refine sw_ret ?_);simp (disch:=(refine Om.mk ?_;omega)) only[go_sem,Tryz.results29])|(refine hK.nil ?_;clear hK K;simp only[go_sem])|((first|refine sw_cond rfl ?_ ?_)<;>intro h<;>try simp (disch:=(refine Om.mk ?_;omega)) only[go_sem] at h)|refine sw_exit rfl ?_|refine sw_loopEnd ?_|(with_reducible refine And.intro (by first|omega|(simp only[lens];omega)) ?_)|((with_reducible refine And.intro ?_ ?_);· first|(intro x hx;subst hx;rfl)|(intro x;refine And.intro ?_ ?_<;>(intros;subst_vars;rfl)))|fail
   exact⟨k+1,(by(refine covers_mk0 rfl rfl ?_ ?_ ?_ ?_<;>simp (disch:=(refine Om.mk ?_;omega)) only[go_sem]<;>(try omega));rw[List.replicate_succ',←List.append_assoc];exact⟨rfl,by omega⟩),by omega,by omega⟩
  ·obtain rfl:k=n+1:=by omega
   repeat' first|((exfalso;omega))|refine sw_seq ?_|refine sw_block ?_|refine sw_inBlock ?_|refine sw_skip ?_|refine sw_go 0 kp29 fun K hK=>?_|refine fun (K:KT) (hK:KOk S 0 _ _ _ K)=>?_|((first|refine runL_go ?_|refine sw_ret (ret0 ?_)|refine sw_ret ?_);simp (disch:=(refine Om.mk ?_;omega)) only[go_sem,Tryz.results29])|(refine hK.nil ?_;clear hK K;simp only[go_sem])|((first|refine sw_cond rfl ?_ ?_)<;>intro h<;>try simp (disch:=(refine Om.mk ?_;omega)) only[go_sem] at h)|refine sw_exit rfl ?_|refine sw_loopEnd ?_|(with_reducible refine And.intro (by first|omega|(simp only[lens];omega)) ?_)|((with_reducible refine And.intro ?_ ?_);· first|(intro x hx;subst hx;rfl)|(intro x;refine And.intro ?_ ?_<;>(intros;subst_vars;rfl)))|fail
   exact⟨f+1,(by(refine covers_mk0 rfl rfl ?_ ?_ ?_ ?_<;>simp (disch:=(refine Om.mk ?_;omega)) only[go_sem]<;>(try omega));rw[hhA];exact⟨rfl,by omega⟩),by omega,by omega⟩
 ·obtain rfl:f=rs.length:=by omega
  repeat' first|((exfalso;omega))|refine sw_seq ?_|refine sw_block ?_|refine sw_inBlock ?_|refine sw_skip ?_|refine sw_go 0 kp29 fun K hK=>?_|refine fun (K:KT) (hK:KOk S 0 _ _ _ K)=>?_|((first|refine runL_go ?_|refine sw_ret (ret0 ?_)|refine sw_ret ?_);simp (disch:=(refine Om.mk ?_;omega)) only[go_sem,Tryz.results29])|(refine hK.nil ?_;clear hK K;simp only[go_sem])|((first|refine sw_cond rfl ?_ ?_)<;>intro h<;>try simp (disch:=(refine Om.mk ?_;omega)) only[go_sem] at h)|refine sw_exit rfl ?_|refine sw_loopEnd ?_|(with_reducible refine And.intro (by first|omega|(simp only[lens];omega)) ?_)|((with_reducible refine And.intro ?_ ?_);· first|(intro x hx;subst hx;rfl)|(intro x;refine And.intro ?_ ?_<;>(intros;subst_vars;rfl)))|fail
  refine sw_loopT (ι:=Nat) (fun f=>[(8,.int .i64 f),(5,.sl (.own 30000 2 1) ((halfA rs rs.length++halfB rs H f).map (.int .i64)))]) (fun _=>[]) (fun _=>[30000]) (fun f=>f≤rs.length) (fun f=>rs.length-f) 0 (by(refine covers_mk0 rfl rfl ?_ ?_ ?_ ?_<;>simp (disch:=(refine Om.mk ?_;omega)) only[go_sem]<;>(try omega));all_goals first|rfl|(simp[halfB];done)|exact⟨by simp[halfB],rfl⟩) (by omega) (fun f hf=>?_)
  simp only[go_sem]
  have hlb:=halfB_len rs H f
  have hbl:=atN_le hS f hf
  by_cases hfl:f<rs.length
  ·have har:=hS.2 f hfl
   obtain⟨n,hn⟩:∃n:Nat,rs.getD f default=n:=⟨_,(Int.toNat_of_nonneg har.1).symm⟩
   have hhB:halfB rs H (f+1)=halfB rs H f++0::List.replicate n (oneP H f):=by rw[halfB,hn];rfl
   have hl0:(halfA rs rs.length++halfB rs H f).length≤4*rs.length+4*f:=by simp;omega
   repeat' first|((refine sw_renC 40000 30000 rfl rfl ?_;simp only[go_sem]))|((exfalso;omega))|refine sw_seq ?_|refine sw_block ?_|refine sw_inBlock ?_|refine sw_skip ?_|refine sw_go 0 kp29 fun K hK=>?_|refine fun (K:KT) (hK:KOk S 0 _ _ _ K)=>?_|((first|refine runL_go ?_|refine sw_ret (ret0 ?_)|refine sw_ret ?_);simp (disch:=(refine Om.mk ?_;omega)) only[go_sem,Tryz.results29])|(refine hK.nil ?_;clear hK K;simp only[go_sem])|((first|refine sw_cond rfl ?_ ?_)<;>intro h<;>try simp (disch:=(refine Om.mk ?_;omega)) only[go_sem] at h)|refine sw_exit rfl ?_|refine sw_loopEnd ?_|(with_reducible refine And.intro (by first|omega|(simp only[lens];omega)) ?_)|((with_reducible refine And.intro ?_ ?_);· first|(intro x hx;subst hx;rfl)|(intro x;refine And.intro ?_ ?_<;>(intros;subst_vars;rfl)))|fail
   refine sw_loopT (ι:=Nat) (fun k=>[(9,.int .i64 k),(5,.sl (.own 30000 2 1) ((halfA rs rs.length++halfB rs H f++0::List.replicate k (oneP H f)).map (.int .i64)))]) (fun _=>[]) (fun _=>[30000]) (fun k=>k≤n) (fun k=>n-k) 0 (by(refine covers_mk0 rfl rfl ?_ ?_ ?_ ?_<;>simp (disch:=(refine Om.mk ?_;omega)) only[go_sem]<;>(try omega));all_goals first|rfl|(simp;done)|exact⟨by simp,rfl⟩) (by omega) (fun k hk=>?_)
   simp only[go_sem]
   have hll:(halfA rs rs.length++halfB rs H f++0::List.replicate k (oneP H f)).length≤4*rs.length+4*f+k+1:=by simp;omega
   have c1:=cF f
   have hz1:halfA rs rs.length++halfB rs H f++0::List.replicate (k+1) (oneP H f)=(halfA rs rs.length++halfB rs H f++0::List.replicate k (oneP H f))++[oneP H f]:=by rw[List.replicate_succ',←List.cons_append,←List.append_assoc]
   by_cases hkl:k<n
   ·generalize halfA rs rs.length++halfB rs H f++0::List.replicate k (oneP H f)=zs at hll hz1 ⊢
    repeat' first|((refine sw_renC 56000 30000 rfl rfl ?_;simp only[go_sem]))|((exfalso;omega))|refine sw_seq ?_|refine sw_block ?_|refine sw_inBlock ?_|refine sw_skip ?_|refine sw_go 0 kp29 fun K hK=>?_|refine fun (K:KT) (hK:KOk S 0 _ _ _ K)=>?_|((first|refine runL_go ?_|refine sw_ret (ret0 ?_)|refine sw_ret ?_);simp (disch:=(refine Om.mk ?_;omega)) only[go_sem,Tryz.results29])|(refine hK.nil ?_;clear hK K;simp only[go_sem])|((first|refine sw_cond rfl ?_ ?_)<;>intro h<;>try simp (disch:=(refine Om.mk ?_;omega)) only[go_sem] at h)|refine sw_exit rfl ?_|refine sw_loopEnd ?_|refine hK.c0 rfl rfl rfl (l1Has_fc _ _ _) rfl rfl rfl ?_|refine hK.c0 rfl rfl rfl (c1) rfl rfl rfl ?_|(with_reducible refine And.intro (by first|omega|(simp only[lens];omega)) ?_)|((with_reducible refine And.intro ?_ ?_);· first|(intro x hx;subst hx;rfl)|(intro x;refine And.intro ?_ ?_<;>(intros;subst_vars;rfl)))|fail
    exact⟨k+1,(by(refine covers_mk0 rfl rfl ?_ ?_ ?_ ?_<;>simp (disch:=(refine Om.mk ?_;omega)) only[go_sem]<;>(try omega));rw[hz1];exact⟨rfl,by omega⟩),by omega,by omega⟩
   ·obtain rfl:k=n:=by omega
    repeat' first|((exfalso;omega))|refine sw_seq ?_|refine sw_block ?_|refine sw_inBlock ?_|refine sw_skip ?_|refine sw_go 0 kp29 fun K hK=>?_|refine fun (K:KT) (hK:KOk S 0 _ _ _ K)=>?_|((first|refine runL_go ?_|refine sw_ret (ret0 ?_)|refine sw_ret ?_);simp (disch:=(refine Om.mk ?_;omega)) only[go_sem,Tryz.results29])|(refine hK.nil ?_;clear hK K;simp only[go_sem])|((first|refine sw_cond rfl ?_ ?_)<;>intro h<;>try simp (disch:=(refine Om.mk ?_;omega)) only[go_sem] at h)|refine sw_exit rfl ?_|refine sw_loopEnd ?_|(with_reducible refine And.intro (by first|omega|(simp only[lens];omega)) ?_)|((with_reducible refine And.intro ?_ ?_);· first|(intro x hx;subst hx;rfl)|(intro x;refine And.intro ?_ ?_<;>(intros;subst_vars;rfl)))|fail
    exact⟨f+1,(by(refine covers_mk0 rfl rfl ?_ ?_ ?_ ?_<;>simp (disch:=(refine Om.mk ?_;omega)) only[go_sem]<;>(try omega));rw[hhB,←List.append_assoc];exact⟨rfl,by omega⟩),by omega,by omega⟩
  ·obtain rfl:f=rs.length:=by omega
   repeat' first|((exfalso;omega))|refine sw_seq ?_|refine sw_block ?_|refine sw_inBlock ?_|refine sw_skip ?_|refine sw_go 0 kp29 fun K hK=>?_|refine fun (K:KT) (hK:KOk S 0 _ _ _ K)=>?_|((first|refine runL_go ?_|refine sw_ret (ret0 ?_)|refine sw_ret ?_);simp (disch:=(refine Om.mk ?_;omega)) only[go_sem,Tryz.results29])|(refine hK.nil ?_;clear hK K;simp only[go_sem])|((first|refine sw_cond rfl ?_ ?_)<;>intro h<;>try simp (disch:=(refine Om.mk ?_;omega)) only[go_sem] at h)|refine sw_exit rfl ?_|refine sw_loopEnd ?_|(with_reducible refine And.intro (by first|omega|(simp only[lens];omega)) ?_)|((with_reducible refine And.intro ?_ ?_);· first|(intro x hx;subst hx;rfl)|(intro x;refine And.intro ?_ ?_<;>(intros;subst_vars;rfl)))|fail
   rfl
def kp35:List (Nat×List Nat):=[(0,[0,1]),(1,[1,6]),(2,[1,6,7]),(3,[1,6,7,14]),(5,[1,6,7,25]),(6,[6]),(7,[4,5]),(8,[1,6,7]),(4,[1,6,7]),(9,[4,5])]
attribute [go_sem] kp35
theorem l18Next_fc (hs xs:List Int) (he:xs.length=hs.length) (hne:xs≠[]) (hl:xs.length≤100) (hx:∀x∈xs,0≤x∧x≤1000):FC S 35 [] [] [] [.sl .any (xs.map (.int .i64)),.sl .any (hs.map (.int .i64))] (.tup [.sl .any ((nxtD (upD hs) xs).1.map (.int .i64)),.bool (nxtD (upD hs) xs).2]) [] []:=by
 have hlu:xs.length=(upD hs).length:=by rw[upD_len,he]
 refine FC.args (args':=[.sl .any (xs.map (.int .i64)),.sl .any (hs.map (.int .i64))]) ?_ (by simp only[go_sem])
 refine fc_body Tryz.func35 rfl (by kernel_rfl) (by simp[Tryz.f35]) fun B=>?_
 simp only[Tryz.ntmps35,enumD,lst0,Nat.reduceAdd]
 refine sw_bnd 0 rfl fun hb0=>?_
 simp only[D.bnd,List.length_map] at hb0
 repeat' first|refine sw_seq ?_|refine sw_block ?_|refine sw_inBlock ?_|refine sw_skip ?_|refine sw_go 0 kp35 fun K hK=>?_|refine fun (K:KT) (hK:KOk S 0 _ _ _ K)=>?_|refine sw_goD kp35 (by kernel_rfl) fun K hK=>?_|((first|refine runL_go ?_|refine runQ_go ?_|refine sw_ret (ret0 ?_)|refine sw_ret ?_);simp (disch:=(refine Om.mk ?_;omega)) only[go_sem,Tryz.results35])|(refine hK.nil ?_;clear hK K;simp only[go_sem])|((first|refine sw_cond rfl ?_ ?_)<;>intro h<;>try simp (disch:=(refine Om.mk ?_;omega)) only[go_sem] at h)|refine sw_exit rfl ?_|refine sw_loopEnd ?_|(refine hK.callT rfl rfl rfl (l1Copy_fc .any xs (by omega)) ⟨⟨by simp only[Nat.reduceLT],by simp,by simp[Lg.look]⟩,by assumption⟩ ?_;simp (disch:=(refine Om.mk ?_;omega)) only[go_sem])|(with_reducible refine And.intro (by first|omega|(simp only[lens];omega)) ?_)|fail
 refine sw_loopU (ι:=Nat) (fun p=>[(7,.int .i64 (p-1:Int))]) (fun p=>[(9,(stD (upD hs) xs p).map (.int .i64))]) (fun p=>p≤xs.length∧NxInv (upD hs) xs p) (fun p=>p) xs.length (by(refine covers_mk0 rfl rfl ?_ ?_ ?_ ?_<;>simp (disch:=(refine Om.mk ?_;omega)) only[go_sem]<;>(try omega));rw[stD_all hlu]) ?_ (fun p hp=>?_)
 rotate_left
 simp only[go_sem]
 obtain⟨hp1,hp2⟩:=hp
 have hlen:=stD_len hlu hp1
 cases p with
 | zero =>
  have hz:=nx_end hlu hp2
  rw[hz]
  repeat' first|(refine sw_freezeAt 9 6 1 .any ((stD (upD hs) xs 0).map (.int .i64)) rfl rfl (flat_ints _).symm (by simp[hlen]) (cells_one fun _=>rfl) (memOk_ints _) (.inl rfl) ?_;simp only[go_sem])|refine sw_seq ?_|refine sw_block ?_|refine sw_inBlock ?_|refine sw_skip ?_|refine sw_go 0 kp35 fun K hK=>?_|refine fun (K:KT) (hK:KOk S 0 _ _ _ K)=>?_|refine sw_goD kp35 (by kernel_rfl) fun K hK=>?_|((first|refine runL_go ?_|refine runQ_go ?_|refine sw_ret (ret0 ?_)|refine sw_ret ?_);simp (disch:=(refine Om.mk ?_;omega)) only[go_sem,Tryz.results35])|(refine hK.nil ?_;clear hK K;simp only[go_sem])|((first|refine sw_cond rfl ?_ ?_)<;>intro h<;>try simp (disch:=(refine Om.mk ?_;omega)) only[go_sem] at h)|refine sw_exit rfl ?_|refine sw_loopEnd ?_|(with_reducible refine And.intro (by first|omega|(simp only[lens];omega)) ?_)|fail
  ·exfalso;omega
  ·exfalso;omega
 | succ k =>
  have hk:k<xs.length:=by omega
  have hg:=stD_get hlu hk
  have hxk:=hx _ (getD_mem xs k hk)
  have hlt:k<(stD (upD hs) xs (k+1)).length:=by omega
  have hkh:k<hs.length:=by omega
  have hi:((k+1:Nat):Int)-1=(k:Int):=by omega
  have hl2:((stD (upD hs) xs (k+1)).set k ((stD (upD hs) xs (k+1)).getD k default+1)).length=xs.length:=by rw[List.length_set];exact hlen
  have hbk:=upD_at hs hkh
  rw[hi]
  repeat' first|(refine sw_freezeAt 7 6 1 .any (((stD (upD hs) xs (k+1)).set k ((stD (upD hs) xs (k+1)).getD k default+1)).map (.int .i64)) rfl rfl (flat_ints _).symm (by simp[hlen]) (cells_one fun _=>rfl) (memOk_ints _) (.inl rfl) ?_;simp only[go_sem])|refine sw_seq ?_|refine sw_block ?_|refine sw_inBlock ?_|refine sw_skip ?_|refine sw_go 0 kp35 fun K hK=>?_|refine fun (K:KT) (hK:KOk S 0 _ _ _ K)=>?_|refine sw_goD kp35 (by kernel_rfl) fun K hK=>?_|((first|refine runL_go ?_|refine runQ_go ?_|refine sw_ret (ret0 ?_)|refine sw_ret ?_);simp (disch:=(refine Om.mk ?_;omega)) only[go_sem,Tryz.results35])|(refine hK.nil ?_;clear hK K;simp only[go_sem])|((first|refine sw_cond rfl ?_ ?_)<;>intro h<;>try simp (disch:=(refine Om.mk ?_;omega)) only[go_sem] at h)|refine sw_exit rfl ?_|refine sw_loopEnd ?_|(with_reducible refine And.intro (by first|omega|(simp only[lens];omega)) ?_)|fail
  ·rw[hg] at h ⊢
   rw[nx_yes hlu hk hp2 (by rw[hbk];exact h)]
   exact⟨rfl,rfl⟩
  ·rw[hg] at h
   obtain⟨n1,n2⟩:=nx_no hlu hk hp2 (by rw[hbk];simpa using h)
   rw[hbk] at n2
   refine⟨k,(by(refine covers_mk0 rfl rfl ?_ ?_ ?_ ?_<;>simp (disch:=(refine Om.mk ?_;omega)) only[go_sem]<;>(try omega))),⟨by omega,n1⟩,by omega⟩
 ·exact⟨Nat.le_refl _,nx_start hlu⟩
def kp32:List (Nat×List Nat):=[(0,[1,2]),(1,[1,2,5]),(2,[1,2,5,6]),(3,[1,2,5,6,7]),(4,[1,2,5,6,7,13]),(6,[1,2,5,6,7]),(7,[1,2,5,6,7]),(5,[1,2,5,6,7]),(8,[4])]
attribute [go_sem] kp32
theorem l16Polys_fc (rs xs:List Int) (hS:SigOkP rs) (hl:atN rs rs.length≤xs.length) (hx:xs.length≤1000):FC S 32 [] [] [] [.agg [.sl .any (rs.map (.int .i64))],.sl .any (xs.map (.int .i64))] (.sl .any ((polD rs xs).map PolyD)) [] []:=by
 have hs8:=hS.1.2
 refine fc_body Tryz.func32 rfl (by kernel_rfl) (by simp[Tryz.f32]) fun B=>?_
 simp only[Tryz.ntmps32,enumD,lst0,Nat.reduceAdd]
 repeat' first|refine sw_seq ?_|refine sw_block ?_|refine sw_inBlock ?_|refine sw_skip ?_|refine sw_go 0 kp32 fun K hK=>?_|refine sw_goT 0 kp32 20 (id:=6) (by kernel_rfl) fun K hK=>?_|refine fun (K:KT) (hK:KOk S 0 _ _ _ K)=>?_|refine sw_goD kp32 (by kernel_rfl) fun K hK=>?_|((first|refine runL_go ?_|refine runQ_go ?_|refine sw_ret (ret0 ?_)|refine sw_ret ?_);simp (disch:=(refine Om.mk ?_;omega)) only[go_sem,Tryz.results32])|(refine hK.nil ?_;clear hK K;simp only[go_sem])|((first|refine sw_cond rfl ?_ ?_)<;>intro h<;>try simp (disch:=(refine Om.mk ?_;omega)) only[go_sem] at h)|refine sw_exit rfl ?_|refine sw_loopEnd ?_|(with_reducible refine And.intro (by first|omega|(simp only[lens];omega)) ?_)|((with_reducible refine And.intro ?_ ?_);· first|(intro x hx;subst hx;rfl)|(intro x;refine And.intro ?_ ?_<;>(intros;subst_vars;rfl)))|fail
 refine sw_tok 5 37000 71 2 rfl (.inr rfl) rfl ?_
 simp only[go_sem]
 refine sw_loopT (ι:=Nat) (fun f=>[(6,.int .i64 (atN rs f)),(7,.int .i64 f),(5,.sl (.own 37000 71 2) ((polN rs xs f).map PolyD))]) (fun _=>[]) (fun _=>[37000]) (fun f=>f≤rs.length) (fun f=>rs.length-f) 0 (by(refine covers_mk0 rfl rfl ?_ ?_ ?_ ?_<;>simp (disch:=(refine Om.mk ?_;omega)) only[go_sem]<;>(try omega));all_goals exact⟨rfl,rfl,rfl⟩) (by omega) (fun f hf=>?_)
 simp only[go_sem]
 have hpl:=polN_len rs xs f
 by_cases hfl:f<rs.length
 ·have har:=hS.2 f hfl
  have hm:atN rs (f+1)≤atN rs rs.length:=atN_mono rs hfl
  have hm1:atN rs (f+1)=atN rs f+(rs.getD f default).toNat+1:=rfl
  obtain⟨n,hn⟩:∃n:Nat,rs.getD f default=n:=⟨_,(Int.toNat_of_nonneg har.1).symm⟩
  have hsl:List.drop (atN rs f+1) (List.take ((atN rs f:Int)+1+rs.getD f default).toNat xs)=(xs.drop (atN rs f+1)).take (rs.getD f default).toNat:=by
   rw[List.drop_take,show ((atN rs f:Int)+1+rs.getD f default).toNat-(atN rs f+1)=(rs.getD f default).toNat by omega]
  have hp1:polN rs xs (f+1)=polN rs xs f++[⟨xs.getD (atN rs f) default,List.drop (atN rs f+1) (List.take ((atN rs f:Int)+1+rs.getD f default).toNat xs)⟩]:=by rw[hsl];rfl
  repeat' first|((exfalso;omega))|refine sw_seq ?_|refine sw_block ?_|refine sw_inBlock ?_|refine sw_skip ?_|refine sw_go 0 kp32 fun K hK=>?_|refine sw_goT 0 kp32 20 (id:=6) (by kernel_rfl) fun K hK=>?_|refine fun (K:KT) (hK:KOk S 0 _ _ _ K)=>?_|refine sw_goD kp32 (by kernel_rfl) fun K hK=>?_|((first|refine runL_go ?_|refine runQ_go ?_|refine sw_ret (ret0 ?_)|refine sw_ret ?_);simp (disch:=(refine Om.mk ?_;omega)) only[go_sem,Tryz.results32])|(refine hK.nil ?_;clear hK K;simp only[go_sem])|((first|refine sw_cond rfl ?_ ?_)<;>intro h<;>try simp (disch:=(refine Om.mk ?_;omega)) only[go_sem] at h)|refine sw_exit rfl ?_|refine sw_loopEnd ?_|refine hK.c0 rfl rfl rfl (l1CopyA_fc _ (List.drop (atN rs f+1) (List.take ((atN rs f:Int)+1+rs.getD f default).toNat xs)) (by simp;omega)) rfl rfl rfl ?_|(with_reducible refine And.intro (by first|omega|(simp only[lens];omega)) ?_)|((with_reducible refine And.intro ?_ ?_);· first|(intro x hx;subst hx;rfl)|(intro x;refine And.intro ?_ ?_<;>(intros;subst_vars;rfl)))|fail
  exact⟨f+1,(by(refine covers_mk0 rfl rfl ?_ ?_ ?_ ?_<;>simp (disch:=(refine Om.mk ?_;omega)) only[go_sem]<;>(try omega));rw[hp1,List.map_append];refine⟨rfl,?_,?_⟩<;>omega),by omega,by omega⟩
 ·obtain rfl:f=rs.length:=by omega
  repeat' first|((exfalso;omega))|refine sw_seq ?_|refine sw_block ?_|refine sw_inBlock ?_|refine sw_skip ?_|refine sw_go 0 kp32 fun K hK=>?_|refine sw_goT 0 kp32 20 (id:=6) (by kernel_rfl) fun K hK=>?_|refine fun (K:KT) (hK:KOk S 0 _ _ _ K)=>?_|refine sw_goD kp32 (by kernel_rfl) fun K hK=>?_|((first|refine runL_go ?_|refine runQ_go ?_|refine sw_ret (ret0 ?_)|refine sw_ret ?_);simp (disch:=(refine Om.mk ?_;omega)) only[go_sem,Tryz.results32])|(refine hK.nil ?_;clear hK K;simp only[go_sem])|((first|refine sw_cond rfl ?_ ?_)<;>intro h<;>try simp (disch:=(refine Om.mk ?_;omega)) only[go_sem] at h)|refine sw_exit rfl ?_|refine sw_loopEnd ?_|(with_reducible refine And.intro (by first|omega|(simp only[lens];omega)) ?_)|((with_reducible refine And.intro ?_ ?_);· first|(intro x hx;subst hx;rfl)|(intro x;refine And.intro ?_ ?_<;>(intros;subst_vars;rfl)))|fail
  rfl
end Go.Proofs.YtpennhjjnlkbiaaGreat
end
section
namespace Go.Proofs.YtpennhjjnlkbiaaGreat
open Go Go.Lg
set_option linter.unusedSimpArgs false
set_option linter.unusedVariables false
set_option maxHeartbeats 4000000
attribute [local irreducible] SW runL runQ runG runQG FC Ret1 toF redoL anyB
def resG (rs:List Int) (pl:List PolyT):Option (List Int)→List PolyT×Bool
 | some c=>(pl++polD rs c,true)
 | none=>([],false)
theorem dig_bnd {hs xs:List Int} (hh:∀h∈hs,0≤h∧h≤1) (h:DigP (upD hs) xs):∀x∈xs,0≤x∧x≤1000:=fun x hx=>by have:=upD_dig hh h x hx;omega
def kp34:List (Nat×List Nat):=[(0,[1,2,3,4,5]),(1,[1,2,3,4,5,12]),(2,[1,2,3,4,5,12,13]),(3,[1,2,3,4,5,12,22]),(4,[1,2,3,4,5,12,14]),(5,[1,2,3,4,5,12,14,15,16]),(6,[1,2,3,4,5,12,14,44]),(7,[10,11]),(8,[1,2,3,4,5,17,18]),(9,[1,2,3,4,5,12,18]),(10,[1,2,3,4,5,12,13]),(11,[10,11])]
attribute [go_sem] kp34
theorem l18Marked_fc (x:SystemT) (P:List DepPairT) (set:List Int) (pl:List PolyT) (hs:List Int) (hsg:SigOkP x.sig) (hpl:PolysOkP x.sig pl) (hh:∀h∈hs,0≤h∧h≤1) (hl:hs.length=atN x.sig x.sig.length) (hP:∀p∈P,PrOk x.sig p) (hS:SetPP set P.length) (h64:P.length≤64) (o:Option (List Int)) (ho:findD (GM x.sig P set pl) (allD (upD hs))=o):FC S 34 [] [] [] [SystemD x,.sl .any (P.map DepPairD),.sl .any (set.map (.int .i64)),.sl .any (pl.map PolyD),.sl .any (hs.map (.int .i64))] (.tup [.sl .any ((resG x.sig pl o).1.map PolyD),.bool (resG x.sig pl o).2]) [] []:=by
 have hs8:=hsg.1.2
 have hpl8:=hpl.1.2
 have hat:=atN_le hsg x.sig.length (Nat.le_refl _)
 have hok:=upD_ok hh
 have hseq:=allD_seq hok
 have hdig:=allD_dig hok
 have hn0:hs≠[]:=by
  intro e
  have h1:=atN_mono x.sig (show 1≤x.sig.length from hsg.1.1)
  have h2:atN x.sig 1=0+(x.sig.getD 0 default).toNat+1:=rfl
  rw[e] at hl;simp at hl;omega
 refine fc_body Tryz.func34 rfl (by kernel_rfl) (by simp[Tryz.f34]) fun B=>?_
 simp only[Tryz.ntmps34,enumD,lst0,Nat.reduceAdd]
 repeat' first|refine sw_seq ?_|refine sw_block ?_|refine sw_inBlock ?_|refine sw_skip ?_|refine sw_go 0 kp34 fun K hK=>?_|refine sw_goT 0 kp34 2 (id:=4) (by kernel_rfl) fun K hK=>?_|refine fun (K:KT) (hK:KOk S 0 _ _ _ K)=>?_|refine sw_goD kp34 (by kernel_rfl) fun K hK=>?_|((first|refine runL_go ?_|refine runQ_go ?_|refine sw_ret (ret0 ?_)|refine sw_ret ?_);simp (disch:=(refine Om.mk ?_;omega)) only[go_sem,Tryz.results34])|(refine hK.nil ?_;clear hK K;simp only[go_sem])|((first|refine runG_fork rfl rfl rfl rfl rfl ?_ ?_|refine runQG_fork rfl rfl rfl rfl rfl ?_ ?_|refine sw_cond rfl ?_ ?_)<;>intro h<;>try simp (disch:=(refine Om.mk ?_;omega)) only[go_sem] at h)|refine hK.skp rfl rfl ?_|refine sw_exit rfl ?_|refine sw_loopEnd ?_|(refine hK.fork rfl rfl rfl ?_ ?_<;>intro h<;>try simp (disch:=(refine Om.mk ?_;omega)) only[go_sem] at h)|(with_reducible refine And.intro (by first|omega|(simp only[lens];omega)) ?_)|((with_reducible refine And.intro ?_ ?_);· first|(intro x hx;subst hx;rfl)|(intro x;refine And.intro ?_ ?_<;>(intros;subst_vars;rfl)))|fail
 refine sw_freeze 12 1 .any ((List.replicate hs.length (0:Int)).map (.int .i64)) rfl rfl (by rw[flatten_one,flat_ints,List.map_replicate]) (by simp) (cells_one fun _=>rfl) (by rw[flatten_one,←List.map_replicate (f:=D.int .i64)];exact memOk_ints _) (.inl rfl) ?_
 simp only[go_sem]
 refine sw_loopU (ι:=List (List Int)) (fun p=>[(12,.sl .any ((p.headD (lowD (upD hs))).map (.int .i64))),(13,.bool (!p.isEmpty))]) (fun p=>[]) (fun p=>(SeqD (upD hs) p∧∀c∈p,DigP (upD hs) c)∧findD (GM x.sig P set pl) p=o) (fun p=>p.length) (allD (upD hs)) (by(refine covers_mk0 rfl rfl ?_ ?_ ?_ ?_<;>simp (disch:=(refine Om.mk ?_;omega)) only[go_sem]<;>(try omega));(obtain⟨r,hr⟩:=hseq.2;rw[hr];exact⟨by rw[List.headD_cons,lowD_up],rfl⟩)) ?_ (fun p hp=>?_)
 rotate_left
 simp only[go_sem]
 obtain⟨⟨hq1,hq2⟩,hq3⟩:=hp
 cases p with
 | nil =>
  obtain rfl:none=o:=hq3
  simp only[List.isEmpty_nil,Bool.not_true]
  repeat' first|refine sw_seq ?_|refine sw_block ?_|refine sw_inBlock ?_|refine sw_skip ?_|refine sw_go 0 kp34 fun K hK=>?_|refine sw_goT 0 kp34 2 (id:=4) (by kernel_rfl) fun K hK=>?_|refine fun (K:KT) (hK:KOk S 0 _ _ _ K)=>?_|refine sw_goD kp34 (by kernel_rfl) fun K hK=>?_|((first|refine runL_go ?_|refine runQ_go ?_|refine sw_ret (ret0 ?_)|refine sw_ret ?_);simp (disch:=(refine Om.mk ?_;omega)) only[go_sem,Tryz.results34])|(refine hK.nil ?_;clear hK K;simp only[go_sem])|((first|refine runG_fork rfl rfl rfl rfl rfl ?_ ?_|refine runQG_fork rfl rfl rfl rfl rfl ?_ ?_|refine sw_cond rfl ?_ ?_)<;>intro h<;>try simp (disch:=(refine Om.mk ?_;omega)) only[go_sem] at h)|refine hK.skp rfl rfl ?_|refine sw_exit rfl ?_|refine sw_loopEnd ?_|(refine hK.fork rfl rfl rfl ?_ ?_<;>intro h<;>try simp (disch:=(refine Om.mk ?_;omega)) only[go_sem] at h)|(with_reducible refine And.intro (by first|omega|(simp only[lens];omega)) ?_)|((with_reducible refine And.intro ?_ ?_);· first|(intro x hx;subst hx;rfl)|(intro x;refine And.intro ?_ ?_<;>(intros;subst_vars;rfl)))|fail
  exact⟨rfl,rfl⟩
 | cons c r =>
  have hc:=hq2 c List.mem_cons_self
  have hcl:c.length=hs.length:=by rw[digP_len hc,upD_len]
  have hcb:=dig_bnd hh hc
  have hcp:=pol_dig hsg hh hl hc
  obtain⟨hM,_⟩:=marked_of hpl hcp
  obtain⟨hn1,hn2⟩:=seq_next hq1
  have hne:c≠[]:=by intro e;rw[e] at hcl;exact hn0 (List.length_eq_zero_iff.1 hcl.symm)
  simp only[List.headD_cons,List.isEmpty_cons,Bool.not_false]
  have cN:=l18Next_fc hs c hcl hne (by omega) hcb
  rw[hn1] at cN
  have cW:=l18Weighed_fc x P set (pl++polD x.sig c) hM hP hS h64
  have hpd:(polD x.sig c).length=x.sig.length:=hcp.1.2
  repeat' first|((exfalso;omega))|((refine sw_any (id:=4) kp34 [(false,[]),(true,[]),(false,[0,1]),(true,[]),(false,[3]),(true,[]),(false,[4,5,2]),(false,[2,6,6]),(false,[7,7,0,1,2,3,4,5,6,7])] ⟨55,[(1,.sl .any (P.map DepPairD)),(2,.sl .any (set.map (.int .i64))),(3,.sl .any (pl.map PolyD)),(4,.sl .any (hs.map (.int .i64))),(5,.box 5 0),(12,.sl .any (c.map (.int .i64))),(14,.sl .any ((pl++polD x.sig c).map PolyD))],[(5,[.sl .any (x.sig.map (.int .i64)),.sl .any (x.rules.map RuleD)])],[],[],[]⟩ (by kernel_rfl) ?_ ?_;simp only[List.length_cons,List.length_nil,Nat.reduceAdd]))|((refine anyB_unf ?_;simp only[stepF_n,stepF_c,goR_n,goR_c,exR_n,exR_c,memB_n,memB_c,subB_n,subB_c,moveY_m,moveY_f,moveY_i,cond_t,cond_f,true_and,and_true,Bool.not_false,Bool.not_true,Bool.and_true,Bool.and_false,Bool.true_and,Bool.false_and,Bool.or_false,Bool.false_or,Bool.true_or,Bool.or_true,Nat.reduceBEq,Nat.reduceAdd]))|((refine anyB_move (by simp only[Nat.reduceLT]) rfl (by simp only[go_sem];exact rfl) ?_))|((refine anyB_fa (by simp only[Nat.reduceLT]) rfl rfl rfl rfl (by decide) (by simp only[go_sem];exact rfl) ?_))|((refine hK.nil (anyB_id ?_);clear hK K))|((refine lops_and ?_ ?_))|((refine lops_go 0 ?_;refine fun (K:List Oper→LS→Prop) (hK:KOk S 0 _ _ _ K)=>?_;simp (disch:=(refine Om.mk ?_;omega)) only[go_sem]))|((refine anyB_end ?_;simp (disch:=(refine Om.mk ?_;omega)) only[go_sem];(refine covers_mk0 rfl rfl ?_ ?_ ?_ ?_<;>simp (disch:=(refine Om.mk ?_;omega)) only[go_sem]<;>(try omega));done))|refine sw_seq ?_|refine sw_block ?_|refine sw_inBlock ?_|refine sw_skip ?_|refine sw_go 0 kp34 fun K hK=>?_|refine fun (K:KT) (hK:KOk S 0 _ _ _ K)=>?_|refine sw_goD kp34 (by kernel_rfl) fun K hK=>?_|((first|refine runL_go ?_|refine runQ_go ?_|refine sw_ret (ret0 ?_)|refine sw_ret ?_);simp (disch:=(refine Om.mk ?_;omega)) only[go_sem,Tryz.results34])|(refine hK.nil ?_;clear hK K;simp only[go_sem])|((first|refine runG_fork rfl rfl rfl rfl rfl ?_ ?_|refine runQG_fork rfl rfl rfl rfl rfl ?_ ?_|refine sw_cond rfl ?_ ?_)<;>intro h<;>try simp (disch:=(refine Om.mk ?_;omega)) only[go_sem] at h)|refine hK.skp rfl rfl ?_|refine sw_exit rfl ?_|refine sw_loopEnd ?_|refine hK.c0 rfl rfl rfl (l16Polys_fc x.sig c hsg (by omega) (by omega)) rfl rfl rfl ?_|refine hK.c0 rfl rfl rfl (cW) rfl rfl rfl ?_|refine hK.c0 rfl rfl rfl (cN) rfl rfl rfl ?_|(refine hK.fork rfl rfl rfl ?_ ?_<;>intro h<;>try simp (disch:=(refine Om.mk ?_;omega)) only[go_sem] at h)|(with_reducible refine And.intro (by first|omega|(simp only[lens];omega)) ?_)|((with_reducible refine And.intro ?_ ?_);· first|(intro x hx;subst hx;rfl)|(intro x;refine And.intro ?_ ?_<;>(intros;subst_vars;rfl)))|fail
  ·have hG:GM x.sig P set pl c:=wq_iff.2 ⟨by assumption,by assumption⟩
   rw[findD_yes hG] at hq3
   subst hq3
   exact⟨rfl,rfl⟩
  ·have hG:¬GM x.sig P set pl c:=fun e=>by have:=(wq_iff.1 e).2;omega
   rw[findD_no hG] at hq3
   exact⟨r,(by(refine covers_mk0 rfl rfl ?_ ?_ ?_ ?_<;>simp (disch:=(refine Om.mk ?_;omega)) only[go_sem]<;>(try omega))),⟨⟨hn2,fun d hd=>hq2 d (List.mem_cons_of_mem _ hd)⟩,hq3⟩,by simp⟩
  ·have hG:¬GM x.sig P set pl c:=fun e=>by
    have h1:=(wq_iff.1 e).1
    simp_all
   rw[findD_no hG] at hq3
   exact⟨r,(by(refine covers_mk0 rfl rfl ?_ ?_ ?_ ?_<;>simp (disch:=(refine Om.mk ?_;omega)) only[go_sem]<;>(try omega))),⟨⟨hn2,fun d hd=>hq2 d (List.mem_cons_of_mem _ hd)⟩,hq3⟩,by simp⟩
 ·exact⟨⟨hseq.1,hdig⟩,ho⟩
def tS (hs:List Int) (i:Nat):Int:=if prodD hs i≤20000 then prodD hs i else -1
theorem tS_bnd {hs:List Int} (hh:∀h∈hs,0≤h∧h≤1) {i:Nat} (hi:i≤hs.length):(-1≤tS hs i∧tS hs i≤20000)∧(0<tS hs i↔prodD hs i≤20000):=by
 have:=prodD_pos hh i hi
 unfold tS
 split<;>omega
theorem tS_succ {hs:List Int} (hh:∀h∈hs,0≤h∧h≤1) {i:Nat} (hi:i<hs.length):(if tS hs i<0∨20000<tS hs i*(hs.getD i default+1) then -1 else tS hs i*(hs.getD i default+1))=tS hs (i+1):=by
 have h0:=prodD_pos hh i (by omega)
 have h1:=prodD_mono hh hi
 have e:prodD hs (i+1)=prodD hs i*(hs.getD i default+1):=rfl
 unfold tS
 by_cases h2:prodD hs i≤20000
 ·rw[if_pos h2,←e]
  by_cases h3:prodD hs (i+1)≤20000
  ·rw[if_neg (by omega),if_pos h3]
  ·rw[if_pos (by omega),if_neg h3]
 ·rw[if_neg h2,if_pos (by omega),if_neg (by omega)]
def kp7:List (Nat×List Nat):=[(0,[1,2]),(1,[1,2,6,7]),(2,[1,2,6,32]),(3,[4,5]),(4,[1,2,6,8]),(5,[1,2,6,8,9]),(6,[1,2,6,8,9,10]),(7,[1,2,6,8,9,10,43]),(9,[1,2,6,8,9,10]),(8,[1,2,6,8,9,10]),(10,[1,2,6,8,9,11]),(11,[1,2,6,8,9,11,12]),(12,[1,2,6,8,11,12,13]),(13,[1,2,6,8,11,12,60]),(14,[1,2,6,8,11,12,14]),(15,[1,2,6,8,11,12,14,67]),(16,[1,2,6,8,11,12,15,16]),(17,[1,2,6,8,11,12,15,79]),(18,[4,5]),(19,[1,2,6,8,11,17,18]),(20,[1,2,6,8,11,12,18]),(21,[1,2,6,8,11,12,13]),(22,[4,5])]
attribute [go_sem] kp7
theorem specFirstMarked_fc (x:SystemT) (set:List Int):FC S 7 [] [] [] [SystemD x,.sl .any (set.map (.int .i64))] (.tup [.sl .any ((markR x set).1.map PolyD),.bool (markR x set).2]) [] []:=by
 have cP:=specPairsOf_fc x
 rcases Classical.em (MarkIn x set) with hW|hW
 ·rw[markR_yes hW]
  obtain⟨hx,hS⟩:=hW
  rw[pairsR_yes hx] at cP
  have h12:=hx.1.1.2
  have hsg:=hx.1.1.1
  have hs8:=hsg.1.2
  have h64:(allP x).length≤64:=hx.2
  have hP:=allP_ok hx
  generalize hA:allP x=P at *
  generalize hH:HeadP P set set.length=H at *
  have hdl:=topM_dig x.sig H
  have htl:=topM_len x.sig H
  have hat:=atN_le hsg x.sig.length (Nat.le_refl _)
  have cM:=l18Most_fc x.sig H (hdL P set set.length) (fun f=>by rw[←hH];exact hdL_mem P set f _) hsg
  have hfm:firstM x P set=if prodD (topM x.sig H) (topM x.sig H).length≤20000 then find2 (FM x P set) (allD (upD (halfA x.sig x.sig.length))) else none:=by
   subst hH
   split
   ·rename_i h1;rw[firstM_yes h1,nest_eq]
   ·rename_i h1;rw[firstM_no h1]
  refine fc_body Tryz.func7 rfl (by kernel_rfl) (by simp[Tryz.f7]) fun B=>?_
  simp only[Tryz.ntmps7,enumD,lst0,Nat.reduceAdd]
  repeat' first|((exfalso;omega))|((exact absurd hS (by assumption)))|refine sw_seq ?_|refine sw_block ?_|refine sw_inBlock ?_|refine sw_skip ?_|refine sw_go 0 kp7 fun K hK=>?_|refine fun (K:KT) (hK:KOk S 0 _ _ _ K)=>?_|refine sw_goD kp7 (by kernel_rfl) fun K hK=>?_|((first|refine runL_go ?_|refine runQ_go ?_|refine sw_ret (ret0 ?_)|refine sw_ret ?_);simp (disch:=(refine Om.mk ?_;omega)) only[go_sem,Tryz.results7])|(refine hK.nil ?_;clear hK K;simp only[go_sem])|((first|refine runG_fork rfl rfl rfl rfl rfl ?_ ?_|refine runQG_fork rfl rfl rfl rfl rfl ?_ ?_|refine sw_cond rfl ?_ ?_)<;>intro h<;>try simp (disch:=(refine Om.mk ?_;omega)) only[go_sem] at h)|refine hK.skp rfl rfl ?_|refine sw_exit rfl ?_|refine sw_loopEnd ?_|refine hK.c0 rfl rfl rfl (cP) rfl rfl rfl ?_|refine hK.c0 rfl rfl rfl (l18Set_fc set _ (by omega)) rfl rfl rfl ?_|refine hK.c0 rfl rfl rfl (l18Heads_fc x.sig P set hP hS h64) rfl rfl rfl ?_|refine hK.c0 rfl rfl rfl (cM) rfl rfl rfl ?_|(refine hK.fork rfl rfl rfl ?_ ?_<;>intro h<;>try simp (disch:=(refine Om.mk ?_;omega)) only[go_sem] at h)|(with_reducible refine And.intro (by first|omega|(simp only[lens];omega)) ?_)|((with_reducible refine And.intro ?_ ?_);· first|(intro x hx;subst hx;rfl)|(intro x;refine And.intro ?_ ?_<;>(intros;subst_vars;rfl)))|fail
  refine sw_loopU (ι:=Nat) (fun p=>[(9,.int .i64 (tS (topM x.sig H) p)),(10,.int .i64 p)]) (fun p=>[]) (fun p=>p≤(topM x.sig H).length) (fun p=>(topM x.sig H).length-p) 0 (by(refine covers_mk0 rfl rfl ?_ ?_ ?_ ?_<;>simp (disch:=(refine Om.mk ?_;omega)) only[go_sem]<;>(try omega));exact⟨rfl,rfl⟩) ?_ (fun p hp=>?_)
  rotate_left
  simp only[go_sem]
  have htb:=tS_bnd hdl hp
  by_cases hpl:p<(topM x.sig H).length
  ·have hd1:=hdl _ (getD_mem (topM x.sig H) p hpl)
   repeat' first|((exfalso;omega))|refine sw_seq ?_|refine sw_block ?_|refine sw_inBlock ?_|refine sw_skip ?_|refine sw_go 0 kp7 fun K hK=>?_|refine fun (K:KT) (hK:KOk S 0 _ _ _ K)=>?_|refine sw_goD kp7 (by kernel_rfl) fun K hK=>?_|((first|refine runL_go ?_|refine runQ_go ?_|refine sw_ret (ret0 ?_)|refine sw_ret ?_);simp (disch:=(refine Om.mk ?_;omega)) only[go_sem,Tryz.results7])|(refine hK.nil ?_;clear hK K;simp only[go_sem])|((first|refine runG_fork rfl rfl rfl rfl rfl ?_ ?_|refine runQG_fork rfl rfl rfl rfl rfl ?_ ?_|refine sw_cond rfl ?_ ?_)<;>intro h<;>try simp (disch:=(refine Om.mk ?_;omega)) only[go_sem] at h)|refine hK.skp rfl rfl ?_|refine sw_exit rfl ?_|refine sw_loopEnd ?_|refine hK.c0 rfl rfl rfl (l16Times_fc (tS (topM x.sig H) p) ((topM x.sig H).getD p default+1) htb.1 (by omega)) rfl rfl rfl ?_|(refine hK.fork rfl rfl rfl ?_ ?_<;>intro h<;>try simp (disch:=(refine Om.mk ?_;omega)) only[go_sem] at h)|(with_reducible refine And.intro (by first|omega|(simp only[lens];omega)) ?_)|((with_reducible refine And.intro ?_ ?_);· first|(intro x hx;subst hx;rfl)|(intro x;refine And.intro ?_ ?_<;>(intros;subst_vars;rfl)))|fail
   exact⟨p+1,(by(refine covers_mk0 rfl rfl ?_ ?_ ?_ ?_<;>simp (disch:=(refine Om.mk ?_;omega)) only[go_sem]<;>(try omega));rw[tS_succ hdl hpl];exact⟨rfl,by omega⟩),by omega,by omega⟩
  ·obtain rfl:p=(topM x.sig H).length:=by omega
   have hq:IntKind.wrap .i64 (((topM x.sig H).length:Int).tdiv 2)=(atN x.sig x.sig.length:Int):=by
    rw[show ((topM x.sig H).length:Int).tdiv 2=(atN x.sig x.sig.length:Int) by rw[Int.tdiv_eq_ediv_of_nonneg (by omega)];omega]
    exact wrap64m (Om.mk (by omega))
   have hdrop:(topM x.sig H).drop (atN x.sig x.sig.length)=halfB x.sig H x.sig.length:=by rw[topM,←halfA_len,List.drop_left]
   have htake:(topM x.sig H).take (atN x.sig x.sig.length)=halfA x.sig x.sig.length:=by rw[topM,←halfA_len,List.take_left]
   have hdA:=halfA_dig x.sig x.sig.length
   have hlA:=halfA_len x.sig x.sig.length
   have hdB:=halfB_dig x.sig H x.sig.length
   have hlB:=halfB_len x.sig H x.sig.length
   repeat' first|((simp only[hq];simp only[go_sem]))|((exfalso;omega))|refine sw_seq ?_|refine sw_block ?_|refine sw_inBlock ?_|refine sw_skip ?_|refine sw_go 0 kp7 fun K hK=>?_|refine fun (K:KT) (hK:KOk S 0 _ _ _ K)=>?_|refine sw_goD kp7 (by kernel_rfl) fun K hK=>?_|((first|refine runL_go ?_|refine runQ_go ?_|refine sw_ret (ret0 ?_)|refine sw_ret ?_);simp (disch:=(refine Om.mk ?_;omega)) only[go_sem,Tryz.results7])|(refine hK.nil ?_;clear hK K;simp only[go_sem])|((first|refine runG_fork rfl rfl rfl rfl rfl ?_ ?_|refine runQG_fork rfl rfl rfl rfl rfl ?_ ?_|refine sw_cond rfl ?_ ?_)<;>intro h<;>try simp (disch:=(refine Om.mk ?_;omega)) only[go_sem] at h)|refine hK.skp rfl rfl ?_|refine sw_exit rfl ?_|refine sw_loopEnd ?_|(refine hK.fork rfl rfl rfl ?_ ?_<;>intro h<;>try simp (disch:=(refine Om.mk ?_;omega)) only[go_sem] at h)|(with_reducible refine And.intro (by first|omega|(simp only[lens];omega)) ?_)|((with_reducible refine And.intro ?_ ?_);· first|(intro x hx;subst hx;rfl)|(intro x;refine And.intro ?_ ?_<;>(intros;subst_vars;rfl)))|fail
   refine sw_freeze 12 1 .any ((List.replicate (atN x.sig x.sig.length) (0:Int)).map (.int .i64)) rfl rfl (by rw[flatten_one,flat_ints,List.map_replicate]) (by simp) (cells_one fun _=>rfl) (by rw[flatten_one,←List.map_replicate (f:=D.int .i64)];exact memOk_ints _) (.inl rfl) ?_
   simp only[go_sem]
   have hFa:∀a,AllowP x (polD x.sig a)→FM x P set a=(findD (GM x.sig P set (polD x.sig a)) (allD (upD (halfB x.sig H x.sig.length)))).map (a++·):=fun a h=>by rw[FM_yes h,hH]
   have hseq:=allD_seq (upD_ok hdA)
   have hdig:=allD_dig (upD_ok hdA)
   have hat1:1≤atN x.sig x.sig.length:=by
    have h1:=atN_mono x.sig (show 1≤x.sig.length from hsg.1.1)
    have h2:atN x.sig 1=0+(x.sig.getD 0 default).toNat+1:=rfl
    omega
   generalize firstM x P set=o at *
   generalize halfA x.sig x.sig.length=A at *
   generalize halfB x.sig H x.sig.length=Bm at *
   generalize topM x.sig H=T at *
   have hst:List.replicate (atN x.sig x.sig.length) 0=(if prodD T T.length≤20000 then allD (upD A) else []).headD (List.replicate (atN x.sig x.sig.length) 0)∧decide (0<tS T T.length)=!(if prodD T T.length≤20000 then allD (upD A) else []).isEmpty:=by
    obtain⟨r0,hr0⟩:=hseq.2
    by_cases hpr:prodD T T.length≤20000
    ·rw[if_pos hpr,hr0,List.headD_cons,lowD_up,hlA]
     exact⟨rfl,by simp[htb.2.2 hpr]⟩
    ·rw[if_neg hpr]
     exact⟨rfl,by simp;have:=htb.2;omega⟩
   refine sw_loopU (ι:=List (List Int)) (fun p=>[(12,.sl .any ((p.headD (lowD (upD A))).map (.int .i64))),(13,.bool (!p.isEmpty))]) (fun p=>[]) (fun p=>(SeqD (upD A) p∧∀c∈p,DigP (upD A) c)∧find2 (FM x P set) p=o) (fun p=>p.length) (if prodD T T.length≤20000 then allD (upD A) else []) (by(refine covers_mk0 rfl rfl ?_ ?_ ?_ ?_<;>simp (disch:=(refine Om.mk ?_;omega)) only[go_sem]<;>(try omega));(rw[lowD_up,hlA];exact hst)) ?_ (fun p hp=>?_)
   rotate_left
   simp only[go_sem]
   ·obtain⟨⟨hq1,hq2⟩,hq3⟩:=hp
    cases p with
    | nil =>
     obtain rfl:none=o:=hq3
     simp only[List.isEmpty_nil,Bool.not_true]
     repeat' first|refine sw_seq ?_|refine sw_block ?_|refine sw_inBlock ?_|refine sw_skip ?_|refine sw_go 0 kp7 fun K hK=>?_|refine fun (K:KT) (hK:KOk S 0 _ _ _ K)=>?_|refine sw_goD kp7 (by kernel_rfl) fun K hK=>?_|((first|refine runL_go ?_|refine runQ_go ?_|refine sw_ret (ret0 ?_)|refine sw_ret ?_);simp (disch:=(refine Om.mk ?_;omega)) only[go_sem,Tryz.results7])|(refine hK.nil ?_;clear hK K;simp only[go_sem])|((first|refine runG_fork rfl rfl rfl rfl rfl ?_ ?_|refine runQG_fork rfl rfl rfl rfl rfl ?_ ?_|refine sw_cond rfl ?_ ?_)<;>intro h<;>try simp (disch:=(refine Om.mk ?_;omega)) only[go_sem] at h)|refine hK.skp rfl rfl ?_|refine sw_exit rfl ?_|refine sw_loopEnd ?_|(refine hK.fork rfl rfl rfl ?_ ?_<;>intro h<;>try simp (disch:=(refine Om.mk ?_;omega)) only[go_sem] at h)|(with_reducible refine And.intro (by first|omega|(simp only[lens];omega)) ?_)|((with_reducible refine And.intro ?_ ?_);· first|(intro x hx;subst hx;rfl)|(intro x;refine And.intro ?_ ?_<;>(intros;subst_vars;rfl)))|fail
     all_goals exact⟨rfl,rfl⟩
    | cons a r =>
     have ha:=hq2 a List.mem_cons_self
     have hal:a.length=atN x.sig x.sig.length:=by rw[digP_len ha,upD_len,hlA]
     have hab:=dig_bnd hdA ha
     have hap:=pol_dig hsg hdA hlA ha
     obtain⟨hn1,hn2⟩:=seq_next hq1
     have hne:a≠[]:=by intro e;rw[e] at hal;simp at hal;omega
     simp only[List.headD_cons,List.isEmpty_cons,Bool.not_false]
     have cN:=l18Next_fc A a (by omega) hne (by omega) hab
     rw[hn1,←htake] at cN
     have cK:=l18Marked_fc x P set (polD x.sig a) Bm hsg hap hdB hlB hP hS h64 _ rfl
     rw[←hdrop] at cK
     have nxt:∀q:FM x P set a=none,find2 (FM x P set) r=o:=fun q=>by rw[←hq3,find2_no q]
     by_cases hAl:AllowP x (polD x.sig a)
     ·have hf:=hFa a hAl
      rw[hdrop] at cK
      cases hfd:findD (GM x.sig P set (polD x.sig a)) (allD (upD Bm)) with
      | none =>
       rw[hfd] at cK hf
       rw[←hdrop] at cK
       have hnx:=nxt hf
       repeat' first|((exfalso;omega))|((exact absurd hAl (by assumption)))|refine sw_seq ?_|refine sw_block ?_|refine sw_inBlock ?_|refine sw_skip ?_|refine sw_go 0 kp7 fun K hK=>?_|refine fun (K:KT) (hK:KOk S 0 _ _ _ K)=>?_|refine sw_goD kp7 (by kernel_rfl) fun K hK=>?_|((first|refine runL_go ?_|refine runQ_go ?_|refine sw_ret (ret0 ?_)|refine sw_ret ?_);simp (disch:=(refine Om.mk ?_;omega)) only[go_sem,Tryz.results7])|(refine hK.nil ?_;clear hK K;simp only[go_sem])|((first|refine runG_fork rfl rfl rfl rfl rfl ?_ ?_|refine runQG_fork rfl rfl rfl rfl rfl ?_ ?_|refine sw_cond rfl ?_ ?_)<;>intro h<;>try simp (disch:=(refine Om.mk ?_;omega)) only[go_sem] at h)|refine hK.skp rfl rfl ?_|refine sw_exit rfl ?_|refine sw_loopEnd ?_|refine hK.c0 rfl rfl rfl (l16Polys_fc x.sig a hsg (by omega) (by omega)) rfl rfl rfl ?_|refine hK.c0 rfl rfl rfl (specPolyAllows_fc x (polD x.sig a)) rfl rfl rfl ?_|refine hK.c0 rfl rfl rfl (cK) rfl rfl rfl ?_|refine hK.c0 rfl rfl rfl (cN) rfl rfl rfl ?_|(refine hK.fork rfl rfl rfl ?_ ?_<;>intro h<;>try simp (disch:=(refine Om.mk ?_;omega)) only[go_sem] at h)|(with_reducible refine And.intro (by first|omega|(simp only[lens];omega)) ?_)|((with_reducible refine And.intro ?_ ?_);· first|(intro x hx;subst hx;rfl)|(intro x;refine And.intro ?_ ?_<;>(intros;subst_vars;rfl)))|fail
       ·exact Bool.noConfusion h
       ·exact⟨r,(by(refine covers_mk0 rfl rfl ?_ ?_ ?_ ?_<;>simp (disch:=(refine Om.mk ?_;omega)) only[go_sem]<;>(try omega));rw[htake]),⟨⟨hn2,fun d hd=>hq2 d (List.mem_cons_of_mem _ hd)⟩,hnx⟩,by simp⟩
      | some c =>
       rw[hfd] at cK hf
       rw[←hdrop] at cK
       rw[find2_yes hf] at hq3
       subst hq3
       repeat' first|((exfalso;omega))|((exact absurd hAl (by assumption)))|refine sw_seq ?_|refine sw_block ?_|refine sw_inBlock ?_|refine sw_skip ?_|refine sw_go 0 kp7 fun K hK=>?_|refine fun (K:KT) (hK:KOk S 0 _ _ _ K)=>?_|refine sw_goD kp7 (by kernel_rfl) fun K hK=>?_|((first|refine runL_go ?_|refine runQ_go ?_|refine sw_ret (ret0 ?_)|refine sw_ret ?_);simp (disch:=(refine Om.mk ?_;omega)) only[go_sem,Tryz.results7])|(refine hK.nil ?_;clear hK K;simp only[go_sem])|((first|refine runG_fork rfl rfl rfl rfl rfl ?_ ?_|refine runQG_fork rfl rfl rfl rfl rfl ?_ ?_|refine sw_cond rfl ?_ ?_)<;>intro h<;>try simp (disch:=(refine Om.mk ?_;omega)) only[go_sem] at h)|refine hK.skp rfl rfl ?_|refine sw_exit rfl ?_|refine sw_loopEnd ?_|refine hK.c0 rfl rfl rfl (l16Polys_fc x.sig a hsg (by omega) (by omega)) rfl rfl rfl ?_|refine hK.c0 rfl rfl rfl (specPolyAllows_fc x (polD x.sig a)) rfl rfl rfl ?_|refine hK.c0 rfl rfl rfl (cK) rfl rfl rfl ?_|refine hK.c0 rfl rfl rfl (cN) rfl rfl rfl ?_|(refine hK.fork rfl rfl rfl ?_ ?_<;>intro h<;>try simp (disch:=(refine Om.mk ?_;omega)) only[go_sem] at h)|(with_reducible refine And.intro (by first|omega|(simp only[lens];omega)) ?_)|((with_reducible refine And.intro ?_ ?_);· first|(intro x hx;subst hx;rfl)|(intro x;refine And.intro ?_ ?_<;>(intros;subst_vars;rfl)))|fail
       ·exact⟨by show _=List.map PolyD (pol2 x.sig (a++c));rw[pol2_app hal];rfl,rfl⟩
       ·exact Bool.noConfusion h
     ·have hnx:=nxt (FM_no hAl)
      repeat' first|((exfalso;omega))|((exact absurd (by assumption) hAl))|refine sw_seq ?_|refine sw_block ?_|refine sw_inBlock ?_|refine sw_skip ?_|refine sw_go 0 kp7 fun K hK=>?_|refine fun (K:KT) (hK:KOk S 0 _ _ _ K)=>?_|refine sw_goD kp7 (by kernel_rfl) fun K hK=>?_|((first|refine runL_go ?_|refine runQ_go ?_|refine sw_ret (ret0 ?_)|refine sw_ret ?_);simp (disch:=(refine Om.mk ?_;omega)) only[go_sem,Tryz.results7])|(refine hK.nil ?_;clear hK K;simp only[go_sem])|((first|refine runG_fork rfl rfl rfl rfl rfl ?_ ?_|refine runQG_fork rfl rfl rfl rfl rfl ?_ ?_|refine sw_cond rfl ?_ ?_)<;>intro h<;>try simp (disch:=(refine Om.mk ?_;omega)) only[go_sem] at h)|refine hK.skp rfl rfl ?_|refine sw_exit rfl ?_|refine sw_loopEnd ?_|refine hK.c0 rfl rfl rfl (l16Polys_fc x.sig a hsg (by omega) (by omega)) rfl rfl rfl ?_|refine hK.c0 rfl rfl rfl (specPolyAllows_fc x (polD x.sig a)) rfl rfl rfl ?_|refine hK.c0 rfl rfl rfl (cN) rfl rfl rfl ?_|(refine hK.fork rfl rfl rfl ?_ ?_<;>intro h<;>try simp (disch:=(refine Om.mk ?_;omega)) only[go_sem] at h)|(with_reducible refine And.intro (by first|omega|(simp only[lens];omega)) ?_)|((with_reducible refine And.intro ?_ ?_);· first|(intro x hx;subst hx;rfl)|(intro x;refine And.intro ?_ ?_<;>(intros;subst_vars;rfl)))|fail
      exact⟨r,(by(refine covers_mk0 rfl rfl ?_ ?_ ?_ ?_<;>simp (disch:=(refine Om.mk ?_;omega)) only[go_sem]<;>(try omega));rw[htake]),⟨⟨hn2,fun d hd=>hq2 d (List.mem_cons_of_mem _ hd)⟩,hnx⟩,by simp⟩
   ·refine⟨?_,?_⟩
    ·split
     ·exact⟨hseq.1,hdig⟩
     ·exact⟨trivial,fun c hc=>by cases hc⟩
    ·rw[hfm];split<;>rfl
  ·exact Nat.zero_le _
 ·rw[markR_no hW]
  rcases Classical.em (PairsP x) with hx|hx
  ·rw[pairsR_yes hx] at cP
   have h64:(allP x).length≤64:=hx.2
   refine fc_body Tryz.func7 rfl (by kernel_rfl) (by simp[Tryz.f7]) fun B=>?_
   simp only[Tryz.ntmps7,enumD,lst0,Nat.reduceAdd]
   repeat' first|((exact absurd (show MarkIn x set from⟨hx,by assumption⟩) hW))|refine sw_seq ?_|refine sw_block ?_|refine sw_inBlock ?_|refine sw_skip ?_|refine sw_go 0 kp7 fun K hK=>?_|refine fun (K:KT) (hK:KOk S 0 _ _ _ K)=>?_|refine sw_goD kp7 (by kernel_rfl) fun K hK=>?_|((first|refine runL_go ?_|refine runQ_go ?_|refine sw_ret (ret0 ?_)|refine sw_ret ?_);simp (disch:=(refine Om.mk ?_;omega)) only[go_sem,Tryz.results7])|(refine hK.nil ?_;clear hK K;simp only[go_sem])|((first|refine runG_fork rfl rfl rfl rfl rfl ?_ ?_|refine runQG_fork rfl rfl rfl rfl rfl ?_ ?_|refine sw_cond rfl ?_ ?_)<;>intro h<;>try simp (disch:=(refine Om.mk ?_;omega)) only[go_sem] at h)|refine hK.skp rfl rfl ?_|refine sw_exit rfl ?_|refine sw_loopEnd ?_|refine hK.c0 rfl rfl rfl (cP) rfl rfl rfl ?_|refine hK.c0 rfl rfl rfl (l18Set_fc set _ (by omega)) rfl rfl rfl ?_|(refine hK.fork rfl rfl rfl ?_ ?_<;>intro h<;>try simp (disch:=(refine Om.mk ?_;omega)) only[go_sem] at h)|(with_reducible refine And.intro (by first|omega|(simp only[lens];omega)) ?_)|((with_reducible refine And.intro ?_ ?_);· first|(intro x hx;subst hx;rfl)|(intro x;refine And.intro ?_ ?_<;>(intros;subst_vars;rfl)))|fail
   all_goals exact⟨rfl,rfl⟩
  ·rw[pairsR_no hx] at cP
   refine fc_body Tryz.func7 rfl (by kernel_rfl) (by simp[Tryz.f7]) fun B=>?_
   simp only[Tryz.ntmps7,enumD,lst0,Nat.reduceAdd]
   repeat' first|refine sw_seq ?_|refine sw_block ?_|refine sw_inBlock ?_|refine sw_skip ?_|refine sw_go 0 kp7 fun K hK=>?_|refine fun (K:KT) (hK:KOk S 0 _ _ _ K)=>?_|refine sw_goD kp7 (by kernel_rfl) fun K hK=>?_|((first|refine runL_go ?_|refine runQ_go ?_|refine sw_ret (ret0 ?_)|refine sw_ret ?_);simp (disch:=(refine Om.mk ?_;omega)) only[go_sem,Tryz.results7])|(refine hK.nil ?_;clear hK K;simp only[go_sem])|((first|refine runG_fork rfl rfl rfl rfl rfl ?_ ?_|refine runQG_fork rfl rfl rfl rfl rfl ?_ ?_|refine sw_cond rfl ?_ ?_)<;>intro h<;>try simp (disch:=(refine Om.mk ?_;omega)) only[go_sem] at h)|refine hK.skp rfl rfl ?_|refine sw_exit rfl ?_|refine sw_loopEnd ?_|refine hK.c0 rfl rfl rfl (cP) rfl rfl rfl ?_|(refine hK.fork rfl rfl rfl ?_ ?_<;>intro h<;>try simp (disch:=(refine Om.mk ?_;omega)) only[go_sem] at h)|(with_reducible refine And.intro (by first|omega|(simp only[lens];omega)) ?_)|((with_reducible refine And.intro ?_ ?_);· first|(intro x hx;subst hx;rfl)|(intro x;refine And.intro ?_ ?_<;>(intros;subst_vars;rfl)))|fail
   all_goals exact⟨rfl,rfl⟩
end Go.Proofs.YtpennhjjnlkbiaaGreat
end
