/-
  LTy, A06s, A06e, A01s, A06f, A17p, K1p, one behind the other.
-/
import Derived.Test.YtpennhjjnlkbiaaGreatG0
import Derived.Test.YtpennhjjnlkbiaaGreatLgK7
import Derived.Test.YtpennhjjnlkbiaaGreatG1
section
namespace Go.Proofs.YtpennhjjnlkbiaaGreat
open Go Go.Lg
set_option linter.unusedSimpArgs false
set_option linter.unusedVariables false
set_option maxHeartbeats 4000000
attribute [local irreducible] SW runL runQ runG runQG FC Ret Ret1
def shInt64S:Sh:=.slc (.cell .nil)
def Int64SL (p:List Nat) (xs:List Int):D:=.sl (.lab p) (xs.map (.int .i64))
attribute [go_sem] Int64SL
def mcInt64S (xs:List Int):Nat:=xs.length
theorem le_Int64SL (p:List Nat) (xs:List Int):D.le (Int64SL p xs) (.sl .any (xs.map (.int .i64))):=.any
theorem mcle_Int64S (xs:List Int):mcInt64S xs≤4*cntInt64S xs:=by unfold mcInt64S cntInt64S;omega
theorem lt_Int64S (p:List Nat) (xs:List Int):LT shInt64S p (Int64SL p xs) (mcInt64S xs):=LT_ints p xs
def fsSig:Fs:=(.sub shInt64S .nil)
def SigL (p:List Nat) (x:List Int):D:=.agg [Int64SL (p++[0]) x]
attribute [go_sem] SigL
theorem le_SigLc (p:List Nat) (x:List Int):leL (SigL p x).cells (SigD x).cells:=⟨le_Int64SL _ _,trivial⟩
theorem le_SigL (p:List Nat) (x:List Int):D.le (SigL p x) (SigD x):=by unfold SigL SigD;rw[le_agg];exact le_SigLc p x
def RuleL (p:List Nat) (x:RuleT):D:=.agg [Int64SL (p++[0]) x.l,Int64SL (p++[1]) x.r]
attribute [go_sem] RuleL
theorem le_RuleLc (p:List Nat) (x:RuleT):leL (RuleL p x).cells (RuleD x).cells:=⟨le_Int64SL _ _,le_Int64SL _ _,trivial⟩
theorem le_RuleL (p:List Nat) (x:RuleT):D.le (RuleL p x) (RuleD x):=by unfold RuleL RuleD;rw[le_agg];exact le_RuleLc p x
def shRuleS:Sh:=.slc (.sub shInt64S (.sub shInt64S .nil))
def RuleSL (p:List Nat) (xs:List RuleT):D:=.sl (.lab p) (mapR (fun i y=>RuleL (p++[i]) y) xs)
attribute [go_sem] RuleSL
theorem le_RuleSL (p:List Nat) (xs:List RuleT):D.le (RuleSL p xs) (.sl .any (xs.map RuleD)):=le_mapR xs fun j x=>le_RuleLc _ _
def mcRuleS (xs:List RuleT):Nat:=(xs.map fun x=>(mcInt64S x.l+(mcInt64S x.r+0))).sum
theorem mcle_RuleS (xs:List RuleT):mcRuleS xs≤4*cntRuleS xs:=by unfold mcRuleS cntRuleS;exact sum_le4 (fun x=>by have:=mcle_Int64S x.l;have:=mcle_Int64S x.r;(try simp only[cntRule,cntInt64S,cntSig,cntSubst] at *);omega) xs
theorem lt_RuleS (p:List Nat) (xs:List RuleT):LT shRuleS p (RuleSL p xs) (mcRuleS xs):=LT_mapR xs fun j x=>by unfold LF;exact⟨_,_,_,_,rfl,rfl,lt_Int64S _ _,by unfold LF;exact⟨_,_,_,_,rfl,rfl,lt_Int64S _ _,by unfold LF;exact⟨rfl,rfl⟩⟩⟩
def fsSystem:Fs:=(.sub shInt64S (.sub shRuleS .nil))
def SystemL (p:List Nat) (x:SystemT):D:=.agg [Int64SL (p++[0]) x.sig,RuleSL (p++[1]) x.rules]
attribute [go_sem] SystemL
theorem le_SystemLc (p:List Nat) (x:SystemT):leL (SystemL p x).cells (SystemD x).cells:=⟨le_Int64SL _ _,le_RuleSL _ _,trivial⟩
theorem le_SystemL (p:List Nat) (x:SystemT):D.le (SystemL p x) (SystemD x):=by unfold SystemL SystemD;rw[le_agg];exact le_SystemLc p x
def mcSystem (x:SystemT):Nat:=(mcInt64S x.sig+(mcRuleS x.rules+0))
theorem mcle_System (x:SystemT):mcSystem x≤4*cntSystem x:=by have:=mcle_Int64S x.sig;have:=mcle_RuleS x.rules;unfold mcSystem cntSystem;(try simp only[cntSig,cntInt64S,cntWalk,cntSubst] at *);omega
def SystemH (k:Int) (x:SystemT):List D:=[HD shInt64S (k) (mcInt64S x.sig),HD shRuleS (k+(mcInt64S x.sig:Nat)) (mcRuleS x.rules)]
attribute [go_sem] SystemH
theorem ta_System (i:Nat) (k:Int) (x:SystemT):TA fsSystem [i] 0 k (SystemL [i] x).cells (SystemH k x) (mcSystem x):=by unfold TA;exact⟨_,_,_,_,_,rfl,rfl,rfl,lt_Int64S _ _,by unfold TA;exact⟨_,_,_,_,_,rfl,rfl,rfl,lt_RuleS _ _,by unfold TA;exact⟨rfl,rfl,rfl⟩⟩⟩
def PolyL (p:List Nat) (x:PolyT):D:=.agg [.int .i64 x.const,Int64SL (p++[1]) x.coef]
attribute [go_sem] PolyL
theorem le_PolyLc (p:List Nat) (x:PolyT):leL (PolyL p x).cells (PolyD x).cells:=⟨.refl _,le_Int64SL _ _,trivial⟩
theorem le_PolyL (p:List Nat) (x:PolyT):D.le (PolyL p x) (PolyD x):=by unfold PolyL PolyD;rw[le_agg];exact le_PolyLc p x
def shPolyS:Sh:=.slc (.cell (.sub shInt64S .nil))
def PolySL (p:List Nat) (xs:List PolyT):D:=.sl (.lab p) (mapR (fun i y=>PolyL (p++[i]) y) xs)
attribute [go_sem] PolySL
theorem le_PolySL (p:List Nat) (xs:List PolyT):D.le (PolySL p xs) (.sl .any (xs.map PolyD)):=le_mapR xs fun j x=>le_PolyLc _ _
def mcPolyS (xs:List PolyT):Nat:=(xs.map fun x=>((mcInt64S x.coef+0)+1)).sum
theorem lt_PolyS (p:List Nat) (xs:List PolyT):LT shPolyS p (PolySL p xs) (mcPolyS xs):=LT_mapR xs fun j x=>by unfold LF;exact⟨_,_,_,rfl,rfl,by unfold LF;exact⟨_,_,_,_,rfl,rfl,lt_Int64S _ _,by unfold LF;exact⟨rfl,rfl⟩⟩⟩
end Go.Proofs.YtpennhjjnlkbiaaGreat
end
section
namespace Go.Proofs.YtpennhjjnlkbiaaGreat
open Go Go.Lg
set_option linter.unusedSimpArgs false
set_option linter.unusedVariables false
set_option maxHeartbeats 4000000
attribute [local irreducible] SW runL runQ runG runQG FC
attribute [go_sem] upR_length mapR_length mapR_getDm
def RuleP (rs:List Int) (r:RuleT):Prop:=RuleOkP rs r.l r.r
def SystemOkP (x:SystemT):Prop:=(SigOkP x.sig∧x.rules.length≤12)∧∀j<x.rules.length,RuleP x.sig (x.rules.getD j default)
theorem SystemOkP.len {x:SystemT} (h:SystemOkP x) (j:Nat) (hj:j<x.rules.length):(1≤(x.rules.getD j default).l.length∧(x.rules.getD j default).l.length≤60)∧(1≤(x.rules.getD j default).r.length∧(x.rules.getD j default).r.length≤60) :=
 ⟨(h.2 j hj).1.1.2.1,(h.2 j hj).1.2.1.2.1⟩
def kp62:List (Nat×List Nat):=[(0,[1]),(1,[1,13]),(2,[2]),(3,[1,3]),(4,[1,3,18]),(6,[1,3,29]),(7,[2]),(5,[1,3]),(8,[2])]
attribute [go_sem] kp62
theorem specSystemOk_fc (x:SystemT):FC S 62 [] [] [] [SystemD x] (.bool (tst (SystemOkP x))) [] []:=by
 refine fc_body Tryz.func62 rfl (by kernel_rfl) (by simp[Tryz.f62]) fun B=>?_
 simp only[Tryz.ntmps62,enumD,lst0,Nat.reduceAdd]
 refine sw_bnd_agg 0 1 rfl rfl fun hb0_1=>?_
 simp only[D.bnd,List.length_map] at hb0_1
 repeat' first|refine sw_seq ?_|refine sw_block ?_|refine sw_skip ?_|refine sw_go 0 kp62 fun K hK=>?_|((first|refine runL_go ?_|refine runQ_go ?_|refine sw_ret (ret0 ?_)|refine sw_ret ?_);simp (disch:=(refine Om.mk ?_;omega)) only[go_sem,Tryz.results62])|(refine hK.nil ?_;clear hK K;simp only[go_sem])|((first|refine runG_fork rfl rfl rfl rfl rfl ?_ ?_|refine runQG_fork rfl rfl rfl rfl rfl ?_ ?_|refine sw_cond rfl ?_ ?_)<;>intro h<;>try simp (disch:=(refine Om.mk ?_;omega)) only[go_sem] at h)|refine hK.c0 rfl rfl rfl (specSigOk_fc _ _) rfl rfl rfl ?_|fail
 ·rintro⟨⟨h1,_⟩,_⟩;contradiction
 ·rintro⟨⟨_,h1⟩,_⟩;omega
 refine sw_loopU (ι:=Nat) (fun i=>[(3,.int .i64 i)]) (fun _=>[]) (fun i=>i≤x.rules.length∧(∀j<i,RuleP x.sig (x.rules.getD j default))) (fun i=>x.rules.length-i) 0 (by(refine covers_mk0 rfl rfl ?_ ?_ ?_ ?_<;>simp (disch:=(refine Om.mk ?_;omega)) only[go_sem]<;>(try omega))) ⟨by omega,?_⟩ (fun i ⟨hi,hj⟩=>?_)
 rotate_left
 simp only[go_sem]
 repeat' first|refine sw_seq ?_|refine sw_block ?_|refine sw_inBlock ?_|refine sw_skip ?_|refine sw_go 0 kp62 fun K hK=>?_|refine sw_goD kp62 (by kernel_rfl) fun K hK=>?_|((first|refine runL_go ?_|refine runQ_go ?_|refine sw_ret (ret0 ?_)|refine sw_ret ?_);simp (disch:=(refine Om.mk ?_;omega)) only[go_sem,Tryz.results62])|(refine hK.nil ?_;clear hK K;simp only[go_sem])|((first|refine runG_fork rfl rfl rfl rfl rfl ?_ ?_|refine runQG_fork rfl rfl rfl rfl rfl ?_ ?_|refine sw_cond rfl ?_ ?_)<;>intro h<;>try simp (disch:=(refine Om.mk ?_;omega)) only[go_sem] at h)|refine sw_exit rfl ?_|refine sw_loopEnd ?_|refine hK.c0 rfl rfl rfl (specRuleOk_fc _ _ _ x.sig (x.rules.getD i default).l (x.rules.getD i default).r) rfl rfl rfl ?_|(with_reducible refine And.intro (by first|omega|(simp only[lens];omega)) ?_)|fail
 ·rintro⟨_,h2⟩;exact h (h2 i (by omega))
 ·exact⟨i+1,by(refine covers_mk0 rfl rfl ?_ ?_ ?_ ?_<;>simp (disch:=(refine Om.mk ?_;omega)) only[go_sem]<;>(try omega)),⟨by omega,upto_succ hj h⟩,by omega⟩
 ·exact⟨⟨by assumption,by omega⟩,fun j hj'=>hj j (by omega)⟩
 ·intro j hj';omega
def kp73:List (Nat×List Nat):=[(0,[1]),(1,[1,14]),(2,[2]),(3,[1,16,17,18]),(4,[1,16,17,18,19]),(5,[1,4,16,17,18]),(6,[1,16,17,18,26]),(7,[2]),(8,[1,16,17,18]),(9,[2])]
attribute [go_sem] kp73
theorem implSystemOk_fc (x:SystemT):FC S 73 [] [] [] [SystemD x] (.bool (tst (SystemOkP x))) [] []:=by
 refine fc_body Tryz.func73 rfl (by kernel_rfl) (by simp[Tryz.f73]) fun B=>?_
 simp only[Tryz.ntmps73,enumD,lst0,Nat.reduceAdd]
 refine sw_bnd_agg 0 1 rfl rfl fun hb0_1=>?_
 simp only[D.bnd,List.length_map] at hb0_1
 repeat' first|refine sw_seq ?_|refine sw_block ?_|refine sw_skip ?_|refine sw_go 0 kp73 fun K hK=>?_|((first|refine runL_go ?_|refine sw_ret (ret0 ?_)|refine sw_ret ?_);simp (disch:=(refine Om.mk ?_;omega)) only[go_sem,Tryz.results73])|(refine hK.nil ?_;clear hK K;simp only[go_sem])|((first|refine runG_fork rfl rfl rfl rfl rfl ?_ ?_|refine sw_cond rfl ?_ ?_)<;>intro h<;>try simp (disch:=(refine Om.mk ?_;omega)) only[go_sem] at h)|refine hK.c0 rfl rfl rfl (implSigOk_fc _ _) rfl rfl rfl ?_|fail
 ·rintro⟨⟨h1,_⟩,_⟩;contradiction
 ·rintro⟨⟨_,h1⟩,_⟩;omega
 refine sw_loopU (ι:=Nat) (fun i=>[(18,.int .i64 i)]) (fun _=>[]) (fun i=>i≤x.rules.length∧(∀j<i,RuleP x.sig (x.rules.getD j default))) (fun i=>x.rules.length-i) 0 (by(refine covers_mk0 rfl rfl ?_ ?_ ?_ ?_<;>simp (disch:=(refine Om.mk ?_;omega)) only[go_sem]<;>(try omega))) ⟨by omega,?_⟩ (fun i ⟨hi,hj⟩=>?_)
 rotate_left
 simp only[go_sem]
 repeat' first|refine sw_seq ?_|refine sw_block ?_|refine sw_inBlock ?_|refine sw_skip ?_|refine sw_go 0 kp73 fun K hK=>?_|((first|refine runL_go ?_|refine sw_ret (ret0 ?_)|refine sw_ret ?_);simp (disch:=(refine Om.mk ?_;omega)) only[go_sem,Tryz.results73])|(refine hK.nil ?_;clear hK K;simp only[go_sem])|((first|refine runG_fork rfl rfl rfl rfl rfl ?_ ?_|refine sw_cond rfl ?_ ?_)<;>intro h<;>try simp (disch:=(refine Om.mk ?_;omega)) only[go_sem] at h)|refine sw_exit rfl ?_|refine sw_loopEnd ?_|refine hK.c0 rfl rfl rfl (implRuleOk_fc _ _ _ x.sig (x.rules.getD i default).l (x.rules.getD i default).r) rfl rfl rfl ?_|(with_reducible refine And.intro (by first|omega|(simp only[lens];omega)) ?_)|fail
 ·rintro⟨_,h2⟩;exact h (h2 i (by omega))
 ·exact⟨i+1,by(refine covers_mk0 rfl rfl ?_ ?_ ?_ ?_<;>simp (disch:=(refine Om.mk ?_;omega)) only[go_sem]<;>(try omega)),⟨by omega,upto_succ hj h⟩,by omega⟩
 ·exact⟨⟨by assumption,by omega⟩,fun j hj'=>hj j (by omega)⟩
 ·intro j hj';omega
end Go.Proofs.YtpennhjjnlkbiaaGreat
end
section
namespace Go.Proofs.YtpennhjjnlkbiaaGreat
open Go Go.Lg
set_option linter.unusedSimpArgs false
set_option linter.unusedVariables false
set_option maxHeartbeats 4000000
attribute [local irreducible] SW runL runQ runG runQG FC
theorem take_snoc {α:Type} [Inhabited α] (xs:List α) (i:Nat) (h:i<xs.length):xs.take (i+1)=xs.take i++[xs.getD i default]:=by
 rw[List.take_succ_eq_append_getElem h]
 simp[List.getD,List.getElem?_eq_getElem h]
theorem cloneL_fc (p:List Nat) (hp:p≠[]) (tk:Tk) (xs:List Int) (h1:xs≠[]) (hl:xs.length≤17592186044416):FC S 78 [] [] [] [.sl tk (xs.map (.int .i64))] (Int64SL p xs) [] []:=by
 have h1':xs.map (D.int .i64)≠[]:=by simpa using h1
 refine FC.args (args':=[.sl .any (xs.map (.int .i64))]) ?_ (by simp only[go_sem])
 refine fc_body Tryz.func78 rfl (by kernel_rfl) (by simp[Tryz.f78]) fun B=>?_
 simp only[Tryz.ntmps78,enumD,lst0,Nat.reduceAdd]
 refine sw_bnd 0 rfl fun hb0=>?_
 simp only[D.bnd,List.length_map] at hb0
 repeat' first|(refine sw_lab 2 p (k:=8000) rfl (by simp) hp ?_;simp only[go_sem])|refine sw_seq ?_|refine sw_skip ?_|refine sw_go 0 kp78 fun K hK=>?_|((first|refine runL_go ?_|refine sw_ret (ret0 ?_)|refine sw_ret ?_);simp (disch:=(refine Om.mk ?_;omega)) only[go_sem,Tryz.results78])|(refine hK.nil ?_;clear hK K;simp only[go_sem])|((first|refine sw_cond rfl ?_ ?_)<;>intro h<;>try simp (disch:=(refine Om.mk ?_;omega)) only[go_sem] at h)|(with_reducible refine And.intro (by first|omega|(simp only[lens];omega)) ?_)|fail
end Go.Proofs.YtpennhjjnlkbiaaGreat
end
section
namespace Go.Proofs.YtpennhjjnlkbiaaGreat
open Go Go.Lg
end Go.Proofs.YtpennhjjnlkbiaaGreat
end
section
namespace Go.Proofs.YtpennhjjnlkbiaaGreat
open Go Go.Lg
set_option linter.unusedSimpArgs false
set_option linter.unusedVariables false
set_option maxHeartbeats 4000000
attribute [local irreducible] SW runL runQ runG runQG FC Ret1
def defL (rules:List RuleT) (i:Nat):List Int:=(rules.take i).foldl (fun acc r=>intoL acc (r.l.getD 0 default)) []
theorem defL_succ (rules:List RuleT) (i:Nat) (h:i<rules.length):defL rules (i+1)=intoL (defL rules i) ((rules.getD i default).l.getD 0 default):=by
 unfold defL
 rw[take_snoc rules i h,List.foldl_append]
 rfl
theorem intoL_len' (n:Int):∀xs:List Int,(intoL xs n).length≤xs.length+1
 | []=>by simp[intoL]
 | x::r=>by
  have ih:=intoL_len' n r
  unfold intoL
  split
  ·simp only[List.length_cons];omega
  ·split<;>simp
theorem defL_len (rules:List RuleT):∀i,i≤rules.length→(defL rules i).length≤i
 | 0,_=>by simp[defL]
 | i+1,h=>by
  have ih:=defL_len rules i (by omega)
  rw[defL_succ rules i (by omega)]
  have:=intoL_len' ((rules.getD i default).l.getD 0 default) (defL rules i)
  omega
theorem defL_mem (rules:List RuleT) (m:Int):∀i,i≤rules.length→(m∈defL rules i↔∃j<i,(rules.getD j default).l.getD 0 default=m)
 | 0,_=>by simp[defL]
 | i+1,h=>by
  rw[defL_succ rules i (by omega),mem_intoL,defL_mem rules m i (by omega)]
  constructor
  ·rintro (⟨j,hj,e⟩|e)
   ·exact⟨j,by omega,e⟩
   ·exact⟨i,by omega,e.symm⟩
  ·rintro⟨j,hj,e⟩
   rcases Nat.lt_or_ge j i with h1|h1
   ·exact .inl ⟨j,h1,e⟩
   ·rw[show j=i by omega] at e;exact .inr e.symm
theorem defL_all (rules:List RuleT) (m:Int):m∈defL rules rules.length↔∃r∈rules,r.l.getD 0 default=m:=by
 rw[defL_mem rules m _ (Nat.le_refl _)]
 constructor
 ·rintro⟨j,hj,e⟩;exact⟨_,getD_mem rules j hj,e⟩
 ·rintro⟨r,hr,e⟩
  obtain⟨j,hj,rfl⟩:=List.getElem_of_mem hr
  exact⟨j,hj,by rw[←e];simp[List.getD,List.getElem?_eq_getElem hj]⟩
def kp97:List (Nat×List Nat):=[(0,[1]),(1,[1,3]),(2,[1,3,4]),(3,[1,3,4,10]),(5,[1,3,4]),(4,[1,3,4]),(6,[2])]
attribute [go_sem] kp97
theorem l6Defined_fc (x:SystemT) (hn:x.rules.length≤1000) (h:∀j<x.rules.length,1≤(x.rules.getD j default).l.length):FC S 97 [] [] [] [SystemD x] (.sl .any ((defL x.rules x.rules.length).map (.int .i64))) [] []:=by
 refine fc_body Tryz.func97 rfl (by kernel_rfl) (by simp[Tryz.f97]) fun B=>?_
 simp only[Tryz.ntmps97,enumD,lst0,Nat.reduceAdd]
 repeat' first|refine sw_seq ?_|refine sw_block ?_|refine sw_go 0 kp97 fun K hK=>?_|((first|refine runL_go ?_|refine sw_ret (ret0 ?_)|refine sw_ret ?_);simp (disch:=(refine Om.mk ?_;omega)) only[go_sem,Tryz.results97])|(refine hK.nil ?_;clear hK K;simp only[go_sem])|fail
 refine sw_loopU (ι:=Nat) (fun p=>[(4,.int .i64 p),(3,.sl .any ((defL x.rules p).map (.int .i64)))]) (fun p=>[]) (fun p=>p≤x.rules.length) (fun p=>x.rules.length-p) 0 (by(refine covers_mk0 rfl rfl ?_ ?_ ?_ ?_<;>simp (disch:=(refine Om.mk ?_;omega)) only[go_sem]<;>(try omega));exact⟨rfl,rfl⟩) ?_ (fun p hp=>?_)
 rotate_left
 simp only[go_sem]
 have hl:=defL_len x.rules p hp
 have hs:=defL_succ x.rules p
 have h1:=h p
 repeat' first|refine sw_seq ?_|refine sw_block ?_|refine sw_inBlock ?_|refine sw_skip ?_|refine sw_go 0 kp97 fun K hK=>?_|((first|refine runL_go ?_|refine sw_ret (ret0 ?_)|refine sw_ret ?_);simp (disch:=(refine Om.mk ?_;omega)) only[go_sem,Tryz.results97])|(refine hK.nil ?_;clear hK K;simp only[go_sem])|((first|refine sw_cond rfl ?_ ?_)<;>intro h<;>try simp (disch:=(refine Om.mk ?_;omega)) only[go_sem] at h)|refine sw_exit rfl ?_|refine sw_loopEnd ?_|refine hK.c0 rfl rfl rfl (l1Into_fc _ (defL x.rules p) _ (by omega)) rfl rfl rfl ?_|(with_reducible refine And.intro (by first|omega|(simp only[lens];omega)) ?_)|fail
 ·exact⟨p+1,(by(refine covers_mk0 rfl rfl ?_ ?_ ?_ ?_<;>simp (disch:=(refine Om.mk ?_;omega)) only[go_sem]<;>(try omega));rw[hs (by omega)];exact⟨rfl,by omega⟩),by omega,by omega⟩
 ·rw[show p=x.rules.length by omega]
 ·omega
end Go.Proofs.YtpennhjjnlkbiaaGreat
end
section
namespace Go.Proofs.YtpennhjjnlkbiaaGreat
open Go Go.Lg
set_option linter.unusedSimpArgs false
set_option linter.unusedVariables false
def HasSub (rs t:List Int) (k:Nat) (u:List Int):Prop:=∃a,(k≤a∧a<t.length)∧subS rs t a=u
def DefP (x:SystemT) (n:Int):Prop:=∃r∈x.rules,r.l.getD 0 default=n
def PairP (x:SystemT) (r a:Nat):Prop:=(0≤(x.rules.getD r default).r.getD a default∧DefP x ((x.rules.getD r default).r.getD a default))∧¬HasSub x.sig (x.rules.getD r default).l 1 (subS x.sig (x.rules.getD r default).r a)
def mkP (x:SystemT) (r a:Nat):DepPairT:=⟨(x.rules.getD r default).l,subS x.sig (x.rules.getD r default).r a,r,a⟩
open Classical in
noncomputable def prR (x:SystemT) (r:Nat):Nat→List DepPairT
 | 0=>[]
 | a+1=>if PairP x r a then prR x r a++[mkP x r a] else prR x r a
noncomputable def prA (x:SystemT):Nat→List DepPairT
 | 0=>[]
 | r+1=>prA x r++prR x r (x.rules.getD r default).r.length
theorem prR_yes {x:SystemT} {r a:Nat} (h:PairP x r a):prR x r (a+1)=prR x r a++[mkP x r a]:=if_pos h
theorem prR_no {x:SystemT} {r a:Nat} (h:¬PairP x r a):prR x r (a+1)=prR x r a:=if_neg h
theorem prR_len (x:SystemT) (r:Nat):∀a,(prR x r a).length≤a
 | 0=>Nat.le_refl _
 | a+1=>by
  have ih:=prR_len x r a
  rcases Classical.em (PairP x r a) with h|h
  ·rw[prR_yes h,List.length_append];simp;omega
  ·rw[prR_no h];omega
theorem prA_len {x:SystemT} (hx:SystemOkP x):∀r≤x.rules.length,(prA x r).length≤60*r
 | 0,_=>Nat.le_refl _
 | r+1,h=>by
  have ih:=prA_len hx r (by omega)
  have h1:=prR_len x r (x.rules.getD r default).r.length
  have h2:=(hx.2 r (by omega)).1.2.1.2.1
  simp only[prA,List.length_append]
  omega
def PrOk (rs:List Int) (p:DepPairT):Prop:=(TermOkP rs p.l∧TermOkP rs p.r)∧0≤p.l.getD 0 default∧0≤p.r.getD 0 default
theorem prR_ok {x:SystemT} (hx:SystemOkP x) {r:Nat} (hr:r<x.rules.length):∀a≤(x.rules.getD r default).r.length,∀p∈prR x r a,PrOk x.sig p
 | 0,_,p,hp=>by cases hp
 | a+1,ha,p,hp=>by
  have ih:=prR_ok hx hr a (by omega)
  have hR:=hx.2 r hr
  rcases Classical.em (PairP x r a) with h|h
  ·rw[prR_yes h] at hp
   rcases List.mem_append.1 hp with hp|hp
   ·exact ih p hp
   ·rw[List.mem_singleton.1 hp]
    refine⟨⟨hR.1.1,subS_ok hR.1.2.1 (by omega)⟩,hR.1.2.2,?_⟩
    show 0≤(subS x.sig (x.rules.getD r default).r a).getD 0 default
    rw[(sub_sub hR.1.2.1 (show a<(x.rules.getD r default).r.length by omega)).1]
    exact h.1.1
  ·rw[prR_no h] at hp;exact ih p hp
theorem prA_ok {x:SystemT} (hx:SystemOkP x):∀r≤x.rules.length,∀p∈prA x r,PrOk x.sig p
 | 0,_,p,hp=>by cases hp
 | r+1,h,p,hp=>by
  rcases List.mem_append.1 hp with hp|hp
  ·exact prA_ok hx r (by omega) p hp
  ·exact prR_ok hx (by omega) _ (Nat.le_refl _) p hp
def PairsP (x:SystemT):Prop:=SystemOkP x∧(prA x x.rules.length).length≤64
noncomputable def allP (x:SystemT):List DepPairT:=prA x x.rules.length
open Classical in
noncomputable def pairsR (x:SystemT):List DepPairT×Bool:=if PairsP x then (allP x,true) else ([],false)
theorem pairsR_yes {x:SystemT} (h:PairsP x):pairsR x=(allP x,true):=if_pos h
theorem pairsR_no {x:SystemT} (h:¬PairsP x):pairsR x=([],false):=if_neg h
theorem allP_ok {x:SystemT} (h:PairsP x):∀p∈allP x,PrOk x.sig p:=prA_ok h.1 _ (Nat.le_refl _)
def SetPP (set:List Int) (n:Int):Prop:=∀i<set.length,(0≤set.getD i default∧set.getD i default<n)∧(0<i→set.getD (i-1) default<set.getD i default)
theorem set_len {set:List Int} {n:Int} (h:SetPP set n):∀i<set.length,(i:Int)≤set.getD i default
 | 0,hi=>by have:=(h 0 hi).1.1;omega
 | i+1,hi=>by
  have ih:=set_len h i (by omega)
  have:=(h (i+1) hi).2 (by omega)
  simp only[Nat.add_sub_cancel] at this
  omega
theorem set_le {set:List Int} {n:Int} (h:SetPP set n):(set.length:Int)≤n∨set.length=0:=by
 rcases Nat.eq_zero_or_pos set.length with h0|h0
 ·exact .inr h0
 ·have h1:=set_len h (set.length-1) (by omega)
  have h2:=(h (set.length-1) (by omega)).1.2
  left;omega
def MarkedP (rs:List Int) (ps:List PolyT):Prop:=ps.length=2*rs.length∧PolysOkP rs (ps.take rs.length)∧PolysOkP rs (ps.drop rs.length)
def nxtD:List (Int×Int)→List Int→List Int×Bool
 | b::bs,x::xs=>if (nxtD bs xs).2=true then (x::(nxtD bs xs).1,true) else if x<b.2 then ((x+1)::(nxtD bs xs).1,true) else (b.1::(nxtD bs xs).1,false)
 | _,_=>([],false)
def blkD (A:List (List Int)) (v:Int):Nat→List (List Int)
 | 0=>A.map (v::·)
 | n+1=>A.map (v::·)++blkD A (v+1) n
def allD:List (Int×Int)→List (List Int)
 | []=>[[]]
 | b::bs=>blkD (allD bs) b.1 (b.2-b.1).toNat
def lowD (bs:List (Int×Int)):List Int:=bs.map (·.1)
def DigP:List (Int×Int)→List Int→Prop
 | [],[]=>True
 | b::bs,x::xs=>(b.1≤x∧x≤b.2)∧DigP bs xs
 | _,_=>False
def SeqD (bs:List (Int×Int)):List (List Int)→Prop
 | []=>True
 | [x]=>nxtD bs x=(lowD bs,false)
 | x::y::r=>nxtD bs x=(y,true)∧SeqD bs (y::r)
theorem nxtD_cons (b:Int×Int) (bs:List (Int×Int)) (x:Int) (xs:List Int):nxtD (b::bs) (x::xs)=if (nxtD bs xs).2=true then (x::(nxtD bs xs).1,true) else if x<b.2 then ((x+1)::(nxtD bs xs).1,true) else (b.1::(nxtD bs xs).1,false):=rfl
theorem digP_len:∀ {bs:List (Int×Int)} {xs:List Int},DigP bs xs→xs.length=bs.length
 | [],[],_=>rfl
 | _::_,_::_,h=>by simp[digP_len h.2]
 | [],_::_,h=>h.elim
 | _::_,[],h=>h.elim
theorem blk_ne {A:List (List Int)} (hA:A≠[]) (v:Int):∀n,∃r,blkD A v n=(v::A.head hA)::r
 | 0=>by
  cases A with
  | nil=>exact absurd rfl hA
  | cons a r=>exact⟨r.map (v::·),rfl⟩
 | n+1=>by
  cases A with
  | nil=>exact absurd rfl hA
  | cons a r=>exact⟨r.map (v::·)++blkD (a::r) (v+1) n,rfl⟩
theorem seq_blk {b:Int×Int} {bs:List (Int×Int)} (v:Int) {R:List (List Int)} (hR:SeqD (b::bs) R) (h:(R=[]∧v=b.2)∨(v<b.2∧∃r,R=((v+1)::lowD bs)::r)):∀ {A:List (List Int)},A≠[]→SeqD bs A→SeqD (b::bs) (A.map (v::·)++R)
 | [],hA,_=>absurd rfl hA
 | [x],_,hs=>by
  have hs:nxtD bs x=(lowD bs,false):=hs
  rcases h with⟨rfl,hv⟩|⟨hv,r,rfl⟩
  ·show nxtD (b::bs) (v::x)=_
   rw[nxtD_cons,hs,if_neg (by simp),if_neg (by omega)];rfl
  ·refine⟨?_,hR⟩
   rw[nxtD_cons,hs,if_neg (by simp),if_pos hv]
 | x::y::r,_,hs=>by
  refine⟨?_,seq_blk v hR h (A:=y::r) (by simp) hs.2⟩
  rw[nxtD_cons,hs.1,if_pos rfl]
theorem seq_blks {b:Int×Int} {bs:List (Int×Int)} {A:List (List Int)} (hA:A≠[]) (hs:SeqD bs A) (hl:A.head hA=lowD bs):∀(n:Nat) (v:Int),v+n=b.2→SeqD (b::bs) (blkD A v n)
 | 0,v,h=>by
  have:=seq_blk (b:=b) v (R:=[]) trivial (.inl ⟨rfl,by omega⟩) hA hs
  rwa [List.append_nil] at this
 | n+1,v,h=>by
  have ih:=seq_blks (b:=b) hA hs hl n (v+1) (by omega)
  obtain⟨r,hr⟩:=blk_ne hA (v+1) n
  exact seq_blk (b:=b) v ih (.inr ⟨by omega,r,by rw[hr,hl]⟩) hA hs
theorem allD_seq:∀ {bs:List (Int×Int)},(∀b∈bs,b.1≤b.2)→SeqD bs (allD bs)∧∃r,allD bs=lowD bs::r
 | [],_=>⟨rfl,[],rfl⟩
 | b::bs,h=>by
  obtain⟨ih,r,hr⟩:=allD_seq (bs:=bs) fun c hc=>h c (List.mem_cons_of_mem _ hc)
  have hb:=h b List.mem_cons_self
  have hA:allD bs≠[]:=by rw[hr];simp
  have hl:(allD bs).head hA=lowD bs:=by simp[hr]
  refine⟨seq_blks hA ih hl _ _ (by omega),?_⟩
  obtain⟨r',hr'⟩:=blk_ne hA b.1 (b.2-b.1).toNat
  exact⟨r',by rw[allD,hr',hl];rfl⟩
theorem blk_dig {b:Int×Int} {bs:List (Int×Int)} {A:List (List Int)} (hA:∀x∈A,DigP bs x):∀(n:Nat) (v:Int),b.1≤v→v+n≤b.2→∀x∈blkD A v n,DigP (b::bs) x
 | 0,v,h1,h2,x,hx=>by
  obtain⟨y,hy,rfl⟩:=List.mem_map.1 hx
  exact⟨⟨h1,by omega⟩,hA y hy⟩
 | n+1,v,h1,h2,x,hx=>by
  rcases List.mem_append.1 hx with hx|hx
  ·obtain⟨y,hy,rfl⟩:=List.mem_map.1 hx
   exact⟨⟨h1,by omega⟩,hA y hy⟩
  ·exact blk_dig hA n (v+1) (by omega) (by omega) x hx
theorem allD_dig:∀ {bs:List (Int×Int)},(∀b∈bs,b.1≤b.2)→∀x∈allD bs,DigP bs x
 | [],_,x,hx=>by rw[List.mem_singleton.1 hx];trivial
 | b::bs,h,x,hx=>by
  have hb:=h b List.mem_cons_self
  exact blk_dig (allD_dig fun c hc=>h c (List.mem_cons_of_mem _ hc)) _ _ (by omega) (by omega) x hx
theorem lowD_len (bs:List (Int×Int)):(lowD bs).length=bs.length:=by simp[lowD]
theorem nxtD_end:∀ {bs:List (Int×Int)} {xs:List Int},xs.length=bs.length→(nxtD bs xs).1.length=bs.length∧((nxtD bs xs).2=false→(nxtD bs xs).1=lowD bs)
 | [],[],_=>⟨rfl,fun _=>rfl⟩
 | b::bs,x::xs,h=>by
  have ih:=nxtD_end (bs:=bs) (xs:=xs) (by simpa using h)
  rw[nxtD_cons]
  split
  ·exact⟨by simp[ih.1],fun h=>by cases h⟩
  ·rename_i h1
   have h1:(nxtD bs xs).2=false:=by simpa using h1
   split
   ·exact⟨by simp[ih.1],fun h=>by cases h⟩
   ·exact⟨by simp[ih.1],fun _=>by simp[lowD,ih.2 h1]⟩
 | [],_::_,h=>by simp at h
 | _::_,[],h=>by simp at h
def stD (bs:List (Int×Int)) (xs:List Int) (p:Nat):List Int:=xs.take p++lowD (bs.drop p)
def NxInv (bs:List (Int×Int)) (xs:List Int) (p:Nat):Prop:=(nxtD (bs.drop p) (xs.drop p)).2=false
theorem stD_len {bs:List (Int×Int)} {xs:List Int} (h:xs.length=bs.length) {p:Nat} (hp:p≤xs.length):(stD bs xs p).length=xs.length:=by simp[stD,lowD];omega
theorem stD_all {bs:List (Int×Int)} {xs:List Int} (h:xs.length=bs.length):stD bs xs xs.length=xs:=by
 unfold stD
 rw[List.take_length,h,List.drop_length]
 simp[lowD]
theorem nx_start {bs:List (Int×Int)} {xs:List Int} (h:xs.length=bs.length):NxInv bs xs xs.length:=by
 unfold NxInv
 rw[List.drop_length,h,List.drop_length];rfl
theorem nx_up:∀ {k:Nat} {bs:List (Int×Int)} {xs:List Int} {r:List Int},xs.length=bs.length→k≤xs.length→nxtD (bs.drop k) (xs.drop k)=(r,true)→nxtD bs xs=(xs.take k++r,true)
 | 0,bs,xs,r,_,_,h=>by simpa using h
 | k+1,b::bs,x::xs,r,h,hk,hn=>by
  have ih:=nx_up (k:=k) (bs:=bs) (xs:=xs) (r:=r) (by simpa using h) (by simpa using hk) (by simpa using hn)
  rw[nxtD_cons,ih,if_pos rfl];simp
 | _+1,_,[],_,_,hk,_=>by simp at hk
 | _+1,[],_::_,_,h,_,_=>by simp at h
theorem drop_getD {α:Type} [Inhabited α] (xs:List α) (k:Nat) (h:k<xs.length):xs.drop k=xs.getD k default::xs.drop (k+1):=by
 rw[List.drop_eq_getElem_cons h];simp[List.getD,List.getElem?_eq_getElem h]
theorem take_getD {α:Type} [Inhabited α] (xs:List α) (k:Nat) (h:k<xs.length):xs.take (k+1)=xs.take k++[xs.getD k default]:=by
 rw[List.take_succ_eq_append_getElem h];simp[List.getD,List.getElem?_eq_getElem h]
theorem stD_split {bs:List (Int×Int)} {xs:List Int} (h:xs.length=bs.length) {k:Nat} (hk:k<xs.length):stD bs xs (k+1)=xs.take k++xs.getD k default::lowD (bs.drop (k+1)):=by
 unfold stD;rw[take_getD xs k hk,List.append_assoc];rfl
theorem stD_get {bs:List (Int×Int)} {xs:List Int} (h:xs.length=bs.length) {k:Nat} (hk:k<xs.length):(stD bs xs (k+1)).getD k default=xs.getD k default:=by
 rw[stD_split h hk]
 have:(xs.take k).length=k:=by simp;omega
 simp[List.getD,List.getElem?_append,this]
theorem stD_set {bs:List (Int×Int)} {xs:List Int} (h:xs.length=bs.length) {k:Nat} (hk:k<xs.length) (v:Int):(stD bs xs (k+1)).set k v=xs.take k++v::lowD (bs.drop (k+1)):=by
 rw[stD_split h hk]
 have:(xs.take k).length=k:=by simp;omega
 rw[List.set_append_right _ _ (by omega),this,Nat.sub_self,List.set_cons_zero]
theorem nx_yes {bs:List (Int×Int)} {xs:List Int} (h:xs.length=bs.length) {k:Nat} (hk:k<xs.length) (hn:NxInv bs xs (k+1)) (hx:xs.getD k default<(bs.getD k default).2):nxtD bs xs=((stD bs xs (k+1)).set k (xs.getD k default+1),true):=by
 have hl:(xs.drop (k+1)).length=(bs.drop (k+1)).length:=by simp;omega
 have he:=(nxtD_end hl).2 hn
 rw[stD_set h hk]
 refine nx_up h (by omega) ?_
 rw[drop_getD xs k hk,drop_getD bs k (by omega),nxtD_cons,if_neg (by rw[hn];simp),if_pos hx,he]
theorem nx_no {bs:List (Int×Int)} {xs:List Int} (h:xs.length=bs.length) {k:Nat} (hk:k<xs.length) (hn:NxInv bs xs (k+1)) (hx:¬xs.getD k default<(bs.getD k default).2):NxInv bs xs k∧(stD bs xs (k+1)).set k (bs.getD k default).1=stD bs xs k:=by
 refine⟨?_,?_⟩
 ·unfold NxInv
  rw[drop_getD xs k hk,drop_getD bs k (by omega),nxtD_cons,if_neg (by rw[hn];simp),if_neg hx]
 ·rw[stD_set h hk]
  unfold stD
  rw[drop_getD bs k (by omega)];rfl
theorem nx_end {bs:List (Int×Int)} {xs:List Int} (h:xs.length=bs.length) (hn:NxInv bs xs 0):nxtD bs xs=(stD bs xs 0,false):=by
 have hn:(nxtD bs xs).2=false:=by simpa[NxInv] using hn
 have he:=(nxtD_end h).2 hn
 refine Prod.ext ?_ hn
 rw[he];simp[stD]
open Classical in
noncomputable def findD (Q:List Int→Prop):List (List Int)→Option (List Int)
 | []=>none
 | x::r=>if Q x then some x else findD Q r
theorem findD_yes {Q:List Int→Prop} {x:List Int} {r:List (List Int)} (h:Q x):findD Q (x::r)=some x:=if_pos h
theorem findD_no {Q:List Int→Prop} {x:List Int} {r:List (List Int)} (h:¬Q x):findD Q (x::r)=findD Q r:=if_neg h
theorem findD_app (Q:List Int→Prop):∀A B:List (List Int),findD Q (A++B)=(findD Q A).or (findD Q B)
 | [],B=>by simp[findD]
 | x::r,B=>by
  by_cases h:Q x
  ·rw[List.cons_append,findD_yes h,findD_yes h];rfl
  ·rw[List.cons_append,findD_no h,findD_no h,findD_app Q r B]
theorem findD_none {Q:List Int→Prop}:∀ {A:List (List Int)},(∀x∈A,¬Q x)→findD Q A=none
 | [],_=>rfl
 | x::r,h=>by rw[findD_no (h x List.mem_cons_self)];exact findD_none fun y hy=>h y (List.mem_cons_of_mem _ hy)
theorem findD_map {Q P:List Int→Prop} (a:List Int):∀C:List (List Int),(∀c∈C,(Q (a++c)↔P c))→findD Q (C.map (a++·))=(findD P C).map (a++·)
 | [],_=>rfl
 | c::r,h=>by
  have ih:=findD_map a r fun d hd=>h d (List.mem_cons_of_mem _ hd)
  have hc:=h c List.mem_cons_self
  by_cases hp:P c
  ·rw[List.map_cons,findD_yes (hc.2 hp),findD_yes hp];rfl
  ·rw[List.map_cons,findD_no fun e=>hp (hc.1 e),findD_no hp,ih]
theorem findD_mem {Q:List Int→Prop}:∀ {A:List (List Int)} {x:List Int},findD Q A=some x→x∈A∧Q x
 | y::r,x,h=>by
  by_cases hy:Q y
  ·rw[findD_yes hy] at h
   obtain rfl:=Option.some.inj h
   exact⟨List.mem_cons_self,hy⟩
  ·rw[findD_no hy] at h
   exact⟨List.mem_cons_of_mem _ (findD_mem h).1,(findD_mem h).2⟩
noncomputable def find2 (F:List Int→Option (List Int)):List (List Int)→Option (List Int)
 | []=>none
 | a::r=>(F a).or (find2 F r)
theorem find2_flat (Q:List Int→Prop) (C:List (List Int)) (F:List Int→Option (List Int)):∀A:List (List Int),(∀a∈A,findD Q (C.map (a++·))=F a)→findD Q (A.flatMap fun a=>C.map (a++·))=find2 F A
 | [],_=>rfl
 | a::r,h=>by
  rw[List.flatMap_cons,findD_app,h a List.mem_cons_self,find2_flat Q C F r fun b hb=>h b (List.mem_cons_of_mem _ hb)];rfl
theorem blk_flat (C:List (List Int)) (A:List (List Int)):∀(n:Nat) (v:Int),(blkD A v n).flatMap (fun a=>C.map (a++·))=blkD (A.flatMap fun a=>C.map (a++·)) v n
 | 0,v=>by
  simp[blkD,List.flatMap_map,List.map_flatMap]
  rfl
 | n+1,v=>by
  have ih:=blk_flat C A n (v+1)
  simp only[blkD,List.flatMap_append,ih]
  simp[List.flatMap_map,List.map_flatMap]
  rfl
theorem allD_app:∀(bs cs:List (Int×Int)),allD (bs++cs)=(allD bs).flatMap fun a=>(allD cs).map (a++·)
 | [],cs=>by simp[allD]
 | b::bs,cs=>by
  rw[List.cons_append,allD,allD_app bs cs,allD,blk_flat]
def atN (rs:List Int):Nat→Nat
 | 0=>0
 | f+1=>atN rs f+(rs.getD f default).toNat+1
def polN (rs xs:List Int):Nat→List PolyT
 | 0=>[]
 | f+1=>polN rs xs f++[⟨xs.getD (atN rs f) default,(xs.drop (atN rs f+1)).take (rs.getD f default).toNat⟩]
def polD (rs xs:List Int):List PolyT:=polN rs xs rs.length
theorem polN_len (rs xs:List Int):∀n,(polN rs xs n).length=n
 | 0=>rfl
 | n+1=>by simp[polN,polN_len rs xs n]
theorem polN_get (rs xs:List Int):∀n f,f<n→(polN rs xs n).getD f default=⟨xs.getD (atN rs f) default,(xs.drop (atN rs f+1)).take (rs.getD f default).toNat⟩
 | n+1,f,h=>by
  rcases Nat.lt_or_ge f n with h1|h1
  ·rw[polN,List.getD_eq_getElem?_getD,List.getElem?_append_left (by rw[polN_len];exact h1),←List.getD_eq_getElem?_getD]
   exact polN_get rs xs n f h1
  ·obtain rfl:f=n:=by omega
   rw[polN,List.getD_eq_getElem?_getD,List.getElem?_append_right (by rw[polN_len];omega),polN_len,Nat.sub_self];rfl
theorem atN_mono (rs:List Int) {i j:Nat} (h:i≤j):atN rs i≤atN rs j:=by
 induction j with
 | zero=>rw[show i=0 by omega];exact Nat.le_refl _
 | succ j ih =>
  rcases Nat.lt_or_ge i (j+1) with h1|h1
  ·have:=ih (by omega)
   show atN rs i≤atN rs j+_+1
   omega
  ·rw[show i=j+1 by omega];exact Nat.le_refl _
theorem atN_le {rs:List Int} (h:SigOkP rs):∀n≤rs.length,atN rs n≤4*n
 | 0,_=>Nat.le_refl _
 | n+1,hn=>by
  have ih:=atN_le h n (by omega)
  have:=h.2 n (by omega)
  show atN rs n+_+1≤_
  omega
theorem pol_ok {rs xs:List Int} (hs:SigOkP rs) (hl:atN rs rs.length≤xs.length) (hx:∀x∈xs,0≤x∧x≤9):PolysOkP rs (polD rs xs):=by
 refine⟨⟨hs,polN_len _ _ _⟩,fun f hf=>?_⟩
 have hf:f<rs.length:=by simpa[polD,polN_len] using hf
 rw[show (polD rs xs).getD f default=_ from polN_get rs xs _ f hf]
 have hr:=hs.2 f hf
 have hm:atN rs (f+1)≤atN rs rs.length:=atN_mono rs hf
 have hm:atN rs f+(rs.getD f default).toNat+1≤atN rs rs.length:=hm
 refine⟨⟨?_,hx _ (getD_mem xs _ (by omega))⟩,fun x h=>hx x (List.mem_of_mem_drop (List.mem_of_mem_take h))⟩
 simp only[List.length_take,List.length_drop]
 omega
theorem pol_app {rs:List Int} {a c:List Int} (h:a.length=atN rs rs.length):polD rs (a++c)=polD rs a:=by
 have key:∀n,atN rs n≤a.length→polN rs (a++c) n=polN rs a n:=fun n=>by
  induction n with
  | zero=>intro _;rfl
  | succ n ih =>
   intro hn
   have hn:atN rs n+(rs.getD n default).toNat+1≤a.length:=hn
   simp only[polN]
   rw[ih (by omega),List.getD_eq_getElem?_getD,List.getElem?_append_left (by omega),←List.getD_eq_getElem?_getD,List.drop_append_of_le_length (by omega),List.take_append_of_le_length (by rw[List.length_drop];omega)]
 exact key _ (by omega)
theorem marked_of {rs:List Int} {a c:List PolyT} (h1:PolysOkP rs a) (h2:PolysOkP rs c):MarkedP rs (a++c)∧(a++c).take rs.length=a:=by
 have e1:(a++c).take rs.length=a:=by rw[←h1.1.2,List.take_left]
 have e2:(a++c).drop rs.length=c:=by rw[←h1.1.2,List.drop_left]
 refine⟨⟨by rw[List.length_append,h1.1.2,h2.1.2];omega,by rw[e1];exact h1,by rw[e2];exact h2⟩,e1⟩
end Go.Proofs.YtpennhjjnlkbiaaGreat
end
