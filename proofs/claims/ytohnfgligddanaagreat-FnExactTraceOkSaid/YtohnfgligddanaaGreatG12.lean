/-
  A06d, Q3, Q4, Q5, Q5s, Q2i, one behind the other.
-/
import Derived.Test.YtohnfgligddanaaGreatG3
import Derived.Test.YtohnfgligddanaaGreatG11
import Derived.Test.YtohnfgligddanaaGreatG5
import Derived.Test.YtohnfgligddanaaGreatLgK18
section
namespace Go.Proofs.YtohnfgligddanaaGreat
open Go Go.Lg
set_option linter.unusedSimpArgs false
set_option linter.unusedVariables false
set_option maxHeartbeats 4000000
attribute [local irreducible] SW runL runQ runG runQG FC Ret1
theorem set_mid (a b:List Int) (v:Int) (h:b≠[]):(a++b).set a.length v=a++v::b.drop 1:=by
 induction a with
 | nil=>cases b with
  | nil=>exact absurd rfl h
  | cons c b=>rfl
 | cons c a ih=>simp[ih]
def fillU (n i:Nat):List Int:=upTo i++List.replicate (n-i) 0
theorem upTo_len (n:Nat):(upTo n).length=n:=by simp[upTo]
theorem fillU_len (n i:Nat) (h:i≤n):(fillU n i).length=n:=by simp[fillU,upTo_len];omega
theorem fillU_set (n i:Nat) (h:i<n):(fillU n i).set i (i:Int)=fillU n (i+1):=by
 have:=set_mid (upTo i) (List.replicate (n-i) 0) (i:Int) (by intro e;have:=congrArg List.length e;simp at this;omega)
 rw[upTo_len] at this
 unfold fillU
 rw[this,upTo_succ,List.append_assoc,List.drop_replicate,show n-i-1=n-(i+1) by omega]
 rfl
def kp81:List (Nat×List Nat):=[(0,[0]),(1,[3]),(2,[3,8,9]),(3,[3,8,9,10]),(4,[3,4,8,9]),(5,[3,8,9]),(6,[3,8,9]),(7,[2])]
attribute [go_sem] kp81
theorem firstPerm_fc (n:Nat) (hn:n≤1000):FC S 81 [] [] [] [.int .i64 n] (.ms 6 n) [(6,(upTo n).map (.int .i64))] []:=by
 refine fc_body Tryz.func81 rfl (by kernel_rfl) (by simp[Tryz.f81]) fun B=>?_
 simp only[Tryz.ntmps81,enumD,lst0,Nat.reduceAdd]
 repeat' first|refine sw_seq ?_|refine sw_block ?_|refine sw_go 0 kp81 fun K hK=>?_|((first|refine runL_go ?_|refine sw_ret (ret0 ?_)|refine sw_ret ?_);simp (disch:=(refine Om.mk ?_;omega)) only[go_sem,Tryz.results81])|(refine hK.nil ?_;clear hK K;simp only[go_sem])|(with_reducible refine And.intro (by first|omega|(simp only[lens];omega)) ?_)|fail
 refine sw_loopU (ι:=Nat) (fun p=>[(9,.int .i64 p)]) (fun p=>[(6,(fillU n p).map (.int .i64))]) (fun p=>p≤n) (fun p=>n-p) 0 (by(refine covers_mk0 rfl rfl ?_ ?_ ?_ ?_<;>simp (disch:=(refine Om.mk ?_;omega)) only[go_sem]<;>(try omega));all_goals first|(rw[flatten_one,fillU,upTo];simp;done)|(simp;done)) ?_ (fun p hp=>?_)
 rotate_left
 simp only[go_sem]
 have hl:=fillU_len n p hp
 have hs:=fillU_set n p
 repeat' first|refine sw_seq ?_|refine sw_block ?_|refine sw_inBlock ?_|refine sw_skip ?_|refine sw_go 0 kp81 fun K hK=>?_|((first|refine runL_go ?_|refine sw_ret (ret0 ?_)|refine sw_ret ?_);simp (disch:=(refine Om.mk ?_;omega)) only[go_sem,Tryz.results81])|(refine hK.nil ?_;clear hK K;simp only[go_sem])|((first|refine sw_cond rfl ?_ ?_)<;>intro h<;>try simp (disch:=(refine Om.mk ?_;omega)) only[go_sem] at h)|refine sw_exit rfl ?_|refine sw_loopEnd ?_|(with_reducible refine And.intro (by first|omega|(simp only[lens];omega)) ?_)|fail
 ·exact⟨p+1,(by(refine covers_mk0 rfl rfl ?_ ?_ ?_ ?_<;>simp (disch:=(refine Om.mk ?_;omega)) only[go_sem]<;>(try omega));all_goals first|rw[hs (by omega)]|skip),by omega,by omega⟩
 ·rw[show p=n by omega];simp[fillU]
 ·omega
end Go.Proofs.YtohnfgligddanaaGreat
end
section
namespace Go.Proofs.YtohnfgligddanaaGreat
open Go Go.Lg
set_option linter.unusedSimpArgs false
set_option linter.unusedVariables false
set_option maxHeartbeats 4000000
attribute [local irreducible] SW runL runQ runG runQG FC Ret1 toF redoL anyB
def kp21:List (Nat×List Nat):=[(0,[0,1]),(1,[0,1,5]),(2,[0,1,5,6]),(3,[0,1,5,6,11]),(5,[0,1,5,6,20]),(6,[0,1,5,6]),(4,[0,1,5,6]),(7,[4])]
attribute [go_sem] kp21
theorem l18Less_fc (set gone:List Int) (hl:set.length≤1000):FC S 21 [] [] [] [.sl .any (set.map (.int .i64)),.sl .any (gone.map (.int .i64))] (.sl .any ((lessL set gone).map (.int .i64))) [] []:=by
 refine fc_body Tryz.func21 rfl (by kernel_rfl) (by simp[Tryz.f21]) fun B=>?_
 simp only[Tryz.ntmps21,enumD,lst0,Nat.reduceAdd]
 repeat' first|refine sw_seq ?_|refine sw_block ?_|refine sw_go 0 kp21 fun K hK=>?_|((first|refine runL_go ?_|refine sw_ret (ret0 ?_)|refine sw_ret ?_);simp (disch:=(refine Om.mk ?_;omega)) only[go_sem,Tryz.results21])|(refine hK.nil ?_;clear hK K;simp only[go_sem])|fail
 refine sw_tok 5 28000 2 1 rfl (.inr rfl) rfl ?_
 simp only[go_sem]
 refine sw_loopT (ι:=Nat) (fun i=>[(6,.int .i64 i),(5,.sl (.own 28000 2 1) ((lessL (set.take i) gone).map (.int .i64)))]) (fun _=>[]) (fun _=>[28000]) (fun i=>i≤set.length) (fun i=>set.length-i) 0 (by(refine covers_mk0 rfl rfl ?_ ?_ ?_ ?_<;>simp (disch:=(refine Om.mk ?_;omega)) only[go_sem]<;>(try omega));all_goals exact⟨rfl,rfl⟩) (by omega) (fun i hi=>?_)
 simp only[go_sem]
 have hwl:=less_len (set.take i) gone
 rw[List.length_take] at hwl
 by_cases hil:i<set.length
 ·repeat' first|((exfalso;omega))|refine sw_seq ?_|refine sw_block ?_|refine sw_inBlock ?_|refine sw_skip ?_|refine sw_go 0 kp21 fun K hK=>?_|((first|refine runL_go ?_|refine sw_ret (ret0 ?_)|refine sw_ret ?_);simp (disch:=(refine Om.mk ?_;omega)) only[go_sem,Tryz.results21])|(refine hK.nil ?_;clear hK K;simp only[go_sem])|((first|refine sw_cond rfl ?_ ?_)<;>intro h<;>try simp (disch:=(refine Om.mk ?_;omega)) only[go_sem] at h)|refine sw_loopEnd ?_|refine hK.c0 rfl rfl rfl (l1Has_fc _ _ _) rfl rfl rfl ?_|(with_reducible refine And.intro (by first|omega|(simp only[lens];omega)) ?_)|fail
  all_goals first|exact⟨i+1,(by(refine covers_mk0 rfl rfl ?_ ?_ ?_ ?_<;>simp (disch:=(refine Om.mk ?_;omega)) only[go_sem]<;>(try omega));rw[less_yes hil (by assumption)];exact⟨rfl,by omega⟩),by omega,by omega⟩|exact⟨i+1,(by(refine covers_mk0 rfl rfl ?_ ?_ ?_ ?_<;>simp (disch:=(refine Om.mk ?_;omega)) only[go_sem]<;>(try omega));rw[less_no hil (fun h=>absurd (by assumption) h)];exact⟨rfl,by omega⟩),by omega,by omega⟩
 ·repeat' first|((exfalso;omega))|refine sw_seq ?_|refine sw_go 0 kp21 fun K hK=>?_|((first|refine runL_go ?_|refine sw_ret (ret0 ?_)|refine sw_ret ?_);simp (disch:=(refine Om.mk ?_;omega)) only[go_sem,Tryz.results21])|(refine hK.nil ?_;clear hK K;simp only[go_sem])|((first|refine sw_cond rfl ?_ ?_)<;>intro h<;>try simp (disch:=(refine Om.mk ?_;omega)) only[go_sem] at h)|refine sw_exit rfl ?_|fail
  rw[List.take_of_length_le (by omega)]
def kp54:List (Nat×List Nat):=[(0,[0,1]),(1,[0,1,5]),(2,[1,5,8,9,10]),(3,[1,5,8,9,10,11]),(4,[1,5,7,8,9,10]),(5,[1,5,7,8,9,10,17]),(6,[1,5,8,9,10]),(7,[1,5,8,9,10]),(8,[4])]
attribute [go_sem] kp54
theorem without_fc (set gone:List Int) (hl:set.length≤1000):FC S 54 [] [] [] [.sl .any (set.map (.int .i64)),.sl .any (gone.map (.int .i64))] (.sl .any ((lessL set gone).map (.int .i64))) [] []:=by
 refine fc_body Tryz.func54 rfl (by kernel_rfl) (by simp[Tryz.f54]) fun B=>?_
 simp only[Tryz.ntmps54,enumD,lst0,Nat.reduceAdd]
 repeat' first|refine sw_seq ?_|refine sw_block ?_|refine sw_go 0 kp54 fun K hK=>?_|((first|refine runL_go ?_|refine sw_ret (ret0 ?_)|refine sw_ret ?_);simp (disch:=(refine Om.mk ?_;omega)) only[go_sem,Tryz.results54])|(refine hK.nil ?_;clear hK K;simp only[go_sem])|fail
 refine sw_tok 5 22000 2 1 rfl (.inl rfl) rfl ?_
 simp only[go_sem]
 repeat' first|refine sw_seq ?_|refine sw_block ?_|refine sw_inBlock ?_|refine sw_skip ?_|refine sw_go 0 kp54 fun K hK=>?_|refine fun (K:KT) (hK:KOk S 0 _ _ _ K)=>?_|((first|refine runL_go ?_|refine sw_ret (ret0 ?_)|refine sw_ret ?_);simp (disch:=(refine Om.mk ?_;omega)) only[go_sem,Tryz.results54])|(refine hK.nil ?_;clear hK K;simp only[go_sem])|((first|refine sw_cond rfl ?_ ?_)<;>intro h<;>try simp (disch:=(refine Om.mk ?_;omega)) only[go_sem] at h)|refine sw_exit rfl ?_|refine sw_loopEnd ?_|(with_reducible refine And.intro (by first|omega|(simp only[lens];omega)) ?_)|((with_reducible refine And.intro ?_ ?_);· first|(intro x hx;subst hx;rfl)|(intro x;refine And.intro ?_ ?_<;>(intros;subst_vars;rfl)))|fail
 refine sw_loopT (ι:=Nat) (fun i=>[(10,.int .i64 i),(5,.sl (.own 22000 2 1) ((lessL (set.take i) gone).map (.int .i64)))]) (fun _=>[]) (fun _=>[22000]) (fun i=>i≤set.length) (fun i=>set.length-i) 0 (by(refine covers_mk0 rfl rfl ?_ ?_ ?_ ?_<;>simp (disch:=(refine Om.mk ?_;omega)) only[go_sem]<;>(try omega));all_goals exact⟨rfl,rfl⟩) (by omega) (fun i hi=>?_)
 simp only[go_sem]
 have hwl:=less_len (set.take i) gone
 rw[List.length_take] at hwl
 by_cases hil:i<set.length
 ·repeat' first|((exfalso;omega))|refine sw_seq ?_|refine sw_block ?_|refine sw_inBlock ?_|refine sw_skip ?_|refine sw_go 0 kp54 fun K hK=>?_|((first|refine runL_go ?_|refine sw_ret (ret0 ?_)|refine sw_ret ?_);simp (disch:=(refine Om.mk ?_;omega)) only[go_sem,Tryz.results54])|(refine hK.nil ?_;clear hK K;simp only[go_sem])|((first|refine sw_cond rfl ?_ ?_)<;>intro h<;>try simp (disch:=(refine Om.mk ?_;omega)) only[go_sem] at h)|refine sw_loopEnd ?_|refine hK.c0 rfl rfl rfl (contains_fc _ _ _) rfl rfl rfl ?_|(with_reducible refine And.intro (by first|omega|(simp only[lens];omega)) ?_)|fail
  all_goals first|exact⟨i+1,(by(refine covers_mk0 rfl rfl ?_ ?_ ?_ ?_<;>simp (disch:=(refine Om.mk ?_;omega)) only[go_sem]<;>(try omega));rw[less_yes hil (by assumption)];exact⟨rfl,by omega⟩),by omega,by omega⟩|exact⟨i+1,(by(refine covers_mk0 rfl rfl ?_ ?_ ?_ ?_<;>simp (disch:=(refine Om.mk ?_;omega)) only[go_sem]<;>(try omega));rw[less_no hil (fun h=>absurd (by assumption) h)];exact⟨rfl,by omega⟩),by omega,by omega⟩
 ·repeat' first|((exfalso;omega))|refine sw_seq ?_|refine sw_go 0 kp54 fun K hK=>?_|((first|refine runL_go ?_|refine sw_ret (ret0 ?_)|refine sw_ret ?_);simp (disch:=(refine Om.mk ?_;omega)) only[go_sem,Tryz.results54])|(refine hK.nil ?_;clear hK K;simp only[go_sem])|((first|refine sw_cond rfl ?_ ?_)<;>intro h<;>try simp (disch:=(refine Om.mk ?_;omega)) only[go_sem] at h)|refine sw_exit rfl ?_|fail
  rw[List.take_of_length_le (by omega)]
def kp38:List (Nat×List Nat):=[(0,[0]),(1,[0,3]),(2,[0,3,4]),(3,[0,3,4,8]),(5,[0,3,4]),(4,[0,3,4]),(6,[2])]
attribute [go_sem] kp38
theorem l16First_fc (n:Nat) (hn:n≤1000):FC S 38 [] [] [] [.int .i64 n] (.sl .any ((upTo n).map (.int .i64))) [] []:=by
 refine fc_body Tryz.func38 rfl (by kernel_rfl) (by simp[Tryz.f38]) fun B=>?_
 simp only[Tryz.ntmps38,enumD,lst0,Nat.reduceAdd]
 repeat' first|refine sw_seq ?_|refine sw_block ?_|refine sw_go 0 kp38 fun K hK=>?_|((first|refine runL_go ?_|refine sw_ret (ret0 ?_)|refine sw_ret ?_);simp (disch:=(refine Om.mk ?_;omega)) only[go_sem,Tryz.results38])|(refine hK.nil ?_;clear hK K;simp only[go_sem])|fail
 refine sw_tok 3 15000 2 1 rfl (.inr rfl) rfl ?_
 simp only[go_sem]
 refine sw_loopT (ι:=Nat) (fun i=>[(4,.int .i64 i),(3,.sl (.own 15000 2 1) ((upTo i).map (.int .i64)))]) (fun _=>[]) (fun _=>[15000]) (fun i=>i≤n) (fun i=>n-i) 0 (by(refine covers_mk0 rfl rfl ?_ ?_ ?_ ?_<;>simp (disch:=(refine Om.mk ?_;omega)) only[go_sem]<;>(try omega));all_goals exact⟨rfl,rfl⟩) (by omega) (fun i hi=>?_)
 simp only[go_sem]
 have hwl:=upTo_len i
 by_cases hil:i<n
 ·repeat' first|((exfalso;omega))|refine sw_seq ?_|refine sw_block ?_|refine sw_inBlock ?_|refine sw_skip ?_|refine sw_go 0 kp38 fun K hK=>?_|((first|refine runL_go ?_|refine sw_ret (ret0 ?_)|refine sw_ret ?_);simp (disch:=(refine Om.mk ?_;omega)) only[go_sem,Tryz.results38])|(refine hK.nil ?_;clear hK K;simp only[go_sem])|((first|refine sw_cond rfl ?_ ?_)<;>intro h<;>try simp (disch:=(refine Om.mk ?_;omega)) only[go_sem] at h)|refine sw_loopEnd ?_|(with_reducible refine And.intro (by first|omega|(simp only[lens];omega)) ?_)|fail
  all_goals exact⟨i+1,(by(refine covers_mk0 rfl rfl ?_ ?_ ?_ ?_<;>simp (disch:=(refine Om.mk ?_;omega)) only[go_sem]<;>(try omega));rw[upTo_succ];exact⟨rfl,by omega⟩),by omega,by omega⟩
 ·repeat' first|((exfalso;omega))|refine sw_seq ?_|refine sw_go 0 kp38 fun K hK=>?_|((first|refine runL_go ?_|refine sw_ret (ret0 ?_)|refine sw_ret ?_);simp (disch:=(refine Om.mk ?_;omega)) only[go_sem,Tryz.results38])|(refine hK.nil ?_;clear hK K;simp only[go_sem])|((first|refine sw_cond rfl ?_ ?_)<;>intro h<;>try simp (disch:=(refine Om.mk ?_;omega)) only[go_sem] at h)|refine sw_exit rfl ?_|fail
  rw[show n=i by omega]
def kp18:List (Nat×List Nat):=[(0,[0]),(1,[2])]
attribute [go_sem] kp18
theorem l18All_fc (P:List DepPairT) (hn:P.length≤1000):FC S 18 [] [] [] [.sl .any (P.map DepPairD)] (.sl .any ((upTo P.length).map (.int .i64))) [] []:=by
 refine fc_body Tryz.func18 rfl (by kernel_rfl) (by simp[Tryz.f18]) fun B=>?_
 simp only[Tryz.ntmps18,enumD,lst0,Nat.reduceAdd]
 repeat' first|refine sw_seq ?_|refine sw_go 0 kp18 fun K hK=>?_|((first|refine runL_go ?_|refine sw_ret (ret0 ?_)|refine sw_ret ?_);simp (disch:=(refine Om.mk ?_;omega)) only[go_sem,Tryz.results18])|(refine hK.nil ?_;clear hK K;simp only[go_sem])|refine hK.c0 rfl rfl rfl (l16First_fc P.length hn) rfl rfl rfl ?_|fail
def kp48:List (Nat×List Nat):=[(0,[0]),(1,[2])]
attribute [go_sem] kp48
theorem allOf_fc (P:List DepPairT) (hn:P.length≤1000):FC S 48 [] [] [] [.sl .any (P.map DepPairD)] (.sl .any ((upTo P.length).map (.int .i64))) [] []:=by
 have hul:=upTo_len P.length
 refine fc_body Tryz.func48 rfl (by kernel_rfl) (by simp[Tryz.f48]) fun B=>?_
 simp only[Tryz.ntmps48,enumD,lst0,Nat.reduceAdd]
 repeat' first|(refine sw_freeze 2 1 .any ((upTo P.length).map (.int .i64)) (id:=5) (n:=P.length) (cs:=(upTo P.length).map (.int .i64)) rfl (by simp[Lg.look]) (flat_ints _).symm (by simp[upTo_len]) (cells_one fun _=>rfl) (memOk_ints _) (.inl rfl) ?_;simp only[go_sem])|refine sw_seq ?_|refine sw_go 0 kp48 fun K hK=>?_|((first|refine runL_go ?_|refine sw_ret (ret0 ?_)|refine sw_ret ?_);simp (disch:=(refine Om.mk ?_;omega)) only[go_sem,Tryz.results48])|(refine hK.nil ?_;clear hK K;simp only[go_sem])|(refine hK.callM rfl rfl rfl (firstPerm_fc P.length hn) ⟨⟨by simp only[Nat.reduceLT],by simp,by simp[Lg.look]⟩,by first|exact memOk_ints _|simp⟩ ?_;simp (disch:=(refine Om.mk ?_;omega)) only[go_sem])|fail
end Go.Proofs.YtohnfgligddanaaGreat
end
section
namespace Go.Proofs.YtohnfgligddanaaGreat
open Go Go.Lg
set_option linter.unusedSimpArgs false
set_option linter.unusedVariables false
set_option maxHeartbeats 4000000
attribute [local irreducible] SW runL runQ runG runQG FC Ret1 aftR CM okC prS
theorem l18PartsO_fc (edges:List (List Int)) (set:List Int) (hn:edges.length≤1000) (hin:∀q∈set,0≤q∧q<edges.length) (hEl:∀i<edges.length,(edges.getD i default).length≤1000) (hs:SortP set) (hsl:set.length≤64):FC S 17 [] [] [] [.sl .any (edges.map IntsD),.sl .any (set.map (.int .i64))] (.sl (.own 0 22 1) ((partsR edges set).map IntsD)) [] [0]:=by
 have hp0:∀q∈set,0≤q:=fun q hq=>(hin q hq).1
 have hC:partsR edges set=cmp (CM edges set) set set.length:=by unfold CM;rfl
 rw[hC]
 obtain⟨A,hA⟩:∃A,A=set.map (aftR edges set):=⟨_,rfl⟩
 have hAl:A.length=set.length:=by rw[hA,List.length_map]
 have hAg:∀i<set.length,A.getD i default=aftR edges set (set.getD i default):=fun i hi=>by
  rw[hA,List.getD_eq_getElem?_getD,List.getElem?_map,List.getElem?_eq_getElem hi,List.getD_eq_getElem?_getD,List.getElem?_eq_getElem hi];rfl
 refine fc_body1 Tryz.func17 rfl (by kernel_rfl) (by simp[Tryz.f17]) fun B=>?_
 simp only[Tryz.ntmps17,enumD,lst0,Nat.reduceAdd]
 repeat' first|refine sw_seq ?_|refine sw_block ?_|refine sw_go 0 kp17 fun K hK=>?_|((first|refine runL_go ?_|refine runQ_go ?_|refine sw_ret (ret0 ?_)|refine sw_ret ?_);simp (disch:=(refine Om.mk ?_;omega)) only[go_sem,Tryz.results17])|(refine hK.nil ?_;clear hK K;simp only[go_sem])|fail
 refine sw_tok 5 29000 22 1 rfl (.inr rfl) rfl ?_
 simp only[go_sem]
 refine sw_loopT (ι:=Nat) (fun i=>[(0,.sl .any (edges.map IntsD)),(1,.sl .any (set.map (.int .i64))),(6,.int .i64 i),(5,.sl (.own 29000 22 1) ((A.take i).map IntsD))]) (fun _=>[]) (fun _=>[29000]) (fun i=>i≤set.length) (fun i=>set.length-i) 0 (by(refine covers_mk0 rfl rfl ?_ ?_ ?_ ?_<;>simp (disch:=(refine Om.mk ?_;omega)) only[go_sem]<;>(try omega));all_goals exact⟨rfl,rfl⟩) (by omega) (fun i hi=>?_)
 simp only[go_sem]
 have htl:(A.take i).length≤64:=by rw[List.length_take];omega
 by_cases hil:i<set.length
 ·have cA:=l18After_fc edges set (set.getD i default) hn hin (hin _ (getD_mem set i hil)) hEl hs (by omega)
  rw[←hAg i hil] at cA
  repeat' first|((exfalso;omega))|refine sw_seq ?_|refine sw_block ?_|refine sw_inBlock ?_|refine sw_skip ?_|refine sw_go 0 kp17 fun K hK=>?_|((first|refine runL_go ?_|refine runQ_go ?_|refine sw_ret (ret0 ?_)|refine sw_ret ?_);simp (disch:=(refine Om.mk ?_;omega)) only[go_sem,Tryz.results17])|(refine hK.nil ?_;clear hK K;simp only[go_sem])|((first|refine runG_fork rfl rfl rfl rfl rfl ?_ ?_|refine runQG_fork rfl rfl rfl rfl rfl ?_ ?_|refine sw_cond rfl ?_ ?_)<;>intro h<;>try simp (disch:=(refine Om.mk ?_;omega)) only[go_sem] at h)|refine sw_loopEnd ?_|refine hK.c0 rfl rfl rfl (cA) rfl rfl rfl ?_|(with_reducible refine And.intro (by first|omega|(simp only[lens];omega)) ?_)|fail
  all_goals exact⟨i+1,(by(refine covers_mk0 rfl rfl ?_ ?_ ?_ ?_<;>simp (disch:=(refine Om.mk ?_;omega)) only[go_sem]<;>(try omega));all_goals first|(refine⟨by omega,?_⟩;rw[List.take_add_one,List.getElem?_eq_getElem (by omega),List.map_append,List.getD_eq_getElem?_getD,List.getElem?_eq_getElem (by omega)];rfl)|(refine⟨?_,by omega⟩;rw[List.take_add_one,List.getElem?_eq_getElem (by omega),List.map_append,List.getD_eq_getElem?_getD,List.getElem?_eq_getElem (by omega)];rfl)|trace_state),by omega,by omega⟩
 ·have e:A.take i=A:=List.take_of_length_le (by omega)
  rw[e]
  repeat' first|((exfalso;omega))|((refine sw_tok 7 100000 22 1 rfl (.inr rfl) rfl ?_;simp only[go_sem]))|((refine sw_tok 8 96000 2 1 rfl (.inr rfl) rfl ?_;simp only[go_sem]))|refine sw_seq ?_|refine sw_block ?_|refine sw_go 0 kp17 fun K hK=>?_|((first|refine runL_go ?_|refine runQ_go ?_|refine sw_ret (ret0 ?_)|refine sw_ret ?_);simp (disch:=(refine Om.mk ?_;omega)) only[go_sem,Tryz.results17])|(refine hK.nil ?_;clear hK K;simp only[go_sem])|((first|refine runG_fork rfl rfl rfl rfl rfl ?_ ?_|refine runQG_fork rfl rfl rfl rfl rfl ?_ ?_|refine sw_cond rfl ?_ ?_)<;>intro h<;>try simp (disch:=(refine Om.mk ?_;omega)) only[go_sem] at h)|refine sw_exit rfl ?_|fail
  refine sw_loopT (ι:=Nat×List Int) (fun q=>[(1,.sl .any (set.map (.int .i64))),(5,.sl (.own 29000 22 1) (A.map IntsD)),(7,.sl (.own 100000 22 1) ((cmp (CM edges set) set q.1).map IntsD)),(8,.sl (.own 96000 2 1) (q.2.map (.int .i64))),(9,.int .i64 q.1)]) (fun _=>[]) (fun _=>[29000,100000,96000]) (fun q=>q.1≤set.length∧DoneI edges set q.1 q.2∧q.2.length≤64*q.1) (fun q=>set.length-q.1) (0,[]) (by(refine covers_mk0 rfl rfl ?_ ?_ ?_ ?_<;>simp (disch:=(refine Om.mk ?_;omega)) only[go_sem]<;>(try omega));all_goals first|exact⟨rfl,rfl⟩|exact⟨rfl,rfl,rfl⟩|trace_state) ⟨by simp,DoneI.start,by simp⟩ (fun q hq=>?_)
  obtain⟨k,done⟩:=q
  obtain⟨h1,h2,h3⟩:=hq
  dsimp only at h1 h2 h3
  simp only[go_sem]
  have hcl:=cmp_len (CM edges set) set k
  by_cases hkl:k<set.length
  ·have hok:=h2.ok hkl
   rw[←hAg k hkl] at hok
   have c1:=l1Has_fc .any (A.getD k default) (set.getD k default)
   have c2:=l1Has_fc (.own 96000 2 1) done (set.getD k default)
   by_cases ho:okC (CM edges set) set k
   ·obtain⟨o1,o2⟩:=hok.1 ho
    repeat' first|((exfalso;omega))|((exact absurd o1 (by assumption)))|((exact absurd (by assumption) o2))|((refine sw_tok 10 89000 2 1 rfl (.inr rfl) rfl ?_;simp only[go_sem]))|refine sw_seq ?_|refine sw_block ?_|refine sw_skip ?_|refine sw_go 0 kp17 fun K hK=>?_|refine sw_goD kp17 (by kernel_rfl) fun K hK=>?_|((first|refine runL_go ?_|refine runQ_go ?_|refine sw_ret (ret0 ?_)|refine sw_ret ?_);simp (disch:=(refine Om.mk ?_;omega)) only[go_sem,Tryz.results17])|(refine hK.nil ?_;clear hK K;simp only[go_sem])|((first|refine runG_fork rfl rfl rfl rfl rfl ?_ ?_|refine runQG_fork rfl rfl rfl rfl rfl ?_ ?_|refine sw_cond rfl ?_ ?_)<;>intro h<;>try simp (disch:=(refine Om.mk ?_;omega)) only[go_sem] at h)|refine hK.c0 rfl rfl rfl (c1) rfl rfl rfl ?_|refine hK.c0 rfl rfl rfl (c2) rfl rfl rfl ?_|(with_reducible refine And.intro (by first|omega|(simp only[lens];omega)) ?_)|fail
    refine sw_loopT (ι:=Nat) (fun j=>[(1,.sl .any (set.map (.int .i64))),(5,.sl (.own 29000 22 1) (A.map IntsD)),(7,.sl (.own 100000 22 1) ((cmp (CM edges set) set k).map IntsD)),(8,.sl (.own 96000 2 1) ((done++prS edges set k j).map (.int .i64))),(9,.int .i64 k),(10,.sl (.own 89000 2 1) ((prS edges set k j).map (.int .i64))),(11,.int .i64 j)]) (fun _=>[]) (fun _=>[29000,100000,96000,89000]) (fun j=>j≤set.length) (fun j=>set.length-j) 0 (by(refine covers_mk0 rfl rfl ?_ ?_ ?_ ?_<;>simp (disch:=(refine Om.mk ?_;omega)) only[go_sem]<;>(try omega));all_goals first|exact⟨by rw[prS_zero,List.append_nil],by rw[prS_zero];rfl,rfl⟩|trace_state) (by omega) (fun j hj=>?_)
    simp only[go_sem]
    have hpl:=prS_len (edges:=edges) (set:=set) k j
    have hdl:(done++prS edges set k j).length≤64*k+64:=by rw[List.length_append];omega
    by_cases hjl:j<set.length
    ·have hb:bothC (CM edges set) (set.getD k default).toNat (set.getD j default).toNat=true↔(set.getD j default∈A.getD k default∧set.getD k default∈A.getD j default):=by
      rw[both_iff,hAg k hkl,hAg j hjl,CM_aft (getD_mem set k hkl) (getD_mem set j hjl),CM_aft (getD_mem set j hjl) (getD_mem set k hkl)]
     have d1:=l1Has_fc .any (A.getD k default) (set.getD j default)
     have d2:=l1Has_fc .any (A.getD j default) (set.getD k default)
     by_cases hbb:bothC (CM edges set) (set.getD k default).toNat (set.getD j default).toNat=true
     ·obtain⟨b1,b2⟩:=hb.1 hbb
      have e:=prS_yes hjl hbb
      repeat' first|((exfalso;omega))|((exact absurd b1 (by assumption)))|((exact absurd b2 (by assumption)))|((refine⟨List.mem_filter.2 ⟨by simp,by simp⟩,fun x=>⟨fun y _ ee=>?_,fun y _ ee=>?_⟩,?_,?_,?_⟩;(· subst ee;rfl);(· subst ee;rfl);(· omega);(· omega)))|refine sw_seq ?_|refine sw_block ?_|refine sw_inBlock ?_|refine sw_skip ?_|refine sw_go 0 kp17 fun K hK=>?_|refine sw_goD kp17 (by kernel_rfl) fun K hK=>?_|((first|refine runL_go ?_|refine runQ_go ?_|refine sw_ret (ret0 ?_)|refine sw_ret ?_);simp (disch:=(refine Om.mk ?_;omega)) only[go_sem,Tryz.results17])|(refine hK.nil ?_;clear hK K;simp only[go_sem])|((first|refine runG_fork rfl rfl rfl rfl rfl ?_ ?_|refine runQG_fork rfl rfl rfl rfl rfl ?_ ?_|refine sw_cond rfl ?_ ?_)<;>intro h<;>try simp (disch:=(refine Om.mk ?_;omega)) only[go_sem] at h)|refine sw_loopEnd ?_|refine hK.c0 rfl rfl rfl (d1) rfl rfl rfl ?_|refine hK.c0 rfl rfl rfl (d2) rfl rfl rfl ?_|(with_reducible refine And.intro (by first|omega|(simp only[lens];omega)) ?_)|fail
      all_goals exact⟨j+1,(by rw[e,←List.append_assoc];(refine covers_mk0 rfl rfl ?_ ?_ ?_ ?_<;>simp (disch:=(refine Om.mk ?_;omega)) only[go_sem]<;>(try omega));all_goals first|exact⟨rfl,rfl,by omega⟩|(simp;done)|trace_state),by omega,by omega⟩
     ·have e:=prS_no hjl hbb
      repeat' first|((exfalso;omega))|((exact absurd (hb.2 ⟨by assumption,by assumption⟩) hbb))|refine sw_seq ?_|refine sw_block ?_|refine sw_inBlock ?_|refine sw_skip ?_|refine sw_go 0 kp17 fun K hK=>?_|refine sw_goD kp17 (by kernel_rfl) fun K hK=>?_|((first|refine runL_go ?_|refine runQ_go ?_|refine sw_ret (ret0 ?_)|refine sw_ret ?_);simp (disch:=(refine Om.mk ?_;omega)) only[go_sem,Tryz.results17])|(refine hK.nil ?_;clear hK K;simp only[go_sem])|((first|refine runG_fork rfl rfl rfl rfl rfl ?_ ?_|refine runQG_fork rfl rfl rfl rfl rfl ?_ ?_|refine sw_cond rfl ?_ ?_)<;>intro h<;>try simp (disch:=(refine Om.mk ?_;omega)) only[go_sem] at h)|refine hK.skp rfl rfl ?_|refine sw_loopEnd ?_|refine hK.c0 rfl rfl rfl (d1) rfl rfl rfl ?_|refine hK.c0 rfl rfl rfl (d2) rfl rfl rfl ?_|(with_reducible refine And.intro (by first|omega|(simp only[lens];omega)) ?_)|fail
      all_goals exact⟨j+1,(by rw[e];(refine covers_mk0 rfl rfl ?_ ?_ ?_ ?_<;>simp (disch:=(refine Om.mk ?_;omega)) only[go_sem]<;>(try omega));all_goals first|exact⟨rfl,rfl,by omega⟩|(simp;done)|trace_state),by omega,by omega⟩
    ·have hpe:=prS_eq hkl ho (k:=j) (by omega)
     have hcy:=cmp_yes ho
     have hdy:=h2.yes ho (k:=j) (by omega)
     repeat' first|((exfalso;omega))|refine sw_seq ?_|refine sw_inBlock ?_|refine sw_go 0 kp17 fun K hK=>?_|((first|refine runL_go ?_|refine runQ_go ?_|refine sw_ret (ret0 ?_)|refine sw_ret ?_);simp (disch:=(refine Om.mk ?_;omega)) only[go_sem,Tryz.results17])|(refine hK.nil ?_;clear hK K;simp only[go_sem])|((first|refine runG_fork rfl rfl rfl rfl rfl ?_ ?_|refine runQG_fork rfl rfl rfl rfl rfl ?_ ?_|refine sw_cond rfl ?_ ?_)<;>intro h<;>try simp (disch:=(refine Om.mk ?_;omega)) only[go_sem] at h)|refine sw_exit rfl ?_|refine sw_loopEnd ?_|(with_reducible refine And.intro (by first|omega|(simp only[lens];omega)) ?_)|fail
     all_goals exact⟨(k+1,done++prS edges set k j),(by rw[hcy,←hpe];(refine covers_mk0 rfl rfl ?_ ?_ ?_ ?_<;>simp (disch:=(refine Om.mk ?_;omega)) only[go_sem]<;>(try omega));all_goals first|(refine⟨?_,?_⟩;(· rw[List.map_append];rfl);(· omega))|exact⟨rfl,rfl,by omega⟩|(simp;done)|trace_state),⟨by dsimp only;omega,hdy,by dsimp only;omega⟩,by dsimp only;omega⟩
   ·have hcn:=cmp_no ho
    have hdn:=h2.no ho
    repeat' first|((exfalso;omega))|((exact absurd (hok.2 ⟨by assumption,by assumption⟩) ho))|refine sw_seq ?_|refine sw_block ?_|refine sw_skip ?_|refine sw_go 0 kp17 fun K hK=>?_|refine sw_goD kp17 (by kernel_rfl) fun K hK=>?_|((first|refine runL_go ?_|refine runQ_go ?_|refine sw_ret (ret0 ?_)|refine sw_ret ?_);simp (disch:=(refine Om.mk ?_;omega)) only[go_sem,Tryz.results17])|(refine hK.nil ?_;clear hK K;simp only[go_sem])|((first|refine runG_fork rfl rfl rfl rfl rfl ?_ ?_|refine runQG_fork rfl rfl rfl rfl rfl ?_ ?_|refine sw_cond rfl ?_ ?_)<;>intro h<;>try simp (disch:=(refine Om.mk ?_;omega)) only[go_sem] at h)|refine hK.skp rfl rfl ?_|refine sw_exit rfl ?_|refine sw_loopEnd ?_|refine hK.c0 rfl rfl rfl (c1) rfl rfl rfl ?_|refine hK.c0 rfl rfl rfl (c2) rfl rfl rfl ?_|(with_reducible refine And.intro (by first|omega|(simp only[lens];omega)) ?_)|fail
    all_goals exact⟨(k+1,done),(by rw[hcn];(refine covers_mk0 rfl rfl ?_ ?_ ?_ ?_<;>simp (disch:=(refine Om.mk ?_;omega)) only[go_sem]<;>(try omega))),⟨by dsimp only;omega,hdn,by dsimp only;omega⟩,by dsimp only;omega⟩
  ·repeat' first|((exfalso;omega))|refine sw_seq ?_|refine sw_go 0 kp17 fun K hK=>?_|((first|refine runL_go ?_|refine runQ_go ?_|refine sw_ret (ret0 ?_)|refine sw_ret ?_);simp (disch:=(refine Om.mk ?_;omega)) only[go_sem,Tryz.results17])|(refine hK.nil ?_;clear hK K;simp only[go_sem])|((first|refine runG_fork rfl rfl rfl rfl rfl ?_ ?_|refine runQG_fork rfl rfl rfl rfl rfl ?_ ?_|refine sw_cond rfl ?_ ?_)<;>intro h<;>try simp (disch:=(refine Om.mk ?_;omega)) only[go_sem] at h)|refine sw_exit rfl ?_|fail
   all_goals (rw[show set.length=k by omega];exact ret1_own rfl (by simp))
end Go.Proofs.YtohnfgligddanaaGreat
end
section
namespace Go.Proofs.YtohnfgligddanaaGreat
open Go Go.Lg
set_option linter.unusedSimpArgs false
set_option linter.unusedVariables false
set_option maxHeartbeats 4000000
attribute [local irreducible] SW runL runQ runG runQG FC Ret1 toF redoL anyB
def kp20:List (Nat×List Nat):=[(0,[2,3]),(1,[2,3,15]),(2,[4,5]),(3,[2,3,20]),(4,[4,5]),(5,[4,5])]
attribute [go_sem] kp20
theorem l18Gone_fc (x:SystemT) (s:PairStepT):FC S 20 [] [] [] [SystemD x,PairStepD s] (.tup [.sl .any ((goneR x s).1.map (.int .i64)),.bool (goneR x s).2]) [] []:=by
 obtain⟨part,proj,polys,gone⟩:=s
 by_cases hp:proj=[]
 ·rw[goneR_poly hp]
  dsimp only at hp ⊢
  subst hp
  refine fc_body Tryz.func20 rfl (by kernel_rfl) (by simp[Tryz.f20]) fun B=>?_
  simp only[Tryz.ntmps20,enumD,lst0,Nat.reduceAdd]
  repeat' first|((exfalso;omega))|refine sw_seq ?_|refine sw_skip ?_|refine sw_go 0 kp20 fun K hK=>?_|((first|refine runL_go ?_|refine sw_ret (ret0 ?_)|refine sw_ret ?_);simp (disch:=(refine Om.mk ?_;omega)) only[go_sem,Tryz.results20])|(refine hK.nil ?_;clear hK K;simp only[go_sem])|((first|refine runG_fork rfl rfl rfl rfl rfl ?_ ?_|refine sw_cond rfl ?_ ?_)<;>intro h<;>try simp (disch:=(refine Om.mk ?_;omega)) only[go_sem] at h)|refine hK.c0 rfl rfl rfl (specWeighedBy_fc x part polys) rfl rfl rfl ?_|fail
 ·have hpl:0<proj.length:=List.length_pos_iff.2 hp
  by_cases hq:polys=[]
  ·rw[goneR_proj hp hq]
   dsimp only at hq ⊢
   subst hq
   refine fc_body Tryz.func20 rfl (by kernel_rfl) (by simp[Tryz.f20]) fun B=>?_
   simp only[Tryz.ntmps20,enumD,lst0,Nat.reduceAdd]
   refine sw_bnd_agg 1 1 rfl rfl fun hb1_1=>?_
   simp only[D.bnd,List.length_map] at hb1_1
   repeat' first|((exfalso;omega))|refine sw_seq ?_|refine sw_skip ?_|refine sw_go 0 kp20 fun K hK=>?_|((first|refine runL_go ?_|refine sw_ret (ret0 ?_)|refine sw_ret ?_);simp (disch:=(refine Om.mk ?_;omega)) only[go_sem,Tryz.results20])|(refine hK.nil ?_;clear hK K;simp only[go_sem])|((first|refine runG_fork rfl rfl rfl rfl rfl ?_ ?_|refine sw_cond rfl ?_ ?_)<;>intro h<;>try simp (disch:=(refine Om.mk ?_;omega)) only[go_sem] at h)|refine hK.c0 rfl rfl rfl (specProjectedBy_fc x part proj) rfl rfl rfl ?_|fail
  ·have hql:0<polys.length:=List.length_pos_iff.2 hq
   rw[goneR_two hp hq]
   refine fc_body Tryz.func20 rfl (by kernel_rfl) (by simp[Tryz.f20]) fun B=>?_
   simp only[Tryz.ntmps20,enumD,lst0,Nat.reduceAdd]
   refine sw_bnd_agg 1 1 rfl rfl fun hb1_1=>?_
   simp only[D.bnd,List.length_map] at hb1_1
   refine sw_bnd_agg 1 2 rfl rfl fun hb1_2=>?_
   simp only[D.bnd,List.length_map] at hb1_2
   repeat' first|((exfalso;omega))|refine sw_seq ?_|refine sw_go 0 kp20 fun K hK=>?_|((first|refine runL_go ?_|refine sw_ret (ret0 ?_)|refine sw_ret ?_);simp (disch:=(refine Om.mk ?_;omega)) only[go_sem,Tryz.results20])|(refine hK.nil ?_;clear hK K;simp only[go_sem])|((first|refine runG_fork rfl rfl rfl rfl rfl ?_ ?_|refine sw_cond rfl ?_ ?_)<;>intro h<;>try simp (disch:=(refine Om.mk ?_;omega)) only[go_sem] at h)|fail
end Go.Proofs.YtohnfgligddanaaGreat
end
section
namespace Go.Proofs.YtohnfgligddanaaGreat
open Go Go.Lg
set_option linter.unusedSimpArgs false
set_option linter.unusedVariables false
set_option maxHeartbeats 4000000
attribute [local irreducible] SW runL runQ runG runQG FC Ret1 toF redoL anyB
def kp6:List (Nat×List Nat):=[(0,[1,2]),(1,[1,2,5,6]),(2,[1,2,5,23]),(3,[4]),(4,[1,2,5,7]),(5,[1,2,7,8]),(6,[1,2,7,8,9]),(7,[1,2,7,8,9,34]),(9,[1,2,7,8,9,51]),(10,[4]),(11,[1,2,7,8,9,10,11]),(12,[1,2,7,8,9,10,77]),(13,[4]),(14,[1,2,7,8,9]),(8,[1,2,7,8,9]),(15,[4])]
attribute [go_sem] kp6
theorem specTraceOk_fc (x:SystemT) (list:List PairStepT):FC S 6 [] [] [] [SystemD x,.sl .any (list.map PairStepD)] (.bool (tst (TraceP x (graphG x (allP x) (allP x).length) list))) [] []:=by
 have cP:=specPairsOf_fc x
 rcases Classical.em (PairsP x) with hx|hx
 ·rw[pairsR_yes hx] at cP
  have h64:(allP x).length≤64:=hx.2
  obtain⟨g1,g2,g3⟩:=graph_ok hx
  have cG:=l18Graph_fc x hx.1 (allP x) (allP_ok hx) h64
  have cA:=l18All_fc (allP x) (by omega)
  generalize graphG x (allP x) (allP x).length=gr at *
  have cT:∀set,SetPP set (allP x).length→FC S 17 [] [] [] [.sl .any (gr.map IntsD),.sl .any (set.map (.int .i64))] (.sl (.own 0 22 1) ((partsR gr set).map IntsD)) [] [0]:=fun set hS=>l18PartsO_fc gr set (by omega) (by rw[g1];exact setPP_in hS) (fun i hi=>by have:=g2 i hi;omega) (setPP_sort hS) (by have:=set_le hS;omega)
  have hul:=upTo_len (allP x).length
  have hT0:=todo_z (gr:=gr) h64
  have hP0:trT x gr (allP x).length list 0=some (partsR gr (upTo (allP x).length)):=rfl
  have cT0:=cT _ (upTo_setPP _)
  refine fc_body Tryz.func6 rfl (by kernel_rfl) (by simp[Tryz.f6]) fun B=>?_
  simp only[Tryz.ntmps6,enumD,lst0,Nat.reduceAdd]
  refine sw_bnd 1 rfl fun hb1=>?_
  simp only[D.bnd,List.length_map] at hb1
  repeat' first|((exact fun h=>absurd h.1.2 (by omega)))|refine sw_seq ?_|refine sw_block ?_|refine sw_skip ?_|refine sw_go 0 kp6 fun K hK=>?_|((first|refine runL_go ?_|refine runQ_go ?_|refine sw_ret (ret0 ?_)|refine sw_ret ?_);simp (disch:=(refine Om.mk ?_;omega)) only[go_sem,Tryz.results6])|(refine hK.nil ?_;clear hK K;simp only[go_sem])|((first|refine runG_fork rfl rfl rfl rfl rfl ?_ ?_|refine runQG_fork rfl rfl rfl rfl rfl ?_ ?_|refine sw_cond rfl ?_ ?_)<;>intro h<;>try simp (disch:=(refine Om.mk ?_;omega)) only[go_sem] at h)|refine hK.c0 rfl rfl rfl (cP) rfl rfl rfl ?_|refine hK.c0 rfl rfl rfl (cG) rfl rfl rfl ?_|refine hK.c0 rfl rfl rfl (cA) rfl rfl rfl ?_|(refine hK.callB rfl rfl rfl (cT0) ⟨⟨by simp only[Nat.reduceLT],(by first|(simp;all_goals fail)|(simp[LS.getBox,Lg.look];all_goals fail)),by(simp[Lg.look];all_goals fail),by(simp;all_goals fail),by(simp;all_goals fail)⟩,⟨by(simp[D.ids,D.idsL];all_goals fail),by(simp[D.ids,D.idsL];all_goals fail),by(simp[D.tks,D.tksL];all_goals fail),by(simp[D.tks,D.tksL];all_goals fail),by(simp;all_goals fail)⟩,rfl⟩ ?_;simp (disch:=(refine Om.mk ?_;omega)) only[go_sem])|fail
  have hll:list.length≤64:=by omega
  refine sw_loopT (ι:=Nat×List (List Int)) (fun q=>[(9,.int .i64 q.1),(8,.sl .any (q.2.map IntsD))]) (fun _=>[]) (fun _=>[]) (fun q=>q.1≤list.length∧trT x gr (allP x).length list q.1=some q.2∧TodoOk (allP x).length q.1 q.2) (fun q=>list.length-q.1) (0,partsR gr (upTo (allP x).length)) (by(refine covers_mk0 rfl rfl ?_ ?_ ?_ ?_<;>simp (disch:=(refine Om.mk ?_;omega)) only[go_sem]<;>(try omega));all_goals first|rfl|trace_state) ⟨by simp,hP0,hT0⟩ (fun q hq=>?_)
  obtain⟨i,T⟩:=q
  obtain⟨hi,hT,hO⟩:=hq
  dsimp only at hi hT hO
  simp only[go_sem]
  have hTl:=hO.2
  by_cases hil:i<list.length
  ·cases T with
   | nil =>
    repeat' first|((exfalso;omega))|refine sw_seq ?_|refine sw_block ?_|refine sw_skip ?_|refine sw_go 0 kp6 fun K hK=>?_|refine sw_goD kp6 (by kernel_rfl) fun K hK=>?_|((first|refine runL_go ?_|refine runQ_go ?_|refine sw_ret (ret0 ?_)|refine sw_ret ?_);simp (disch:=(refine Om.mk ?_;omega)) only[go_sem,Tryz.results6])|(refine hK.nil ?_;clear hK K;simp only[go_sem])|((first|refine runG_fork rfl rfl rfl rfl rfl ?_ ?_|refine runQG_fork rfl rfl rfl rfl rfl ?_ ?_|refine sw_cond rfl ?_ ?_)<;>intro h<;>try simp (disch:=(refine Om.mk ?_;omega)) only[go_sem] at h)|refine hK.skp rfl rfl ?_|fail
    all_goals exact trace_end hil (by rw[trT_s hT];exact stepT_nil)
   | cons q r =>
    have hq:=hO.1 q List.mem_cons_self
    have hql:=set_le hq
    have hrl:r.length≤5000:=by rw[List.length_cons] at hTl;omega
    have hdr:List.drop (Int.toNat 1) (D.sl Tk.any (List.map (D.int IntKind.i64) q)::List.map IntsD r)=List.map IntsD r:=rfl
    have hr1:∀x∈List.map IntsD r,x.cells.length=1:=fun x hx=>by obtain⟨y,_,rfl⟩:=List.mem_map.1 hx;rfl
    have hno:=fun h=>step_no (x:=x) hil hT h
    have cE:=specSameTerm_fc .any .any q (list.getD i default).part
    by_cases hqp:q=(list.getD i default).part
    ·rw[tst_true hqp] at cE
     have hS:SetPP (list.getD i default).part (allP x).length:=hqp ▸ hq
     have hSl:(list.getD i default).part.length≤64:=by have:=set_le hS;omega
     have cJ:=l18Gone_fc x (list.getD i default)
     have hG:goneR x (list.getD i default)=goneR x (list.getD i default):=rfl
     have hSt:StepP x q (list.getD i default)↔(q=(list.getD i default).part∧(goneR x (list.getD i default)).2=true)∧(goneR x (list.getD i default)).1≠[]∧(goneR x (list.getD i default)).1=(list.getD i default).gone:=Iff.rfl
     have hyes:∀h:StepP x q (list.getD i default),trT x gr (allP x).length list (i+1)=some (partsR gr (lessL (list.getD i default).part (goneR x (list.getD i default)).1)++r):=fun h=>by rw[trT_s hT,stepT_yes h]
     rw[hSt] at hno hyes
     clear hG hSt
     generalize goneR x (list.getD i default)=J at *
     obtain⟨g,ok⟩:=J
     dsimp only at cJ hno hyes
     have hgl:0<g.length↔g≠[]:=List.length_pos_iff
     have hp1:=@parts_len gr (lessL (list.getD i default).part g)
     have hp2:=less_len (list.getD i default).part g
     have cW:=l18Less_fc (list.getD i default).part g (by omega)
     have cL:=cT _ (less_set (gone:=g) hS)
     repeat' first|((exfalso;omega))|((refine sw_goD kp6 (id:=9) (by kernel_rfl) fun K hK=>?_))|((refine sw_goD kp6 (id:=11) (by kernel_rfl) fun K hK=>?_))|((rw[hdr];refine⟨hr1,?_,?_,?_⟩;(· simp only[List.length_map];omega);(· simp only[List.length_map];omega)))|refine sw_seq ?_|refine sw_block ?_|refine sw_inBlock ?_|refine sw_skip ?_|refine sw_go 0 kp6 fun K hK=>?_|refine sw_goX 0 kp6 11 (id:=14) (by kernel_rfl) fun K hK=>?_|refine fun (K:KT) (hK:KOk S 0 _ _ _ K)=>?_|((first|refine runL_go ?_|refine runQ_go ?_|refine sw_ret (ret0 ?_)|refine sw_ret ?_);simp (disch:=(refine Om.mk ?_;omega)) only[go_sem,Tryz.results6])|(refine hK.nil ?_;clear hK K;simp only[go_sem])|((first|refine runG_fork rfl rfl rfl rfl rfl ?_ ?_|refine runQG_fork rfl rfl rfl rfl rfl ?_ ?_|refine sw_cond rfl ?_ ?_)<;>intro h<;>try simp (disch:=(refine Om.mk ?_;omega)) only[go_sem] at h)|refine hK.skp rfl rfl ?_|refine sw_loopEnd ?_|refine hK.c0 rfl rfl rfl (cE) rfl rfl rfl ?_|refine hK.c0 rfl rfl rfl (cJ) rfl rfl rfl ?_|refine hK.c0 rfl rfl rfl (specSameTerm_fc _ _ g (list.getD i default).gone) rfl rfl rfl ?_|refine hK.c0 rfl rfl rfl (cW) rfl rfl rfl ?_|(refine hK.own 777 rfl rfl rfl (cL) ⟨⟨by simp only[Nat.reduceLT],by simp[LS.getBox,Lg.look]⟩,rfl⟩ ?_;simp (disch:=(refine Om.mk ?_;omega)) only[go_sem])|(with_reducible refine And.intro (by first|omega|(simp only[lens];omega)) ?_)|fail
     all_goals first
      | (refine hno fun e=>?_;exact absurd (hgl.2 e.2.1) (by omega))
      | (refine hno fun e=>?_;simp_all;done)
      | exact⟨(i+1,partsR gr (lessL (list.getD i default).part g)++r),(by(refine covers_mk0 rfl rfl ?_ ?_ ?_ ?_<;>simp (disch:=(refine Om.mk ?_;omega)) only[go_sem]<;>(try omega));all_goals first|(rw[List.map_append];exact⟨rfl,by omega⟩)|(refine⟨?_,by omega⟩;rw[List.map_append];rfl)|trace_state),⟨by dsimp only;omega,hyes ⟨⟨hqp,by assumption⟩,hgl.1 (by omega),by assumption⟩,hqp ▸ todo_s h64 hO⟩,by dsimp only;omega⟩
      | (exfalso;simp_all;done)
      | trace_state
    ·rw[tst_false hqp] at cE
     repeat' first|((exfalso;omega))|refine sw_seq ?_|refine sw_block ?_|refine sw_skip ?_|refine sw_go 0 kp6 fun K hK=>?_|refine sw_goD kp6 (by kernel_rfl) fun K hK=>?_|((first|refine runL_go ?_|refine runQ_go ?_|refine sw_ret (ret0 ?_)|refine sw_ret ?_);simp (disch:=(refine Om.mk ?_;omega)) only[go_sem,Tryz.results6])|(refine hK.nil ?_;clear hK K;simp only[go_sem])|((first|refine runG_fork rfl rfl rfl rfl rfl ?_ ?_|refine runQG_fork rfl rfl rfl rfl rfl ?_ ?_|refine sw_cond rfl ?_ ?_)<;>intro h<;>try simp (disch:=(refine Om.mk ?_;omega)) only[go_sem] at h)|refine hK.c0 rfl rfl rfl (cE) rfl rfl rfl ?_|(with_reducible refine And.intro (by first|omega|(simp only[lens];omega)) ?_)|fail
     all_goals exact hno fun h=>hqp h.1.1
  ·repeat' first|((exfalso;omega))|refine sw_seq ?_|refine sw_go 0 kp6 fun K hK=>?_|((first|refine runL_go ?_|refine runQ_go ?_|refine sw_ret (ret0 ?_)|refine sw_ret ?_);simp (disch:=(refine Om.mk ?_;omega)) only[go_sem,Tryz.results6])|(refine hK.nil ?_;clear hK K;simp only[go_sem])|((first|refine runG_fork rfl rfl rfl rfl rfl ?_ ?_|refine runQG_fork rfl rfl rfl rfl rfl ?_ ?_|refine sw_cond rfl ?_ ?_)<;>intro h<;>try simp (disch:=(refine Om.mk ?_;omega)) only[go_sem] at h)|refine sw_exit rfl ?_|fail
   have e:i=list.length:=by omega
   subst e
   rw[trace_all hx hll hT]
   exact⟨fun h=>List.eq_nil_of_length_eq_zero (by omega),fun h=>by rw[h];rfl⟩
 ·rw[pairsR_no hx] at cP
  refine fc_body Tryz.func6 rfl (by kernel_rfl) (by simp[Tryz.f6]) fun B=>?_
  simp only[Tryz.ntmps6,enumD,lst0,Nat.reduceAdd]
  refine sw_bnd 1 rfl fun hb1=>?_
  simp only[D.bnd,List.length_map] at hb1
  repeat' first|refine sw_seq ?_|refine sw_go 0 kp6 fun K hK=>?_|((first|refine runL_go ?_|refine runQ_go ?_|refine sw_ret (ret0 ?_)|refine sw_ret ?_);simp (disch:=(refine Om.mk ?_;omega)) only[go_sem,Tryz.results6])|(refine hK.nil ?_;clear hK K;simp only[go_sem])|((first|refine runG_fork rfl rfl rfl rfl rfl ?_ ?_|refine runQG_fork rfl rfl rfl rfl rfl ?_ ?_|refine sw_cond rfl ?_ ?_)<;>intro h<;>try simp (disch:=(refine Om.mk ?_;omega)) only[go_sem] at h)|refine hK.c0 rfl rfl rfl (cP) rfl rfl rfl ?_|fail
  all_goals exact fun h=>hx h.1.1
end Go.Proofs.YtohnfgligddanaaGreat
end
section
namespace Go.Proofs.YtohnfgligddanaaGreat
open Go Go.Lg
set_option linter.unusedSimpArgs false
set_option linter.unusedVariables false
set_option maxHeartbeats 4000000
attribute [local irreducible] SW runL runQ runG runQG FC Ret1 toF redoL anyB addJ sumF formM
def kp51:List (Nat×List Nat):=[(0,[1,2,3,4]),(1,[1,2,3,4,10]),(2,[1,3,4,10,15,16,17]),(3,[1,3,4,10,15,16,17,18]),(4,[1,3,4,10,12,15,16,17]),(5,[1,3,4,10,12,13,14,15,16,17]),(6,[1,3,4,10,12,13,14,15,16,17,49]),(7,[8,9]),(8,[1,3,4,10,12,15,16,17,53]),(9,[1,3,4,10,15,16,17]),(10,[1,3,4,10,15,16,17]),(11,[8,9])]
attribute [go_sem] kp51
theorem project_fc (p:List Nat) (hp:p≠[]) (rs:List Int) (P:List DepPairT) (set proj:List Int) (hj:ProjP rs proj) (hP:∀p∈P,PrOk rs p) (hS:SetPP set P.length) (hl:P.length≤64):FC S 51 [] [] [] [.agg [.sl .any (rs.map (.int .i64))],.sl .any (P.map DepPairD),.sl .any (set.map (.int .i64)),.sl .any (proj.map (.int .i64))] (.tup [Int64SL p (jR rs P set proj).1,.bool (jR rs P set proj).2]) [] []:=by
 have hsl:=set_le hS
 have hat:∀i<set.length,(0≤set.getD i default∧set.getD i default<P.length)∧PrOk rs (P.getD (set.getD i default).toNat default):=fun i hi=>by
  have h:=(hS i hi).1
  exact⟨h,hP _ (getD_mem P _ (by omega))⟩
 refine fc_body Tryz.func51 rfl (by kernel_rfl) (by simp[Tryz.f51]) fun B=>?_
 simp only[Tryz.ntmps51,enumD,lst0,Nat.reduceAdd]
 repeat' first|refine sw_seq ?_|refine sw_block ?_|refine sw_go 0 kp51 fun K hK=>?_|((first|refine runL_go ?_|refine runQ_go ?_|refine sw_ret (ret0 ?_)|refine sw_ret ?_);simp (disch:=(refine Om.mk ?_;omega)) only[go_sem,Tryz.results51])|(refine hK.nil ?_;clear hK K;simp only[go_sem])|fail
 refine sw_tok 10 58000 2 1 rfl (.inl rfl) rfl ?_
 simp only[go_sem]
 repeat' first|refine sw_seq ?_|refine sw_block ?_|refine sw_inBlock ?_|refine sw_skip ?_|refine sw_go 0 kp51 fun K hK=>?_|refine fun (K:KT) (hK:KOk S 0 _ _ _ K)=>?_|refine sw_goD kp51 (by kernel_rfl) fun K hK=>?_|((first|refine runL_go ?_|refine runQ_go ?_|refine sw_ret (ret0 ?_)|refine sw_ret ?_);simp (disch:=(refine Om.mk ?_;omega)) only[go_sem,Tryz.results51])|(refine hK.nil ?_;clear hK K;simp only[go_sem])|((first|refine runG_fork rfl rfl rfl rfl rfl ?_ ?_|refine runQG_fork rfl rfl rfl rfl rfl ?_ ?_|refine sw_cond rfl ?_ ?_)<;>intro h<;>try simp (disch:=(refine Om.mk ?_;omega)) only[go_sem] at h)|refine hK.skp rfl rfl ?_|refine sw_exit rfl ?_|refine sw_loopEnd ?_|(refine hK.fork rfl rfl rfl ?_ ?_<;>intro h<;>try simp (disch:=(refine Om.mk ?_;omega)) only[go_sem] at h)|(with_reducible refine And.intro (by first|omega|(simp only[lens];omega)) ?_)|((with_reducible refine And.intro ?_ ?_);· first|(intro x hx;subst hx;rfl)|exact upR_mem fun _ _=>rfl|exact mapR_mem fun _ _=>rfl|(intro x;refine And.intro ?_ ?_<;>(intros;subst_vars;rfl)))|fail
 refine sw_loopT (ι:=Nat) (fun i=>[(17,.int .i64 i),(10,.sl (.own 58000 2 1) ((jL rs P set proj i).map (.int .i64)))]) (fun _=>[]) (fun _=>[58000]) (fun i=>i≤set.length∧∀j<i,JMost rs proj (P.getD (set.getD j default).toNat default)) (fun i=>set.length-i) 0 (by(refine covers_mk0 rfl rfl ?_ ?_ ?_ ?_<;>simp (disch:=(refine Om.mk ?_;omega)) only[go_sem]<;>(try omega));all_goals exact⟨rfl,rfl⟩) ⟨by omega,fun j hj=>absurd hj (by omega)⟩ (fun i hi=>?_)
 obtain⟨hi,hk⟩:=hi
 simp only[go_sem]
 have hwl:=jL_len rs P set proj i
 by_cases hil:i<set.length
 ·have hq:=hat i hil
  have h1:=hq.1
  have ha:=pair_args hq.2 hj
  have hmo:=jmost_no hq.2 hj
  obtain⟨q,hq'⟩:∃q,P.getD (set.getD i default).toNat default=q:=⟨_,rfl⟩
  rw[hq'] at hq ha hmo
  have c1:=projected_fc rs proj q.l hj hq.2.1.1 hq.2.2.1
  have c2:=projected_fc rs proj q.r hj hq.2.1.2 hq.2.2.2
  have hY:JLess rs proj q→jL rs P set proj (i+1)=jL rs P set proj i++[set.getD i default]:=fun h=>jL_yes (by rw[hq'];exact h)
  have hN:¬JLess rs proj q→jL rs P set proj (i+1)=jL rs P set proj i:=fun h=>jL_no (by rw[hq'];exact h)
  have hM:¬JMost rs proj q→jR rs P set proj=([],false):=fun h=>jR_no fun e=>h (by have:=e i hil;rwa [hq'] at this)
  have hK:JMost rs proj q→∀j<i+1,JMost rs proj (P.getD (set.getD j default).toNat default):=fun h=>upto_succ hk (by rw[hq'];exact h)
  rw[hmo] at hM hK
  unfold JLess at hY hN
  clear hmo
  generalize pArg rs proj q.l=a at *
  generalize pArg rs proj q.r=b at *
  rw[←hq'] at c1 c2
  rcases Classical.em (a=[]) with ea|ea
  ·rw[hM fun h=>h.1.1 ea]
   subst ea
   rw[show optD []=D.sl .nil [] from by simp[optD,tkN]] at c1
   rcases Classical.em (b=[]) with eb|eb
   ·subst eb
    rw[show optD []=D.sl .nil [] from by simp[optD,tkN]] at c2
    repeat' first|((exfalso;omega))|refine sw_seq ?_|refine sw_block ?_|refine sw_skip ?_|refine sw_go 0 kp51 fun K hK=>?_|refine sw_goD kp51 (by kernel_rfl) fun K hK=>?_|((first|refine runL_go ?_|refine runQ_go ?_|refine sw_ret (ret0 ?_)|refine sw_ret ?_);simp (disch:=(refine Om.mk ?_;omega)) only[go_sem,Tryz.results51])|(refine hK.nil ?_;clear hK K;simp only[go_sem])|((first|refine runG_fork rfl rfl rfl rfl rfl ?_ ?_|refine runQG_fork rfl rfl rfl rfl rfl ?_ ?_|refine sw_cond rfl ?_ ?_)<;>intro h<;>try simp (disch:=(refine Om.mk ?_;omega)) only[go_sem] at h)|refine hK.skp rfl rfl ?_|refine hK.c0 rfl rfl rfl (c1) rfl rfl rfl ?_|refine hK.c0 rfl rfl rfl (c2) rfl rfl rfl ?_|(with_reducible refine And.intro (by first|omega|(simp only[lens];omega)) ?_)|fail
    all_goals first|exact⟨rfl,rfl⟩|exact⟨le0_refl _,rfl⟩|(refine⟨?_,rfl⟩;simp[le0])
   ·rw[show optD b=D.sl .any (b.map (.int .i64)) from by simp only[optD,tkN,if_neg eb]] at c2
    repeat' first|((exfalso;omega))|refine sw_seq ?_|refine sw_block ?_|refine sw_skip ?_|refine sw_go 0 kp51 fun K hK=>?_|refine sw_goD kp51 (by kernel_rfl) fun K hK=>?_|((first|refine runL_go ?_|refine runQ_go ?_|refine sw_ret (ret0 ?_)|refine sw_ret ?_);simp (disch:=(refine Om.mk ?_;omega)) only[go_sem,Tryz.results51])|(refine hK.nil ?_;clear hK K;simp only[go_sem])|((first|refine runG_fork rfl rfl rfl rfl rfl ?_ ?_|refine runQG_fork rfl rfl rfl rfl rfl ?_ ?_|refine sw_cond rfl ?_ ?_)<;>intro h<;>try simp (disch:=(refine Om.mk ?_;omega)) only[go_sem] at h)|refine hK.skp rfl rfl ?_|refine hK.c0 rfl rfl rfl (c1) rfl rfl rfl ?_|refine hK.c0 rfl rfl rfl (c2) rfl rfl rfl ?_|(with_reducible refine And.intro (by first|omega|(simp only[lens];omega)) ?_)|fail
    all_goals first|exact⟨rfl,rfl⟩|exact⟨le0_refl _,rfl⟩|(refine⟨?_,rfl⟩;simp[le0])
  have hal:a.map (D.int .i64)≠[]:=by simpa using ea
  rw[show optD a=D.sl .any (a.map (.int .i64)) from by simp only[optD,tkN,if_neg ea]] at c1
  rcases Classical.em (b=[]) with eb|eb
  ·rw[hM fun h=>h.1.2 eb]
   subst eb
   rw[show optD []=D.sl .nil [] from by simp[optD,tkN]] at c2
   repeat' first|((exfalso;omega))|refine sw_seq ?_|refine sw_block ?_|refine sw_skip ?_|refine sw_go 0 kp51 fun K hK=>?_|refine sw_goD kp51 (by kernel_rfl) fun K hK=>?_|((first|refine runL_go ?_|refine runQ_go ?_|refine sw_ret (ret0 ?_)|refine sw_ret ?_);simp (disch:=(refine Om.mk ?_;omega)) only[go_sem,Tryz.results51])|(refine hK.nil ?_;clear hK K;simp only[go_sem])|((first|refine runG_fork rfl rfl rfl rfl rfl ?_ ?_|refine runQG_fork rfl rfl rfl rfl rfl ?_ ?_|refine sw_cond rfl ?_ ?_)<;>intro h<;>try simp (disch:=(refine Om.mk ?_;omega)) only[go_sem] at h)|refine hK.skp rfl rfl ?_|refine hK.c0 rfl rfl rfl (c1) rfl rfl rfl ?_|refine hK.c0 rfl rfl rfl (c2) rfl rfl rfl ?_|(with_reducible refine And.intro (by first|omega|(simp only[lens];omega)) ?_)|fail
   all_goals first|exact⟨rfl,rfl⟩|exact⟨le0_refl _,rfl⟩|(refine⟨?_,rfl⟩;simp[le0])
  have hbl:b.map (D.int .i64)≠[]:=by simpa using eb
  rw[show optD b=D.sl .any (b.map (.int .i64)) from by simp only[optD,tkN,if_neg eb]] at c2
  have cL0:=hasSub0_fc rs a b (ha.1 ea)
  have cL1:=hasSub_fc rs a b (ha.1 ea)
  repeat' first|((exfalso;omega))|refine sw_seq ?_|refine sw_block ?_|refine sw_inBlock ?_|refine sw_skip ?_|refine sw_go 0 kp51 fun K hK=>?_|refine sw_goD kp51 (by kernel_rfl) fun K hK=>?_|((first|refine runL_go ?_|refine runQ_go ?_|refine sw_ret (ret0 ?_)|refine sw_ret ?_);simp (disch:=(refine Om.mk ?_;omega)) only[go_sem,Tryz.results51])|(refine hK.nil ?_;clear hK K;simp only[go_sem])|((first|refine runG_fork rfl rfl rfl rfl rfl ?_ ?_|refine runQG_fork rfl rfl rfl rfl rfl ?_ ?_|refine sw_cond rfl ?_ ?_)<;>intro h<;>try simp (disch:=(refine Om.mk ?_;omega)) only[go_sem] at h)|refine sw_loopEnd ?_|refine hK.c0 rfl rfl rfl (c1) rfl rfl rfl ?_|refine hK.c0 rfl rfl rfl (c2) rfl rfl rfl ?_|refine hK.c0 rfl rfl rfl (cL0) rfl rfl rfl ?_|refine hK.c0 rfl rfl rfl (cL1) rfl rfl rfl ?_|(with_reducible refine And.intro (by first|omega|(simp only[lens];omega)) ?_)|fail
  all_goals first
   | (rw[hM fun h=>absurd h.2 (by assumption)];first|exact⟨rfl,rfl⟩|exact⟨le0_refl _,rfl⟩|(refine⟨?_,rfl⟩;simp[le0];done))
   | exact⟨i+1,(by(refine covers_mk0 rfl rfl ?_ ?_ ?_ ?_<;>simp (disch:=(refine Om.mk ?_;omega)) only[go_sem]<;>(try omega));rw[hY ⟨⟨ea,eb⟩,by assumption⟩];exact⟨rfl,by omega⟩),⟨by omega,hK ⟨⟨ea,eb⟩,by assumption⟩⟩,by omega⟩
   | exact⟨i+1,(by(refine covers_mk0 rfl rfl ?_ ?_ ?_ ?_<;>simp (disch:=(refine Om.mk ?_;omega)) only[go_sem]<;>(try omega));rw[hN fun h=>absurd h.2 (by assumption)];exact⟨rfl,by omega⟩),⟨by omega,hK ⟨⟨ea,eb⟩,by assumption⟩⟩,by omega⟩
   | trace_state
 ·repeat' first|((exfalso;omega))|(refine sw_lab 10 p (k:=58000) rfl (by simp) hp ?_;simp only[go_sem])|refine sw_seq ?_|refine sw_go 0 kp51 fun K hK=>?_|((first|refine runL_go ?_|refine runQ_go ?_|refine sw_ret (ret0 ?_)|refine sw_ret ?_);simp (disch:=(refine Om.mk ?_;omega)) only[go_sem,Tryz.results51])|(refine hK.nil ?_;clear hK K;simp only[go_sem])|((first|refine runG_fork rfl rfl rfl rfl rfl ?_ ?_|refine runQG_fork rfl rfl rfl rfl rfl ?_ ?_|refine sw_cond rfl ?_ ?_)<;>intro h<;>try simp (disch:=(refine Om.mk ?_;omega)) only[go_sem] at h)|refine sw_exit rfl ?_|fail
  rw[jR_yes fun j hj'=>hk j (by omega),show i=set.length by omega]
  exact⟨rfl,rfl⟩
end Go.Proofs.YtohnfgligddanaaGreat
end
