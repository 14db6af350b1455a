/-
  Sl, A29, A23, A23b, A23c, A23d, A23e, A01b, A23w, K1d, S1p, N0p, one behind the other.
-/
import Derived.Test.YtkfkdgginfpdnaaGreatDoorSet
import Derived.Test.YtkfkdgginfpdnaaGreatDoorG0
namespace Go.Proofs.YtkfkdgginfpdnaaGreatDoor
open Go Go.Lg
set_option linter.unusedSimpArgs false
set_option linter.unusedVariables false
set_option maxHeartbeats 4000000
section
attribute [local irreducible] SW runL runQ runG runQG FC Ret1
attribute [go_sem] Tryz.results71 Tryz.ntmps71
attribute [go_sem] Tryz.results125 Tryz.ntmps125
def kp140:List (Nat×List Nat):=[(0,[0,1]),(1,[0,1,7,8]),(2,[0,1,7,8,9]),(3,[0,1,5,7,8]),(4,[0,1,5,7,8,16]),(5,[4]),(6,[0,1,7,8]),(7,[4])]
attribute [go_sem] kp140 Tryz.results140 Tryz.ntmps140
theorem indexFuncLine_fc (tk:Tk) (xs:List (LineT)) (p:LineT→Prop) (f:Nat) (cap:List D) (ro:List (Nat×List D)) (hro:∀p∈ro,Lg.look ro p.1=some p.2) (hf:∀x∈xs,FC S f ro [] [] ([LineD x]++cap) (.bool (tst (p x))) [] []):FC S 140 ro [] [] [.sl tk (xs.map LineD),.fn f cap] (.int .i64 (fidx p xs)) [] []:=by
 refine fcb Tryz.func140 fun B=>?_
 refine sw_bndg 0 fun hb0=>?_
 repeat' first|exact h.elim|refine sw_n ?_|refine sw_go 0 kp140 fun K hK=>?_|refine fun (K:KT) (hK:KOk S 0 _ _ _ K)=>?_|refine runL_g ?_|refine sw_retg0 ?_|refine sw_retg ?_|(refine hK.n0 ?_;clear hK K)|refine sw_condg rfl (fun h=>?_) fun h=>?_|refine sw_exit rfl ?_|refine sw_loopEnd ?_|with_reducible refine and_o ?_|apply tTT
 refine sw_loopU (ι:=Nat) (fun i=>[(8,.int .i64 i)]) (fun _=>[]) (fun i=>i≤xs.length∧(∀j<i,¬p (xs.getD j default))) (fun i=>xs.length-i) 0 (by(refine covers_mk0 rfl rfl ?_ ?_ ?_ ?_<;>simp (disch:=(refine Om.mk ?_;omega)) only[go_sem]<;>(try omega));exact boxLe_mk hro) ⟨by omega,?_⟩ (fun i ⟨hi,hj⟩=>?_)
 rotate_left
 simp only[go_sem]
 repeat' first|exact h.elim|refine sw_n ?_|refine sw_go 0 kp140 fun K hK=>?_|refine fun (K:KT) (hK:KOk S 0 _ _ _ K)=>?_|refine runL_g ?_|refine sw_retg0 ?_|refine sw_retg ?_|(refine hK.n0 ?_;clear hK K)|refine sw_condg rfl (fun h=>?_) fun h=>?_|refine sw_exit rfl ?_|refine sw_loopEnd ?_|with_reducible refine and_o ?_|apply tTT
 ·refine hK.call rfl rfl rfl (hf (xs.getD i default) (getD_mem _ _ (by omega))) ⟨hro,rfl,rfl,(by simp only[dstOk,Nat.reduceLT])⟩ ?_
  repeat' first|exact h.elim|refine sw_n ?_|refine sw_go 0 kp140 fun K hK=>?_|refine fun (K:KT) (hK:KOk S 0 _ _ _ K)=>?_|refine runL_g ?_|refine sw_retg0 ?_|refine sw_retg ?_|(refine hK.n0 ?_;clear hK K)|refine sw_condg rfl (fun h=>?_) fun h=>?_|refine sw_exit rfl ?_|refine sw_loopEnd ?_|with_reducible refine and_o ?_|apply tTT
  ·exact(fidx_at hj (by omega) h).symm
  ·exact⟨i+1,(by(refine covers_mk0 rfl rfl ?_ ?_ ?_ ?_<;>simp (disch:=(refine Om.mk ?_;omega)) only[go_sem]<;>(try omega));exact boxLe_mk hro),⟨by omega,upto_succ hj h⟩,by omega⟩
 ·exact(fidx_none fun j hj'=>hj j (by omega)).symm
 ·intro j hj';omega
def kp162:List (Nat×List Nat):=[(0,[0,1]),(1,[0,1,7,8]),(2,[0,1,7,8,9]),(3,[0,1,5,7,8]),(4,[0,1,5,7,8,16]),(5,[4]),(6,[0,1,7,8]),(7,[4])]
attribute [go_sem] kp162 Tryz.results162 Tryz.ntmps162
theorem indexFuncInt64S_fc (tk:Tk) (xs:List (List Int)) (p:List Int→Prop) (f:Nat) (cap:List D) (ro:List (Nat×List D)) (hro:∀p∈ro,Lg.look ro p.1=some p.2) (hf:∀x∈xs,FC S f ro [] [] ([.sl .any (x.map (.int .i64))]++cap) (.bool (tst (p x))) [] []):FC S 162 ro [] [] [.sl tk (xs.map IntsD),.fn f cap] (.int .i64 (fidx p xs)) [] []:=by
 refine fcb Tryz.func162 fun B=>?_
 refine sw_bndg 0 fun hb0=>?_
 repeat' first|exact h.elim|refine sw_n ?_|refine sw_go 0 kp162 fun K hK=>?_|refine fun (K:KT) (hK:KOk S 0 _ _ _ K)=>?_|refine runL_g ?_|refine sw_retg0 ?_|refine sw_retg ?_|(refine hK.n0 ?_;clear hK K)|refine sw_condg rfl (fun h=>?_) fun h=>?_|refine sw_exit rfl ?_|refine sw_loopEnd ?_|with_reducible refine and_o ?_|apply tTT
 refine sw_loopU (ι:=Nat) (fun i=>[(8,.int .i64 i)]) (fun _=>[]) (fun i=>i≤xs.length∧(∀j<i,¬p (xs.getD j default))) (fun i=>xs.length-i) 0 (by(refine covers_mk0 rfl rfl ?_ ?_ ?_ ?_<;>simp (disch:=(refine Om.mk ?_;omega)) only[go_sem]<;>(try omega));exact boxLe_mk hro) ⟨by omega,?_⟩ (fun i ⟨hi,hj⟩=>?_)
 rotate_left
 simp only[go_sem]
 repeat' first|exact h.elim|refine sw_n ?_|refine sw_go 0 kp162 fun K hK=>?_|refine fun (K:KT) (hK:KOk S 0 _ _ _ K)=>?_|refine runL_g ?_|refine sw_retg0 ?_|refine sw_retg ?_|(refine hK.n0 ?_;clear hK K)|refine sw_condg rfl (fun h=>?_) fun h=>?_|refine sw_exit rfl ?_|refine sw_loopEnd ?_|with_reducible refine and_o ?_|apply tTT
 ·refine hK.call rfl rfl rfl (hf (xs.getD i default) (getD_mem _ _ (by omega))) ⟨hro,rfl,rfl,(by simp only[dstOk,Nat.reduceLT])⟩ ?_
  repeat' first|exact h.elim|refine sw_n ?_|refine sw_go 0 kp162 fun K hK=>?_|refine fun (K:KT) (hK:KOk S 0 _ _ _ K)=>?_|refine runL_g ?_|refine sw_retg0 ?_|refine sw_retg ?_|(refine hK.n0 ?_;clear hK K)|refine sw_condg rfl (fun h=>?_) fun h=>?_|refine sw_exit rfl ?_|refine sw_loopEnd ?_|with_reducible refine and_o ?_|apply tTT
  ·exact(fidx_at hj (by omega) h).symm
  ·exact⟨i+1,(by(refine covers_mk0 rfl rfl ?_ ?_ ?_ ?_<;>simp (disch:=(refine Om.mk ?_;omega)) only[go_sem]<;>(try omega));exact boxLe_mk hro),⟨by omega,upto_succ hj h⟩,by omega⟩
 ·exact(fidx_none fun j hj'=>hj j (by omega)).symm
 ·intro j hj';omega
def kp171:List (Nat×List Nat):=[(0,[0,1]),(1,[0,1,7,8]),(2,[0,1,7,8,9]),(3,[0,1,5,7,8]),(4,[0,1,5,7,8,16]),(5,[4]),(6,[0,1,7,8]),(7,[4])]
attribute [go_sem] kp171 Tryz.results171 Tryz.ntmps171
theorem indexFuncInt64_fc (tk:Tk) (xs:List (Int)) (p:Int→Prop) (f:Nat) (cap:List D) (ro:List (Nat×List D)) (hro:∀p∈ro,Lg.look ro p.1=some p.2) (hf:∀x∈xs,FC S f ro [] [] ([.int .i64 x]++cap) (.bool (tst (p x))) [] []):FC S 171 ro [] [] [.sl tk (xs.map (.int .i64)),.fn f cap] (.int .i64 (fidx p xs)) [] []:=by
 refine fcb Tryz.func171 fun B=>?_
 refine sw_bndg 0 fun hb0=>?_
 repeat' first|exact h.elim|refine sw_n ?_|refine sw_go 0 kp171 fun K hK=>?_|refine fun (K:KT) (hK:KOk S 0 _ _ _ K)=>?_|refine runL_g ?_|refine sw_retg0 ?_|refine sw_retg ?_|(refine hK.n0 ?_;clear hK K)|refine sw_condg rfl (fun h=>?_) fun h=>?_|refine sw_exit rfl ?_|refine sw_loopEnd ?_|with_reducible refine and_o ?_|apply tTT
 refine sw_loopU (ι:=Nat) (fun i=>[(8,.int .i64 i)]) (fun _=>[]) (fun i=>i≤xs.length∧(∀j<i,¬p (xs.getD j default))) (fun i=>xs.length-i) 0 (by(refine covers_mk0 rfl rfl ?_ ?_ ?_ ?_<;>simp (disch:=(refine Om.mk ?_;omega)) only[go_sem]<;>(try omega));exact boxLe_mk hro) ⟨by omega,?_⟩ (fun i ⟨hi,hj⟩=>?_)
 rotate_left
 simp only[go_sem]
 repeat' first|exact h.elim|refine sw_n ?_|refine sw_go 0 kp171 fun K hK=>?_|refine fun (K:KT) (hK:KOk S 0 _ _ _ K)=>?_|refine runL_g ?_|refine sw_retg0 ?_|refine sw_retg ?_|(refine hK.n0 ?_;clear hK K)|refine sw_condg rfl (fun h=>?_) fun h=>?_|refine sw_exit rfl ?_|refine sw_loopEnd ?_|with_reducible refine and_o ?_|apply tTT
 ·refine hK.call rfl rfl rfl (hf (xs.getD i default) (getD_mem _ _ (by omega))) ⟨hro,rfl,rfl,(by simp only[dstOk,Nat.reduceLT])⟩ ?_
  repeat' first|exact h.elim|refine sw_n ?_|refine sw_go 0 kp171 fun K hK=>?_|refine fun (K:KT) (hK:KOk S 0 _ _ _ K)=>?_|refine runL_g ?_|refine sw_retg0 ?_|refine sw_retg ?_|(refine hK.n0 ?_;clear hK K)|refine sw_condg rfl (fun h=>?_) fun h=>?_|refine sw_exit rfl ?_|refine sw_loopEnd ?_|with_reducible refine and_o ?_|apply tTT
  ·exact(fidx_at hj (by omega) h).symm
  ·exact⟨i+1,(by(refine covers_mk0 rfl rfl ?_ ?_ ?_ ?_<;>simp (disch:=(refine Om.mk ?_;omega)) only[go_sem]<;>(try omega));exact boxLe_mk hro),⟨by omega,upto_succ hj h⟩,by omega⟩
 ·exact(fidx_none fun j hj'=>hj j (by omega)).symm
 ·intro j hj';omega
attribute [go_sem] Tryz.results33 Tryz.ntmps33
attribute [go_sem] Tryz.results72 Tryz.ntmps72
def kp99:List (Nat×List Nat):=[(0,[0,1]),(1,[4])]
attribute [go_sem] kp99 Tryz.results99 Tryz.ntmps99
theorem containsFuncLine_fc (tk:Tk) (xs:List (LineT)) (p:LineT→Prop) (f:Nat) (cap:List D) (ro:List (Nat×List D)) (hro:∀p∈ro,Lg.look ro p.1=some p.2) (hf:∀x∈xs,FC S f ro [] [] ([LineD x]++cap) (.bool (tst (p x))) [] []):FC S 99 ro [] [] [.sl tk (xs.map LineD),.fn f cap] (.bool (tst (∃x∈xs,p x))) [] []:=by
 refine fcb Tryz.func99 fun B=>?_
 repeat' first|refine sw_n ?_|refine sw_go 0 kp99 fun K hK=>?_|refine fun (K:KT) (hK:KOk S 0 _ _ _ K)=>?_|refine runL_g ?_|refine sw_retg0 ?_|refine sw_retg ?_|(refine hK.n0 ?_;clear hK K)|refine sw_loopEnd ?_|with_reducible refine and_o ?_|apply tTT
 refine hK.call rfl rfl rfl (indexFuncLine_fc _ _ p _ _ ro hro hf) ⟨hro,rfl,rfl,(by simp only[dstOk,Nat.reduceLT])⟩ ?_
 repeat' first|refine sw_n ?_|refine sw_go 0 kp99 fun K hK=>?_|refine fun (K:KT) (hK:KOk S 0 _ _ _ K)=>?_|refine runL_g ?_|refine sw_retg0 ?_|refine sw_retg ?_|(refine hK.n0 ?_;clear hK K)|refine sw_loopEnd ?_|with_reducible refine and_o ?_|apply tTT
 exact fidx_ge
def kp145:List (Nat×List Nat):=[(0,[0,1]),(1,[4])]
attribute [go_sem] kp145 Tryz.results145 Tryz.ntmps145
theorem containsFuncInt64S_fc (tk:Tk) (xs:List (List Int)) (p:List Int→Prop) (f:Nat) (cap:List D) (ro:List (Nat×List D)) (hro:∀p∈ro,Lg.look ro p.1=some p.2) (hf:∀x∈xs,FC S f ro [] [] ([.sl .any (x.map (.int .i64))]++cap) (.bool (tst (p x))) [] []):FC S 145 ro [] [] [.sl tk (xs.map IntsD),.fn f cap] (.bool (tst (∃x∈xs,p x))) [] []:=by
 refine fcb Tryz.func145 fun B=>?_
 repeat' first|refine sw_n ?_|refine sw_go 0 kp145 fun K hK=>?_|refine fun (K:KT) (hK:KOk S 0 _ _ _ K)=>?_|refine runL_g ?_|refine sw_retg0 ?_|refine sw_retg ?_|(refine hK.n0 ?_;clear hK K)|with_reducible refine and_o ?_|apply tTT
 refine hK.call rfl rfl rfl (indexFuncInt64S_fc _ _ p _ _ ro hro hf) ⟨hro,rfl,rfl,(by simp only[dstOk,Nat.reduceLT])⟩ ?_
 repeat' first|refine sw_n ?_|refine sw_go 0 kp145 fun K hK=>?_|refine fun (K:KT) (hK:KOk S 0 _ _ _ K)=>?_|refine runL_g ?_|refine sw_retg0 ?_|refine sw_retg ?_|(refine hK.n0 ?_;clear hK K)|with_reducible refine and_o ?_|apply tTT
 exact fidx_ge
def kp158:List (Nat×List Nat):=[(0,[0,1]),(1,[4])]
attribute [go_sem] kp158 Tryz.results158 Tryz.ntmps158
theorem containsFuncInt64_fc (tk:Tk) (xs:List (Int)) (p:Int→Prop) (f:Nat) (cap:List D) (ro:List (Nat×List D)) (hro:∀p∈ro,Lg.look ro p.1=some p.2) (hf:∀x∈xs,FC S f ro [] [] ([.int .i64 x]++cap) (.bool (tst (p x))) [] []):FC S 158 ro [] [] [.sl tk (xs.map (.int .i64)),.fn f cap] (.bool (tst (∃x∈xs,p x))) [] []:=by
 refine fcb Tryz.func158 fun B=>?_
 repeat' first|refine sw_n ?_|refine sw_go 0 kp158 fun K hK=>?_|refine fun (K:KT) (hK:KOk S 0 _ _ _ K)=>?_|refine runL_g ?_|refine sw_retg0 ?_|refine sw_retg ?_|(refine hK.n0 ?_;clear hK K)|with_reducible refine and_o ?_|apply tTT
 refine hK.call rfl rfl rfl (indexFuncInt64_fc _ _ p _ _ ro hro hf) ⟨hro,rfl,rfl,(by simp only[dstOk,Nat.reduceLT])⟩ ?_
 repeat' first|refine sw_n ?_|refine sw_go 0 kp158 fun K hK=>?_|refine fun (K:KT) (hK:KOk S 0 _ _ _ K)=>?_|refine runL_g ?_|refine sw_retg0 ?_|refine sw_retg ?_|(refine hK.n0 ?_;clear hK K)|with_reducible refine and_o ?_|apply tTT
 exact fidx_ge
def kp147:List (Nat×List Nat):=[(0,[0,1]),(1,[0,1,10]),(2,[4]),(3,[0,1,12,13]),(4,[0,1,12,13,14]),(5,[0,1,5,12,13]),(6,[0,1,12,13,24]),(7,[4]),(8,[0,1,12,13]),(9,[4])]
attribute [go_sem] kp147 Tryz.results147 Tryz.ntmps147
theorem equalInt64_fc (tk tk':Tk) (xs ys:List (Int)):FC S 147 [] [] [] [.sl tk (xs.map (.int .i64)),.sl tk' (ys.map (.int .i64))] (.bool (tst (xs=ys))) [] []:=by
 refine fcb Tryz.func147 fun B=>?_
 refine sw_bndg 0 fun hb0=>?_
 refine sw_bndg 1 fun hb1=>?_
 repeat' first|exact h.elim|refine sw_n ?_|refine sw_go 0 kp147 fun K hK=>?_|refine runL_g ?_|refine sw_retg0 ?_|(refine hK.n0 ?_;clear hK K)|refine sw_condg rfl (fun h=>?_) fun h=>?_|apply tTT
 ·intro e;exact h (by rw[e])
 refine sw_loopU (ι:=Nat) (fun i=>[(13,.int .i64 i)]) (fun _=>[]) (fun i=>i≤xs.length∧(∀j<i,xs.getD j default=ys.getD j default)) (fun i=>xs.length-i) 0 cvA ⟨by omega,?_⟩ (fun i ⟨hi,hj⟩=>?_)
 rotate_left
 simp only[go_sem]
 repeat' first|exact h.elim|refine sw_n ?_|refine sw_go 0 kp147 fun K hK=>?_|refine sw_goD kp147 (by kernel_rfl) fun K hK=>?_|refine runL_g ?_|refine runQ_g ?_|refine sw_retg0 ?_|(refine hK.n0 ?_;clear hK K)|refine sw_condg rfl (fun h=>?_) fun h=>?_|refine sw_exit rfl ?_|refine sw_loopEnd ?_|with_reducible refine and_o ?_|apply tTT
 ·intro e;exact h (by rw[e])
 ·exact⟨i+1,by(refine covers_mk0 rfl rfl ?_ ?_ ?_ ?_<;>simp (disch:=(refine Om.mk ?_;omega)) only[go_sem]<;>(try omega)),⟨by omega,upto_succ hj (by assumption)⟩,by omega⟩
 ·exact ext_getD (by assumption) fun j hj'=>hj j (by omega)
 ·intro j hj';omega
def kp138:List (Nat×List Nat):=[(0,[0,1]),(1,[0,1,10]),(2,[4]),(3,[0,1,5]),(4,[0,1,5,14]),(6,[0,1,5,25]),(7,[4]),(5,[0,1,5]),(8,[4])]
attribute [go_sem] kp138 Tryz.results138 Tryz.ntmps138
theorem specSameTerm_fc (tk tk':Tk) (xs ys:List Int):FC S 138 [] [] [] [.sl tk (xs.map (.int .i64)),.sl tk' (ys.map (.int .i64))] (.bool (tst (xs=ys))) [] []:=by
 refine fcb Tryz.func138 fun B=>?_
 refine sw_bndg 0 fun hb0=>?_
 refine sw_bndg 1 fun hb1=>?_
 repeat' first|exact h.elim|refine sw_n ?_|refine sw_go 0 kp138 fun K hK=>?_|refine runL_g ?_|refine sw_retg0 ?_|(refine hK.n0 ?_;clear hK K)|refine sw_condg rfl (fun h=>?_) fun h=>?_|apply tTT
 ·intro e;exact h (by rw[e])
 refine sw_loopU (ι:=Nat) (fun i=>[(5,.int .i64 i)]) (fun _=>[]) (fun i=>i≤xs.length∧(∀j<i,xs.getD j default=ys.getD j default)) (fun i=>xs.length-i) 0 cvA ⟨by omega,?_⟩ (fun i ⟨hi,hj⟩=>?_)
 rotate_left
 simp only[go_sem]
 repeat' first|exact h.elim|refine sw_n ?_|refine sw_go 0 kp138 fun K hK=>?_|refine sw_goD kp138 (by kernel_rfl) fun K hK=>?_|refine runL_g ?_|refine runQ_g ?_|refine sw_retg0 ?_|(refine hK.n0 ?_;clear hK K)|refine sw_condg rfl (fun h=>?_) fun h=>?_|refine sw_exit rfl ?_|refine sw_loopEnd ?_|with_reducible refine and_o ?_|apply tTT
 ·intro e;exact h (by rw[e])
 ·exact⟨i+1,by(refine covers_mk0 rfl rfl ?_ ?_ ?_ ?_<;>simp (disch:=(refine Om.mk ?_;omega)) only[go_sem]<;>(try omega)),⟨by omega,upto_succ hj (by assumption)⟩,by omega⟩
 ·exact ext_getD (by assumption) fun j hj'=>hj j (by omega)
 ·intro j hj';omega
def SetAt (xs:List Int) (n:Int) (j:Nat):Prop:=(0≤xs.getD j default∧xs.getD j default≤n-1)∧(0<j→xs.getD (j-1) default<xs.getD j default)
def SetP (xs:List Int) (n:Int):Prop:=∀j<xs.length,SetAt xs n j
theorem SetP.ge {xs:List Int} {n:Int} (h:SetP xs n):∀j<xs.length,(j:Int)≤xs.getD j default
 | 0,h0=>by have:=(h 0 h0).1;omega
 | j+1,h0=>by
  have h1:=SetP.ge h j (by omega)
  have h2:=(h (j+1) h0).2 (by omega)
  simp only[Nat.add_sub_cancel] at h2
  omega
theorem SetP.len {xs:List Int} {n:Int} (h:SetP xs n) (hn:0≤n):(xs.length:Int)≤n:=by
 by_cases h0:xs.length=0
 ·omega
 ·have h1:=h.ge (xs.length-1) (by omega)
  have h2:=(h (xs.length-1) (by omega)).1
  omega
def InP (n:Int) (xs:List Int):Prop:=∀j<xs.length,0≤xs.getD j default∧xs.getD j default≤n-1
def cmpI (a b:Int):Int:=if a<b then -1 else if b<a then 1 else 0
def cmpL:List Int→List Int→Int
 | [],[]=>0
 | [],_::_=>-1
 | _::_,[]=>1
 | x::xs,y::ys=>if cmpI x y≠0 then cmpI x y else cmpL xs ys
def kp86:List (Nat×List Nat):=[(0,[0,1]),(1,[0,1,5]),(2,[0,1,5,9]),(4,[0,1,5,35]),(5,[4]),(3,[0,1,5]),(6,[4])]
attribute [go_sem] kp86 Tryz.results86 Tryz.ntmps86
theorem l23Set_fc (tk:Tk) (xs:List Int) (n:Int) (hn:0≤n∧n≤9223372036854775807):FC S 86 [] [] [] [.sl tk (xs.map (.int .i64)),.int .i64 n] (.bool (tst (SetP xs n))) [] []:=by
 refine fcb Tryz.func86 fun B=>?_
 refine sw_bndg 0 fun hb0=>?_
 repeat' first|exact h.elim|refine sw_n ?_|refine sw_go 0 kp86 fun K hK=>?_|refine fun (K:KT) (hK:KOk S 0 _ _ _ K)=>?_|refine sw_goD kp86 (by kernel_rfl) fun K hK=>?_|refine runL_g ?_|refine runQ_g ?_|refine sw_retg0 ?_|refine sw_retg ?_|(refine hK.n0 ?_;clear hK K)|refine runG_fk (fun h=>?_) fun h=>?_|refine runQG_fk (fun h=>?_) fun h=>?_|refine sw_condg rfl (fun h=>?_) fun h=>?_|refine hK.skp rfl rfl ?_|refine sw_exit rfl ?_|refine sw_loopEnd ?_|(refine hK.fork rfl rfl rfl ?_ ?_<;>intro h<;>try simp (disch:=(refine Om.mk ?_;omega)) only[go_sem] at h)|with_reducible refine and_o ?_|apply tTT
 refine sw_loopU (ι:=Nat) (fun i=>[(5,.int .i64 i)]) (fun _=>[]) (fun i=>i≤xs.length∧(∀j<i,SetAt xs n j)) (fun i=>xs.length-i) 0 cvA ⟨by omega,?_⟩ (fun i ⟨hi,hj⟩=>?_)
 rotate_left
 simp only[go_sem]
 repeat' first|exact h.elim|refine sw_n ?_|refine sw_go 0 kp86 fun K hK=>?_|refine fun (K:KT) (hK:KOk S 0 _ _ _ K)=>?_|refine sw_goD kp86 (by kernel_rfl) fun K hK=>?_|refine runL_g ?_|refine runQ_g ?_|refine sw_retg0 ?_|refine sw_retg ?_|(refine hK.n0 ?_;clear hK K)|refine runG_fk (fun h=>?_) fun h=>?_|refine runQG_fk (fun h=>?_) fun h=>?_|refine sw_condg rfl (fun h=>?_) fun h=>?_|refine hK.skp rfl rfl ?_|refine sw_exit rfl ?_|refine sw_loopEnd ?_|refine hK.c1 rfl rfl rfl (l1In_fc _ _ _) ?_|(refine hK.fork rfl rfl rfl ?_ ?_<;>intro h<;>try simp (disch:=(refine Om.mk ?_;omega)) only[go_sem] at h)|with_reducible refine and_o ?_|apply tTT
 ·intro h2;have:=h2 i (by omega);simp only[SetAt] at this;omega
 ·intro h2;have:=h2 i (by omega);simp only[SetAt] at this;omega
 ·exact⟨i+1,by(refine covers_mk0 rfl rfl ?_ ?_ ?_ ?_<;>simp (disch:=(refine Om.mk ?_;omega)) only[go_sem]<;>(try omega)),⟨by omega,upto_succ hj ⟨by assumption,fun _=>by assumption⟩⟩,by omega⟩
 ·exact⟨i+1,by(refine covers_mk0 rfl rfl ?_ ?_ ?_ ?_<;>simp (disch:=(refine Om.mk ?_;omega)) only[go_sem]<;>(try omega)),⟨by omega,upto_succ hj ⟨by assumption,fun h0=>by omega⟩⟩,by omega⟩
 ·exact fun j hj'=>hj j (by omega)
 ·intro j hj';omega
def kp192:List (Nat×List Nat):=[(0,[0]),(1,[2])]
attribute [go_sem] kp192 Tryz.results192 Tryz.ntmps192
theorem isNaN_fc (a:Int):FC S 192 [] [] [] [.int .i64 a] (.bool false) [] []:=by
 refine fcb Tryz.func192 fun B=>?_
 repeat' first|refine sw_n ?_|refine sw_go 0 kp192 fun K hK=>?_|refine fun (K:KT) (hK:KOk S 0 _ _ _ K)=>?_|refine runL_g ?_|refine sw_retg0 ?_|refine sw_retg ?_|(refine hK.n0 ?_;clear hK K)|with_reducible refine and_o ?_|apply tTT
def kp183:List (Nat×List Nat):=[(0,[0,1]),(1,[0,1,5]),(2,[0,1,5,6]),(3,[0,1,6,11]),(4,[12]),(5,[4]),(6,[4]),(7,[0,1,13]),(8,[4]),(9,[0,1,16]),(10,[4]),(11,[19]),(12,[4]),(13,[4])]
attribute [go_sem] kp183 Tryz.results183 Tryz.ntmps183
theorem cmpCompare_fc (a b:Int):FC S 183 [] [] [] [.int .i64 a,.int .i64 b] (.int .i64 (cmpI a b)) [] []:=by
 refine fcb Tryz.func183 fun B=>?_
 repeat' first|exact h.elim|refine sw_n ?_|refine sw_go 0 kp183 fun K hK=>?_|refine fun (K:KT) (hK:KOk S 0 _ _ _ K)=>?_|refine runL_g ?_|refine sw_retg0 ?_|refine sw_retg ?_|(refine hK.n0 ?_;clear hK K)|refine sw_condg rfl (fun h=>?_) fun h=>?_|refine hK.c1 rfl rfl rfl (isNaN_fc _) ?_|with_reducible refine and_o ?_|apply tTT
 all_goals (unfold cmpI;split<;>first|omega|(split<;>omega))
def kp165:List (Nat×List Nat):=[(0,[0,1]),(1,[0,1,9,10,11]),(2,[0,1,9,10,11,12]),(3,[0,1,5,6,9,10,11]),(4,[0,1,5,6,9,10,11,19]),(5,[4]),(6,[0,1,6,7,9,10,11]),(7,[0,1,8,9,10,11]),(8,[0,1,8,9,10,11,28]),(9,[4]),(10,[0,1,9,10,11]),(11,[35]),(12,[4]),(13,[4])]
attribute [go_sem] kp165 Tryz.results165 Tryz.ntmps165
theorem compare_fc (tk tk':Tk) (xs ys:List Int):FC S 165 [] [] [] [.sl tk (xs.map (.int .i64)),.sl tk' (ys.map (.int .i64))] (.int .i64 (cmpL xs ys)) [] []:=by
 refine fcb Tryz.func165 fun B=>?_
 refine sw_bndg 0 fun hb0=>?_
 refine sw_bndg 1 fun hb1=>?_
 repeat' first|exact h.elim|refine sw_n ?_|refine sw_go 0 kp165 fun K hK=>?_|refine fun (K:KT) (hK:KOk S 0 _ _ _ K)=>?_|refine runL_g ?_|refine sw_retg0 ?_|refine sw_retg ?_|(refine hK.n0 ?_;clear hK K)|refine sw_condg rfl (fun h=>?_) fun h=>?_|refine sw_exit rfl ?_|refine sw_loopEnd ?_|with_reducible refine and_o ?_|apply tTT
 refine sw_loopU (ι:=Nat) (fun i=>[(11,.int .i64 i)]) (fun _=>[]) (fun i=>i≤xs.length∧(i≤ys.length∧cmpL xs ys=cmpL (xs.drop i) (ys.drop i))) (fun i=>xs.length-i) 0 cvA ⟨by omega,?_⟩ (fun i ⟨hi,hj⟩=>?_)
 rotate_left
 simp only[go_sem]
 have hx:i<xs.length→xs.drop i=xs.getD i default::xs.drop (i+1):=fun h=>by rw[List.drop_eq_getElem_cons h];simp[List.getD,List.getElem?_eq_getElem h]
 have hy:i<ys.length→ys.drop i=ys.getD i default::ys.drop (i+1):=fun h=>by rw[List.drop_eq_getElem_cons h];simp[List.getD,List.getElem?_eq_getElem h]
 have hxe:xs.length≤i→xs.drop i=[]:=fun h=>List.drop_of_length_le h
 have hye:ys.length≤i→ys.drop i=[]:=fun h=>List.drop_of_length_le h
 repeat' first|exact h.elim|refine sw_n ?_|refine sw_go 0 kp165 fun K hK=>?_|refine fun (K:KT) (hK:KOk S 0 _ _ _ K)=>?_|refine runL_g ?_|refine sw_retg0 ?_|refine sw_retg ?_|(refine hK.n0 ?_;clear hK K)|refine sw_condg rfl (fun h=>?_) fun h=>?_|refine sw_exit rfl ?_|refine sw_loopEnd ?_|refine hK.c1 rfl rfl rfl (cmpCompare_fc _ _) ?_|with_reducible refine and_o ?_|apply tTT
 ·rw[hj.2,hx (by omega),hye (by omega)];rfl
 ·rw[hj.2,hx (by omega),hy (by omega),cmpL,if_pos (by assumption)]
 ·refine⟨i+1,by(refine covers_mk0 rfl rfl ?_ ?_ ?_ ?_<;>simp (disch:=(refine Om.mk ?_;omega)) only[go_sem]<;>(try omega)),⟨by omega,by omega,?_⟩,by omega⟩
  rw[hj.2,hx (by omega),hy (by omega),cmpL,if_neg (fun hh=>hh (by assumption))]
 ·rw[hj.2,hxe (by omega),hy (by omega)];rfl
 ·rw[hj.2,hxe (by omega),hye (by omega)];rfl
 ·simp
end
section
end
section
attribute [local irreducible] SW runL runQ runG runQG FC
theorem drop_cons {α:Type} [Inhabited α] {xs:List α} {k:Nat} (h:k<xs.length):xs.drop k=xs.getD k default::xs.drop (k+1):=by
 rw[List.drop_eq_getElem_cons h];simp[List.getD,List.getElem?_eq_getElem h]
def kp28:List (Nat×List Nat):=[(0,[0,1]),(1,[0,1,5]),(2,[0,1,5,9]),(4,[0,1,5,17]),(5,[4]),(3,[0,1,5]),(6,[4])]
attribute [go_sem] kp28 Tryz.results28 Tryz.ntmps28
theorem l1Has_fc (tk:Tk) (xs:List Int) (n:Int):FC S 28 [] [] [] [.sl tk (xs.map (.int .i64)),.int .i64 n] (.bool (tst (n∈xs))) [] []:=by
 refine fcb Tryz.func28 fun B=>?_
 refine sw_bndg 0 fun hb0=>?_
 repeat' first|refine sw_n ?_|refine sw_go 0 kp28 fun K hK=>?_|refine runL_g ?_|(refine hK.n0 ?_;clear hK K)|apply tTT
 refine sw_loopU (ι:=Nat) (fun i=>[(5,.int .i64 i)]) (fun _=>[]) (fun i=>i≤xs.length∧(∀j<i,¬xs.getD j default=n)) (fun i=>xs.length-i) 0 cvA ⟨by omega,?_⟩ (fun i ⟨hi,hj⟩=>?_)
 rotate_left
 simp only[go_sem]
 repeat' first|exact h.elim|refine sw_n ?_|refine sw_go 0 kp28 fun K hK=>?_|refine runL_g ?_|refine sw_retg0 ?_|(refine hK.n0 ?_;clear hK K)|refine sw_condg rfl (fun h=>?_) fun h=>?_|refine sw_exit rfl ?_|refine sw_loopEnd ?_|with_reducible refine and_o ?_|apply tTT
 ·rw[←h];exact getD_mem _ _ (by omega)
 ·exact⟨i+1,by(refine covers_mk0 rfl rfl ?_ ?_ ?_ ?_<;>simp (disch:=(refine Om.mk ?_;omega)) only[go_sem]<;>(try omega)),⟨by omega,upto_succ hj h⟩,by omega⟩
 ·intro hm
  exact(forall_getD (P:=fun x=>¬x=n)).1 (fun j hj'=>hj j (by omega)) n hm rfl
 ·intro j hj';omega
def kp157:List (Nat×List Nat):=[(0,[0,1]),(1,[0,1,7,8]),(2,[0,1,7,8,9]),(3,[0,1,5,7,8]),(4,[0,1,5,7,8,16]),(5,[4]),(6,[0,1,7,8]),(7,[4])]
attribute [go_sem] kp157 Tryz.results157 Tryz.ntmps157
theorem index_fc (tk:Tk) (xs:List Int) (n:Int):FC S 157 [] [] [] [.sl tk (xs.map (.int .i64)),.int .i64 n] (.int .i64 (fidx (fun x=>x=n) xs)) [] []:=by
 refine fcb Tryz.func157 fun B=>?_
 refine sw_bndg 0 fun hb0=>?_
 repeat' first|refine sw_n ?_|refine sw_go 0 kp157 fun K hK=>?_|refine runL_g ?_|(refine hK.n0 ?_;clear hK K)|apply tTT
 refine sw_loopU (ι:=Nat) (fun i=>[(8,.int .i64 i)]) (fun _=>[]) (fun i=>i≤xs.length∧(∀j<i,¬xs.getD j default=n)) (fun i=>xs.length-i) 0 cvA ⟨by omega,?_⟩ (fun i ⟨hi,hj⟩=>?_)
 rotate_left
 simp only[go_sem]
 repeat' first|exact h.elim|refine sw_n ?_|refine sw_go 0 kp157 fun K hK=>?_|refine runL_g ?_|refine sw_retg0 ?_|(refine hK.n0 ?_;clear hK K)|refine sw_condg rfl (fun h=>?_) fun h=>?_|refine sw_exit rfl ?_|refine sw_loopEnd ?_|with_reducible refine and_o ?_|apply tTT
 ·exact(fidx_at (p:=fun x=>x=n) hj (by omega) h.symm).symm
 ·exact⟨i+1,by(refine covers_mk0 rfl rfl ?_ ?_ ?_ ?_<;>simp (disch:=(refine Om.mk ?_;omega)) only[go_sem]<;>(try omega)),⟨by omega,upto_succ hj fun e=>h e.symm⟩,by omega⟩
 ·exact(fidx_none (p:=fun x=>x=n) fun j hj'=>hj j (by omega)).symm
 ·intro j hj';omega
def kp132:List (Nat×List Nat):=[(0,[0,1]),(1,[4])]
attribute [go_sem] kp132 Tryz.results132 Tryz.ntmps132
theorem contains_fc (tk:Tk) (xs:List Int) (n:Int):FC S 132 [] [] [] [.sl tk (xs.map (.int .i64)),.int .i64 n] (.bool (tst (n∈xs))) [] []:=by
 refine fcb Tryz.func132 fun B=>?_
 repeat' first|refine sw_n ?_|refine sw_go 0 kp132 fun K hK=>?_|refine runL_g ?_|refine sw_retg0 ?_|(refine hK.n0 ?_;clear hK K)|refine hK.c1 rfl rfl rfl (index_fc _ _ _) ?_|apply tTT
 rw[fidx_ge (p:=fun x=>x=n)]
 exact⟨fun⟨x,hx,e⟩=>e ▸ hx,fun h=>⟨n,h,rfl⟩⟩
def kp94:List (Nat×List Nat):=[(0,[0]),(1,[2])]
attribute [go_sem] kp94 Tryz.results94 Tryz.ntmps94
theorem l1Copy_fc (tk:Tk) (xs:List Int) (hl:xs.length≤17592186044416):FC S 94 [] [] [] [.sl tk (xs.map (.int .i64))] (.sl (.own 0 2 1) (xs.map (.int .i64))) [] [0]:=by
 refine FC.args (args':=[.sl .any (xs.map (.int .i64))]) ?_ (by simp only[go_sem])
 refine fcb1 Tryz.func94 fun B=>?_
 refine sw_bndg 0 fun hb0=>?_
 repeat' first|refine sw_n ?_|refine sw_go 0 kp94 fun K hK=>?_|refine runL_g ?_|refine sw_retg ?_|(refine hK.n0 ?_;clear hK K)|with_reducible refine and_o ?_|apply tTT
 exact ret1_own rfl (by simp)
attribute [go_sem] Tryz.results120 Tryz.ntmps120
end
section
attribute [local irreducible] SW runL runQ runG runQG FC Ret1
def numR (s:Nat):List Int→Nat
 | []=>0
 | x::r=>x.toNat+s*numR s r
def nextR (n:Int):List Int→List Int×Bool
 | []=>([],false)
 | x::r=>if x+1<n then ((x+1)::r,true) else (0::(nextR n r).1,(nextR n r).2)
def nextL (n:Int) (xs:List Int):List Int×Bool:=((nextR n xs.reverse).1.reverse,(nextR n xs.reverse).2)
def ValidL (s:Nat) (l:List Int):Prop:=∀x∈l,0≤x∧x<s
theorem nextR_ok {s:Nat} (hs:1≤s):∀ {l:List Int},ValidL s l→ValidL s (nextR s l).1∧(nextR s l).1.length=l.length∧((nextR s l).2=true→numR s (nextR s l).1=numR s l+1)∧((nextR s l).2=false→numR s l+1=s^l.length)
 | [],_=>⟨fun x hx=>(by cases hx),rfl,fun h=>(by cases h),fun _=>(by simp[numR])⟩
 | x::r,h=>by
  have h1:=h x List.mem_cons_self
  have hr:ValidL s r:=fun y hy=>h y (List.mem_cons_of_mem _ hy)
  obtain⟨i1,i2,i3,i4⟩:=nextR_ok hs (l:=r) hr
  simp only[nextR]
  split
  ·rename_i hc
   refine⟨fun y hy=>?_,rfl,fun _=>?_,fun h=>(by cases h)⟩
   ·rcases List.mem_cons.1 hy with rfl|hy
    ·omega
    ·exact hr y hy
   ·simp only[numR];omega
  ·rename_i hc
   refine⟨fun y hy=>?_,by simp[i2],fun hf=>?_,fun hf=>?_⟩
   ·rcases List.mem_cons.1 hy with rfl|hy
    ·omega
    ·exact i1 y hy
   ·simp only[numR,i3 hf,Nat.mul_add];omega
   ·have:=i4 hf
    simp only[numR,List.length_cons,Nat.pow_succ,←this]
    rw[Nat.mul_comm (numR s r+1) s,Nat.mul_add];omega
def stepL (xs:List Int) (k:Nat):List Int:=xs.take k++List.replicate (xs.length-k) 0
theorem stepL_len (xs:List Int) (k:Nat) (h:k≤xs.length):(stepL xs k).length=xs.length:=by simp[stepL];omega
theorem stepL_split (xs:List Int) (k:Nat) (h:k<xs.length):stepL xs (k+1)=xs.take k++xs.getD k default::List.replicate (xs.length-(k+1)) 0:=by
 unfold stepL
 rw[List.take_succ_eq_append_getElem h,List.append_assoc]
 simp[List.getD,List.getElem?_eq_getElem h]
theorem set_split (a b:List Int) (x y:Int):(a++x::b).set a.length y=a++y::b:=by
 induction a with
 | nil=>rfl
 | cons c a ih=>simp[ih]
theorem set_len_app (a:List Int) (k:Nat) (b:List Int) {x y:Int} (h:a.length=k):(a++x::b).set k y=a++y::b:=by subst h;exact set_split a b x y
theorem stepL_set (xs:List Int) (k:Nat) (h:k<xs.length) (v:Int):(stepL xs (k+1)).set k v=xs.take k++v::List.replicate (xs.length-(k+1)) 0:=by
 rw[stepL_split xs k h]
 have hs:=set_split (xs.take k) (List.replicate (xs.length-(k+1)) 0) (xs.getD k default) v
 rwa [show (xs.take k).length=k by simp;omega] at hs
theorem stepL_get (xs:List Int) (k:Nat) (h:k<xs.length):(stepL xs (k+1)).getD k default=xs.getD k default:=by
 rw[stepL_split xs k h]
 have:(xs.take k).length=k:=by simp;omega
 simp[List.getD,List.getElem?_append,this]
theorem take_rev (xs:List Int) (k:Nat) (h:k<xs.length):(xs.take (k+1)).reverse=xs.getD k default::(xs.take k).reverse:=by
 rw[List.take_succ_eq_append_getElem h]
 simp[List.getD,List.getElem?_eq_getElem h]
def NextInv (n:Int) (xs:List Int) (k:Nat):Prop:=nextR n xs.reverse=(List.replicate (xs.length-k) 0++(nextR n (xs.take k).reverse).1,(nextR n (xs.take k).reverse).2)
theorem nextInv_start (n:Int) (xs:List Int):NextInv n xs xs.length:=by simp[NextInv]
theorem nextInv_yes {n:Int} {xs:List Int} {k:Nat} (hk:k<xs.length) (h:NextInv n xs (k+1)) (hx:xs.getD k default+1<n):nextL n xs=(xs.take k++(xs.getD k default+1)::List.replicate (xs.length-(k+1)) 0,true):=by
 unfold NextInv at h
 rw[take_rev xs k hk] at h
 simp only[nextR,if_pos hx] at h
 unfold nextL
 rw[h]
 simp
theorem nextInv_no {n:Int} {xs:List Int} {k:Nat} (hk:k<xs.length) (h:NextInv n xs (k+1)) (hx:¬xs.getD k default+1<n):NextInv n xs k:=by
 unfold NextInv at h ⊢
 rw[take_rev xs k hk] at h
 simp only[nextR,if_neg hx] at h
 rw[h,show xs.length-k=(xs.length-(k+1))+1 by omega,List.replicate_succ']
 simp
theorem nextInv_end {n:Int} {xs:List Int} (h:NextInv n xs 0):nextL n xs=(stepL xs 0,false):=by
 unfold NextInv at h
 unfold nextL
 rw[h]
 simp[nextR,stepL]
def kp47:List (Nat×List Nat):=[(0,[0,1]),(1,[1,6]),(2,[1,6,7]),(3,[1,6,7,14]),(5,[1,6,7]),(6,[1,6,7,30]),(7,[4,5]),(8,[1,6,7]),(4,[1,6,7]),(9,[4,5])]
attribute [go_sem] kp47 Tryz.results47 Tryz.ntmps47
theorem nextList0_fc (tk:Tk) (n:Int):FC S 47 [] [] [] [.sl tk ([].map (.int .i64)),.int .i64 n] (.tup [.sl .any ([].map (.int .i64)),.bool false]) [] []:=by
 refine FC.args (args':=[.sl .any ([].map (.int .i64)),.int .i64 n]) ?_ (by simp only[go_sem])
 refine fcb Tryz.func47 fun B=>?_
 refine sw_bndg 0 fun hb0=>?_
 repeat' first|exact h.elim|refine sw_n ?_|refine sw_go 0 kp47 fun K hK=>?_|refine fun (K:KT) (hK:KOk S 0 _ _ _ K)=>?_|refine runL_g ?_|refine sw_retg0 ?_|refine sw_retg ?_|(refine hK.n0 ?_;clear hK K)|refine sw_condg rfl (fun h=>?_) fun h=>?_|refine sw_exit rfl ?_|refine sw_loopEnd ?_|refine hK.cB rfl rfl rfl (l1Copy_fc .any [] (by simp)) ?_|with_reducible refine and_o ?_|apply tTT
 refine sw_loopU (ι:=Nat) (fun p=>[(7,.int .i64 (-1))]) (fun p=>[]) (fun p=>True) (fun p=>p) 0 cvA ?_ (fun p hp=>?_)
 rotate_left
 simp only[go_sem]
 repeat' first|exact h.elim|refine sw_n ?_|refine sw_go 0 kp47 fun K hK=>?_|refine fun (K:KT) (hK:KOk S 0 _ _ _ K)=>?_|refine runL_g ?_|refine sw_retg0 ?_|refine sw_retg ?_|(refine hK.n0 ?_;clear hK K)|refine sw_condg rfl (fun h=>?_) fun h=>?_|refine sw_exit rfl ?_|refine sw_loopEnd ?_|with_reducible refine and_o ?_|apply tTT
 ·exfalso;omega
 all_goals trivial
theorem nextList1_fc (tk:Tk) (xs:List Int) (n:Int) (hne:xs≠[]) (hl:xs.length≤100) (hx:∀x∈xs,0≤x∧x≤1000):FC S 47 [] [] [] [.sl tk (xs.map (.int .i64)),.int .i64 n] (.tup [.sl .any ((nextL n xs).1.map (.int .i64)),.bool (nextL n xs).2]) [] []:=by
 refine FC.args (args':=[.sl .any (xs.map (.int .i64)),.int .i64 n]) ?_ (by simp only[go_sem])
 refine fcb Tryz.func47 fun B=>?_
 refine sw_bndg 0 fun hb0=>?_
 repeat' first|exact h.elim|refine sw_n ?_|refine sw_go 0 kp47 fun K hK=>?_|refine fun (K:KT) (hK:KOk S 0 _ _ _ K)=>?_|refine runL_g ?_|refine sw_retg0 ?_|refine sw_retg ?_|(refine hK.n0 ?_;clear hK K)|refine sw_condg rfl (fun h=>?_) fun h=>?_|refine sw_exit rfl ?_|refine sw_loopEnd ?_|refine hK.cT rfl rfl rfl (l1Copy_fc .any xs (by omega)) ?_|with_reducible refine and_o ?_|apply tTT
 refine sw_loopU (ι:=Nat) (fun p=>[(7,.int .i64 (p-1:Int))]) (fun p=>[(9,(stepL xs p).map (.int .i64))]) (fun p=>p≤xs.length∧NextInv n xs p) (fun p=>p) xs.length (by(refine covers_mk0 rfl rfl ?_ ?_ ?_ ?_<;>simp (disch:=(refine Om.mk ?_;omega)) only[go_sem]<;>(try omega));simp[stepL]) ?_ (fun p hp=>?_)
 rotate_left
 simp only[go_sem]
 obtain⟨hp1,hp2⟩:=hp
 have hlen:=stepL_len xs p hp1
 cases p with
 | zero =>
  have hz:=nextInv_end hp2
  rw[hz]
  repeat' first|exact h.elim|(refine sw_freezeAt 9 6 1 .any ((stepL xs 0).map (.int .i64)) rfl rfl (flat_ints _).symm (by simp[hlen]) (cells_one fun _=>rfl) (memOk_ints _) (.inl rfl) ?_;simp only[go_sem])|refine sw_n ?_|refine sw_go 0 kp47 fun K hK=>?_|refine fun (K:KT) (hK:KOk S 0 _ _ _ K)=>?_|refine runL_g ?_|refine sw_retg0 ?_|refine sw_retg ?_|(refine hK.n0 ?_;clear hK K)|refine sw_condg rfl (fun h=>?_) fun h=>?_|refine sw_exit rfl ?_|refine sw_loopEnd ?_|with_reducible refine and_o ?_|apply tTT
  ·exfalso;omega
  ·exfalso;omega
 | succ k =>
  have hk:k<xs.length:=by omega
  have hg:=stepL_get xs k hk
  have hxk:=hx _ (getD_mem xs k hk)
  have hset:=stepL_set xs k hk
  have hlt:k<(stepL xs (k+1)).length:=by omega
  have hi:((k+1:Nat):Int)-1=(k:Int):=by omega
  have hl2:((stepL xs (k+1)).set k ((stepL xs (k+1)).getD k default+1)).length=xs.length:=by rw[List.length_set];exact hlen
  rw[hi]
  repeat' first|exact h.elim|(refine sw_freezeAt 7 6 1 .any (((stepL xs (k+1)).set k ((stepL xs (k+1)).getD k default+1)).map (.int .i64)) rfl rfl (flat_ints _).symm (by simp[hlen]) (cells_one fun _=>rfl) (memOk_ints _) (.inl rfl) ?_;simp only[go_sem])|refine sw_n ?_|refine sw_go 0 kp47 fun K hK=>?_|refine fun (K:KT) (hK:KOk S 0 _ _ _ K)=>?_|refine runL_g ?_|refine sw_retg0 ?_|refine sw_retg ?_|(refine hK.n0 ?_;clear hK K)|refine sw_condg rfl (fun h=>?_) fun h=>?_|refine sw_exit rfl ?_|refine sw_loopEnd ?_|with_reducible refine and_o ?_|apply tTT
  ·rw[hg] at h ⊢
   rw[nextInv_yes hk hp2 h,hset]
   exact⟨rfl,rfl⟩
  ·rw[hg] at h
   refine⟨k,(by(refine covers_mk0 rfl rfl ?_ ?_ ?_ ?_<;>simp (disch:=(refine Om.mk ?_;omega)) only[go_sem]<;>(try omega));rw[hset,set_len_app _ _ _ (by simp;omega)];unfold stepL;rw[show xs.length-k=(xs.length-(k+1))+1 by omega,List.replicate_succ]),⟨by omega,nextInv_no hk hp2 (by omega)⟩,by omega⟩
 ·exact⟨Nat.le_refl _,nextInv_start n xs⟩
theorem nextList_fc (tk:Tk) (xs:List Int) (n:Int) (hl:xs.length≤100) (hx:∀x∈xs,0≤x∧x≤1000):FC S 47 [] [] [] [.sl tk (xs.map (.int .i64)),.int .i64 n] (.tup [.sl .any ((nextL n xs).1.map (.int .i64)),.bool (nextL n xs).2]) [] []:=by
 by_cases h:xs=[]
 ·subst h;exact nextList0_fc tk n
 ·exact nextList1_fc tk xs n h hl hx
end
section
def nxtD:List (Int×Int)→List Int→List Int×Bool
 | b::bs,x::xs=>if (nxtD bs xs).2=true then (x::(nxtD bs xs).1,true) else if x<b.2 then ((x+1)::(nxtD bs xs).1,true) else (b.1::(nxtD bs xs).1,false)
 | _,_=>([],false)
def blkD (A:List (List Int)) (v:Int):Nat→List (List Int)
 | 0=>A.map (v::·)
 | n+1=>A.map (v::·)++blkD A (v+1) n
def allD:List (Int×Int)→List (List Int)
 | []=>[[]]
 | b::bs=>blkD (allD bs) b.1 (b.2-b.1).toNat
def lowD (bs:List (Int×Int)):List Int:=bs.map (·.1)
def DigP:List (Int×Int)→List Int→Prop
 | [],[]=>True
 | b::bs,x::xs=>(b.1≤x∧x≤b.2)∧DigP bs xs
 | _,_=>False
def SeqD (bs:List (Int×Int)):List (List Int)→Prop
 | []=>True
 | [x]=>nxtD bs x=(lowD bs,false)
 | x::y::r=>nxtD bs x=(y,true)∧SeqD bs (y::r)
theorem nxtD_cons (b:Int×Int) (bs:List (Int×Int)) (x:Int) (xs:List Int):nxtD (b::bs) (x::xs)=if (nxtD bs xs).2=true then (x::(nxtD bs xs).1,true) else if x<b.2 then ((x+1)::(nxtD bs xs).1,true) else (b.1::(nxtD bs xs).1,false):=rfl
theorem digP_len:∀ {bs:List (Int×Int)} {xs:List Int},DigP bs xs→xs.length=bs.length
 | [],[],_=>rfl
 | _::_,_::_,h=>by simp[digP_len h.2]
 | [],_::_,h=>h.elim
 | _::_,[],h=>h.elim
theorem digP_at:∀ {bs:List (Int×Int)} {xs:List Int},DigP bs xs→∀i<bs.length,(bs.getD i default).1≤xs.getD i default∧xs.getD i default≤(bs.getD i default).2
 | [],[],_,i,hi=>absurd hi (Nat.not_lt_zero _)
 | _::_,_::_,h,0,_=>h.1
 | _::bs,_::_,h,i+1,hi=>digP_at (bs:=bs) h.2 i (by simpa using hi)
 | [],_::_,h,_,_=>h.elim
 | _::_,[],h,_,_=>h.elim
theorem blk_ne {A:List (List Int)} (hA:A≠[]) (v:Int):∀n,∃r,blkD A v n=(v::A.head hA)::r
 | 0=>by
  cases A with
  | nil=>exact absurd rfl hA
  | cons a r=>exact⟨r.map (v::·),rfl⟩
 | n+1=>by
  cases A with
  | nil=>exact absurd rfl hA
  | cons a r=>exact⟨r.map (v::·)++blkD (a::r) (v+1) n,rfl⟩
theorem seq_blk {b:Int×Int} {bs:List (Int×Int)} (v:Int) {R:List (List Int)} (hR:SeqD (b::bs) R) (h:(R=[]∧v=b.2)∨(v<b.2∧∃r,R=((v+1)::lowD bs)::r)):∀ {A:List (List Int)},A≠[]→SeqD bs A→SeqD (b::bs) (A.map (v::·)++R)
 | [],hA,_=>absurd rfl hA
 | [x],_,hs=>by
  have hs:nxtD bs x=(lowD bs,false):=hs
  rcases h with⟨rfl,hv⟩|⟨hv,r,rfl⟩
  ·show nxtD (b::bs) (v::x)=_
   rw[nxtD_cons,hs,if_neg (by simp),if_neg (by omega)];rfl
  ·refine⟨?_,hR⟩
   rw[nxtD_cons,hs,if_neg (by simp),if_pos hv]
 | x::y::r,_,hs=>by
  refine⟨?_,seq_blk v hR h (A:=y::r) (by simp) hs.2⟩
  rw[nxtD_cons,hs.1,if_pos rfl]
theorem seq_blks {b:Int×Int} {bs:List (Int×Int)} {A:List (List Int)} (hA:A≠[]) (hs:SeqD bs A) (hl:A.head hA=lowD bs):∀(n:Nat) (v:Int),v+n=b.2→SeqD (b::bs) (blkD A v n)
 | 0,v,h=>by
  have:=seq_blk (b:=b) v (R:=[]) trivial (.inl ⟨rfl,by omega⟩) hA hs
  rwa [List.append_nil] at this
 | n+1,v,h=>by
  have ih:=seq_blks (b:=b) hA hs hl n (v+1) (by omega)
  obtain⟨r,hr⟩:=blk_ne hA (v+1) n
  exact seq_blk (b:=b) v ih (.inr ⟨by omega,r,by rw[hr,hl]⟩) hA hs
theorem allD_seq:∀ {bs:List (Int×Int)},(∀b∈bs,b.1≤b.2)→SeqD bs (allD bs)∧∃r,allD bs=lowD bs::r
 | [],_=>⟨rfl,[],rfl⟩
 | b::bs,h=>by
  obtain⟨ih,r,hr⟩:=allD_seq (bs:=bs) fun c hc=>h c (List.mem_cons_of_mem _ hc)
  have hb:=h b List.mem_cons_self
  have hA:allD bs≠[]:=by rw[hr];simp
  have hl:(allD bs).head hA=lowD bs:=by simp[hr]
  refine⟨seq_blks hA ih hl _ _ (by omega),?_⟩
  obtain⟨r',hr'⟩:=blk_ne hA b.1 (b.2-b.1).toNat
  exact⟨r',by rw[allD,hr',hl];rfl⟩
theorem blk_dig {b:Int×Int} {bs:List (Int×Int)} {A:List (List Int)} (hA:∀x∈A,DigP bs x):∀(n:Nat) (v:Int),b.1≤v→v+n≤b.2→∀x∈blkD A v n,DigP (b::bs) x
 | 0,v,h1,h2,x,hx=>by
  obtain⟨y,hy,rfl⟩:=List.mem_map.1 hx
  exact⟨⟨h1,by omega⟩,hA y hy⟩
 | n+1,v,h1,h2,x,hx=>by
  rcases List.mem_append.1 hx with hx|hx
  ·obtain⟨y,hy,rfl⟩:=List.mem_map.1 hx
   exact⟨⟨h1,by omega⟩,hA y hy⟩
  ·exact blk_dig hA n (v+1) (by omega) (by omega) x hx
theorem allD_dig:∀ {bs:List (Int×Int)},(∀b∈bs,b.1≤b.2)→∀x∈allD bs,DigP bs x
 | [],_,x,hx=>by rw[List.mem_singleton.1 hx];trivial
 | b::bs,h,x,hx=>by
  have hb:=h b List.mem_cons_self
  exact blk_dig (allD_dig fun c hc=>h c (List.mem_cons_of_mem _ hc)) _ _ (by omega) (by omega) x hx
theorem lowD_len (bs:List (Int×Int)):(lowD bs).length=bs.length:=by simp[lowD]
theorem nxtD_end:∀ {bs:List (Int×Int)} {xs:List Int},xs.length=bs.length→(nxtD bs xs).1.length=bs.length∧((nxtD bs xs).2=false→(nxtD bs xs).1=lowD bs)
 | [],[],_=>⟨rfl,fun _=>rfl⟩
 | b::bs,x::xs,h=>by
  have ih:=nxtD_end (bs:=bs) (xs:=xs) (by simpa using h)
  rw[nxtD_cons]
  split
  ·exact⟨by simp[ih.1],fun h=>by cases h⟩
  ·rename_i h1
   have h1:(nxtD bs xs).2=false:=by simpa using h1
   split
   ·exact⟨by simp[ih.1],fun h=>by cases h⟩
   ·exact⟨by simp[ih.1],fun _=>by simp[lowD,ih.2 h1]⟩
 | [],_::_,h=>by simp at h
 | _::_,[],h=>by simp at h
def stD (bs:List (Int×Int)) (xs:List Int) (p:Nat):List Int:=xs.take p++lowD (bs.drop p)
def NxInv (bs:List (Int×Int)) (xs:List Int) (p:Nat):Prop:=(nxtD (bs.drop p) (xs.drop p)).2=false
theorem stD_len {bs:List (Int×Int)} {xs:List Int} (h:xs.length=bs.length) {p:Nat} (hp:p≤xs.length):(stD bs xs p).length=xs.length:=by simp[stD,lowD];omega
theorem stD_all {bs:List (Int×Int)} {xs:List Int} (h:xs.length=bs.length):stD bs xs xs.length=xs:=by
 unfold stD
 rw[List.take_length,h,List.drop_length]
 simp[lowD]
theorem nx_start {bs:List (Int×Int)} {xs:List Int} (h:xs.length=bs.length):NxInv bs xs xs.length:=by
 unfold NxInv
 rw[List.drop_length,h,List.drop_length];rfl
theorem nx_up:∀ {k:Nat} {bs:List (Int×Int)} {xs:List Int} {r:List Int},xs.length=bs.length→k≤xs.length→nxtD (bs.drop k) (xs.drop k)=(r,true)→nxtD bs xs=(xs.take k++r,true)
 | 0,bs,xs,r,_,_,h=>by simpa using h
 | k+1,b::bs,x::xs,r,h,hk,hn=>by
  have ih:=nx_up (k:=k) (bs:=bs) (xs:=xs) (r:=r) (by simpa using h) (by simpa using hk) (by simpa using hn)
  rw[nxtD_cons,ih,if_pos rfl];simp
 | _+1,_,[],_,_,hk,_=>by simp at hk
 | _+1,[],_::_,_,h,_,_=>by simp at h
theorem drop_getD {α:Type} [Inhabited α] (xs:List α) (k:Nat) (h:k<xs.length):xs.drop k=xs.getD k default::xs.drop (k+1):=by
 rw[List.drop_eq_getElem_cons h];simp[List.getD,List.getElem?_eq_getElem h]
theorem take_getD {α:Type} [Inhabited α] (xs:List α) (k:Nat) (h:k<xs.length):xs.take (k+1)=xs.take k++[xs.getD k default]:=by
 rw[List.take_succ_eq_append_getElem h];simp[List.getD,List.getElem?_eq_getElem h]
theorem stD_split {bs:List (Int×Int)} {xs:List Int} (h:xs.length=bs.length) {k:Nat} (hk:k<xs.length):stD bs xs (k+1)=xs.take k++xs.getD k default::lowD (bs.drop (k+1)):=by
 unfold stD;rw[take_getD xs k hk,List.append_assoc];rfl
theorem stD_get {bs:List (Int×Int)} {xs:List Int} (h:xs.length=bs.length) {k:Nat} (hk:k<xs.length):(stD bs xs (k+1)).getD k default=xs.getD k default:=by
 rw[stD_split h hk]
 have:(xs.take k).length=k:=by simp;omega
 simp[List.getD,List.getElem?_append,this]
theorem stD_set {bs:List (Int×Int)} {xs:List Int} (h:xs.length=bs.length) {k:Nat} (hk:k<xs.length) (v:Int):(stD bs xs (k+1)).set k v=xs.take k++v::lowD (bs.drop (k+1)):=by
 rw[stD_split h hk]
 have:(xs.take k).length=k:=by simp;omega
 rw[List.set_append_right _ _ (by omega),this,Nat.sub_self,List.set_cons_zero]
theorem nx_yes {bs:List (Int×Int)} {xs:List Int} (h:xs.length=bs.length) {k:Nat} (hk:k<xs.length) (hn:NxInv bs xs (k+1)) (hx:xs.getD k default<(bs.getD k default).2):nxtD bs xs=((stD bs xs (k+1)).set k (xs.getD k default+1),true):=by
 have hl:(xs.drop (k+1)).length=(bs.drop (k+1)).length:=by simp;omega
 have he:=(nxtD_end hl).2 hn
 rw[stD_set h hk]
 refine nx_up h (by omega) ?_
 rw[drop_getD xs k hk,drop_getD bs k (by omega),nxtD_cons,if_neg (by rw[hn];simp),if_pos hx,he]
theorem nx_no {bs:List (Int×Int)} {xs:List Int} (h:xs.length=bs.length) {k:Nat} (hk:k<xs.length) (hn:NxInv bs xs (k+1)) (hx:¬xs.getD k default<(bs.getD k default).2):NxInv bs xs k∧(stD bs xs (k+1)).set k (bs.getD k default).1=stD bs xs k:=by
 refine⟨?_,?_⟩
 ·unfold NxInv
  rw[drop_getD xs k hk,drop_getD bs k (by omega),nxtD_cons,if_neg (by rw[hn];simp),if_neg hx]
 ·rw[stD_set h hk]
  unfold stD
  rw[drop_getD bs k (by omega)];rfl
theorem nx_end {bs:List (Int×Int)} {xs:List Int} (h:xs.length=bs.length) (hn:NxInv bs xs 0):nxtD bs xs=(stD bs xs 0,false):=by
 have hn:(nxtD bs xs).2=false:=by simpa[NxInv] using hn
 have he:=(nxtD_end h).2 hn
 refine Prod.ext ?_ hn
 rw[he];simp[stD]
end
section
attribute [local irreducible] SW runL runQ runG runQG FC Ret1 RetN toF redoL
theorem nextR_app (n:Int) (x:Int):∀ys:List Int,nextR n (ys++[x])=if (nextR n ys).2=true then ((nextR n ys).1++[x],true) else if x+1<n then ((nextR n ys).1++[x+1],true) else ((nextR n ys).1++[0],false)
 | []=>by simp[nextR]
 | y::r=>by
  have ih:=nextR_app n x r
  simp only[List.cons_append,nextR]
  by_cases hy:y+1<n
  ·simp[hy]
  ·simp only[if_neg hy,ih]
   split
   ·rfl
   ·split<;>rfl
theorem nextR_len (n:Int):∀ys:List Int,(nextR n ys).1.length=ys.length
 | []=>rfl
 | y::r=>by
  simp only[nextR]
  split
  ·rfl
  ·simp[nextR_len n r]
theorem next_nxt (n:Int):∀xs:List Int,nextL n xs=nxtD (List.replicate xs.length (0,n-1)) xs
 | []=>by simp[nextL,nextR,nxtD]
 | x::r=>by
  have ih:=next_nxt n r
  rw[List.length_cons,List.replicate_succ,nxtD_cons,←ih]
  unfold nextL
  rw[List.reverse_cons,nextR_app]
  by_cases h:(nextR n r.reverse).2=true
  ·simp[h]
  ·by_cases hx:x+1<n
   ·simp[h,hx,show x<n-1 by omega]
   ·simp[h,hx,show ¬x<n-1 by omega]
def digs (n k:Nat):List (List Int):=allD (List.replicate k (0,(n:Int)-1))
theorem digs_ok {n k:Nat} (h:0<n∨k=0):SeqD (List.replicate k (0,(n:Int)-1)) (digs n k)∧∃r,digs n k=List.replicate k 0::r:=by
 have hb:∀b∈List.replicate k ((0:Int),(n:Int)-1),b.1≤b.2:=fun b hb=>by
  obtain⟨h1,rfl⟩:=List.mem_replicate.1 hb
  simp only
  omega
 obtain⟨h1,r,h2⟩:=allD_seq hb
 refine⟨h1,r,?_⟩
 have:lowD (List.replicate k ((0:Int),(n:Int)-1))=List.replicate k 0:=by simp[lowD]
 rw[←this];exact h2
theorem digs_dig {n k:Nat} (h:0<n∨k=0):∀l∈digs n k,l.length=k∧∀x∈l,0≤x∧x<n:=fun l hl=>by
 have hb:∀b∈List.replicate k ((0:Int),(n:Int)-1),b.1≤b.2:=fun b hb=>by
  obtain⟨h1,rfl⟩:=List.mem_replicate.1 hb
  simp only
  omega
 have h1:=allD_dig hb l hl
 have h2:=digP_len h1
 rw[List.length_replicate] at h2
 refine⟨h2,fun x hx=>?_⟩
 obtain⟨i,hi,rfl⟩:=List.getElem_of_mem hx
 have h3:=digP_at h1 i (by rw[List.length_replicate];omega)
 rw[List.getD_eq_getElem?_getD,List.getElem?_replicate,if_pos (by omega),List.getD_eq_getElem?_getD,List.getElem?_eq_getElem hi] at h3
 simp only[Option.getD_some] at h3
 omega
theorem digs_next {n k:Nat} {l:List Int} {A:List (List Int)} (hl:l.length=k) (hs:SeqD (List.replicate k (0,(n:Int)-1)) (l::A)):(A=[]∧(nextL n l).2=false)∨∃m A',A=m::A'∧nextL n l=(m,true):=by
 rw[next_nxt,hl]
 cases A with
 | nil=>exact .inl ⟨rfl,by rw[hs]⟩
 | cons m A'=>exact .inr ⟨m,A',rfl,hs.1⟩
section
variable (I:Nat→List (List Int)→Option (List Int)) (sets:List (List Int))
def lstS (l:List Int):List (List Int):=l.map fun q=>sets.getD q.toNat default
def addQ (out:List (List Int)) (s:List Int):List (List Int):=if s∈out then out else out++[s]
def stepO (out:List (List Int)) (e:Nat×List Int):List (List Int):=match I e.1 (lstS sets e.2) with
 | none=>out
 | some s=>addQ out s
def capF:List (Nat×List Int)→List (List Int)→List (List Int)×Bool
 | [],out=>(out,true)
 | e::es,out=>if 16<(stepO I sets out e).length then (stepO I sets out e,false) else capF es (stepO I sets out e)
def trE (e:Nat×List Int) (k:Nat):TransT:=⟨(e.1:Int),e.2,(k:Int)⟩
def trS:List (Nat×List Int)→List TransT
 | []=>[]
 | e::es=>match I e.1 (lstS sets e.2) with
  | none=>trS es
  | some s=>trE e (sets.idxOf s)::trS es
end
variable {I:Nat→List (List Int)→Option (List Int)} {sets:List (List Int)}
theorem addQ_pre (out:List (List Int)) (s:List Int):∃r,addQ out s=out++r:=by
 unfold addQ
 split
 ·exact⟨[],by simp⟩
 ·exact⟨[s],rfl⟩
theorem stepO_pre (out:List (List Int)) (e:Nat×List Int):∃r,stepO I sets out e=out++r:=by
 unfold stepO
 split
 ·exact⟨[],by simp⟩
 ·exact addQ_pre _ _
theorem capF_pre:∀(E:List (Nat×List Int)) (out:List (List Int)),∃r,(capF I sets E out).1=out++r
 | [],out=>⟨[],by simp[capF]⟩
 | e::es,out=>by
  obtain⟨r,h⟩:=stepO_pre (I:=I) (sets:=sets) out e
  unfold capF
  split
  ·exact⟨r,h⟩
  ·obtain⟨r',h'⟩:=capF_pre es (stepO I sets out e)
   exact⟨r++r',by rw[h',h,List.append_assoc]⟩
theorem capF_len:∀(E:List (Nat×List Int)) (out:List (List Int)),out.length≤16→(capF I sets E out).2=true→(capF I sets E out).1.length≤16
 | [],out,h,_=>h
 | e::es,out,h,h2=>by
  unfold capF at h2 ⊢
  split at h2
  ·cases h2
  ·rename_i hn
   rw[if_neg hn]
   exact capF_len es _ (by omega) h2
theorem blk_len (A:List (List Int)):∀(n:Nat) (v:Int),(blkD A v n).length=(n+1)*A.length
 | 0,v=>by simp[blkD]
 | n+1,v=>by
  rw[blkD,List.length_append,List.length_map,blk_len A n]
  rw[Nat.add_mul (n+1) 1,Nat.one_mul,Nat.add_comm]
theorem digs_len {n:Nat} (h:0<n):∀k,(digs n k).length=n^k
 | 0=>rfl
 | k+1=>by
  unfold digs
  rw[List.replicate_succ,allD,blk_len]
  have ih:=digs_len h k
  unfold digs at ih
  rw[ih,Nat.pow_succ,Nat.mul_comm]
  congr 1
  omega
end
section
section
variable (I:Nat→List (List Int)→Option (List Int)) (sets:List (List Int))
def capN:List (Nat×List Int)→List (List Int)→List TransT→List (List Int)×List TransT×Bool
 | [],out,rules=>(out,rules,true)
 | e::es,out,rules=>match I e.1 (lstS sets e.2) with
  | none=>capN es out rules
  | some s=>if 16<(addQ out s).length then (addQ out s,[],false) else capN es (addQ out s) (rules++[trE e ((addQ out s).idxOf s)])
end
variable {I:Nat→List (List Int)→Option (List Int)} {sets:List (List Int)}
theorem capN_ok:∀(E:List (Nat×List Int)) (out:List (List Int)) (rules:List TransT),out.length≤16→(capN I sets E out rules).2.2=(capF I sets E out).2∧((capF I sets E out).2=true→(capN I sets E out rules).1=(capF I sets E out).1)
 | [],out,rules,_=>⟨rfl,fun _=>rfl⟩
 | e::es,out,rules,h0=>by
  unfold capN capF stepO
  cases hI:I e.1 (lstS sets e.2) with
  | none =>
   simp only
   rw[if_neg (by omega)]
   exact capN_ok es out rules h0
  | some s =>
   simp only
   by_cases h:16<(addQ out s).length
   ·rw[if_pos h,if_pos h];exact⟨rfl,fun h=>by cases h⟩
   ·rw[if_neg h,if_neg h]
    exact capN_ok es _ _ (by omega)
theorem capN_rules (h0:sets.length≤16):∀(E:List (Nat×List Int)) (rules:List TransT),(capF I sets E sets).2=true→(capF I sets E sets).1.length=sets.length→(capN I sets E sets rules).2.1=rules++trS I sets E
 | [],rules,_,_=>by simp[capN,trS]
 | e::es,rules,h,hl=>by
  unfold capN trS
  unfold capF stepO at h hl
  cases hI:I e.1 (lstS sets e.2) with
  | none =>
   rw[hI] at h hl
   simp only at h hl ⊢
   rw[if_neg (by omega)] at h hl
   exact capN_rules h0 es rules h hl
  | some s =>
   rw[hI] at h hl
   simp only at h hl ⊢
   by_cases hn:16<(addQ sets s).length
   ·rw[if_pos hn] at h;cases h
   ·rw[if_neg hn] at h hl ⊢
    have he:addQ sets s=sets:=by
     obtain⟨r,hr⟩:=capF_pre (I:=I) (sets:=sets) es (addQ sets s)
     obtain⟨r',hr'⟩:=addQ_pre sets s
     rw[hr,hr',List.length_append,List.length_append] at hl
     have:r'=[]:=List.length_eq_zero_iff.1 (by omega)
     rw[hr',this,List.append_nil]
    rw[he] at h hl ⊢
    rw[capN_rules h0 es _ h hl,List.append_assoc]
    rfl
theorem addQ_nodupN {out:List (List Int)} {s:List Int} (h:out.Nodup):(addQ out s).Nodup:=by
 unfold addQ
 split
 ·exact h
 ·rename_i hs
  rw[List.nodup_append]
  exact⟨h,by simp,fun x hx y hy=>by rw[List.mem_singleton.1 hy];exact fun e=>hs (e ▸ hx)⟩
theorem capN_keep {P:List Int→Prop} (hI:∀f l s,I f l=some s→P s):∀(E:List (Nat×List Int)) (out:List (List Int)) (ru:List TransT),(∀s∈out,P s)→out.Nodup→(∀s∈(capN I sets E out ru).1,P s)∧(capN I sets E out ru).1.Nodup
 | [],out,ru,h1,h2=>⟨h1,h2⟩
 | e::es,out,ru,h1,h2=>by
  have key:∀s,I e.1 (lstS sets e.2)=some s→(∀x∈addQ out s,P x)∧(addQ out s).Nodup:=fun s h=>by
   refine⟨fun x hx=>?_,addQ_nodupN h2⟩
   unfold addQ at hx
   split at hx
   ·exact h1 x hx
   ·rcases List.mem_append.1 hx with hx|hx
    ·exact h1 x hx
    ·rw[List.mem_singleton.1 hx];exact hI _ _ _ h
  unfold capN
  cases h:I e.1 (lstS sets e.2) with
  | none=>exact capN_keep hI es out ru h1 h2
  | some s =>
   simp only
   split
   ·exact key s h
   ·exact capN_keep hI es _ _ (key s h).1 (key s h).2
def iterZ (I:Nat→List (List Int)→Option (List Int)) (E:Nat→List (Nat×List Int)):Nat→List (List Int)→List (List Int)×Bool
 | 0,s=>(s,false)
 | k+1,s=>if (capF I s (E s.length) s).2=true then (if (capF I s (E s.length) s).1.length=s.length then (s,true) else iterZ I E k (capF I s (E s.length) s).1) else (s,false)
def iterA (I:Nat→List (List Int)→Option (List Int)) (E:Nat→List (Nat×List Int)):Nat→List (List Int)→List (List Int)×List TransT×Bool
 | 0,s=>(s,[],false)
 | k+1,s=>if (capN I s (E s.length) s []).2.2=true∧(capN I s (E s.length) s []).1.length≠s.length then iterA I E k (capN I s (E s.length) s []).1 else capN I s (E s.length) s []
theorem iterZ_le {E:Nat→List (Nat×List Int)}:∀(k:Nat) (s:List (List Int)),s.length≤16→(iterZ I E k s).1.length≤16
 | 0,s,h=>h
 | k+1,s,h=>by
  unfold iterZ
  split
  ·rename_i h1
   split
   ·exact h
   ·exact iterZ_le k _ (capF_len _ _ h h1)
  ·exact h
theorem iterA_eq {E:Nat→List (Nat×List Int)}:∀(k:Nat) (s:List (List Int)),s.length≤16→(iterA I E k s).2.2=(iterZ I E k s).2∧((iterZ I E k s).2=true→(iterA I E k s).1=(iterZ I E k s).1∧(iterA I E k s).2.1=trS I (iterZ I E k s).1 (E (iterZ I E k s).1.length))
 | 0,s,_=>⟨rfl,fun h=>by cases h⟩
 | k+1,s,h16=>by
  obtain⟨h1,h2⟩:=capN_ok (I:=I) (sets:=s) (E s.length) s [] h16
  unfold iterA iterZ
  rw[h1]
  by_cases hF:(capF I s (E s.length) s).2=true
  ·rw[if_pos hF,h2 hF]
   by_cases hl:(capF I s (E s.length) s).1.length=s.length
   ·rw[if_neg (fun h=>h.2 hl),if_pos hl]
    obtain⟨r,hr⟩:=capF_pre (I:=I) (sets:=s) (E s.length) s
    have he:(capF I s (E s.length) s).1=s:=by
     rw[hr,List.length_append] at hl
     have:r=[]:=List.length_eq_zero_iff.1 (by omega)
     rw[hr,this,List.append_nil]
    refine⟨by rw[h1];exact hF,fun _=>⟨by rw[h2 hF,he],?_⟩⟩
    have:=capN_rules (I:=I) h16 (E s.length) [] hF hl
    simpa using this
   ·rw[if_pos ⟨hF,hl⟩,if_neg hl]
    exact iterA_eq k _ (capF_len _ _ h16 hF)
  ·rw[if_neg hF,if_neg (fun h=>hF h.1)]
   have hf:(capF I s (E s.length) s).2=false:=by simpa using hF
   exact⟨by rw[h1];exact hf,fun h=>by cases h⟩
end
end Go.Proofs.YtkfkdgginfpdnaaGreatDoor
