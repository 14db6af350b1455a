/-
  A23, A23b, A23c, A23d, A23e, A01b, A23w, K1d, one behind the other.
-/
import Derived.Test.YtcbgmeegbjokpaaGreatDoorSet
import Derived.Test.YtcbgmeegbjokpaaGreatDoorG0
namespace Go.Proofs.YtcbgmeegbjokpaaGreatDoor
open Go Go.Lg
set_option linter.unusedSimpArgs false
set_option linter.unusedVariables false
set_option maxHeartbeats 4000000
section
attribute [local irreducible] SW runL runQ runG runQG FC Ret1
def SetAt (xs:List Int) (n:Int) (j:Nat):Prop:=(0≤xs.getD j default∧xs.getD j default≤n-1)∧(0<j→xs.getD (j-1) default<xs.getD j default)
def SetP (xs:List Int) (n:Int):Prop:=∀j<xs.length,SetAt xs n j
theorem SetP.ge {xs:List Int} {n:Int} (h:SetP xs n):∀j<xs.length,(j:Int)≤xs.getD j default
 | 0,h0=>by have:=(h 0 h0).1;omega
 | j+1,h0=>by
  have h1:=SetP.ge h j (by omega)
  have h2:=(h (j+1) h0).2 (by omega)
  simp only[Nat.add_sub_cancel] at h2
  omega
theorem SetP.len {xs:List Int} {n:Int} (h:SetP xs n) (hn:0≤n):(xs.length:Int)≤n:=by
 by_cases h0:xs.length=0
 ·omega
 ·have h1:=h.ge (xs.length-1) (by omega)
  have h2:=(h (xs.length-1) (by omega)).1
  omega
def InP (n:Int) (xs:List Int):Prop:=∀j<xs.length,0≤xs.getD j default∧xs.getD j default≤n-1
def TransOkP (rs:List Int) (n:Int) (r:TransT):Prop:=(0≤r.sym∧r.sym≤rs.length-1)∧(r.args.length:Int)=rs.getD r.sym.toNat default∧(0≤r.to∧r.to≤n-1)∧InP n r.args
def SameFromP (r s:TransT):Prop:=r.sym=s.sym∧r.args=s.args
def AutoOkP (rs:List Int) (a:AutoT):Prop:=(SigOkP rs∧(1≤a.states∧a.states≤16)∧a.rules.length≤300∧SetP a.final a.states) ∧
 ∀i<a.rules.length,TransOkP rs a.states (a.rules.getD i default)∧∀k<i,¬a.rules.getD k default=a.rules.getD i default
def SureP (a:AutoT):Prop:=∀i<a.rules.length,∀k<i,¬SameFromP (a.rules.getD i default) (a.rules.getD k default)
theorem trans_eq (r s:TransT):r=s↔SameFromP r s∧r.to=s.to:=by
 cases r;cases s
 simp only[SameFromP,TransT.mk.injEq]
 exact⟨fun⟨a,b,c⟩=>⟨⟨a,b⟩,c⟩,fun⟨⟨a,b⟩,c⟩=>⟨a,b,c⟩⟩
def cmpI (a b:Int):Int:=if a<b then -1 else if b<a then 1 else 0
theorem cmpI_zero (a b:Int):cmpI a b=0↔a=b:=by
 unfold cmpI
 split
 ·omega
 ·split<;>omega
def cmpL:List Int→List Int→Int
 | [],[]=>0
 | [],_::_=>-1
 | _::_,[]=>1
 | x::xs,y::ys=>if cmpI x y≠0 then cmpI x y else cmpL xs ys
theorem cmpL_zero:∀xs ys:List Int,cmpL xs ys=0↔xs=ys
 | [],[]=>by simp[cmpL]
 | [],_::_=>by simp[cmpL]
 | _::_,[]=>by simp[cmpL]
 | x::xs,y::ys=>by
  simp only[cmpL,List.cons.injEq]
  split
  ·rename_i h
   exact⟨fun e=>absurd e h,fun e=>absurd ((cmpI_zero x y).2 e.1) h⟩
  ·rename_i h
   have h:=(cmpI_zero x y).1 (Classical.not_not.1 h)
   simp[h,cmpL_zero xs ys]
def cmpT (r s:TransT):Int:=if r.sym≠s.sym then cmpI r.sym s.sym else if cmpL r.args s.args≠0 then cmpL r.args s.args else cmpI r.to s.to
theorem cmpT_zero (r s:TransT):cmpT r s=0↔r=s:=by
 rw[trans_eq]
 unfold cmpT SameFromP
 split
 ·rename_i h
  rw[cmpI_zero]
  simp[h]
 ·rename_i h
  have h:=Classical.not_not.1 h
  split
  ·rename_i h2
   exact⟨fun e=>absurd e h2,fun e=>absurd ((cmpL_zero _ _).2 e.1.2) h2⟩
  ·rename_i h2
   have h2:=(cmpL_zero _ _).1 (Classical.not_not.1 h2)
   simp[h,h2,cmpI_zero]
def kp90:List (Nat×List Nat):=[(0,[0,1]),(1,[0,1,5]),(2,[0,1,5,9]),(4,[0,1,5,35]),(5,[4]),(3,[0,1,5]),(6,[4])]
attribute [go_sem] kp90 Tryz.results90 Tryz.ntmps90
theorem l23Set_fc (tk:Tk) (xs:List Int) (n:Int) (hn:0≤n∧n≤9223372036854775807):FC S 90 [] [] [] [.sl tk (xs.map (.int .i64)),.int .i64 n] (.bool (tst (SetP xs n))) [] []:=by
 refine fcb Tryz.func90 fun B=>?_
 refine sw_bndg 0 fun hb0=>?_
 repeat' first|exact h.elim|refine sw_n ?_|refine sw_go 0 kp90 fun K hK=>?_|refine fun (K:KT) (hK:KOk S 0 _ _ _ K)=>?_|refine sw_goD kp90 (by kernel_rfl) fun K hK=>?_|refine runL_g ?_|refine runQ_g ?_|refine sw_retg0 ?_|refine sw_retg ?_|(refine hK.n0 ?_;clear hK K)|refine runG_fk (fun h=>?_) fun h=>?_|refine runQG_fk (fun h=>?_) fun h=>?_|refine sw_condg rfl (fun h=>?_) fun h=>?_|refine hK.skp rfl rfl ?_|refine sw_exit rfl ?_|refine sw_loopEnd ?_|(refine hK.fork rfl rfl rfl ?_ ?_<;>intro h<;>try simp (disch:=(refine Om.mk ?_;omega)) only[go_sem] at h)|with_reducible refine and_o ?_|apply tTT
 refine sw_loopU (ι:=Nat) (fun i=>[(5,.int .i64 i)]) (fun _=>[]) (fun i=>i≤xs.length∧(∀j<i,SetAt xs n j)) (fun i=>xs.length-i) 0 cvA ⟨by omega,?_⟩ (fun i ⟨hi,hj⟩=>?_)
 rotate_left
 simp only[go_sem]
 repeat' first|exact h.elim|refine sw_n ?_|refine sw_go 0 kp90 fun K hK=>?_|refine fun (K:KT) (hK:KOk S 0 _ _ _ K)=>?_|refine sw_goD kp90 (by kernel_rfl) fun K hK=>?_|refine runL_g ?_|refine runQ_g ?_|refine sw_retg0 ?_|refine sw_retg ?_|(refine hK.n0 ?_;clear hK K)|refine runG_fk (fun h=>?_) fun h=>?_|refine runQG_fk (fun h=>?_) fun h=>?_|refine sw_condg rfl (fun h=>?_) fun h=>?_|refine hK.skp rfl rfl ?_|refine sw_exit rfl ?_|refine sw_loopEnd ?_|refine hK.c1 rfl rfl rfl (l1In_fc _ _ _) ?_|(refine hK.fork rfl rfl rfl ?_ ?_<;>intro h<;>try simp (disch:=(refine Om.mk ?_;omega)) only[go_sem] at h)|with_reducible refine and_o ?_|apply tTT
 ·intro h2;have:=h2 i (by omega);simp only[SetAt] at this;omega
 ·intro h2;have:=h2 i (by omega);simp only[SetAt] at this;omega
 ·exact⟨i+1,by(refine covers_mk0 rfl rfl ?_ ?_ ?_ ?_<;>simp (disch:=(refine Om.mk ?_;omega)) only[go_sem]<;>(try omega)),⟨by omega,upto_succ hj ⟨by assumption,fun _=>by assumption⟩⟩,by omega⟩
 ·exact⟨i+1,by(refine covers_mk0 rfl rfl ?_ ?_ ?_ ?_<;>simp (disch:=(refine Om.mk ?_;omega)) only[go_sem]<;>(try omega)),⟨by omega,upto_succ hj ⟨by assumption,fun h0=>by omega⟩⟩,by omega⟩
 ·exact fun j hj'=>hj j (by omega)
 ·intro j hj';omega
def kp91:List (Nat×List Nat):=[(0,[1,3,5]),(1,[1,5,35]),(2,[6]),(3,[1,5,7]),(4,[1,5,7,40]),(6,[1,5,7,51]),(7,[6]),(5,[1,5,7]),(8,[6])]
attribute [go_sem] kp91 Tryz.results91 Tryz.ntmps91
theorem l23Trans_fc (tk:Tk) (rs:List Int) (n:Int) (r:TransT) (hn:0≤n∧n≤9223372036854775807):FC S 91 [] [] [] [.agg [.sl tk (rs.map (.int .i64))],.int .i64 n,TransD r] (.bool (tst (TransOkP rs n r))) [] []:=by
 refine fcb Tryz.func91 fun B=>?_
 refine sw_bnd_aggg 0 0 fun hb0_0=>?_
 refine sw_bnd_aggg 2 1 fun hb2_1=>?_
 repeat' first|exact h.elim|refine sw_n ?_|refine sw_go 0 kp91 fun K hK=>?_|refine fun (K:KT) (hK:KOk S 0 _ _ _ K)=>?_|refine sw_goD kp91 (by kernel_rfl) fun K hK=>?_|refine runL_g ?_|refine runQ_g ?_|refine sw_retg0 ?_|refine sw_retg ?_|(refine hK.n0 ?_;clear hK K)|refine runG_fk (fun h=>?_) fun h=>?_|refine runQG_fk (fun h=>?_) fun h=>?_|refine sw_condg rfl (fun h=>?_) fun h=>?_|refine hK.skp rfl rfl ?_|refine sw_exit rfl ?_|refine sw_loopEnd ?_|refine hK.c1 rfl rfl rfl (l1In_fc _ _ _) ?_|(refine hK.fork rfl rfl rfl ?_ ?_<;>intro h<;>try simp (disch:=(refine Om.mk ?_;omega)) only[go_sem] at h)|with_reducible refine and_o ?_|apply tTT
 iterate 3
  ·rintro⟨h1,h2,h3,_⟩;omega
 refine sw_loopU (ι:=Nat) (fun i=>[(7,.int .i64 i)]) (fun _=>[]) (fun i=>i≤r.args.length∧(∀j<i,0≤r.args.getD j default∧r.args.getD j default≤n-1)) (fun i=>r.args.length-i) 0 cvA ⟨by omega,?_⟩ (fun i ⟨hi,hj⟩=>?_)
 rotate_left
 simp only[go_sem]
 repeat' first|exact h.elim|refine sw_n ?_|refine sw_go 0 kp91 fun K hK=>?_|refine fun (K:KT) (hK:KOk S 0 _ _ _ K)=>?_|refine sw_goD kp91 (by kernel_rfl) fun K hK=>?_|refine runL_g ?_|refine runQ_g ?_|refine sw_retg0 ?_|refine sw_retg ?_|(refine hK.n0 ?_;clear hK K)|refine runG_fk (fun h=>?_) fun h=>?_|refine runQG_fk (fun h=>?_) fun h=>?_|refine sw_condg rfl (fun h=>?_) fun h=>?_|refine hK.skp rfl rfl ?_|refine sw_exit rfl ?_|refine sw_loopEnd ?_|refine hK.c1 rfl rfl rfl (l1In_fc _ _ _) ?_|(refine hK.fork rfl rfl rfl ?_ ?_<;>intro h<;>try simp (disch:=(refine Om.mk ?_;omega)) only[go_sem] at h)|with_reducible refine and_o ?_|apply tTT
 ·rintro⟨_,_,_,h2⟩;exact h (h2 i (by omega))
 ·exact⟨i+1,by(refine covers_mk0 rfl rfl ?_ ?_ ?_ ?_<;>simp (disch:=(refine Om.mk ?_;omega)) only[go_sem]<;>(try omega)),⟨by omega,upto_succ hj h⟩,by omega⟩
 ·exact⟨by assumption,by assumption,by assumption,fun j hj'=>hj j (by omega)⟩
 ·intro j hj';omega
def kp66:List (Nat×List Nat):=[(0,[2,3]),(1,[4])]
attribute [go_sem] kp66 Tryz.results66 Tryz.ntmps66
theorem l23From_fc (r s:TransT):FC S 66 [] [] [] [TransD r,TransD s] (.bool (tst (SameFromP r s))) [] []:=by
 refine fcb Tryz.func66 fun B=>?_
 repeat' first|exact h.elim|refine sw_n ?_|refine sw_go 0 kp66 fun K hK=>?_|refine fun (K:KT) (hK:KOk S 0 _ _ _ K)=>?_|refine runL_g ?_|refine sw_retg0 ?_|refine sw_retg ?_|(refine hK.n0 ?_;clear hK K)|refine runG_fk (fun h=>?_) fun h=>?_|refine hK.skp rfl rfl ?_|refine sw_loopEnd ?_|refine hK.c1 rfl rfl rfl (specSameTerm_fc _ _ _ _) ?_|(refine hK.fork rfl rfl rfl ?_ ?_<;>intro h<;>try simp (disch:=(refine Om.mk ?_;omega)) only[go_sem] at h)|with_reducible refine and_o ?_|apply tTT
 all_goals (simp only[SameFromP];grind)
def kp65:List (Nat×List Nat):=[(0,[2,3]),(1,[2,3,37]),(2,[4]),(3,[2,3,5]),(4,[2,3,5,42]),(6,[2,3,5,54]),(7,[4]),(8,[2,3,5,6]),(9,[2,3,5,6,57]),(11,[2,3,5,6,85]),(12,[4]),(10,[2,3,5,6]),(5,[2,3,5]),(13,[4])]
attribute [go_sem] kp65 Tryz.results65 Tryz.ntmps65
theorem specAutoOk_fc (tk:Tk) (rs:List Int) (a:AutoT):FC S 65 [] [] [] [.agg [.sl tk (rs.map (.int .i64))],AutoD a] (.bool (tst (AutoOkP rs a))) [] []:=by
 refine fcb Tryz.func65 fun B=>?_
 refine sw_bnd_aggg 1 1 fun hb1_1=>?_
 refine sw_bnd_aggg 1 2 fun hb1_2=>?_
 repeat' first|exact h.elim|refine sw_n ?_|refine sw_go 0 kp65 fun K hK=>?_|refine fun (K:KT) (hK:KOk S 0 _ _ _ K)=>?_|refine sw_goD kp65 (by kernel_rfl) fun K hK=>?_|refine runL_g ?_|refine runQ_g ?_|refine sw_retg0 ?_|refine sw_retg ?_|(refine hK.n0 ?_;clear hK K)|refine runG_fk (fun h=>?_) fun h=>?_|refine runQG_fk (fun h=>?_) fun h=>?_|refine sw_condg rfl (fun h=>?_) fun h=>?_|refine hK.skp rfl rfl ?_|refine sw_exit rfl ?_|refine sw_loopEnd ?_|refine hK.c1 rfl rfl rfl (specSigOk_fc _ _) ?_|refine hK.c1 rfl rfl rfl (l1In_fc _ _ _) ?_|refine hK.c1 rfl rfl rfl (l23Set_fc _ _ _ ⟨by omega,by omega⟩) ?_|(refine hK.fork rfl rfl rfl ?_ ?_<;>intro h<;>try simp (disch:=(refine Om.mk ?_;omega)) only[go_sem] at h)|with_reducible refine and_o ?_|apply tTT
 ·rintro⟨⟨h1,_⟩,_⟩;contradiction
 ·rintro⟨⟨_,h1,_⟩,_⟩;omega
 ·rintro⟨⟨_,_,h1,_⟩,_⟩;omega
 ·rintro⟨⟨_,_,_,h1⟩,_⟩;have:=h1.len (by omega);omega
 ·rintro⟨⟨_,_,_,h1⟩,_⟩;contradiction
 refine sw_loopU (ι:=Nat) (fun i=>[(5,.int .i64 i)]) (fun _=>[]) (fun i=>i≤a.rules.length∧(∀j<i,TransOkP rs a.states (a.rules.getD j default)∧∀k<j,¬a.rules.getD k default=a.rules.getD j default)) (fun i=>a.rules.length-i) 0 cvA ⟨by omega,?_⟩ (fun i ⟨hi,hj⟩=>?_)
 rotate_left
 simp only[go_sem]
 repeat' first|exact h.elim|refine sw_n ?_|refine sw_go 0 kp65 fun K hK=>?_|refine fun (K:KT) (hK:KOk S 0 _ _ _ K)=>?_|refine sw_goD kp65 (by kernel_rfl) fun K hK=>?_|refine runL_g ?_|refine runQ_g ?_|refine sw_retg0 ?_|refine sw_retg ?_|(refine hK.n0 ?_;clear hK K)|refine runG_fk (fun h=>?_) fun h=>?_|refine runQG_fk (fun h=>?_) fun h=>?_|refine sw_condg rfl (fun h=>?_) fun h=>?_|refine hK.skp rfl rfl ?_|refine sw_exit rfl ?_|refine sw_loopEnd ?_|refine hK.c1 rfl rfl rfl (l23Trans_fc _ _ _ (a.rules.getD i default) ⟨by omega,by omega⟩) ?_|(refine hK.fork rfl rfl rfl ?_ ?_<;>intro h<;>try simp (disch:=(refine Om.mk ?_;omega)) only[go_sem] at h)|with_reducible refine and_o ?_|apply tTT
 ·rintro⟨_,h2⟩;exact h (h2 i (by omega)).1
 ·rename_i hi1 _
  have ht:=h
  refine sw_loopU (ι:=Nat) (fun p=>[(6,.int .i64 p)]) (fun p=>[]) (fun p=>p≤i∧∀k<p,¬a.rules.getD k default=a.rules.getD i default) (fun p=>i-p) 0 cvA ?_ (fun p hp=>?_)
  rotate_left
  simp only[go_sem]
  obtain⟨hp1,hp2⟩:=hp
  repeat' first|exact h.elim|refine sw_n ?_|refine sw_go 0 kp65 fun K hK=>?_|refine fun (K:KT) (hK:KOk S 0 _ _ _ K)=>?_|refine sw_goD kp65 (by kernel_rfl) fun K hK=>?_|refine runL_g ?_|refine runQ_g ?_|refine sw_retg0 ?_|refine sw_retg ?_|(refine hK.n0 ?_;clear hK K)|refine runG_fk (fun h=>?_) fun h=>?_|refine runQG_fk (fun h=>?_) fun h=>?_|refine sw_condg rfl (fun h=>?_) fun h=>?_|refine hK.skp rfl rfl ?_|refine sw_exit rfl ?_|refine sw_loopEnd ?_|refine hK.c1 rfl rfl rfl (l23From_fc (a.rules.getD p default) (a.rules.getD i default)) ?_|(refine hK.fork rfl rfl rfl ?_ ?_<;>intro h<;>try simp (disch:=(refine Om.mk ?_;omega)) only[go_sem] at h)|with_reducible refine and_o ?_|apply tTT
  ·rintro⟨_,h2⟩
   exact(h2 i (by omega)).2 p (by omega) ((trans_eq _ _).2 ⟨by assumption,by assumption⟩)
  ·exact⟨p+1,by(refine covers_mk0 rfl rfl ?_ ?_ ?_ ?_<;>simp (disch:=(refine Om.mk ?_;omega)) only[go_sem]<;>(try omega)),⟨by omega,upto_succ hp2 fun e=>h ((trans_eq _ _).1 e).2⟩,by omega⟩
  ·exact⟨p+1,by(refine covers_mk0 rfl rfl ?_ ?_ ?_ ?_<;>simp (disch:=(refine Om.mk ?_;omega)) only[go_sem]<;>(try omega)),⟨by omega,upto_succ hp2 fun e=>absurd ((trans_eq _ _).1 e).1 (by assumption)⟩,by omega⟩
  ·exact⟨i+1,by(refine covers_mk0 rfl rfl ?_ ?_ ?_ ?_<;>simp (disch:=(refine Om.mk ?_;omega)) only[go_sem]<;>(try omega)),⟨by omega,upto_succ hj ⟨ht,fun k hk=>hp2 k (by omega)⟩⟩,by omega⟩
  ·intro k hk;omega
 ·exact⟨⟨by assumption,by assumption,by omega,by assumption⟩,fun j hj'=>hj j (by omega)⟩
 ·intro j hj';omega
def kp36:List (Nat×List Nat):=[(0,[2,3]),(1,[3,10]),(2,[4]),(3,[3,5]),(4,[3,5,15]),(6,[3,5,6]),(7,[3,5,6,20]),(9,[3,5,6,33]),(10,[4]),(8,[3,5,6]),(5,[3,5]),(11,[4])]
attribute [go_sem] kp36 Tryz.results36 Tryz.ntmps36
theorem specSureIn_fc (tk:Tk) (rs:List Int) (a:AutoT):FC S 36 [] [] [] [.agg [.sl tk (rs.map (.int .i64))],AutoD a] (.bool (tst (AutoOkP rs a∧SureP a))) [] []:=by
 refine fcb Tryz.func36 fun B=>?_
 refine sw_bnd_aggg 1 1 fun hb1_1=>?_
 refine sw_bnd_aggg 1 2 fun hb1_2=>?_
 repeat' first|exact h.elim|refine sw_n ?_|refine sw_go 0 kp36 fun K hK=>?_|refine fun (K:KT) (hK:KOk S 0 _ _ _ K)=>?_|refine sw_goD kp36 (by kernel_rfl) fun K hK=>?_|refine runL_g ?_|refine runQ_g ?_|refine sw_retg0 ?_|refine sw_retg ?_|(refine hK.n0 ?_;clear hK K)|refine sw_condg rfl (fun h=>?_) fun h=>?_|refine sw_exit rfl ?_|refine sw_loopEnd ?_|refine hK.c1 rfl rfl rfl (specAutoOk_fc _ _ a) ?_|with_reducible refine and_o ?_|apply tTT
 ·rintro⟨h1,_⟩;contradiction
 have ha:=h
 refine sw_loopU (ι:=Nat) (fun i=>[(5,.int .i64 i)]) (fun _=>[]) (fun i=>i≤a.rules.length∧(∀j<i,∀k<j,¬SameFromP (a.rules.getD j default) (a.rules.getD k default))) (fun i=>a.rules.length-i) 0 cvA ⟨by omega,?_⟩ (fun i ⟨hi,hj⟩=>?_)
 rotate_left
 simp only[go_sem]
 repeat' first|exact h.elim|refine sw_n ?_|refine sw_go 0 kp36 fun K hK=>?_|refine fun (K:KT) (hK:KOk S 0 _ _ _ K)=>?_|refine sw_goD kp36 (by kernel_rfl) fun K hK=>?_|refine runL_g ?_|refine runQ_g ?_|refine sw_retg0 ?_|refine sw_retg ?_|(refine hK.n0 ?_;clear hK K)|refine sw_condg rfl (fun h=>?_) fun h=>?_|refine sw_exit rfl ?_|refine sw_loopEnd ?_|with_reducible refine and_o ?_|apply tTT
 ·skip
  refine sw_loopU (ι:=Nat) (fun p=>[(6,.int .i64 p)]) (fun p=>[]) (fun p=>p≤i∧∀k<p,¬SameFromP (a.rules.getD i default) (a.rules.getD k default)) (fun p=>i-p) 0 cvA ?_ (fun p hp=>?_)
  rotate_left
  simp only[go_sem]
  obtain⟨hp1,hp2⟩:=hp
  repeat' first|exact h.elim|refine sw_n ?_|refine sw_go 0 kp36 fun K hK=>?_|refine fun (K:KT) (hK:KOk S 0 _ _ _ K)=>?_|refine sw_goD kp36 (by kernel_rfl) fun K hK=>?_|refine runL_g ?_|refine runQ_g ?_|refine sw_retg0 ?_|refine sw_retg ?_|(refine hK.n0 ?_;clear hK K)|refine sw_condg rfl (fun h=>?_) fun h=>?_|refine sw_exit rfl ?_|refine sw_loopEnd ?_|refine hK.c1 rfl rfl rfl (l23From_fc (a.rules.getD i default) (a.rules.getD p default)) ?_|with_reducible refine and_o ?_|apply tTT
  ·rintro⟨_,h2⟩;exact h2 i (by omega) p (by omega) h
  ·exact⟨p+1,by(refine covers_mk0 rfl rfl ?_ ?_ ?_ ?_<;>simp (disch:=(refine Om.mk ?_;omega)) only[go_sem]<;>(try omega)),⟨by omega,upto_succ hp2 h⟩,by omega⟩
  ·exact⟨i+1,by(refine covers_mk0 rfl rfl ?_ ?_ ?_ ?_<;>simp (disch:=(refine Om.mk ?_;omega)) only[go_sem]<;>(try omega)),⟨by omega,upto_succ hj fun k hk=>hp2 k (by omega)⟩,by omega⟩
  ·intro k hk;omega
 ·exact fun j hj'=>hj j (by omega)
 ·intro j hj';omega
theorem take_exists {α:Type} [Inhabited α] {p:α→Prop} {xs:List α} {i:Nat} (hi:i≤xs.length):(∃x∈xs.take i,p x)↔∃k<i,p (xs.getD k default):=by
 constructor
 ·rintro⟨x,hx,hp⟩
  obtain⟨k,hk,rfl⟩:=List.getElem_of_mem hx
  have hk':k<i:=by simp at hk;omega
  exact⟨k,hk',by simpa[List.getD,List.getElem?_eq_getElem (show k<xs.length by omega)] using hp⟩
 ·rintro⟨k,hk,hp⟩
  refine⟨_,?_,hp⟩
  have hk':k<(xs.take i).length:=by simp;omega
  have:=List.getElem_mem hk'
  simpa[List.getD,List.getElem?_eq_getElem (show k<xs.length by omega)] using this
def kp127:List (Nat×List Nat):=[(0,[0,1]),(1,[0,1,5]),(2,[4]),(3,[9]),(4,[4]),(5,[4])]
attribute [go_sem] kp127 Tryz.results127 Tryz.ntmps127
theorem compareInts_fc (a b:Int):FC S 127 [] [] [] [.int .i64 a,.int .i64 b] (.int .i64 (cmpI a b)) [] []:=by
 refine fcb Tryz.func127 fun B=>?_
 repeat' first|exact h.elim|refine sw_n ?_|refine sw_go 0 kp127 fun K hK=>?_|refine fun (K:KT) (hK:KOk S 0 _ _ _ K)=>?_|refine runL_g ?_|refine sw_retg0 ?_|refine sw_retg ?_|(refine hK.n0 ?_;clear hK K)|refine sw_condg rfl (fun h=>?_) fun h=>?_|refine sw_loopEnd ?_|with_reducible refine and_o ?_|apply tTT
 all_goals (unfold cmpI;split<;>first|omega|(split<;>omega))
def kp153:List (Nat×List Nat):=[(0,[0]),(1,[2])]
attribute [go_sem] kp153 Tryz.results153 Tryz.ntmps153
theorem isNaN_fc (a:Int):FC S 153 [] [] [] [.int .i64 a] (.bool false) [] []:=by
 refine fcb Tryz.func153 fun B=>?_
 repeat' first|refine sw_n ?_|refine sw_go 0 kp153 fun K hK=>?_|refine fun (K:KT) (hK:KOk S 0 _ _ _ K)=>?_|refine runL_g ?_|refine sw_retg0 ?_|refine sw_retg ?_|(refine hK.n0 ?_;clear hK K)|with_reducible refine and_o ?_|apply tTT
def kp141:List (Nat×List Nat):=[(0,[0,1]),(1,[0,1,5]),(2,[0,1,5,6]),(3,[0,1,6,11]),(4,[12]),(5,[4]),(6,[4]),(7,[0,1,13]),(8,[4]),(9,[0,1,16]),(10,[4]),(11,[19]),(12,[4]),(13,[4])]
attribute [go_sem] kp141 Tryz.results141 Tryz.ntmps141
theorem cmpCompare_fc (a b:Int):FC S 141 [] [] [] [.int .i64 a,.int .i64 b] (.int .i64 (cmpI a b)) [] []:=by
 refine fcb Tryz.func141 fun B=>?_
 repeat' first|exact h.elim|refine sw_n ?_|refine sw_go 0 kp141 fun K hK=>?_|refine fun (K:KT) (hK:KOk S 0 _ _ _ K)=>?_|refine runL_g ?_|refine sw_retg0 ?_|refine sw_retg ?_|(refine hK.n0 ?_;clear hK K)|refine sw_condg rfl (fun h=>?_) fun h=>?_|refine hK.c1 rfl rfl rfl (isNaN_fc _) ?_|with_reducible refine and_o ?_|apply tTT
 all_goals (unfold cmpI;split<;>first|omega|(split<;>omega))
def kp118:List (Nat×List Nat):=[(0,[0,1]),(1,[0,1,9,10,11]),(2,[0,1,9,10,11,12]),(3,[0,1,5,6,9,10,11]),(4,[0,1,5,6,9,10,11,19]),(5,[4]),(6,[0,1,6,7,9,10,11]),(7,[0,1,8,9,10,11]),(8,[0,1,8,9,10,11,28]),(9,[4]),(10,[0,1,9,10,11]),(11,[35]),(12,[4]),(13,[4])]
attribute [go_sem] kp118 Tryz.results118 Tryz.ntmps118
theorem compare_fc (tk tk':Tk) (xs ys:List Int):FC S 118 [] [] [] [.sl tk (xs.map (.int .i64)),.sl tk' (ys.map (.int .i64))] (.int .i64 (cmpL xs ys)) [] []:=by
 refine fcb Tryz.func118 fun B=>?_
 refine sw_bndg 0 fun hb0=>?_
 refine sw_bndg 1 fun hb1=>?_
 repeat' first|exact h.elim|refine sw_n ?_|refine sw_go 0 kp118 fun K hK=>?_|refine fun (K:KT) (hK:KOk S 0 _ _ _ K)=>?_|refine runL_g ?_|refine sw_retg0 ?_|refine sw_retg ?_|(refine hK.n0 ?_;clear hK K)|refine sw_condg rfl (fun h=>?_) fun h=>?_|refine sw_exit rfl ?_|refine sw_loopEnd ?_|with_reducible refine and_o ?_|apply tTT
 refine sw_loopU (ι:=Nat) (fun i=>[(11,.int .i64 i)]) (fun _=>[]) (fun i=>i≤xs.length∧(i≤ys.length∧cmpL xs ys=cmpL (xs.drop i) (ys.drop i))) (fun i=>xs.length-i) 0 cvA ⟨by omega,?_⟩ (fun i ⟨hi,hj⟩=>?_)
 rotate_left
 simp only[go_sem]
 have hx:i<xs.length→xs.drop i=xs.getD i default::xs.drop (i+1):=fun h=>by rw[List.drop_eq_getElem_cons h];simp[List.getD,List.getElem?_eq_getElem h]
 have hy:i<ys.length→ys.drop i=ys.getD i default::ys.drop (i+1):=fun h=>by rw[List.drop_eq_getElem_cons h];simp[List.getD,List.getElem?_eq_getElem h]
 have hxe:xs.length≤i→xs.drop i=[]:=fun h=>List.drop_of_length_le h
 have hye:ys.length≤i→ys.drop i=[]:=fun h=>List.drop_of_length_le h
 repeat' first|exact h.elim|refine sw_n ?_|refine sw_go 0 kp118 fun K hK=>?_|refine fun (K:KT) (hK:KOk S 0 _ _ _ K)=>?_|refine runL_g ?_|refine sw_retg0 ?_|refine sw_retg ?_|(refine hK.n0 ?_;clear hK K)|refine sw_condg rfl (fun h=>?_) fun h=>?_|refine sw_exit rfl ?_|refine sw_loopEnd ?_|refine hK.c1 rfl rfl rfl (cmpCompare_fc _ _) ?_|with_reducible refine and_o ?_|apply tTT
 ·rw[hj.2,hx (by omega),hye (by omega)];rfl
 ·rw[hj.2,hx (by omega),hy (by omega),cmpL,if_pos (by assumption)]
 ·refine⟨i+1,by(refine covers_mk0 rfl rfl ?_ ?_ ?_ ?_<;>simp (disch:=(refine Om.mk ?_;omega)) only[go_sem]<;>(try omega)),⟨by omega,by omega,?_⟩,by omega⟩
  rw[hj.2,hx (by omega),hy (by omega),cmpL,if_neg (fun hh=>hh (by assumption))]
 ·rw[hj.2,hxe (by omega),hy (by omega)];rfl
 ·rw[hj.2,hxe (by omega),hye (by omega)];rfl
 ·simp
def kp105:List (Nat×List Nat):=[(0,[2,3]),(1,[2,3,10]),(2,[4]),(3,[2,3,5]),(4,[2,3,5,22]),(5,[4]),(6,[4])]
attribute [go_sem] kp105 Tryz.results105 Tryz.ntmps105
theorem compareTrans_fc (r s:TransT):FC S 105 [] [] [] [TransD r,TransD s] (.int .i64 (cmpT r s)) [] []:=by
 refine fcb Tryz.func105 fun B=>?_
 repeat' first|exact h.elim|refine sw_n ?_|refine sw_go 0 kp105 fun K hK=>?_|refine fun (K:KT) (hK:KOk S 0 _ _ _ K)=>?_|refine runL_g ?_|refine sw_retg0 ?_|refine sw_retg ?_|(refine hK.n0 ?_;clear hK K)|refine sw_condg rfl (fun h=>?_) fun h=>?_|refine sw_loopEnd ?_|refine hK.c1 rfl rfl rfl (compareInts_fc _ _) ?_|refine hK.c1 rfl rfl rfl (compare_fc _ _ _ _) ?_|with_reducible refine and_o ?_|apply tTT
 all_goals (unfold cmpT;simp_all)
def kp126:List (Nat×List Nat):=[(0,[0,1]),(1,[3])]
attribute [go_sem] kp126 Tryz.results126 Tryz.ntmps126
theorem statesOk1_fc (x:Int) (a:AutoT):FC S 126 [(2,[.int .i64 a.states,.sl .any (a.rules.map TransD),.sl .any (a.final.map (.int .i64))])] [] [] ([.int .i64 x]++[.box 2 0]) (.bool (tst (x<0∨a.states≤x))) [] []:=by
 refine fcb Tryz.func126 fun B=>?_
 repeat' first|exact h.elim|refine sw_n ?_|refine sw_go 0 kp126 fun K hK=>?_|refine fun (K:KT) (hK:KOk S 0 _ _ _ K)=>?_|refine runL_g ?_|refine sw_retg0 ?_|refine sw_retg ?_|(refine hK.n0 ?_;clear hK K)|refine runG_fk (fun h=>?_) fun h=>?_|refine hK.skp rfl rfl ?_|refine sw_loopEnd ?_|(refine hK.fork rfl rfl rfl ?_ ?_<;>intro h<;>try simp (disch:=(refine Om.mk ?_;omega)) only[go_sem] at h)|with_reducible refine and_o ?_|apply tTT
 all_goals omega
def kp103:List (Nat×List Nat):=[(0,[1,2]),(1,[4])]
attribute [go_sem] kp103 Tryz.results103 Tryz.ntmps103
theorem statesOk_fc (tk:Tk) (a:AutoT) (xs:List Int):FC S 103 [] [] [] [AutoD a,.sl tk (xs.map (.int .i64))] (.bool (tst (InP a.states xs))) [] []:=by
 refine fcb Tryz.func103 fun B=>?_
 repeat' first|refine sw_n ?_|refine sw_go 0 kp103 fun K hK=>?_|refine fun (K:KT) (hK:KOk S 0 _ _ _ K)=>?_|refine runL_g ?_|refine sw_retg0 ?_|refine sw_retg ?_|(refine hK.n0 ?_;clear hK K)|refine sw_loopEnd ?_|refine hK.cR rfl rfl rfl (containsFuncInt64_fc _ _ (fun x=>x<0∨a.states≤x) _ _ [(2,[.int .i64 a.states,.sl .any (a.rules.map TransD),.sl .any (a.final.map (.int .i64))])] (by simp[Lg.look]) (fun x _=>statesOk1_fc x a)) ?_|with_reducible refine and_o ?_|apply tTT
 have key:(¬ ∃x,x∈xs∧(x<0∨a.states≤x))↔InP a.states xs:=by
  constructor
  ·intro hn j hj'
   have:=(forall_getD (P:=fun x=>¬(x<0∨a.states≤x))).2 (fun x hx hh=>hn ⟨x,hx,hh⟩) j hj'
   omega
  ·rintro h2 ⟨x,hx,hh⟩
   have:=(forall_getD (P:=fun x=>0≤x∧x≤a.states-1)).1 h2 x hx
   omega
 rw[←key,Classical.not_not]
def kp104:List (Nat×List Nat):=[(0,[1,2]),(1,[3])]
attribute [go_sem] kp104 Tryz.results104 Tryz.ntmps104
theorem autoOk1_fc (r s:TransT):FC S 104 [(6,[.int .i64 r.sym,.sl .any (r.args.map (.int .i64)),.int .i64 r.to])] [] [] ([TransD s]++[.box 6 0]) (.bool (tst (r=s))) [] []:=by
 refine fcb Tryz.func104 fun B=>?_
 repeat' first|refine sw_n ?_|refine sw_go 100 kp104 fun K hK=>?_|refine fun (K:KT) (hK:KOk S 100 _ _ _ K)=>?_|refine runL_g ?_|refine sw_retg0 ?_|refine sw_retg ?_|(refine hK.n0 ?_;clear hK K)|refine sw_loopEnd ?_|refine hK.c1 rfl rfl rfl (compareTrans_fc r s) ?_|with_reducible refine and_o ?_|apply tTT
 exact cmpT_zero r s
def kp75:List (Nat×List Nat):=[(0,[2,3]),(1,[2,3,27]),(2,[4]),(3,[2,3,29,30,31]),(4,[2,3,29,30,31,32]),(5,[2,3,5,6,29,30,31]),(6,[2,3,5,6,29,30,31,73]),(7,[4]),(8,[2,3,29,30,31,79]),(9,[4]),(10,[2,3,29,30,31]),(11,[3,82,83,84]),(12,[3,82,83,84,85]),(13,[3,7,8,82,83,84]),(14,[3,82,83,84,100]),(15,[4]),(16,[3,82,83,84]),(17,[4])]
attribute [go_sem] kp75 Tryz.results75 Tryz.ntmps75
theorem implAutoOk_fc (tk:Tk) (rs:List Int) (a:AutoT):FC S 75 [] [] [] [.agg [.sl tk (rs.map (.int .i64))],AutoD a] (.bool (tst (AutoOkP rs a))) [] []:=by
 refine fcb Tryz.func75 fun B=>?_
 refine sw_bnd_aggg 0 0 fun hb0_0=>?_
 refine sw_bnd_aggg 1 1 fun hb1_1=>?_
 refine sw_bnd_aggg 1 2 fun hb1_2=>?_
 repeat' first|exact h.elim|refine sw_n ?_|refine sw_go 0 kp75 fun K hK=>?_|refine fun (K:KT) (hK:KOk S 0 _ _ _ K)=>?_|refine sw_goD kp75 (by kernel_rfl) fun K hK=>?_|refine runL_g ?_|refine runQ_g ?_|refine sw_retg0 ?_|refine sw_retg ?_|(refine hK.n0 ?_;clear hK K)|refine runG_fk (fun h=>?_) fun h=>?_|refine runQG_fk (fun h=>?_) fun h=>?_|refine sw_condg rfl (fun h=>?_) fun h=>?_|refine hK.skp rfl rfl ?_|refine sw_exit rfl ?_|refine sw_loopEnd ?_|refine hK.c1 rfl rfl rfl (implSigOk_fc _ _) ?_|(refine hK.fork rfl rfl rfl ?_ ?_<;>intro h<;>try simp (disch:=(refine Om.mk ?_;omega)) only[go_sem] at h)|with_reducible refine and_o ?_|((with_reducible refine And.intro ?_ ?_);· first|(intro x hx;subst hx;rfl)|(intro x;refine And.intro ?_ ?_<;>(intros;subst_vars;rfl)))|apply tTT
 ·rintro⟨⟨h1,_⟩,_⟩;contradiction
 ·rintro⟨⟨_,h1,_⟩,_⟩;omega
 ·rintro⟨⟨_,h1,_⟩,_⟩;omega
 ·rintro⟨⟨_,_,h1,_⟩,_⟩;omega
 refine sw_loopU (ι:=Nat) (fun i=>[(31,.int .i64 i)]) (fun _=>[]) (fun i=>i≤a.rules.length∧(∀j<i,TransOkP rs a.states (a.rules.getD j default)∧∀k<j,¬a.rules.getD k default=a.rules.getD j default)) (fun i=>a.rules.length-i) 0 cvA ⟨by omega,?_⟩ (fun i ⟨hi,hj⟩=>?_)
 rotate_left
 simp only[go_sem]
 repeat' first|exact h.elim|refine sw_n ?_|refine sw_go 0 kp75 fun K hK=>?_|refine fun (K:KT) (hK:KOk S 0 _ _ _ K)=>?_|refine sw_goD kp75 (by kernel_rfl) fun K hK=>?_|refine runL_g ?_|refine runQ_g ?_|refine sw_retg0 ?_|refine sw_retg ?_|(refine hK.n0 ?_;clear hK K)|refine runG_fk (fun h=>?_) fun h=>?_|refine runQG_fk (fun h=>?_) fun h=>?_|refine sw_condg rfl (fun h=>?_) fun h=>?_|refine hK.skp rfl rfl ?_|refine sw_exit rfl ?_|refine sw_loopEnd ?_|refine hK.cR rfl rfl rfl (containsFuncTrans_fc _ (a.rules.take i) (fun s=>a.rules.getD i default=s) _ _ [(6,[.int .i64 (a.rules.getD i default).sym,.sl .any ((a.rules.getD i default).args.map (.int .i64)),.int .i64 (a.rules.getD i default).to])] (by simp[Lg.look]) (fun s _=>autoOk1_fc _ s)) ?_|refine hK.c1 rfl rfl rfl (statesOk_fc _ a (a.rules.getD i default).args) ?_|refine hK.c1 rfl rfl rfl (statesOk_fc _ a [(a.rules.getD i default).to]) ?_|refine hK.c1 rfl rfl rfl (statesOk_fc _ a a.final) ?_|(refine hK.fork rfl rfl rfl ?_ ?_<;>intro h<;>try simp (disch:=(refine Om.mk ?_;omega)) only[go_sem] at h)|with_reducible refine and_o ?_|((with_reducible refine And.intro ?_ ?_);· first|(intro x hx;subst hx;rfl)|(intro x;refine And.intro ?_ ?_<;>(intros;subst_vars;rfl)))|apply tTT
 ·rintro⟨_,h2⟩;have:=(h2 i (by omega)).1.1;omega
 ·rintro⟨_,h2⟩;have:=(h2 i (by omega)).1.1;omega
 ·rintro⟨_,h2⟩;exact absurd (h2 i (by omega)).1.2.1 (by assumption)
 ·rintro⟨_,h2⟩;exact absurd (h2 i (by omega)).1.2.2.2 (by assumption)
 ·rintro⟨_,h2⟩
  refine absurd ?_ h
  intro j hj'
  obtain rfl:j=0:=by simp at hj';omega
  exact(h2 i (by omega)).1.2.2.1
 ·rintro⟨_,h2⟩
  obtain⟨k,hk,e⟩:=(take_exists hi).1 h
  exact(h2 i (by omega)).2 k hk e.symm
 ·have hto:InP a.states [(a.rules.getD i default).to]:=by assumption
  have ht:=hto 0 (by simp)
  simp only[List.getD_cons_zero] at ht
  exact⟨i+1,by(refine covers_mk0 rfl rfl ?_ ?_ ?_ ?_<;>simp (disch:=(refine Om.mk ?_;omega)) only[go_sem]<;>(try omega)),⟨by omega,upto_succ hj ⟨⟨⟨by assumption,by omega⟩,by assumption,ht,by assumption⟩,fun k hk e=>h ((take_exists hi).2 ⟨k,hk,e.symm⟩)⟩⟩,by omega⟩
 ·have hr:=hj
  have hri:=hi
  refine sw_loopU (ι:=Nat) (fun i=>[(84,.int .i64 i)]) (fun _=>[]) (fun i=>i≤a.final.length∧(∀j<i,0<j→a.final.getD (j-1) default<a.final.getD j default)) (fun i=>a.final.length-i) 0 cvA ⟨by omega,?_⟩ (fun i ⟨hi,hj⟩=>?_)
  rotate_left
  simp only[go_sem]
  repeat' first|exact h.elim|refine sw_n ?_|refine sw_go 0 kp75 fun K hK=>?_|refine fun (K:KT) (hK:KOk S 0 _ _ _ K)=>?_|refine sw_goD kp75 (by kernel_rfl) fun K hK=>?_|refine runL_g ?_|refine runQ_g ?_|refine sw_retg0 ?_|refine sw_retg ?_|(refine hK.n0 ?_;clear hK K)|refine runG_fk (fun h=>?_) fun h=>?_|refine runQG_fk (fun h=>?_) fun h=>?_|refine sw_condg rfl (fun h=>?_) fun h=>?_|refine hK.skp rfl rfl ?_|refine sw_exit rfl ?_|refine sw_loopEnd ?_|refine hK.c1 rfl rfl rfl (statesOk_fc _ a a.final) ?_|(refine hK.fork rfl rfl rfl ?_ ?_<;>intro h<;>try simp (disch:=(refine Om.mk ?_;omega)) only[go_sem] at h)|with_reducible refine and_o ?_|((with_reducible refine And.intro ?_ ?_);· first|(intro x hx;subst hx;rfl)|(intro x;refine And.intro ?_ ?_<;>(intros;subst_vars;rfl)))|apply tTT
  ·rintro⟨⟨_,_,_,h2⟩,_⟩
   have:=(h2 i (by omega)).2 (by omega);omega
  ·exact⟨i+1,by(refine covers_mk0 rfl rfl ?_ ?_ ?_ ?_<;>simp (disch:=(refine Om.mk ?_;omega)) only[go_sem]<;>(try omega)),⟨by omega,upto_succ hj fun _=>h⟩,by omega⟩
  ·exact⟨i+1,by(refine covers_mk0 rfl rfl ?_ ?_ ?_ ?_<;>simp (disch:=(refine Om.mk ?_;omega)) only[go_sem]<;>(try omega)),⟨by omega,upto_succ hj fun _=>by omega⟩,by omega⟩
  ·constructor
   ·intro hin
    exact⟨⟨by assumption,⟨by assumption,by assumption⟩,by omega,fun j hj'=>⟨hin j hj',hj j (by omega)⟩⟩,fun j hj'=>hr j (by omega)⟩
   ·rintro⟨⟨_,_,_,h2⟩,_⟩ j hj'
    exact(h2 j hj').1
  ·intro j hj';omega
 ·intro j hj';omega
def kp106:List (Nat×List Nat):=[(0,[1,2]),(1,[3])]
attribute [go_sem] kp106 Tryz.results106 Tryz.ntmps106
theorem sure1_fc (r s:TransT):FC S 106 [(4,[.int .i64 r.sym,.sl .any (r.args.map (.int .i64)),.int .i64 r.to])] [] [] ([TransD s]++[.box 4 0]) (.bool (tst (SameFromP s r))) [] []:=by
 refine fcb Tryz.func106 fun B=>?_
 repeat' first|exact h.elim|refine sw_n ?_|refine sw_go 100 kp106 fun K hK=>?_|refine fun (K:KT) (hK:KOk S 100 _ _ _ K)=>?_|refine runL_g ?_|refine sw_retg0 ?_|refine sw_retg ?_|(refine hK.n0 ?_;clear hK K)|refine runG_fk (fun h=>?_) fun h=>?_|refine hK.skp rfl rfl ?_|refine sw_loopEnd ?_|refine hK.c1 rfl rfl rfl (equalInt64_fc _ _ _ _) ?_|(refine hK.fork rfl rfl rfl ?_ ?_<;>intro h<;>try simp (disch:=(refine Om.mk ?_;omega)) only[go_sem] at h)|with_reducible refine and_o ?_|apply tTT
 all_goals (simp only[SameFromP];grind)
def kp76:List (Nat×List Nat):=[(0,[1]),(1,[1,6,7,8]),(2,[1,6,7,8,9]),(3,[1,3,4,6,7,8]),(4,[1,6,7,8,18]),(5,[2]),(6,[1,6,7,8]),(7,[2])]
attribute [go_sem] kp76 Tryz.results76 Tryz.ntmps76
theorem sure_fc (a:AutoT):FC S 76 [] [] [] [AutoD a] (.bool (tst (SureP a))) [] []:=by
 refine fcb Tryz.func76 fun B=>?_
 refine sw_bnd_aggg 0 1 fun hb0_1=>?_
 repeat' first|exact h.elim|refine sw_n ?_|refine sw_go 0 kp76 fun K hK=>?_|refine fun (K:KT) (hK:KOk S 0 _ _ _ K)=>?_|refine runL_g ?_|refine sw_retg0 ?_|refine sw_retg ?_|(refine hK.n0 ?_;clear hK K)|refine sw_condg rfl (fun h=>?_) fun h=>?_|refine sw_exit rfl ?_|refine sw_loopEnd ?_|with_reducible refine and_o ?_|apply tTT
 refine sw_loopU (ι:=Nat) (fun i=>[(8,.int .i64 i)]) (fun _=>[]) (fun i=>i≤a.rules.length∧(∀j<i,∀k<j,¬SameFromP (a.rules.getD j default) (a.rules.getD k default))) (fun i=>a.rules.length-i) 0 cvA ⟨by omega,?_⟩ (fun i ⟨hi,hj⟩=>?_)
 rotate_left
 simp only[go_sem]
 repeat' first|exact h.elim|refine sw_n ?_|refine sw_go 0 kp76 fun K hK=>?_|refine fun (K:KT) (hK:KOk S 0 _ _ _ K)=>?_|refine runL_g ?_|refine sw_retg0 ?_|refine sw_retg ?_|(refine hK.n0 ?_;clear hK K)|refine sw_condg rfl (fun h=>?_) fun h=>?_|refine sw_exit rfl ?_|refine sw_loopEnd ?_|refine hK.cR rfl rfl rfl (containsFuncTrans_fc _ (a.rules.take i) (fun s=>SameFromP s (a.rules.getD i default)) _ _ [(4,[.int .i64 (a.rules.getD i default).sym,.sl .any ((a.rules.getD i default).args.map (.int .i64)),.int .i64 (a.rules.getD i default).to])] (by simp[Lg.look]) (fun s _=>sure1_fc _ s)) ?_|with_reducible refine and_o ?_|apply tTT
 ·intro h2
  obtain⟨k,hk,e⟩:=(take_exists hi).1 h
  exact h2 i (by omega) k hk ⟨e.1.symm,e.2.symm⟩
 ·exact⟨i+1,by(refine covers_mk0 rfl rfl ?_ ?_ ?_ ?_<;>simp (disch:=(refine Om.mk ?_;omega)) only[go_sem]<;>(try omega)),⟨by omega,upto_succ hj fun k hk e=>h ((take_exists hi).2 ⟨k,hk,e.1.symm,e.2.symm⟩)⟩,by omega⟩
 ·exact fun j hj'=>hj j (by omega)
 ·intro j hj';omega
def kp44:List (Nat×List Nat):=[(0,[2,3]),(1,[4])]
attribute [go_sem] kp44 Tryz.results44 Tryz.ntmps44
theorem implSureIn_fc (tk:Tk) (rs:List Int) (a:AutoT):FC S 44 [] [] [] [.agg [.sl tk (rs.map (.int .i64))],AutoD a] (.bool (tst (AutoOkP rs a∧SureP a))) [] []:=by
 refine fcb Tryz.func44 fun B=>?_
 repeat' first|exact h.elim|refine sw_n ?_|refine sw_go 0 kp44 fun K hK=>?_|refine fun (K:KT) (hK:KOk S 0 _ _ _ K)=>?_|refine runL_g ?_|refine sw_retg0 ?_|refine sw_retg ?_|(refine hK.n0 ?_;clear hK K)|refine runG_fk (fun h=>?_) fun h=>?_|refine hK.skp rfl rfl ?_|refine sw_loopEnd ?_|refine hK.c1 rfl rfl rfl (implAutoOk_fc _ _ a) ?_|refine hK.c1 rfl rfl rfl (sure_fc a) ?_|(refine hK.fork rfl rfl rfl ?_ ?_<;>intro h<;>try simp (disch:=(refine Om.mk ?_;omega)) only[go_sem] at h)|with_reducible refine and_o ?_|apply tTT
 ·exact⟨fun h'=>⟨by assumption,h'⟩,fun h'=>h'.2⟩
 ·rintro⟨h1,_⟩;contradiction
end
section
end
section
attribute [local irreducible] SW runL runQ runG runQG FC
theorem drop_cons {α:Type} [Inhabited α] {xs:List α} {k:Nat} (h:k<xs.length):xs.drop k=xs.getD k default::xs.drop (k+1):=by
 rw[List.drop_eq_getElem_cons h];simp[List.getD,List.getElem?_eq_getElem h]
def kp24:List (Nat×List Nat):=[(0,[0,1]),(1,[0,1,5]),(2,[0,1,5,9]),(4,[0,1,5,17]),(5,[4]),(3,[0,1,5]),(6,[4])]
attribute [go_sem] kp24 Tryz.results24 Tryz.ntmps24
theorem l1Has_fc (tk:Tk) (xs:List Int) (n:Int):FC S 24 [] [] [] [.sl tk (xs.map (.int .i64)),.int .i64 n] (.bool (tst (n∈xs))) [] []:=by
 refine fcb Tryz.func24 fun B=>?_
 refine sw_bndg 0 fun hb0=>?_
 repeat' first|refine sw_n ?_|refine sw_go 0 kp24 fun K hK=>?_|refine runL_g ?_|(refine hK.n0 ?_;clear hK K)|apply tTT
 refine sw_loopU (ι:=Nat) (fun i=>[(5,.int .i64 i)]) (fun _=>[]) (fun i=>i≤xs.length∧(∀j<i,¬xs.getD j default=n)) (fun i=>xs.length-i) 0 cvA ⟨by omega,?_⟩ (fun i ⟨hi,hj⟩=>?_)
 rotate_left
 simp only[go_sem]
 repeat' first|exact h.elim|refine sw_n ?_|refine sw_go 0 kp24 fun K hK=>?_|refine runL_g ?_|refine sw_retg0 ?_|(refine hK.n0 ?_;clear hK K)|refine sw_condg rfl (fun h=>?_) fun h=>?_|refine sw_exit rfl ?_|refine sw_loopEnd ?_|with_reducible refine and_o ?_|apply tTT
 ·rw[←h];exact getD_mem _ _ (by omega)
 ·exact⟨i+1,by(refine covers_mk0 rfl rfl ?_ ?_ ?_ ?_<;>simp (disch:=(refine Om.mk ?_;omega)) only[go_sem]<;>(try omega)),⟨by omega,upto_succ hj h⟩,by omega⟩
 ·intro hm
  exact(forall_getD (P:=fun x=>¬x=n)).1 (fun j hj'=>hj j (by omega)) n hm rfl
 ·intro j hj';omega
def kp129:List (Nat×List Nat):=[(0,[0,1]),(1,[0,1,7,8]),(2,[0,1,7,8,9]),(3,[0,1,5,7,8]),(4,[0,1,5,7,8,16]),(5,[4]),(6,[0,1,7,8]),(7,[4])]
attribute [go_sem] kp129 Tryz.results129 Tryz.ntmps129
theorem index_fc (tk:Tk) (xs:List Int) (n:Int):FC S 129 [] [] [] [.sl tk (xs.map (.int .i64)),.int .i64 n] (.int .i64 (fidx (fun x=>x=n) xs)) [] []:=by
 refine fcb Tryz.func129 fun B=>?_
 refine sw_bndg 0 fun hb0=>?_
 repeat' first|refine sw_n ?_|refine sw_go 0 kp129 fun K hK=>?_|refine runL_g ?_|(refine hK.n0 ?_;clear hK K)|apply tTT
 refine sw_loopU (ι:=Nat) (fun i=>[(8,.int .i64 i)]) (fun _=>[]) (fun i=>i≤xs.length∧(∀j<i,¬xs.getD j default=n)) (fun i=>xs.length-i) 0 cvA ⟨by omega,?_⟩ (fun i ⟨hi,hj⟩=>?_)
 rotate_left
 simp only[go_sem]
 repeat' first|exact h.elim|refine sw_n ?_|refine sw_go 0 kp129 fun K hK=>?_|refine runL_g ?_|refine sw_retg0 ?_|(refine hK.n0 ?_;clear hK K)|refine sw_condg rfl (fun h=>?_) fun h=>?_|refine sw_exit rfl ?_|refine sw_loopEnd ?_|with_reducible refine and_o ?_|apply tTT
 ·exact(fidx_at (p:=fun x=>x=n) hj (by omega) h.symm).symm
 ·exact⟨i+1,by(refine covers_mk0 rfl rfl ?_ ?_ ?_ ?_<;>simp (disch:=(refine Om.mk ?_;omega)) only[go_sem]<;>(try omega)),⟨by omega,upto_succ hj fun e=>h e.symm⟩,by omega⟩
 ·exact(fidx_none (p:=fun x=>x=n) fun j hj'=>hj j (by omega)).symm
 ·intro j hj';omega
def kp109:List (Nat×List Nat):=[(0,[0,1]),(1,[4])]
attribute [go_sem] kp109 Tryz.results109 Tryz.ntmps109
theorem contains_fc (tk:Tk) (xs:List Int) (n:Int):FC S 109 [] [] [] [.sl tk (xs.map (.int .i64)),.int .i64 n] (.bool (tst (n∈xs))) [] []:=by
 refine fcb Tryz.func109 fun B=>?_
 repeat' first|refine sw_n ?_|refine sw_go 0 kp109 fun K hK=>?_|refine runL_g ?_|refine sw_retg0 ?_|(refine hK.n0 ?_;clear hK K)|refine hK.c1 rfl rfl rfl (index_fc _ _ _) ?_|apply tTT
 rw[fidx_ge (p:=fun x=>x=n)]
 exact⟨fun⟨x,hx,e⟩=>e ▸ hx,fun h=>⟨n,h,rfl⟩⟩
def kp59:List (Nat×List Nat):=[(0,[0]),(1,[2])]
attribute [go_sem] kp59 Tryz.results59 Tryz.ntmps59
theorem l1Copy_fc (tk:Tk) (xs:List Int) (hl:xs.length≤17592186044416):FC S 59 [] [] [] [.sl tk (xs.map (.int .i64))] (.sl (.own 0 2 1) (xs.map (.int .i64))) [] [0]:=by
 refine FC.args (args':=[.sl .any (xs.map (.int .i64))]) ?_ (by simp only[go_sem])
 refine fcb1 Tryz.func59 fun B=>?_
 refine sw_bndg 0 fun hb0=>?_
 repeat' first|refine sw_n ?_|refine sw_go 0 kp59 fun K hK=>?_|refine runL_g ?_|refine sw_retg ?_|(refine hK.n0 ?_;clear hK K)|with_reducible refine and_o ?_|apply tTT
 exact ret1_own rfl (by simp)
attribute [go_sem] Tryz.results79 Tryz.ntmps79
end
section
attribute [local irreducible] SW runL runQ runG runQG FC Ret1
def numR (s:Nat):List Int→Nat
 | []=>0
 | x::r=>x.toNat+s*numR s r
def nextR (n:Int):List Int→List Int×Bool
 | []=>([],false)
 | x::r=>if x+1<n then ((x+1)::r,true) else (0::(nextR n r).1,(nextR n r).2)
def nextL (n:Int) (xs:List Int):List Int×Bool:=((nextR n xs.reverse).1.reverse,(nextR n xs.reverse).2)
def ValidL (s:Nat) (l:List Int):Prop:=∀x∈l,0≤x∧x<s
theorem nextR_ok {s:Nat} (hs:1≤s):∀ {l:List Int},ValidL s l→ValidL s (nextR s l).1∧(nextR s l).1.length=l.length∧((nextR s l).2=true→numR s (nextR s l).1=numR s l+1)∧((nextR s l).2=false→numR s l+1=s^l.length)
 | [],_=>⟨fun x hx=>(by cases hx),rfl,fun h=>(by cases h),fun _=>(by simp[numR])⟩
 | x::r,h=>by
  have h1:=h x List.mem_cons_self
  have hr:ValidL s r:=fun y hy=>h y (List.mem_cons_of_mem _ hy)
  obtain⟨i1,i2,i3,i4⟩:=nextR_ok hs (l:=r) hr
  simp only[nextR]
  split
  ·rename_i hc
   refine⟨fun y hy=>?_,rfl,fun _=>?_,fun h=>(by cases h)⟩
   ·rcases List.mem_cons.1 hy with rfl|hy
    ·omega
    ·exact hr y hy
   ·simp only[numR];omega
  ·rename_i hc
   refine⟨fun y hy=>?_,by simp[i2],fun hf=>?_,fun hf=>?_⟩
   ·rcases List.mem_cons.1 hy with rfl|hy
    ·omega
    ·exact i1 y hy
   ·simp only[numR,i3 hf,Nat.mul_add];omega
   ·have:=i4 hf
    simp only[numR,List.length_cons,Nat.pow_succ,←this]
    rw[Nat.mul_comm (numR s r+1) s,Nat.mul_add];omega
def stepL (xs:List Int) (k:Nat):List Int:=xs.take k++List.replicate (xs.length-k) 0
theorem stepL_len (xs:List Int) (k:Nat) (h:k≤xs.length):(stepL xs k).length=xs.length:=by simp[stepL];omega
theorem stepL_split (xs:List Int) (k:Nat) (h:k<xs.length):stepL xs (k+1)=xs.take k++xs.getD k default::List.replicate (xs.length-(k+1)) 0:=by
 unfold stepL
 rw[List.take_succ_eq_append_getElem h,List.append_assoc]
 simp[List.getD,List.getElem?_eq_getElem h]
theorem set_split (a b:List Int) (x y:Int):(a++x::b).set a.length y=a++y::b:=by
 induction a with
 | nil=>rfl
 | cons c a ih=>simp[ih]
theorem set_len_app (a:List Int) (k:Nat) (b:List Int) {x y:Int} (h:a.length=k):(a++x::b).set k y=a++y::b:=by subst h;exact set_split a b x y
theorem stepL_set (xs:List Int) (k:Nat) (h:k<xs.length) (v:Int):(stepL xs (k+1)).set k v=xs.take k++v::List.replicate (xs.length-(k+1)) 0:=by
 rw[stepL_split xs k h]
 have hs:=set_split (xs.take k) (List.replicate (xs.length-(k+1)) 0) (xs.getD k default) v
 rwa [show (xs.take k).length=k by simp;omega] at hs
theorem stepL_get (xs:List Int) (k:Nat) (h:k<xs.length):(stepL xs (k+1)).getD k default=xs.getD k default:=by
 rw[stepL_split xs k h]
 have:(xs.take k).length=k:=by simp;omega
 simp[List.getD,List.getElem?_append,this]
theorem take_rev (xs:List Int) (k:Nat) (h:k<xs.length):(xs.take (k+1)).reverse=xs.getD k default::(xs.take k).reverse:=by
 rw[List.take_succ_eq_append_getElem h]
 simp[List.getD,List.getElem?_eq_getElem h]
def NextInv (n:Int) (xs:List Int) (k:Nat):Prop:=nextR n xs.reverse=(List.replicate (xs.length-k) 0++(nextR n (xs.take k).reverse).1,(nextR n (xs.take k).reverse).2)
theorem nextInv_start (n:Int) (xs:List Int):NextInv n xs xs.length:=by simp[NextInv]
theorem nextInv_yes {n:Int} {xs:List Int} {k:Nat} (hk:k<xs.length) (h:NextInv n xs (k+1)) (hx:xs.getD k default+1<n):nextL n xs=(xs.take k++(xs.getD k default+1)::List.replicate (xs.length-(k+1)) 0,true):=by
 unfold NextInv at h
 rw[take_rev xs k hk] at h
 simp only[nextR,if_pos hx] at h
 unfold nextL
 rw[h]
 simp
theorem nextInv_no {n:Int} {xs:List Int} {k:Nat} (hk:k<xs.length) (h:NextInv n xs (k+1)) (hx:¬xs.getD k default+1<n):NextInv n xs k:=by
 unfold NextInv at h ⊢
 rw[take_rev xs k hk] at h
 simp only[nextR,if_neg hx] at h
 rw[h,show xs.length-k=(xs.length-(k+1))+1 by omega,List.replicate_succ']
 simp
theorem nextInv_end {n:Int} {xs:List Int} (h:NextInv n xs 0):nextL n xs=(stepL xs 0,false):=by
 unfold NextInv at h
 unfold nextL
 rw[h]
 simp[nextR,stepL]
def kp56:List (Nat×List Nat):=[(0,[0,1]),(1,[1,6]),(2,[1,6,7]),(3,[1,6,7,14]),(5,[1,6,7]),(6,[1,6,7,30]),(7,[4,5]),(8,[1,6,7]),(4,[1,6,7]),(9,[4,5])]
attribute [go_sem] kp56 Tryz.results56 Tryz.ntmps56
theorem nextList0_fc (tk:Tk) (n:Int):FC S 56 [] [] [] [.sl tk ([].map (.int .i64)),.int .i64 n] (.tup [.sl .any ([].map (.int .i64)),.bool false]) [] []:=by
 refine FC.args (args':=[.sl .any ([].map (.int .i64)),.int .i64 n]) ?_ (by simp only[go_sem])
 refine fcb Tryz.func56 fun B=>?_
 refine sw_bndg 0 fun hb0=>?_
 repeat' first|exact h.elim|refine sw_n ?_|refine sw_go 0 kp56 fun K hK=>?_|refine fun (K:KT) (hK:KOk S 0 _ _ _ K)=>?_|refine runL_g ?_|refine sw_retg0 ?_|refine sw_retg ?_|(refine hK.n0 ?_;clear hK K)|refine sw_condg rfl (fun h=>?_) fun h=>?_|refine sw_exit rfl ?_|refine sw_loopEnd ?_|refine hK.cB rfl rfl rfl (l1Copy_fc .any [] (by simp)) ?_|with_reducible refine and_o ?_|apply tTT
 refine sw_loopU (ι:=Nat) (fun p=>[(7,.int .i64 (-1))]) (fun p=>[]) (fun p=>True) (fun p=>p) 0 cvA ?_ (fun p hp=>?_)
 rotate_left
 simp only[go_sem]
 repeat' first|exact h.elim|refine sw_n ?_|refine sw_go 0 kp56 fun K hK=>?_|refine fun (K:KT) (hK:KOk S 0 _ _ _ K)=>?_|refine runL_g ?_|refine sw_retg0 ?_|refine sw_retg ?_|(refine hK.n0 ?_;clear hK K)|refine sw_condg rfl (fun h=>?_) fun h=>?_|refine sw_exit rfl ?_|refine sw_loopEnd ?_|with_reducible refine and_o ?_|apply tTT
 ·exfalso;omega
 all_goals trivial
theorem nextList1_fc (tk:Tk) (xs:List Int) (n:Int) (hne:xs≠[]) (hl:xs.length≤100) (hx:∀x∈xs,0≤x∧x≤1000):FC S 56 [] [] [] [.sl tk (xs.map (.int .i64)),.int .i64 n] (.tup [.sl .any ((nextL n xs).1.map (.int .i64)),.bool (nextL n xs).2]) [] []:=by
 refine FC.args (args':=[.sl .any (xs.map (.int .i64)),.int .i64 n]) ?_ (by simp only[go_sem])
 refine fcb Tryz.func56 fun B=>?_
 refine sw_bndg 0 fun hb0=>?_
 repeat' first|exact h.elim|refine sw_n ?_|refine sw_go 0 kp56 fun K hK=>?_|refine fun (K:KT) (hK:KOk S 0 _ _ _ K)=>?_|refine runL_g ?_|refine sw_retg0 ?_|refine sw_retg ?_|(refine hK.n0 ?_;clear hK K)|refine sw_condg rfl (fun h=>?_) fun h=>?_|refine sw_exit rfl ?_|refine sw_loopEnd ?_|refine hK.cT rfl rfl rfl (l1Copy_fc .any xs (by omega)) ?_|with_reducible refine and_o ?_|apply tTT
 refine sw_loopU (ι:=Nat) (fun p=>[(7,.int .i64 (p-1:Int))]) (fun p=>[(9,(stepL xs p).map (.int .i64))]) (fun p=>p≤xs.length∧NextInv n xs p) (fun p=>p) xs.length (by(refine covers_mk0 rfl rfl ?_ ?_ ?_ ?_<;>simp (disch:=(refine Om.mk ?_;omega)) only[go_sem]<;>(try omega));simp[stepL]) ?_ (fun p hp=>?_)
 rotate_left
 simp only[go_sem]
 obtain⟨hp1,hp2⟩:=hp
 have hlen:=stepL_len xs p hp1
 cases p with
 | zero =>
  have hz:=nextInv_end hp2
  rw[hz]
  repeat' first|exact h.elim|(refine sw_freezeAt 9 6 1 .any ((stepL xs 0).map (.int .i64)) rfl rfl (flat_ints _).symm (by simp[hlen]) (cells_one fun _=>rfl) (memOk_ints _) (.inl rfl) ?_;simp only[go_sem])|refine sw_n ?_|refine sw_go 0 kp56 fun K hK=>?_|refine fun (K:KT) (hK:KOk S 0 _ _ _ K)=>?_|refine runL_g ?_|refine sw_retg0 ?_|refine sw_retg ?_|(refine hK.n0 ?_;clear hK K)|refine sw_condg rfl (fun h=>?_) fun h=>?_|refine sw_exit rfl ?_|refine sw_loopEnd ?_|with_reducible refine and_o ?_|apply tTT
  ·exfalso;omega
  ·exfalso;omega
 | succ k =>
  have hk:k<xs.length:=by omega
  have hg:=stepL_get xs k hk
  have hxk:=hx _ (getD_mem xs k hk)
  have hset:=stepL_set xs k hk
  have hlt:k<(stepL xs (k+1)).length:=by omega
  have hi:((k+1:Nat):Int)-1=(k:Int):=by omega
  have hl2:((stepL xs (k+1)).set k ((stepL xs (k+1)).getD k default+1)).length=xs.length:=by rw[List.length_set];exact hlen
  rw[hi]
  repeat' first|exact h.elim|(refine sw_freezeAt 7 6 1 .any (((stepL xs (k+1)).set k ((stepL xs (k+1)).getD k default+1)).map (.int .i64)) rfl rfl (flat_ints _).symm (by simp[hlen]) (cells_one fun _=>rfl) (memOk_ints _) (.inl rfl) ?_;simp only[go_sem])|refine sw_n ?_|refine sw_go 0 kp56 fun K hK=>?_|refine fun (K:KT) (hK:KOk S 0 _ _ _ K)=>?_|refine runL_g ?_|refine sw_retg0 ?_|refine sw_retg ?_|(refine hK.n0 ?_;clear hK K)|refine sw_condg rfl (fun h=>?_) fun h=>?_|refine sw_exit rfl ?_|refine sw_loopEnd ?_|with_reducible refine and_o ?_|apply tTT
  ·rw[hg] at h ⊢
   rw[nextInv_yes hk hp2 h,hset]
   exact⟨rfl,rfl⟩
  ·rw[hg] at h
   refine⟨k,(by(refine covers_mk0 rfl rfl ?_ ?_ ?_ ?_<;>simp (disch:=(refine Om.mk ?_;omega)) only[go_sem]<;>(try omega));rw[hset,set_len_app _ _ _ (by simp;omega)];unfold stepL;rw[show xs.length-k=(xs.length-(k+1))+1 by omega,List.replicate_succ]),⟨by omega,nextInv_no hk hp2 (by omega)⟩,by omega⟩
 ·exact⟨Nat.le_refl _,nextInv_start n xs⟩
theorem nextList_fc (tk:Tk) (xs:List Int) (n:Int) (hl:xs.length≤100) (hx:∀x∈xs,0≤x∧x≤1000):FC S 56 [] [] [] [.sl tk (xs.map (.int .i64)),.int .i64 n] (.tup [.sl .any ((nextL n xs).1.map (.int .i64)),.bool (nextL n xs).2]) [] []:=by
 by_cases h:xs=[]
 ·subst h;exact nextList0_fc tk n
 ·exact nextList1_fc tk xs n h hl hx
end
section
def nxtD:List (Int×Int)→List Int→List Int×Bool
 | b::bs,x::xs=>if (nxtD bs xs).2=true then (x::(nxtD bs xs).1,true) else if x<b.2 then ((x+1)::(nxtD bs xs).1,true) else (b.1::(nxtD bs xs).1,false)
 | _,_=>([],false)
def blkD (A:List (List Int)) (v:Int):Nat→List (List Int)
 | 0=>A.map (v::·)
 | n+1=>A.map (v::·)++blkD A (v+1) n
def allD:List (Int×Int)→List (List Int)
 | []=>[[]]
 | b::bs=>blkD (allD bs) b.1 (b.2-b.1).toNat
def lowD (bs:List (Int×Int)):List Int:=bs.map (·.1)
def DigP:List (Int×Int)→List Int→Prop
 | [],[]=>True
 | b::bs,x::xs=>(b.1≤x∧x≤b.2)∧DigP bs xs
 | _,_=>False
def SeqD (bs:List (Int×Int)):List (List Int)→Prop
 | []=>True
 | [x]=>nxtD bs x=(lowD bs,false)
 | x::y::r=>nxtD bs x=(y,true)∧SeqD bs (y::r)
theorem nxtD_cons (b:Int×Int) (bs:List (Int×Int)) (x:Int) (xs:List Int):nxtD (b::bs) (x::xs)=if (nxtD bs xs).2=true then (x::(nxtD bs xs).1,true) else if x<b.2 then ((x+1)::(nxtD bs xs).1,true) else (b.1::(nxtD bs xs).1,false):=rfl
theorem digP_len:∀ {bs:List (Int×Int)} {xs:List Int},DigP bs xs→xs.length=bs.length
 | [],[],_=>rfl
 | _::_,_::_,h=>by simp[digP_len h.2]
 | [],_::_,h=>h.elim
 | _::_,[],h=>h.elim
theorem digP_at:∀ {bs:List (Int×Int)} {xs:List Int},DigP bs xs→∀i<bs.length,(bs.getD i default).1≤xs.getD i default∧xs.getD i default≤(bs.getD i default).2
 | [],[],_,i,hi=>absurd hi (Nat.not_lt_zero _)
 | _::_,_::_,h,0,_=>h.1
 | _::bs,_::_,h,i+1,hi=>digP_at (bs:=bs) h.2 i (by simpa using hi)
 | [],_::_,h,_,_=>h.elim
 | _::_,[],h,_,_=>h.elim
theorem blk_ne {A:List (List Int)} (hA:A≠[]) (v:Int):∀n,∃r,blkD A v n=(v::A.head hA)::r
 | 0=>by
  cases A with
  | nil=>exact absurd rfl hA
  | cons a r=>exact⟨r.map (v::·),rfl⟩
 | n+1=>by
  cases A with
  | nil=>exact absurd rfl hA
  | cons a r=>exact⟨r.map (v::·)++blkD (a::r) (v+1) n,rfl⟩
theorem seq_blk {b:Int×Int} {bs:List (Int×Int)} (v:Int) {R:List (List Int)} (hR:SeqD (b::bs) R) (h:(R=[]∧v=b.2)∨(v<b.2∧∃r,R=((v+1)::lowD bs)::r)):∀ {A:List (List Int)},A≠[]→SeqD bs A→SeqD (b::bs) (A.map (v::·)++R)
 | [],hA,_=>absurd rfl hA
 | [x],_,hs=>by
  have hs:nxtD bs x=(lowD bs,false):=hs
  rcases h with⟨rfl,hv⟩|⟨hv,r,rfl⟩
  ·show nxtD (b::bs) (v::x)=_
   rw[nxtD_cons,hs,if_neg (by simp),if_neg (by omega)];rfl
  ·refine⟨?_,hR⟩
   rw[nxtD_cons,hs,if_neg (by simp),if_pos hv]
 | x::y::r,_,hs=>by
  refine⟨?_,seq_blk v hR h (A:=y::r) (by simp) hs.2⟩
  rw[nxtD_cons,hs.1,if_pos rfl]
theorem seq_blks {b:Int×Int} {bs:List (Int×Int)} {A:List (List Int)} (hA:A≠[]) (hs:SeqD bs A) (hl:A.head hA=lowD bs):∀(n:Nat) (v:Int),v+n=b.2→SeqD (b::bs) (blkD A v n)
 | 0,v,h=>by
  have:=seq_blk (b:=b) v (R:=[]) trivial (.inl ⟨rfl,by omega⟩) hA hs
  rwa [List.append_nil] at this
 | n+1,v,h=>by
  have ih:=seq_blks (b:=b) hA hs hl n (v+1) (by omega)
  obtain⟨r,hr⟩:=blk_ne hA (v+1) n
  exact seq_blk (b:=b) v ih (.inr ⟨by omega,r,by rw[hr,hl]⟩) hA hs
theorem allD_seq:∀ {bs:List (Int×Int)},(∀b∈bs,b.1≤b.2)→SeqD bs (allD bs)∧∃r,allD bs=lowD bs::r
 | [],_=>⟨rfl,[],rfl⟩
 | b::bs,h=>by
  obtain⟨ih,r,hr⟩:=allD_seq (bs:=bs) fun c hc=>h c (List.mem_cons_of_mem _ hc)
  have hb:=h b List.mem_cons_self
  have hA:allD bs≠[]:=by rw[hr];simp
  have hl:(allD bs).head hA=lowD bs:=by simp[hr]
  refine⟨seq_blks hA ih hl _ _ (by omega),?_⟩
  obtain⟨r',hr'⟩:=blk_ne hA b.1 (b.2-b.1).toNat
  exact⟨r',by rw[allD,hr',hl];rfl⟩
theorem blk_dig {b:Int×Int} {bs:List (Int×Int)} {A:List (List Int)} (hA:∀x∈A,DigP bs x):∀(n:Nat) (v:Int),b.1≤v→v+n≤b.2→∀x∈blkD A v n,DigP (b::bs) x
 | 0,v,h1,h2,x,hx=>by
  obtain⟨y,hy,rfl⟩:=List.mem_map.1 hx
  exact⟨⟨h1,by omega⟩,hA y hy⟩
 | n+1,v,h1,h2,x,hx=>by
  rcases List.mem_append.1 hx with hx|hx
  ·obtain⟨y,hy,rfl⟩:=List.mem_map.1 hx
   exact⟨⟨h1,by omega⟩,hA y hy⟩
  ·exact blk_dig hA n (v+1) (by omega) (by omega) x hx
theorem allD_dig:∀ {bs:List (Int×Int)},(∀b∈bs,b.1≤b.2)→∀x∈allD bs,DigP bs x
 | [],_,x,hx=>by rw[List.mem_singleton.1 hx];trivial
 | b::bs,h,x,hx=>by
  have hb:=h b List.mem_cons_self
  exact blk_dig (allD_dig fun c hc=>h c (List.mem_cons_of_mem _ hc)) _ _ (by omega) (by omega) x hx
theorem lowD_len (bs:List (Int×Int)):(lowD bs).length=bs.length:=by simp[lowD]
theorem nxtD_end:∀ {bs:List (Int×Int)} {xs:List Int},xs.length=bs.length→(nxtD bs xs).1.length=bs.length∧((nxtD bs xs).2=false→(nxtD bs xs).1=lowD bs)
 | [],[],_=>⟨rfl,fun _=>rfl⟩
 | b::bs,x::xs,h=>by
  have ih:=nxtD_end (bs:=bs) (xs:=xs) (by simpa using h)
  rw[nxtD_cons]
  split
  ·exact⟨by simp[ih.1],fun h=>by cases h⟩
  ·rename_i h1
   have h1:(nxtD bs xs).2=false:=by simpa using h1
   split
   ·exact⟨by simp[ih.1],fun h=>by cases h⟩
   ·exact⟨by simp[ih.1],fun _=>by simp[lowD,ih.2 h1]⟩
 | [],_::_,h=>by simp at h
 | _::_,[],h=>by simp at h
def stD (bs:List (Int×Int)) (xs:List Int) (p:Nat):List Int:=xs.take p++lowD (bs.drop p)
def NxInv (bs:List (Int×Int)) (xs:List Int) (p:Nat):Prop:=(nxtD (bs.drop p) (xs.drop p)).2=false
theorem stD_len {bs:List (Int×Int)} {xs:List Int} (h:xs.length=bs.length) {p:Nat} (hp:p≤xs.length):(stD bs xs p).length=xs.length:=by simp[stD,lowD];omega
theorem stD_all {bs:List (Int×Int)} {xs:List Int} (h:xs.length=bs.length):stD bs xs xs.length=xs:=by
 unfold stD
 rw[List.take_length,h,List.drop_length]
 simp[lowD]
theorem nx_start {bs:List (Int×Int)} {xs:List Int} (h:xs.length=bs.length):NxInv bs xs xs.length:=by
 unfold NxInv
 rw[List.drop_length,h,List.drop_length];rfl
theorem nx_up:∀ {k:Nat} {bs:List (Int×Int)} {xs:List Int} {r:List Int},xs.length=bs.length→k≤xs.length→nxtD (bs.drop k) (xs.drop k)=(r,true)→nxtD bs xs=(xs.take k++r,true)
 | 0,bs,xs,r,_,_,h=>by simpa using h
 | k+1,b::bs,x::xs,r,h,hk,hn=>by
  have ih:=nx_up (k:=k) (bs:=bs) (xs:=xs) (r:=r) (by simpa using h) (by simpa using hk) (by simpa using hn)
  rw[nxtD_cons,ih,if_pos rfl];simp
 | _+1,_,[],_,_,hk,_=>by simp at hk
 | _+1,[],_::_,_,h,_,_=>by simp at h
theorem drop_getD {α:Type} [Inhabited α] (xs:List α) (k:Nat) (h:k<xs.length):xs.drop k=xs.getD k default::xs.drop (k+1):=by
 rw[List.drop_eq_getElem_cons h];simp[List.getD,List.getElem?_eq_getElem h]
theorem take_getD {α:Type} [Inhabited α] (xs:List α) (k:Nat) (h:k<xs.length):xs.take (k+1)=xs.take k++[xs.getD k default]:=by
 rw[List.take_succ_eq_append_getElem h];simp[List.getD,List.getElem?_eq_getElem h]
theorem stD_split {bs:List (Int×Int)} {xs:List Int} (h:xs.length=bs.length) {k:Nat} (hk:k<xs.length):stD bs xs (k+1)=xs.take k++xs.getD k default::lowD (bs.drop (k+1)):=by
 unfold stD;rw[take_getD xs k hk,List.append_assoc];rfl
theorem stD_get {bs:List (Int×Int)} {xs:List Int} (h:xs.length=bs.length) {k:Nat} (hk:k<xs.length):(stD bs xs (k+1)).getD k default=xs.getD k default:=by
 rw[stD_split h hk]
 have:(xs.take k).length=k:=by simp;omega
 simp[List.getD,List.getElem?_append,this]
theorem stD_set {bs:List (Int×Int)} {xs:List Int} (h:xs.length=bs.length) {k:Nat} (hk:k<xs.length) (v:Int):(stD bs xs (k+1)).set k v=xs.take k++v::lowD (bs.drop (k+1)):=by
 rw[stD_split h hk]
 have:(xs.take k).length=k:=by simp;omega
 rw[List.set_append_right _ _ (by omega),this,Nat.sub_self,List.set_cons_zero]
theorem nx_yes {bs:List (Int×Int)} {xs:List Int} (h:xs.length=bs.length) {k:Nat} (hk:k<xs.length) (hn:NxInv bs xs (k+1)) (hx:xs.getD k default<(bs.getD k default).2):nxtD bs xs=((stD bs xs (k+1)).set k (xs.getD k default+1),true):=by
 have hl:(xs.drop (k+1)).length=(bs.drop (k+1)).length:=by simp;omega
 have he:=(nxtD_end hl).2 hn
 rw[stD_set h hk]
 refine nx_up h (by omega) ?_
 rw[drop_getD xs k hk,drop_getD bs k (by omega),nxtD_cons,if_neg (by rw[hn];simp),if_pos hx,he]
theorem nx_no {bs:List (Int×Int)} {xs:List Int} (h:xs.length=bs.length) {k:Nat} (hk:k<xs.length) (hn:NxInv bs xs (k+1)) (hx:¬xs.getD k default<(bs.getD k default).2):NxInv bs xs k∧(stD bs xs (k+1)).set k (bs.getD k default).1=stD bs xs k:=by
 refine⟨?_,?_⟩
 ·unfold NxInv
  rw[drop_getD xs k hk,drop_getD bs k (by omega),nxtD_cons,if_neg (by rw[hn];simp),if_neg hx]
 ·rw[stD_set h hk]
  unfold stD
  rw[drop_getD bs k (by omega)];rfl
theorem nx_end {bs:List (Int×Int)} {xs:List Int} (h:xs.length=bs.length) (hn:NxInv bs xs 0):nxtD bs xs=(stD bs xs 0,false):=by
 have hn:(nxtD bs xs).2=false:=by simpa[NxInv] using hn
 have he:=(nxtD_end h).2 hn
 refine Prod.ext ?_ hn
 rw[he];simp[stD]
end
end Go.Proofs.YtcbgmeegbjokpaaGreatDoor
