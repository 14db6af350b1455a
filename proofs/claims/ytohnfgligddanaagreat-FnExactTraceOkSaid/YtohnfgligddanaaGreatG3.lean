/-
  A15t, ACl, A06e, A01s, A06f, A17p, A29, one behind the other.
-/
import Derived.Test.YtohnfgligddanaaGreatG2
import Derived.Test.YtohnfgligddanaaGreatSet
import Derived.Test.YtohnfgligddanaaGreatG1
section
namespace Go.Proofs.YtohnfgligddanaaGreat
open Go Go.Lg
set_option linter.unusedSimpArgs false
set_option linter.unusedVariables false
set_option maxHeartbeats 4000000
attribute [local irreducible] SW runL runQ runG runQG FC Ret1 toF redoL anyB addJ specJ specL formM
theorem flat_zeros (n:Nat) (k:IntKind) (m:Int):(List.replicate n [D.int k m]).flatten=(List.replicate n m).map (.int k):=by rw[flatten_one,List.map_replicate]
theorem idsL_intsF (k:IntKind) (xs:List Int):D.idsL (xs.map (.int k))=[]:=by
 induction xs with
 | nil=>rfl
 | cons x r ih=>simp[D.idsL,D.ids,ih]
attribute [local go_sem] flat_zeros idsL_intsF
theorem addR_fst {a b:PolyT} {c:Int} (h:(addR a b c).2=true):(addR a b c).1=addF a b c:=by
 have h1:=(addR_ok.1 h).1
 rw[addR_yes h1]
def kp129:List (Nat×List Nat):=[(0,[1,3,4,6,8]),(1,[1,3,4,6,8,10]),(2,[1,3,4,6,8,10,11]),(3,[1,3,4,6,8,10,11,22]),(5,[1,3,4,6,8,10,11,12,13]),(6,[1,3,4,6,8,10,11,12,36]),(7,[8,9]),(8,[1,3,4,6,8,10,11,14,15]),(9,[1,3,4,6,8,10,11,14,50]),(10,[8,9]),(11,[1,3,4,6,8,10,11]),(4,[1,3,4,6,8,10,11]),(12,[8,9])]
attribute [go_sem] kp129
theorem l15Sum_fc (rs:List Int) (ps:List PolyT) (p:PolyT) (parts:List (List Int)) (F:Nat→PolyT×Bool) (hp:PolyOkP parts.length p) (hn:parts.length≤3) (hF:∀j<parts.length,GoodB MF (F j).1) (hform:∀j<parts.length,FC S 128 [] [] [] [.agg [.sl .any (rs.map (.int .i64))],.sl .any (ps.map PolyD),.sl .any ((parts.getD j default).map (.int .i64))] (.tup [PolyD (F j).1,.bool (F j).2]) [] []):FC S 129 [] [] [] [.agg [.sl .any (rs.map (.int .i64))],.sl .any (ps.map PolyD),PolyD p,.sl .any (parts.map IntsD)] (.tup [PolyD (appF1 F p parts.length).1,.bool (appF1 F p parts.length).2]) [] []:=by
 have hpl:=hp.1
 refine fc_body Tryz.func129 rfl (by kernel_rfl) (by simp[Tryz.f129]) fun B=>?_
 simp only[Tryz.ntmps129,enumD,lst0,Nat.reduceAdd]
 repeat' first|refine sw_seq ?_|refine sw_block ?_|refine sw_go 0 kp129 fun K hK=>?_|((first|refine runL_go ?_|refine runQ_go ?_|refine sw_ret (ret0 ?_)|refine sw_ret ?_);simp (disch:=(refine Om.mk ?_;omega)) only[go_sem,Tryz.results129])|(refine hK.nil ?_;clear hK K;simp only[go_sem])|fail
 refine sw_boxLe 10 [.int .i64 p.const,.sl .any (([]:List Int).map (.int .i64))] rfl rfl (le_two (.refl _) .any) ?_
 simp only[go_sem]
 refine sw_loopT (ι:=Nat) (fun i=>[(11,.int .i64 i)]) (fun i=>[(10,[.int .i64 (sumF F p i).const,.sl .any ((sumF F p i).coef.map (.int .i64))])]) (fun _=>[]) (fun i=>i≤parts.length∧(∀j<i,(F j).2=true)∧okF (sumF F p i)) (fun i=>parts.length-i) 0 (by(refine covers_mk0 rfl rfl ?_ ?_ ?_ ?_<;>simp (disch:=(refine Om.mk ?_;omega)) only[go_sem]<;>(try omega));all_goals first|rfl|exact⟨rfl,rfl⟩) ⟨by omega,(fun j hj=>absurd hj (by omega)),okF_zero hp⟩ (fun i hi=>?_)
 obtain⟨hi,hj,hok⟩:=hi
 simp only[go_sem]
 have hs1:sumF F p (i+1)=addF (sumF F p i) (F i).1 (p.coef.getD i default):=rfl
 have hci:=coef_get hp i
 by_cases hil:i<parts.length
 ·have cF:=hform i hil
  have hg:=hF i hil
  have hgs:=good_le (good_sum hp i fun j hj=>hF j (by omega)) (show (9+9*MF*(i:Int))≤100*MF by simp only[MF];omega)
  have cA:=l15Add_fc (sumF F p i) (F i).1 (p.coef.getD i default) hgs hg hci
  have hok1:=addR_ok (a:=sumF F p i) (b:=(F i).1) (c:=p.coef.getD i default)
  rw[←hs1] at hok1
  repeat' first|((exfalso;omega))|refine sw_seq ?_|refine sw_block ?_|refine sw_inBlock ?_|refine sw_skip ?_|refine sw_go 0 kp129 fun K hK=>?_|refine sw_goX 0 kp129 13 (id:=5) (by kernel_rfl) fun K hK=>?_|refine sw_goX 0 kp129 14 (id:=8) (by kernel_rfl) fun K hK=>?_|(refine hK.alloc rfl rfl ⟨(by simp only[Nat.reduceLT]),rfl⟩ ?_;simp (disch:=(refine Om.mk ?_;omega)) only[go_sem])|(refine hK.store rfl rfl rfl ⟨⟨(by simp only[go_sem]),(by simp only[go_sem])⟩,(by simp only[go_sem]),(by simp only[go_sem]),(by simp only[go_sem])⟩ ?_;simp (disch:=(refine Om.mk ?_;omega)) only[go_sem])|refine fun (K:KT) (hK:KOk S 0 _ _ _ K)=>?_|((first|refine runL_go ?_|refine runQ_go ?_|refine sw_ret (ret0 ?_)|refine sw_ret ?_);simp (disch:=(refine Om.mk ?_;omega)) only[go_sem,Tryz.results129])|(refine hK.nil ?_;clear hK K;simp only[go_sem])|((first|refine sw_cond rfl ?_ ?_)<;>intro h<;>try simp (disch:=(refine Om.mk ?_;omega)) only[go_sem] at h)|refine sw_loopEnd ?_|refine hK.c0 rfl rfl rfl (cF) rfl rfl rfl ?_|refine hK.c0 rfl rfl rfl (cA) rfl rfl rfl ?_|(with_reducible refine And.intro (by first|omega|(simp only[lens];omega)) ?_)|fail
  ·rw[appF1_no fun e=>by have:=e.1 i hil;rw[this] at h;cases h]
   exact⟨⟨rfl,rfl⟩,rfl⟩
  ·rw[appF1_no fun e=>by have:=hok1.2 (ok_sum hp hF e.2 (i+1) hil);rw[this] at h;cases h]
   exact⟨⟨rfl,rfl⟩,rfl⟩
  ·have e1:=addR_fst h
   rw[e1,←hs1]
   exact⟨i+1,(by(refine covers_mk0 rfl rfl ?_ ?_ ?_ ?_<;>simp (disch:=(refine Om.mk ?_;omega)) only[go_sem]<;>(try omega))),⟨by omega,upto_succ hj (by assumption),hok1.1 h⟩,by omega⟩
 ·repeat' first|((exfalso;omega))|refine sw_seq ?_|refine sw_go 0 kp129 fun K hK=>?_|((first|refine runL_go ?_|refine runQ_go ?_|refine sw_ret (ret0 ?_)|refine sw_ret ?_);simp (disch:=(refine Om.mk ?_;omega)) only[go_sem,Tryz.results129])|(refine hK.nil ?_;clear hK K;simp only[go_sem])|((first|refine sw_cond rfl ?_ ?_)<;>intro h<;>try simp (disch:=(refine Om.mk ?_;omega)) only[go_sem] at h)|refine sw_exit rfl ?_|fail
  obtain rfl:i=parts.length:=by omega
  rw[appF1_yes ⟨hj,hok⟩]
  exact⟨⟨rfl,rfl⟩,rfl⟩
def kp128:List (Nat×List Nat):=[(0,[1,2,3,6]),(1,[1,2,3,6,12]),(2,[2,6,8]),(3,[6,8]),(4,[6,7]),(5,[6,7])]
attribute [go_sem] kp128
theorem l15Form_fc (rs:List Int) (ps:List PolyT) (hP:PolysOkP rs ps):∀f t,TermOkP rs t→t.length≤f→FC S 128 [] [] [] [.agg [.sl .any (rs.map (.int .i64))],.sl .any (ps.map PolyD),.sl .any (t.map (.int .i64))] (.tup [PolyD (formM rs ps f t).1,.bool (formM rs ps f t).2]) [] []:=by
 intro f
 induction f with
 | zero=>intro t ht hl;have:=ht.2.1.1;omega
 | succ f ih =>
  intro t ht hl
  have hl2:=ht.2.1
  have hlo:=ht.low (show 0<t.length by omega)
  by_cases h0:t.getD 0 default<0
  ·rw[formM_var h0]
   refine fc_body Tryz.func128 rfl (by kernel_rfl) (by simp[Tryz.f128]) fun B=>?_
   simp only[Tryz.ntmps128,enumD,lst0,Nat.reduceAdd]
   refine sw_bnd 2 rfl fun hb2=>?_
   simp only[D.bnd,List.length_map] at hb2
   repeat' first|((exfalso;omega))|((refine⟨by rw[List.length_replicate];omega,?_⟩))|((refine sw_hold (id:=4) ?_))|refine sw_seq ?_|refine sw_go 0 kp128 fun K hK=>?_|refine sw_goT 0 kp128 7 (id:=3) (by kernel_rfl) fun K hK=>?_|refine fun (K:KT) (hK:KOk S 0 _ _ _ K)=>?_|((first|refine runL_go ?_|refine runQ_go ?_|refine sw_ret (ret0 ?_)|refine sw_ret ?_);simp (disch:=(refine Om.mk ?_;omega)) only[go_sem,Tryz.results128])|(refine hK.nil ?_;clear hK K;simp only[go_sem])|((first|refine sw_cond rfl ?_ ?_)<;>intro h<;>try simp (disch:=(refine Om.mk ?_;omega)) only[go_sem] at h)|(with_reducible refine And.intro (by first|omega|(simp only[lens];omega)) ?_)|fail
   refine HoldP.go ?_
   refine sw_freezeBox 8 1 1 .any ((varF (t.getD 0 default)).coef.map (.int .i64)) rfl rfl rfl (by decide) (by rw[flat_ints];unfold varF;rw[Int.zero_sub]) (by simp[varF]) (fun x hx=>by obtain⟨y,_,rfl⟩:=List.mem_map.1 hx;rfl) (fun d hd=>by obtain⟨y,_,rfl⟩:=List.mem_map.1 hd;rfl) (.inl rfl) ?_
   simp only[go_sem]
   repeat' first|refine sw_go 0 kp128 fun K hK=>?_|((first|refine runL_go ?_|refine runQ_go ?_|refine sw_ret (ret0 ?_)|refine sw_ret ?_);simp (disch:=(refine Om.mk ?_;omega)) only[go_sem,Tryz.results128])|(refine hK.nil ?_;clear hK K;simp only[go_sem])|fail
   rfl
  ·have hpp:=poly_at hP (n:=t.getD 0 default) (by omega) hlo.1.2
   have hk:(((arS rs (t.getD 0 default)).toNat:Nat):Int)=arS rs (t.getD 0 default):=by omega
   have hlen:=partsU_len rs t (arS rs (t.getD 0 default)).toNat
   rw[←hk,←hlen] at hpp
   have cS:=l15Sum_fc rs ps (ps.getD (t.getD 0 default).toNat default) (partsU rs t (arS rs (t.getD 0 default)).toNat) (fun j=>formM rs ps f (argU rs t j)) hpp (by omega) (fun j hj=>form_good hP f _ (argU_ok ht (by omega)).1) (fun j hj=>by
    rw[partsU_get rs t (by omega)]
    have h1:=argU_ok ht (j:=j) (by omega)
    exact ih _ h1.1 (by omega))
   have cP:=l13Parts_fc rs t ht
   have hpl:(t.getD 0 default).toNat<ps.length:=by have:=hP.1.2;omega
   rw[formM_app h0]
   rw[hlen] at cS
   refine fc_body Tryz.func128 rfl (by kernel_rfl) (by simp[Tryz.f128]) fun B=>?_
   simp only[Tryz.ntmps128,enumD,lst0,Nat.reduceAdd]
   refine sw_bnd 2 rfl fun hb2=>?_
   simp only[D.bnd,List.length_map] at hb2
   repeat' first|((exfalso;omega))|refine sw_seq ?_|refine sw_skip ?_|refine sw_go 0 kp128 fun K hK=>?_|refine sw_goT 0 kp128 14 (id:=5) (by kernel_rfl) fun K hK=>?_|refine fun (K:KT) (hK:KOk S 0 _ _ _ K)=>?_|((first|refine runL_go ?_|refine runQ_go ?_|refine sw_ret (ret0 ?_)|refine sw_ret ?_);simp (disch:=(refine Om.mk ?_;omega)) only[go_sem,Tryz.results128])|(refine hK.nil ?_;clear hK K;simp only[go_sem])|((first|refine sw_cond rfl ?_ ?_)<;>intro h<;>try simp (disch:=(refine Om.mk ?_;omega)) only[go_sem] at h)|refine hK.c0 rfl rfl rfl (cP) rfl rfl rfl ?_|refine hK.c0 rfl rfl rfl (cS) rfl rfl rfl ?_|(with_reducible refine And.intro (by first|omega|(simp only[lens];omega)) ?_)|fail
open Classical in
noncomputable def formR (rs:List Int) (ps:List PolyT) (t:List Int):PolyT×Bool:=if PolysOkP rs ps∧TermOkP rs t then formM rs ps 60 t else (zeroF,false)
theorem formR_yes {rs:List Int} {ps:List PolyT} {t:List Int} (h:PolysOkP rs ps∧TermOkP rs t):formR rs ps t=formM rs ps 60 t:=if_pos h
theorem formR_no {rs:List Int} {ps:List PolyT} {t:List Int} (h:¬(PolysOkP rs ps∧TermOkP rs t)):formR rs ps t=(zeroF,false):=if_neg h
theorem formR_good (rs:List Int) (ps:List PolyT) (t:List Int):GoodB MF (formR rs ps t).1:=by
 rcases Classical.em (PolysOkP rs ps∧TermOkP rs t) with h|h
 ·rw[formR_yes h];exact form_good h.1 60 t h.2
 ·rw[formR_no h];exact good_zero
def kp113:List (Nat×List Nat):=[(0,[1,2,3,6]),(1,[1,2,3,6,17]),(2,[6,7]),(3,[6,7])]
attribute [go_sem] kp113
theorem specFormOf_fc (rs:List Int) (ps:List PolyT) (t:List Int):FC S 113 [] [] [] [.agg [.sl .any (rs.map (.int .i64))],.sl .any (ps.map PolyD),.sl .any (t.map (.int .i64))] (.tup [PolyD (formR rs ps t).1,.bool (formR rs ps t).2]) [] []:=by
 rcases Classical.em (PolysOkP rs ps∧TermOkP rs t) with⟨h1,h2⟩|hn
 ·rw[formR_yes ⟨h1,h2⟩]
  refine fc_body Tryz.func113 rfl (by kernel_rfl) (by simp[Tryz.f113]) fun B=>?_
  simp only[Tryz.ntmps113,enumD,lst0,Nat.reduceAdd]
  repeat' first|refine sw_seq ?_|refine sw_skip ?_|refine sw_go 0 kp113 fun K hK=>?_|((first|refine runL_go ?_|refine sw_ret (ret0 ?_)|refine sw_ret ?_);simp (disch:=(refine Om.mk ?_;omega)) only[go_sem,Tryz.results113])|(refine hK.nil ?_;clear hK K;simp only[go_sem])|((first|refine runG_fork rfl rfl rfl rfl rfl ?_ ?_|refine sw_cond rfl ?_ ?_)<;>intro h<;>try simp (disch:=(refine Om.mk ?_;omega)) only[go_sem] at h)|refine hK.skp rfl rfl ?_|refine hK.c0 rfl rfl rfl (specPolysOk_fc _ _ _) rfl rfl rfl ?_|refine hK.c0 rfl rfl rfl (specTermOk_fc _ _ _ _) rfl rfl rfl ?_|refine hK.c0 rfl rfl rfl (l15Form_fc rs ps h1 60 t h2 h2.2.1.2) rfl rfl rfl ?_|fail
  all_goals first|exact absurd h1 (by assumption)|exact absurd h2 (by assumption)
 ·rw[formR_no hn]
  refine fc_body Tryz.func113 rfl (by kernel_rfl) (by simp[Tryz.f113]) fun B=>?_
  simp only[Tryz.ntmps113,enumD,lst0,Nat.reduceAdd]
  repeat' first|((exact absurd ⟨(by assumption),(by assumption)⟩ hn))|refine sw_seq ?_|refine sw_go 0 kp113 fun K hK=>?_|((first|refine runL_go ?_|refine sw_ret (ret0 ?_)|refine sw_ret ?_);simp (disch:=(refine Om.mk ?_;omega)) only[go_sem,Tryz.results113])|(refine hK.nil ?_;clear hK K;simp only[go_sem])|((first|refine runG_fork rfl rfl rfl rfl rfl ?_ ?_|refine sw_cond rfl ?_ ?_)<;>intro h<;>try simp (disch:=(refine Om.mk ?_;omega)) only[go_sem] at h)|refine hK.skp rfl rfl ?_|refine hK.c0 rfl rfl rfl (specPolysOk_fc _ _ _) rfl rfl rfl ?_|refine hK.c0 rfl rfl rfl (specTermOk_fc _ _ _ _) rfl rfl rfl ?_|fail
  all_goals exact⟨rfl,rfl⟩
end Go.Proofs.YtohnfgligddanaaGreat
end
section
namespace Go.Proofs.YtohnfgligddanaaGreat
open Go Go.Lg
def kp102:List (Nat×List Nat):=[(0,[0]),(1,[0,4]),(2,[2]),(3,[2])]
attribute [go_sem] kp102
end Go.Proofs.YtohnfgligddanaaGreat
end
section
namespace Go.Proofs.YtohnfgligddanaaGreat
open Go Go.Lg
set_option linter.unusedSimpArgs false
set_option linter.unusedVariables false
set_option maxHeartbeats 4000000
attribute [local irreducible] SW runL runQ runG runQG FC
theorem take_snoc {α:Type} [Inhabited α] (xs:List α) (i:Nat) (h:i<xs.length):xs.take (i+1)=xs.take i++[xs.getD i default]:=by
 rw[List.take_succ_eq_append_getElem h]
 simp[List.getD,List.getElem?_eq_getElem h]
theorem cloneL_fc (p:List Nat) (hp:p≠[]) (tk:Tk) (xs:List Int) (h1:xs≠[]) (hl:xs.length≤17592186044416):FC S 102 [] [] [] [.sl tk (xs.map (.int .i64))] (Int64SL p xs) [] []:=by
 have h1':xs.map (D.int .i64)≠[]:=by simpa using h1
 refine FC.args (args':=[.sl .any (xs.map (.int .i64))]) ?_ (by simp only[go_sem])
 refine fc_body Tryz.func102 rfl (by kernel_rfl) (by simp[Tryz.f102]) fun B=>?_
 simp only[Tryz.ntmps102,enumD,lst0,Nat.reduceAdd]
 refine sw_bnd 0 rfl fun hb0=>?_
 simp only[D.bnd,List.length_map] at hb0
 repeat' first|(refine sw_lab 2 p (k:=8000) rfl (by simp) hp ?_;simp only[go_sem])|refine sw_seq ?_|refine sw_skip ?_|refine sw_go 0 kp102 fun K hK=>?_|((first|refine runL_go ?_|refine sw_ret (ret0 ?_)|refine sw_ret ?_);simp (disch:=(refine Om.mk ?_;omega)) only[go_sem,Tryz.results102])|(refine hK.nil ?_;clear hK K;simp only[go_sem])|((first|refine sw_cond rfl ?_ ?_)<;>intro h<;>try simp (disch:=(refine Om.mk ?_;omega)) only[go_sem] at h)|(with_reducible refine And.intro (by first|omega|(simp only[lens];omega)) ?_)|fail
end Go.Proofs.YtohnfgligddanaaGreat
end
section
namespace Go.Proofs.YtohnfgligddanaaGreat
open Go Go.Lg
def SortP (l:List Int):Prop:=l.Pairwise (· < ·)
theorem sort_intoL (n:Int):∀xs:List Int,SortP xs→SortP (intoL xs n)
 | [],_=>by simp[SortP,intoL]
 | x::r,h=>by
  obtain⟨h1,h2⟩:=List.pairwise_cons.1 h
  unfold intoL
  split
  ·rename_i hlt
   refine List.pairwise_cons.2 ⟨fun y hy=>?_,sort_intoL n r h2⟩
   rcases (mem_intoL y r n).1 hy with hy|rfl
   ·exact h1 y hy
   ·exact hlt
  ·split
   ·exact h
   ·rename_i h3 h4
    refine List.pairwise_cons.2 ⟨fun y hy=>?_,h⟩
    rcases List.mem_cons.1 hy with rfl|hy
    ·omega
    ·have:=h1 y hy;omega
theorem sort_ext:∀ {a b:List Int},SortP a→SortP b→(∀x,x∈a↔x∈b)→a=b
 | [],[],_,_,_=>rfl
 | [],y::b,_,_,h=>by have:=(h y).2 List.mem_cons_self;cases this
 | x::a,[],_,_,h=>by have:=(h x).1 List.mem_cons_self;cases this
 | x::a,y::b,ha,hb,h=>by
  obtain⟨a1,a2⟩:=List.pairwise_cons.1 ha
  obtain⟨b1,b2⟩:=List.pairwise_cons.1 hb
  have hxy:x=y:=by
   rcases List.mem_cons.1 ((h x).1 List.mem_cons_self) with e|e
   ·exact e
   ·rcases List.mem_cons.1 ((h y).2 List.mem_cons_self) with e'|e'
    ·exact e'.symm
    ·have:=a1 y e';have:=b1 x e;omega
  subst hxy
  congr 1
  refine sort_ext a2 b2 fun z=>?_
  constructor
  ·intro hz
   rcases List.mem_cons.1 ((h z).1 (List.mem_cons_of_mem _ hz)) with e|e
   ·have:=a1 z hz;omega
   ·exact e
  ·intro hz
   rcases List.mem_cons.1 ((h z).2 (List.mem_cons_of_mem _ hz)) with e|e
   ·have:=b1 z hz;omega
   ·exact e
def upTo (n:Nat):List Int:=(List.range n).map fun (i:Nat)=>(i:Int)
theorem sort_upTo (n:Nat):SortP (upTo n):=by
 unfold SortP upTo
 rw[List.pairwise_map]
 exact List.pairwise_lt_range.imp fun h=>by omega
theorem mem_upTo (n:Nat) (x:Int):x∈upTo n↔0≤x∧x<n:=by
 unfold upTo
 rw[List.mem_map]
 constructor
 ·rintro⟨i,hi,rfl⟩
  have:=List.mem_range.1 hi
  omega
 ·intro h
  exact⟨x.toNat,List.mem_range.2 (by omega),by omega⟩
theorem upTo_succ (n:Nat):upTo (n+1)=upTo n++[(n:Int)]:=by simp[upTo,List.range_succ]
end Go.Proofs.YtohnfgligddanaaGreat
end
section
namespace Go.Proofs.YtohnfgligddanaaGreat
open Go Go.Lg
set_option linter.unusedSimpArgs false
set_option linter.unusedVariables false
set_option maxHeartbeats 4000000
attribute [local irreducible] SW runL runQ runG runQG FC Ret1
def defL (rules:List RuleT) (i:Nat):List Int:=(rules.take i).foldl (fun acc r=>intoL acc (r.l.getD 0 default)) []
theorem defL_succ (rules:List RuleT) (i:Nat) (h:i<rules.length):defL rules (i+1)=intoL (defL rules i) ((rules.getD i default).l.getD 0 default):=by
 unfold defL
 rw[take_snoc rules i h,List.foldl_append]
 rfl
theorem intoL_len' (n:Int):∀xs:List Int,(intoL xs n).length≤xs.length+1
 | []=>by simp[intoL]
 | x::r=>by
  have ih:=intoL_len' n r
  unfold intoL
  split
  ·simp only[List.length_cons];omega
  ·split<;>simp
theorem defL_len (rules:List RuleT):∀i,i≤rules.length→(defL rules i).length≤i
 | 0,_=>by simp[defL]
 | i+1,h=>by
  have ih:=defL_len rules i (by omega)
  rw[defL_succ rules i (by omega)]
  have:=intoL_len' ((rules.getD i default).l.getD 0 default) (defL rules i)
  omega
theorem defL_mem (rules:List RuleT) (m:Int):∀i,i≤rules.length→(m∈defL rules i↔∃j<i,(rules.getD j default).l.getD 0 default=m)
 | 0,_=>by simp[defL]
 | i+1,h=>by
  rw[defL_succ rules i (by omega),mem_intoL,defL_mem rules m i (by omega)]
  constructor
  ·rintro (⟨j,hj,e⟩|e)
   ·exact⟨j,by omega,e⟩
   ·exact⟨i,by omega,e.symm⟩
  ·rintro⟨j,hj,e⟩
   rcases Nat.lt_or_ge j i with h1|h1
   ·exact .inl ⟨j,h1,e⟩
   ·rw[show j=i by omega] at e;exact .inr e.symm
theorem defL_all (rules:List RuleT) (m:Int):m∈defL rules rules.length↔∃r∈rules,r.l.getD 0 default=m:=by
 rw[defL_mem rules m _ (Nat.le_refl _)]
 constructor
 ·rintro⟨j,hj,e⟩;exact⟨_,getD_mem rules j hj,e⟩
 ·rintro⟨r,hr,e⟩
  obtain⟨j,hj,rfl⟩:=List.getElem_of_mem hr
  exact⟨j,hj,by rw[←e];simp[List.getD,List.getElem?_eq_getElem hj]⟩
def kp61:List (Nat×List Nat):=[(0,[1]),(1,[1,3]),(2,[1,3,4]),(3,[1,3,4,10]),(5,[1,3,4]),(4,[1,3,4]),(6,[2])]
attribute [go_sem] kp61
theorem l6Defined_fc (x:SystemT) (hn:x.rules.length≤1000) (h:∀j<x.rules.length,1≤(x.rules.getD j default).l.length):FC S 61 [] [] [] [SystemD x] (.sl .any ((defL x.rules x.rules.length).map (.int .i64))) [] []:=by
 refine fc_body Tryz.func61 rfl (by kernel_rfl) (by simp[Tryz.f61]) fun B=>?_
 simp only[Tryz.ntmps61,enumD,lst0,Nat.reduceAdd]
 repeat' first|refine sw_seq ?_|refine sw_block ?_|refine sw_go 0 kp61 fun K hK=>?_|((first|refine runL_go ?_|refine sw_ret (ret0 ?_)|refine sw_ret ?_);simp (disch:=(refine Om.mk ?_;omega)) only[go_sem,Tryz.results61])|(refine hK.nil ?_;clear hK K;simp only[go_sem])|fail
 refine sw_loopU (ι:=Nat) (fun p=>[(4,.int .i64 p),(3,.sl .any ((defL x.rules p).map (.int .i64)))]) (fun p=>[]) (fun p=>p≤x.rules.length) (fun p=>x.rules.length-p) 0 (by(refine covers_mk0 rfl rfl ?_ ?_ ?_ ?_<;>simp (disch:=(refine Om.mk ?_;omega)) only[go_sem]<;>(try omega));exact⟨rfl,rfl⟩) ?_ (fun p hp=>?_)
 rotate_left
 simp only[go_sem]
 have hl:=defL_len x.rules p hp
 have hs:=defL_succ x.rules p
 have h1:=h p
 repeat' first|refine sw_seq ?_|refine sw_block ?_|refine sw_inBlock ?_|refine sw_skip ?_|refine sw_go 0 kp61 fun K hK=>?_|((first|refine runL_go ?_|refine sw_ret (ret0 ?_)|refine sw_ret ?_);simp (disch:=(refine Om.mk ?_;omega)) only[go_sem,Tryz.results61])|(refine hK.nil ?_;clear hK K;simp only[go_sem])|((first|refine sw_cond rfl ?_ ?_)<;>intro h<;>try simp (disch:=(refine Om.mk ?_;omega)) only[go_sem] at h)|refine sw_exit rfl ?_|refine sw_loopEnd ?_|refine hK.c0 rfl rfl rfl (l1Into_fc _ (defL x.rules p) _ (by omega)) rfl rfl rfl ?_|(with_reducible refine And.intro (by first|omega|(simp only[lens];omega)) ?_)|fail
 ·exact⟨p+1,(by(refine covers_mk0 rfl rfl ?_ ?_ ?_ ?_<;>simp (disch:=(refine Om.mk ?_;omega)) only[go_sem]<;>(try omega));rw[hs (by omega)];exact⟨rfl,by omega⟩),by omega,by omega⟩
 ·rw[show p=x.rules.length by omega]
 ·omega
end Go.Proofs.YtohnfgligddanaaGreat
end
section
namespace Go.Proofs.YtohnfgligddanaaGreat
open Go Go.Lg
set_option linter.unusedSimpArgs false
set_option linter.unusedVariables false
def HasSub (rs t:List Int) (k:Nat) (u:List Int):Prop:=∃a,(k≤a∧a<t.length)∧subS rs t a=u
def DefP (x:SystemT) (n:Int):Prop:=∃r∈x.rules,r.l.getD 0 default=n
def PairP (x:SystemT) (r a:Nat):Prop:=(0≤(x.rules.getD r default).r.getD a default∧DefP x ((x.rules.getD r default).r.getD a default))∧¬HasSub x.sig (x.rules.getD r default).l 1 (subS x.sig (x.rules.getD r default).r a)
def mkP (x:SystemT) (r a:Nat):DepPairT:=⟨(x.rules.getD r default).l,subS x.sig (x.rules.getD r default).r a,r,a⟩
open Classical in
noncomputable def prR (x:SystemT) (r:Nat):Nat→List DepPairT
 | 0=>[]
 | a+1=>if PairP x r a then prR x r a++[mkP x r a] else prR x r a
noncomputable def prA (x:SystemT):Nat→List DepPairT
 | 0=>[]
 | r+1=>prA x r++prR x r (x.rules.getD r default).r.length
theorem prR_yes {x:SystemT} {r a:Nat} (h:PairP x r a):prR x r (a+1)=prR x r a++[mkP x r a]:=if_pos h
theorem prR_no {x:SystemT} {r a:Nat} (h:¬PairP x r a):prR x r (a+1)=prR x r a:=if_neg h
theorem prR_len (x:SystemT) (r:Nat):∀a,(prR x r a).length≤a
 | 0=>Nat.le_refl _
 | a+1=>by
  have ih:=prR_len x r a
  rcases Classical.em (PairP x r a) with h|h
  ·rw[prR_yes h,List.length_append];simp;omega
  ·rw[prR_no h];omega
theorem prA_len {x:SystemT} (hx:SystemOkP x):∀r≤x.rules.length,(prA x r).length≤60*r
 | 0,_=>Nat.le_refl _
 | r+1,h=>by
  have ih:=prA_len hx r (by omega)
  have h1:=prR_len x r (x.rules.getD r default).r.length
  have h2:=(hx.2 r (by omega)).1.2.1.2.1
  simp only[prA,List.length_append]
  omega
def PrOk (rs:List Int) (p:DepPairT):Prop:=(TermOkP rs p.l∧TermOkP rs p.r)∧0≤p.l.getD 0 default∧0≤p.r.getD 0 default
theorem prR_ok {x:SystemT} (hx:SystemOkP x) {r:Nat} (hr:r<x.rules.length):∀a≤(x.rules.getD r default).r.length,∀p∈prR x r a,PrOk x.sig p
 | 0,_,p,hp=>by cases hp
 | a+1,ha,p,hp=>by
  have ih:=prR_ok hx hr a (by omega)
  have hR:=hx.2 r hr
  rcases Classical.em (PairP x r a) with h|h
  ·rw[prR_yes h] at hp
   rcases List.mem_append.1 hp with hp|hp
   ·exact ih p hp
   ·rw[List.mem_singleton.1 hp]
    refine⟨⟨hR.1.1,subS_ok hR.1.2.1 (by omega)⟩,hR.1.2.2,?_⟩
    show 0≤(subS x.sig (x.rules.getD r default).r a).getD 0 default
    rw[(sub_sub hR.1.2.1 (show a<(x.rules.getD r default).r.length by omega)).1]
    exact h.1.1
  ·rw[prR_no h] at hp;exact ih p hp
theorem prA_ok {x:SystemT} (hx:SystemOkP x):∀r≤x.rules.length,∀p∈prA x r,PrOk x.sig p
 | 0,_,p,hp=>by cases hp
 | r+1,h,p,hp=>by
  rcases List.mem_append.1 hp with hp|hp
  ·exact prA_ok hx r (by omega) p hp
  ·exact prR_ok hx (by omega) _ (Nat.le_refl _) p hp
def PairsP (x:SystemT):Prop:=SystemOkP x∧(prA x x.rules.length).length≤64
noncomputable def allP (x:SystemT):List DepPairT:=prA x x.rules.length
open Classical in
noncomputable def pairsR (x:SystemT):List DepPairT×Bool:=if PairsP x then (allP x,true) else ([],false)
theorem pairsR_yes {x:SystemT} (h:PairsP x):pairsR x=(allP x,true):=if_pos h
theorem pairsR_no {x:SystemT} (h:¬PairsP x):pairsR x=([],false):=if_neg h
theorem allP_ok {x:SystemT} (h:PairsP x):∀p∈allP x,PrOk x.sig p:=prA_ok h.1 _ (Nat.le_refl _)
def SetPP (set:List Int) (n:Int):Prop:=∀i<set.length,(0≤set.getD i default∧set.getD i default<n)∧(0<i→set.getD (i-1) default<set.getD i default)
theorem set_len {set:List Int} {n:Int} (h:SetPP set n):∀i<set.length,(i:Int)≤set.getD i default
 | 0,hi=>by have:=(h 0 hi).1.1;omega
 | i+1,hi=>by
  have ih:=set_len h i (by omega)
  have:=(h (i+1) hi).2 (by omega)
  simp only[Nat.add_sub_cancel] at this
  omega
theorem set_le {set:List Int} {n:Int} (h:SetPP set n):(set.length:Int)≤n∨set.length=0:=by
 rcases Nat.eq_zero_or_pos set.length with h0|h0
 ·exact .inr h0
 ·have h1:=set_len h (set.length-1) (by omega)
  have h2:=(h (set.length-1) (by omega)).1.2
  left;omega
def MarkedP (rs:List Int) (ps:List PolyT):Prop:=ps.length=2*rs.length∧PolysOkP rs (ps.take rs.length)∧PolysOkP rs (ps.drop rs.length)
end Go.Proofs.YtohnfgligddanaaGreat
end
section
namespace Go.Proofs.YtohnfgligddanaaGreat
open Go Go.Lg
set_option linter.unusedSimpArgs false
set_option maxHeartbeats 4000000
attribute [local irreducible] SW runL runQ runG runQG FC Ret1
def kp19:List (Nat×List Nat):=[(0,[0,1]),(1,[0,1,10]),(2,[4]),(3,[0,1,5]),(4,[0,1,5,14]),(6,[0,1,5,25]),(7,[4]),(5,[0,1,5]),(8,[4])]
attribute [go_sem] kp19
theorem specSameTerm_fc (tk tk':Tk) (xs ys:List Int):FC S 19 [] [] [] [.sl tk (xs.map (.int .i64)),.sl tk' (ys.map (.int .i64))] (.bool (tst (xs=ys))) [] []:=by
 refine fc_body Tryz.func19 rfl (by kernel_rfl) (by simp[Tryz.f19]) fun B=>?_
 simp only[Tryz.ntmps19,enumD,lst0,Nat.reduceAdd]
 refine sw_bnd 0 rfl fun hb0=>?_
 simp only[D.bnd,List.length_map] at hb0
 refine sw_bnd 1 rfl fun hb1=>?_
 simp only[D.bnd,List.length_map] at hb1
 repeat' first|refine sw_seq ?_|refine sw_block ?_|refine sw_skip ?_|refine sw_go 0 kp19 fun K hK=>?_|((first|refine runL_go ?_|refine runQ_go ?_|refine sw_ret (ret0 ?_)|refine sw_ret ?_);simp (disch:=(refine Om.mk ?_;omega)) only[go_sem,Tryz.results19])|(refine hK.nil ?_;clear hK K;simp only[go_sem])|((first|refine sw_cond rfl ?_ ?_)<;>intro h<;>try simp (disch:=(refine Om.mk ?_;omega)) only[go_sem] at h)|fail
 ·intro e;exact h (by rw[e])
 refine sw_loopU (ι:=Nat) (fun i=>[(5,.int .i64 i)]) (fun _=>[]) (fun i=>i≤xs.length∧(∀j<i,xs.getD j default=ys.getD j default)) (fun i=>xs.length-i) 0 (by(refine covers_mk0 rfl rfl ?_ ?_ ?_ ?_<;>simp (disch:=(refine Om.mk ?_;omega)) only[go_sem]<;>(try omega))) ⟨by omega,?_⟩ (fun i ⟨hi,hj⟩=>?_)
 rotate_left
 simp only[go_sem]
 repeat' first|refine sw_seq ?_|refine sw_block ?_|refine sw_inBlock ?_|refine sw_skip ?_|refine sw_go 0 kp19 fun K hK=>?_|refine sw_goD kp19 (by kernel_rfl) fun K hK=>?_|((first|refine runL_go ?_|refine runQ_go ?_|refine sw_ret (ret0 ?_)|refine sw_ret ?_);simp (disch:=(refine Om.mk ?_;omega)) only[go_sem,Tryz.results19])|(refine hK.nil ?_;clear hK K;simp only[go_sem])|((first|refine sw_cond rfl ?_ ?_)<;>intro h<;>try simp (disch:=(refine Om.mk ?_;omega)) only[go_sem] at h)|refine sw_exit rfl ?_|refine sw_loopEnd ?_|(with_reducible refine And.intro (by first|omega|(simp only[lens];omega)) ?_)|fail
 ·intro e;exact h (by rw[e])
 ·exact⟨i+1,by(refine covers_mk0 rfl rfl ?_ ?_ ?_ ?_<;>simp (disch:=(refine Om.mk ?_;omega)) only[go_sem]<;>(try omega)),⟨by omega,upto_succ hj (by assumption)⟩,by omega⟩
 ·exact ext_getD (by assumption) fun j hj'=>hj j (by omega)
 ·intro j hj';omega
end Go.Proofs.YtohnfgligddanaaGreat
end
