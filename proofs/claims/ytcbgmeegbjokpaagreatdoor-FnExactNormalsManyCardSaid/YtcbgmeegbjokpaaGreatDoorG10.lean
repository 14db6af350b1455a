/-
  A23j, A23l, N12, one behind the other.
-/
import Derived.Test.YtcbgmeegbjokpaaGreatDoorG9
namespace Go.Proofs.YtcbgmeegbjokpaaGreatDoor
open Go Go.Lg
set_option linter.unusedSimpArgs false
set_option linter.unusedVariables false
set_option maxHeartbeats 4000000
section
attribute [local irreducible] SW runL runQ runG runQG FC Ret1 RetN toF redoL
attribute [local go_sem] pu_intsK tksL_intsK idsL_intsK
def kp38:List (Nat×List Nat):=[(0,[0,1]),(1,[0,1,7]),(2,[4]),(3,[4])]
attribute [go_sem] kp38 Tryz.results38 Tryz.ntmps38
theorem l1MinM_fc (n:Int):FC S 38 [] [] [] [.int .i64 n,.int .i64 1000000000] (.int .i64 (mx n)) [] []:=by
 refine fcb Tryz.func38 fun B=>?_
 repeat' first|exact h.elim|refine sw_n ?_|refine sw_go 0 kp38 fun K hK=>?_|refine fun (K:KT) (hK:KOk S 0 _ _ _ K)=>?_|refine runL_g ?_|refine sw_retg0 ?_|refine sw_retg ?_|(refine hK.n0 ?_;clear hK K)|refine sw_condg rfl (fun h=>?_) fun h=>?_|refine sw_loopEnd ?_|with_reducible refine and_o ?_|apply tTT
 all_goals first|(rw[mx,if_pos (by omega)];done)|(rw[mx];split<;>omega)
def kp67:List (Nat×List Nat):=[(0,[0]),(1,[3]),(2,[2]),(3,[2])]
attribute [go_sem] kp67 Tryz.results67 Tryz.ntmps67
theorem l1FlagM_fc (b:Bool):FC S 67 [] [] [] [.bool b] (.int .i64 (if b=true then 1 else 0)) [] []:=by
 refine fcb Tryz.func67 fun B=>?_
 repeat' first|exact h.elim|refine sw_n ?_|refine sw_go 0 kp67 fun K hK=>?_|refine fun (K:KT) (hK:KOk S 0 _ _ _ K)=>?_|refine runL_g ?_|refine sw_retg0 ?_|refine sw_retg ?_|(refine hK.n0 ?_;clear hK K)|refine sw_condg rfl (fun h=>?_) fun h=>?_|refine sw_loopEnd ?_|with_reducible refine and_o ?_|apply tTT
 all_goals first|rfl|(rw[if_pos (by assumption)];done)|(rw[if_neg (by assumption)];done)|(simp_all;done)
def kp68:List (Nat×List Nat):=[(0,[0,1]),(1,[4])]
attribute [go_sem] kp68 Tryz.results68 Tryz.ntmps68
theorem l23Times_fc (a b:Int) (ha:0≤a∧a≤1000000000) (hb:0≤b∧b≤1000000000):FC S 68 [] [] [] [.int .i64 a,.int .i64 b] (.int .i64 (mx (a*b))) [] []:=by
 have h:=prod_le ha hb
 refine fcb Tryz.func68 fun B=>?_
 repeat' first|refine sw_n ?_|refine sw_go 0 kp68 fun K hK=>?_|refine fun (K:KT) (hK:KOk S 0 _ _ _ K)=>?_|refine runL_g ?_|refine sw_retg0 ?_|refine sw_retg ?_|(refine hK.n0 ?_;clear hK K)|refine sw_loopEnd ?_|refine hK.c1 rfl rfl rfl (l1MinM_fc (a*b)) ?_|with_reducible refine and_o ?_|apply tTT
def ReadP (m:List (List Int)) (g:Cnt) (n s:Nat):Prop:=n<m.length∧∀j≤n,(m.getD j default).length=s∧∀q<s,(m.getD j default).getD q default=g q j
def kp39:List (Nat×List Nat):=[(0,[0,1,2]),(1,[0,1,2,11]),(2,[6]),(3,[0,1,2,7]),(4,[0,1,2,7,8]),(5,[0,1,2,7,8,17]),(7,[0,1,2,7,8,29]),(8,[0,1,2,7,8]),(6,[0,1,2,7,8]),(9,[6])]
attribute [go_sem] kp39 Tryz.results39 Tryz.ntmps39
theorem l23Ways0_fc (g:Cnt) (hg:CntOk g) (m:List (List Int)) (s:Nat):∀(l:List Int) (n:Nat),n≤60→l.length≤3→(∀q∈l,0≤q∧q<s)→ReadP m g n s→FC S 39 [] [] [] [.sl .any (m.map IntsD),.sl .any (l.map (.int .i64)),.int .i64 n] (.int .i64 (waysM g l n)) [] []:=by
 intro l
 induction l with
 | nil =>
  intro n hn hl hq hr
  have e:waysM g [] n=if ((n:Int)==0)=true then 1 else 0:=by unfold waysM;by_cases h:n=0<;>simp[h]
  rw[e]
  refine fcb Tryz.func39 fun B=>?_
  repeat' first|exact h.elim|(exfalso;omega)|refine sw_n ?_|refine sw_go 0 kp39 fun K hK=>?_|refine fun (K:KT) (hK:KOk S 0 _ _ _ K)=>?_|refine sw_goD kp39 (by kernel_rfl) fun K hK=>?_|refine runL_g ?_|refine runQ_g ?_|refine sw_retg0 ?_|refine sw_retg ?_|(refine hK.n0 ?_;clear hK K)|refine sw_condg rfl (fun h=>?_) fun h=>?_|refine sw_exit rfl ?_|refine sw_loopEnd ?_|refine hK.c1 rfl rfl rfl (l1FlagM_fc ((n:Int)==0)) ?_|with_reducible refine and_o ?_|apply tTT
 | cons q r ih =>
  intro n hn hl hq hr
  have hq0:=hq q List.mem_cons_self
  have hqr:=fun x hx=>hq x (List.mem_cons_of_mem _ hx)
  have hw:=waysM_range hg r
  have hl':r.length≤3:=by simp only[List.length_cons] at hl;omega
  have hsk:=fun k=>sumW_skip hg hw q.toNat n k
  have hsr:=sumW_range hg hw q.toNat n
  refine fcb Tryz.func39 fun B=>?_
  repeat' first|exact h.elim|(exfalso;omega)|refine sw_n ?_|refine sw_go 0 kp39 fun K hK=>?_|refine fun (K:KT) (hK:KOk S 0 _ _ _ K)=>?_|refine sw_goD kp39 (by kernel_rfl) fun K hK=>?_|refine runL_g ?_|refine runQ_g ?_|refine sw_retg0 ?_|refine sw_retg ?_|(refine hK.n0 ?_;clear hK K)|refine sw_condg rfl (fun h=>?_) fun h=>?_|refine sw_exit rfl ?_|refine sw_loopEnd ?_|with_reducible refine and_o ?_|apply tTT
  refine sw_loopT (ι:=Nat) (fun k=>[(8,.int .i64 (k+1)),(7,.int .i64 (sumW (waysM g r) g q.toNat n k))]) (fun _=>[]) (fun _=>[]) (fun k=>k≤n) (fun k=>n-k) 0 (by(refine covers_mk0 rfl rfl ?_ ?_ ?_ ?_<;>simp (disch:=(refine Om.mk ?_;omega)) only[go_sem]<;>(try omega));all_goals first|exact⟨rfl,rfl⟩|rfl|(simp[sumW];done)) (by omega) (fun k hk=>?_)
  simp only[go_sem]
  have hs1:=hsr k
  by_cases hkn:k<n
  ·have hrk:=hr.2 (k+1) (by omega)
   have hrl:=hr.1
   have hv:=hrk.2 q.toNat (by omega)
   have hg1:=hg q.toNat (k+1)
   have hp:=prod_le hg1 (hw (n-(k+1)))
   have c:=l23Times_fc (g q.toNat (k+1)) (waysM g r (n-(k+1))) hg1 (hw _)
   rw[←hv] at c
   have ez:((n-(k+1):Nat):Int)=(n:Int)-(k+1):=by omega
   have c2:=ih (n-(k+1)) (by omega) hl' hqr ⟨by omega,fun j hj=>hr.2 j (by omega)⟩
   rw[ez] at c2
   have e3:sumW (waysM g r) g q.toNat n (k+1)=mx (sumW (waysM g r) g q.toNat n k+mx ((m.getD (k+1) default).getD q.toNat default*waysM g r (n-(k+1)))):=by
    rw[hv,mx_add hs1.1 hp.1];rfl
   have hx:=mx_range hp.1
   rw[←hv] at hx hg1
   repeat' first|exact h.elim|refine sw_n ?_|refine sw_go 0 kp39 fun K hK=>?_|refine fun (K:KT) (hK:KOk S 0 _ _ _ K)=>?_|refine sw_goD kp39 (by kernel_rfl) fun K hK=>?_|refine runL_g ?_|refine runQ_g ?_|refine sw_retg0 ?_|refine sw_retg ?_|(refine hK.n0 ?_;clear hK K)|refine sw_condg rfl (fun h=>?_) fun h=>?_|refine sw_exit rfl ?_|refine sw_loopEnd ?_|refine hK.c1 rfl rfl rfl (c2) ?_|refine hK.c1 rfl rfl rfl (c) ?_|refine hK.c1 rfl rfl rfl (l1MinM_fc _) ?_|with_reducible refine and_o ?_|apply tTT
   ·exact⟨k+1,(by rw[e3];(refine covers_mk0 rfl rfl ?_ ?_ ?_ ?_<;>simp (disch:=(refine Om.mk ?_;omega)) only[go_sem]<;>(try omega));all_goals exact⟨rfl,by omega⟩),by omega,by omega⟩
   ·exact⟨k+1,(by rw[hsk k (by omega)];(refine covers_mk0 rfl rfl ?_ ?_ ?_ ?_<;>simp (disch:=(refine Om.mk ?_;omega)) only[go_sem]<;>(try omega));all_goals exact⟨rfl,by omega⟩),by omega,by omega⟩
   ·exfalso;omega
  ·repeat' first|exact h.elim|(exfalso;omega)|refine sw_n ?_|refine sw_go 0 kp39 fun K hK=>?_|refine fun (K:KT) (hK:KOk S 0 _ _ _ K)=>?_|refine sw_goD kp39 (by kernel_rfl) fun K hK=>?_|refine runL_g ?_|refine runQ_g ?_|refine sw_retg0 ?_|refine sw_retg ?_|(refine hK.n0 ?_;clear hK K)|refine sw_condg rfl (fun h=>?_) fun h=>?_|refine sw_exit rfl ?_|refine sw_loopEnd ?_|with_reducible refine and_o ?_|apply tTT
   rw[show k=n by omega];rfl
theorem l23Ways_fc (tk tk1:Tk) (g:Cnt) (hg:CntOk g) (m:List (List Int)) (s:Nat) (l:List Int) (n:Nat) (h1:n≤60) (h2:l.length≤3) (h3:∀q∈l,0≤q∧q<s) (h4:ReadP m g n s):FC S 39 [] [] [] [.sl tk (m.map IntsD),.sl tk1 (l.map (.int .i64)),.int .i64 n] (.int .i64 (waysM g l n)) [] [] :=
 FC.args (l23Ways0_fc g hg m s l n h1 h2 h3 h4) (by simp only[go_sem])
theorem transArgs {rs:List Int} {a:AutoT} (hA:AutoOkP rs a) {i:Nat} (hi:i<a.rules.length):(a.rules.getD i default).args.length≤3∧(∀q∈(a.rules.getD i default).args,0≤q∧q<a.states.toNat)∧0≤(a.rules.getD i default).to∧(a.rules.getD i default).to<a.states:=by
 have h:=(hA.2 i hi).1
 have h1:=h.1
 have h2:=h.2.1
 have h3:=h.2.2.1
 have h5:=(hA.1.1.2 (a.rules.getD i default).sym.toNat (by omega)).2
 refine⟨by omega,fun q hq=>?_,h3.1,by omega⟩
 obtain⟨j,hj,e⟩:=List.getElem_of_mem hq
 have h6:=h.2.2.2 j hj
 have e2:(a.rules.getD i default).args.getD j default=q:=by rw[List.getD_eq_getElem?_getD,List.getElem?_eq_getElem hj,e];rfl
 rw[e2] at h6
 omega
theorem finalIn {rs:List Int} {a:AutoT} (hA:AutoOkP rs a) {i:Nat} (hi:i<a.final.length):0≤a.final.getD i default∧a.final.getD i default<a.states:=by
 have:=(hA.1.2.2.2 i hi).1
 omega
theorem final_len {rs:List Int} {a:AutoT} (hA:AutoOkP rs a):a.final.length≤16:=by
 have h:=SetP.ge hA.1.2.2.2
 rcases Nat.lt_or_ge 16 a.final.length with h1|h1
 ·have h2:=h 16 h1
  have h3:=finalIn hA h1
  have:=hA.1.2.1
  omega
 ·exact h1
theorem row0 (a:AutoT) (g:Cnt) (k s:Nat):(List.replicate s [D.int .i64 0]).flatten=(rowL (rowF a g k 0) s).map (D.int .i64):=by
 have e:rowL (rowF a g k 0) s=List.replicate s 0:=rowL_zero s
 rw[e,List.map_replicate]
 induction s with
 | zero=>rfl
 | succ n ih=>rw[List.replicate_succ,List.flatten_cons,List.replicate_succ,ih (rowL_zero n)];rfl
theorem many0 (a:AutoT) (s:Nat):[D.sl .any (List.replicate s (D.int .i64 0))]=(manyL a 0 s).map IntsD:=by
 have e:rowL (fun q=>tabG a 0 q 0) s=List.replicate s 0:=rowL_zero s
 simp[manyL,IntsD,e]
def kp15:List (Nat×List Nat):=[(0,[2,3,4]),(1,[2,4,22]),(2,[6]),(3,[2,4,7]),(4,[2,4,7,8]),(5,[2,4,7,8,29]),(7,[2,4,7,8,9]),(8,[2,4,7,8,9,10]),(9,[2,4,7,8,9,10,39]),(11,[2,4,7,8,9,10,11]),(12,[2,4,7,8,9,10]),(10,[2,4,7,8,9,10]),(13,[2,4,7,8]),(6,[2,4,7,8]),(14,[2,4,7,12]),(15,[2,4,7,12,13]),(16,[2,4,7,12,13,72]),(18,[2,4,7,12,13]),(17,[2,4,7,12,13]),(19,[6])]
attribute [go_sem] kp15 Tryz.results15 Tryz.ntmps15
theorem specCountTaken_fc (rs:List Int) (a:AutoT) (n:Int):FC S 15 [] [] [] [.agg [.sl .any (rs.map (.int .i64))],AutoD a,.int .i64 n] (.int .i64 (countR rs a n)) [] []:=by
 rcases Classical.em (AutoOkP rs a∧SureP a) with hS|hS
 ·have hA:=hS.1
  have hst:=hA.1.2.1
  have hrl:=hA.1.2.2.1
  have hfl:=final_len hA
  by_cases hn:1≤n∧n≤60
  ·rw[show countR rs a n=sumF (fun q=>tabG a n.toNat q n.toNat) a.final a.final.length from if_pos ⟨hS,hn⟩]
   obtain⟨N,rfl⟩:∃N:Nat,n=N:=⟨n.toNat,by omega⟩
   obtain⟨s,hs⟩:∃s:Nat,a.states.toNat=s:=⟨_,rfl⟩
   have hs16:1≤s∧s≤16:=by omega
   have hse:a.states=s:=by omega
   refine fcb Tryz.func15 fun B=>?_
   repeat' first|exact h.elim|(refine sw_opY3 0 kp15 (rid:=3) rfl rfl rfl ?_;simp only[go_sem,opY])|refine sw_n ?_|refine sw_go 0 kp15 fun K hK=>?_|refine sw_goT 0 kp15 17 (id:=12) (by kernel_rfl) fun K hK=>?_|refine fun (K:KT) (hK:KOk S 0 _ _ _ K)=>?_|refine sw_goD kp15 (by kernel_rfl) fun K hK=>?_|refine runL_g ?_|refine runQ_g ?_|refine sw_retg0 ?_|refine sw_retg ?_|(refine hK.n0 ?_;clear hK K)|refine runG_fk (fun h=>?_) fun h=>?_|refine runQG_fk (fun h=>?_) fun h=>?_|refine sw_condg rfl (fun h=>?_) fun h=>?_|refine hK.skp rfl rfl ?_|refine sw_exit rfl ?_|refine sw_loopEnd ?_|refine hK.c1 rfl rfl rfl (specSureIn_fc _ rs a) ?_|refine hK.c1 rfl rfl rfl (l1In_fc _ _ _) ?_|(refine hK.fork rfl rfl rfl ?_ ?_<;>intro h<;>try simp (disch:=(refine Om.mk ?_;omega)) only[go_sem] at h)|with_reducible refine and_o ?_|((with_reducible refine And.intro ?_ ?_);· first|(intro x hx;subst hx;rfl)|(intro x;refine And.intro ?_ ?_<;>(intros;subst_vars;rfl)))|apply tTT
   all_goals first|exact absurd hS (by assumption)|(exfalso;omega)|skip
   rw[hs]
   refine sw_loopT (ι:=Nat) (fun k=>[(8,.int .i64 (k+1)),(7,.sl (match k with|0=>.full|_+1=>.own 68000 22 1) ((manyL a k s).map IntsD))]) (fun _=>[]) (fun k=>match k with|0=>[]|_+1=>[68000]) (fun k=>k≤N) (fun k=>N-k) 0 (by(refine covers_mk0 rfl rfl ?_ ?_ ?_ ?_<;>simp (disch:=(refine Om.mk ?_;omega)) only[go_sem]<;>(try omega));all_goals first|rfl|exact⟨many0 a s,rfl⟩|exact(many0 a s)|exact⟨rfl,many0 a s⟩|trace_state) (by omega) (fun k hk=>?_)
   have hml:=manyL_len a k s
   have hgk:=tabG_ok a k
   have hread:ReadP (manyL a k s) (tabG a k) k s:=⟨by omega,fun j hj=>by
    rw[manyL_get a k s hj];exact⟨rowL_len _ _,fun q hq=>rowL_get _ hq⟩⟩
   rcases k with _|k
   ·simp only[go_sem]
    repeat' first|exact h.elim|refine sw_n ?_|refine sw_go 0 kp15 fun K hK=>?_|refine sw_goT 0 kp15 17 (id:=12) (by kernel_rfl) fun K hK=>?_|refine fun (K:KT) (hK:KOk S 0 _ _ _ K)=>?_|refine sw_goD kp15 (by kernel_rfl) fun K hK=>?_|refine runL_g ?_|refine runQ_g ?_|refine sw_retg0 ?_|refine sw_retg ?_|(refine hK.n0 ?_;clear hK K)|refine runG_fk (fun h=>?_) fun h=>?_|refine runQG_fk (fun h=>?_) fun h=>?_|refine sw_condg rfl (fun h=>?_) fun h=>?_|refine hK.skp rfl rfl ?_|refine sw_exit rfl ?_|refine sw_loopEnd ?_|(refine hK.fork rfl rfl rfl ?_ ?_<;>intro h<;>try simp (disch:=(refine Om.mk ?_;omega)) only[go_sem] at h)|with_reducible refine and_o ?_|((with_reducible refine And.intro ?_ ?_);· first|(intro x hx;subst hx;rfl)|(intro x;refine And.intro ?_ ?_<;>(intros;subst_vars;rfl)))|apply tTT
    ·rw[hs]
     refine sw_loopT (ι:=Nat) (fun i=>[(10,.int .i64 i)]) (fun i=>[(34,(rowL (rowF a (tabG a 0) 1 i) s).map (.int .i64))]) (fun _=>[]) (fun i=>i≤a.rules.length) (fun i=>a.rules.length-i) 0 (by(refine covers_mk0 rfl rfl ?_ ?_ ?_ ?_<;>simp (disch:=(refine Om.mk ?_;omega)) only[go_sem]<;>(try omega));all_goals first|rfl|exact row0 _ _ _ s|exact⟨rfl,row0 _ _ _ s⟩|exact⟨row0 _ _ _ s,rfl⟩) (by omega) (fun i hi=>?_)
     simp only[go_sem]
     have hrl1:=rowL_len (rowF a (tabG a 0) 1 i) s
     by_cases hil:i<a.rules.length
     ·have ht:=transArgs hA hil
      have hto:(a.rules.getD i default).to.toNat<s:=by omega
      have hv:=rowL_get (rowF a (tabG a 0) 1 i) hto
      have hrr:=rowF_range (a:=a) hgk 1 i (a.rules.getD i default).to.toNat
      have hw:=waysM_range hgk (a.rules.getD i default).args 0
      have c:FC S 39 [] [] [] [.sl .full ((manyL a 0 s).map IntsD),.sl .any ((a.rules.getD i default).args.map (.int .i64)),.int .i64 (((0:Nat):Int))] (.int .i64 (waysM (tabG a 0) (a.rules.getD i default).args 0)) [] []:=by
       exact l23Ways_fc _ _ (tabG a 0) hgk (manyL a 0 s) s (a.rules.getD i default).args 0 (by omega) ht.1 (fun q hq=>by have:=ht.2.1 q hq;omega) hread
      have hst:=row_step a (tabG a 0) 1 i s hto
      rw[←hv] at hrr
      repeat' first|exact h.elim|(exfalso;omega)|refine sw_n ?_|refine sw_go 0 kp15 fun K hK=>?_|refine sw_goT 0 kp15 17 (id:=12) (by kernel_rfl) fun K hK=>?_|refine fun (K:KT) (hK:KOk S 0 _ _ _ K)=>?_|refine sw_goD kp15 (by kernel_rfl) fun K hK=>?_|refine runL_g ?_|refine runQ_g ?_|refine sw_retg0 ?_|refine sw_retg ?_|(refine hK.n0 ?_;clear hK K)|refine runG_fk (fun h=>?_) fun h=>?_|refine runQG_fk (fun h=>?_) fun h=>?_|refine sw_condg rfl (fun h=>?_) fun h=>?_|refine hK.skp rfl rfl ?_|refine sw_exit rfl ?_|refine sw_loopEnd ?_|refine hK.c1 rfl rfl rfl (c) ?_|refine hK.c1 rfl rfl rfl (l1MinM_fc _) ?_|(refine hK.fork rfl rfl rfl ?_ ?_<;>intro h<;>try simp (disch:=(refine Om.mk ?_;omega)) only[go_sem] at h)|with_reducible refine and_o ?_|((with_reducible refine And.intro ?_ ?_);· first|(intro x hx;subst hx;rfl)|(intro x;refine And.intro ?_ ?_<;>(intros;subst_vars;rfl)))|apply tTT
      exact⟨i+1,(by rw[←hst];(refine covers_mk0 rfl rfl ?_ ?_ ?_ ?_<;>simp (disch:=(refine Om.mk ?_;omega)) only[go_sem]<;>(try omega));all_goals first|rfl|exact⟨rfl,by omega⟩|exact⟨by omega,rfl⟩|trace_state),by omega,by omega⟩
     ·repeat' first|exact h.elim|(refine sw_freezeMk 13 9 1 .any ((rowL (rowF a (tabG a 0) 1 i) s).map (.int .i64)) rfl rfl (flat_ints _).symm (by rw[List.length_map,rowL_len]) (cells_one fun _=>rfl) (memOk_ints _) (.inl rfl) ?_;simp only[go_sem])|(exfalso;omega)|refine sw_n ?_|refine sw_go 0 kp15 fun K hK=>?_|refine sw_goT 0 kp15 17 (id:=12) (by kernel_rfl) fun K hK=>?_|refine fun (K:KT) (hK:KOk S 0 _ _ _ K)=>?_|refine sw_goD kp15 (by kernel_rfl) fun K hK=>?_|refine runL_g ?_|refine runQ_g ?_|refine sw_retg0 ?_|refine sw_retg ?_|(refine hK.n0 ?_;clear hK K)|refine runG_fk (fun h=>?_) fun h=>?_|refine runQG_fk (fun h=>?_) fun h=>?_|refine sw_condg rfl (fun h=>?_) fun h=>?_|refine hK.skp rfl rfl ?_|refine sw_exit rfl ?_|refine sw_loopEnd ?_|(refine hK.fork rfl rfl rfl ?_ ?_<;>intro h<;>try simp (disch:=(refine Om.mk ?_;omega)) only[go_sem] at h)|with_reducible refine and_o ?_|((with_reducible refine And.intro ?_ ?_);· first|(intro x hx;subst hx;rfl)|(intro x;refine And.intro ?_ ?_<;>(intros;subst_vars;rfl)))|apply tTT
      have hms:=manyL_succ a 0 s
      rw[show i=a.rules.length by omega]
      exact⟨1,(by rw[hms];(refine covers_mk0 rfl rfl ?_ ?_ ?_ ?_<;>simp (disch:=(refine Om.mk ?_;omega)) only[go_sem]<;>(try omega));all_goals first|(rw[List.map_append];exact⟨rfl,by omega⟩)|trace_state),by omega,by omega⟩
    ·exfalso;omega
   ·simp only[go_sem]
    repeat' first|exact h.elim|refine sw_n ?_|refine sw_go 0 kp15 fun K hK=>?_|refine sw_goT 0 kp15 17 (id:=12) (by kernel_rfl) fun K hK=>?_|refine fun (K:KT) (hK:KOk S 0 _ _ _ K)=>?_|refine sw_goD kp15 (by kernel_rfl) fun K hK=>?_|refine runL_g ?_|refine runQ_g ?_|refine sw_retg0 ?_|refine sw_retg ?_|(refine hK.n0 ?_;clear hK K)|refine runG_fk (fun h=>?_) fun h=>?_|refine runQG_fk (fun h=>?_) fun h=>?_|refine sw_condg rfl (fun h=>?_) fun h=>?_|refine hK.skp rfl rfl ?_|refine sw_exit rfl ?_|refine sw_loopEnd ?_|(refine hK.fork rfl rfl rfl ?_ ?_<;>intro h<;>try simp (disch:=(refine Om.mk ?_;omega)) only[go_sem] at h)|with_reducible refine and_o ?_|((with_reducible refine And.intro ?_ ?_);· first|(intro x hx;subst hx;rfl)|(intro x;refine And.intro ?_ ?_<;>(intros;subst_vars;rfl)))|apply tTT
    ·rw[hs]
     refine sw_loopT (ι:=Nat) (fun i=>[(10,.int .i64 i)]) (fun i=>[(34,(rowL (rowF a (tabG a (k+1)) ((k+1)+1) i) s).map (.int .i64))]) (fun _=>[68000]) (fun i=>i≤a.rules.length) (fun i=>a.rules.length-i) 0 (by(refine covers_mk0 rfl rfl ?_ ?_ ?_ ?_<;>simp (disch:=(refine Om.mk ?_;omega)) only[go_sem]<;>(try omega));all_goals first|rfl|exact row0 _ _ _ s|exact⟨rfl,row0 _ _ _ s⟩|exact⟨row0 _ _ _ s,rfl⟩) (by omega) (fun i hi=>?_)
     simp only[go_sem]
     have hrl1:=rowL_len (rowF a (tabG a (k+1)) ((k+1)+1) i) s
     by_cases hil:i<a.rules.length
     ·have ht:=transArgs hA hil
      have hto:(a.rules.getD i default).to.toNat<s:=by omega
      have hv:=rowL_get (rowF a (tabG a (k+1)) ((k+1)+1) i) hto
      have hrr:=rowF_range (a:=a) hgk ((k+1)+1) i (a.rules.getD i default).to.toNat
      have hw:=waysM_range hgk (a.rules.getD i default).args (k+1)
      have c:FC S 39 [] [] [] [.sl (.own 68000 22 1) ((manyL a (k+1) s).map IntsD),.sl .any ((a.rules.getD i default).args.map (.int .i64)),.int .i64 ((((k+1):Nat):Int))] (.int .i64 (waysM (tabG a (k+1)) (a.rules.getD i default).args (k+1))) [] []:=by
       exact l23Ways_fc _ _ (tabG a (k+1)) hgk (manyL a (k+1) s) s (a.rules.getD i default).args (k+1) (by omega) ht.1 (fun q hq=>by have:=ht.2.1 q hq;omega) hread
      have hst:=row_step a (tabG a (k+1)) ((k+1)+1) i s hto
      rw[←hv] at hrr
      repeat' first|exact h.elim|(exfalso;omega)|refine sw_n ?_|refine sw_go 0 kp15 fun K hK=>?_|refine sw_goT 0 kp15 17 (id:=12) (by kernel_rfl) fun K hK=>?_|refine fun (K:KT) (hK:KOk S 0 _ _ _ K)=>?_|refine sw_goD kp15 (by kernel_rfl) fun K hK=>?_|refine runL_g ?_|refine runQ_g ?_|refine sw_retg0 ?_|refine sw_retg ?_|(refine hK.n0 ?_;clear hK K)|refine runG_fk (fun h=>?_) fun h=>?_|refine runQG_fk (fun h=>?_) fun h=>?_|refine sw_condg rfl (fun h=>?_) fun h=>?_|refine hK.skp rfl rfl ?_|refine sw_exit rfl ?_|refine sw_loopEnd ?_|refine hK.c1 rfl rfl rfl (c) ?_|refine hK.c1 rfl rfl rfl (l1MinM_fc _) ?_|(refine hK.fork rfl rfl rfl ?_ ?_<;>intro h<;>try simp (disch:=(refine Om.mk ?_;omega)) only[go_sem] at h)|with_reducible refine and_o ?_|((with_reducible refine And.intro ?_ ?_);· first|(intro x hx;subst hx;rfl)|(intro x;refine And.intro ?_ ?_<;>(intros;subst_vars;rfl)))|apply tTT
      exact⟨i+1,(by rw[←hst];(refine covers_mk0 rfl rfl ?_ ?_ ?_ ?_<;>simp (disch:=(refine Om.mk ?_;omega)) only[go_sem]<;>(try omega));all_goals first|rfl|exact⟨rfl,by omega⟩|exact⟨by omega,rfl⟩|trace_state),by omega,by omega⟩
     ·repeat' first|exact h.elim|(refine sw_freezeMk 13 9 1 .any ((rowL (rowF a (tabG a (k+1)) ((k+1)+1) i) s).map (.int .i64)) rfl rfl (flat_ints _).symm (by rw[List.length_map,rowL_len]) (cells_one fun _=>rfl) (memOk_ints _) (.inl rfl) ?_;simp only[go_sem])|(exfalso;omega)|refine sw_n ?_|refine sw_go 0 kp15 fun K hK=>?_|refine sw_goT 0 kp15 17 (id:=12) (by kernel_rfl) fun K hK=>?_|refine fun (K:KT) (hK:KOk S 0 _ _ _ K)=>?_|refine sw_goD kp15 (by kernel_rfl) fun K hK=>?_|refine runL_g ?_|refine runQ_g ?_|refine sw_retg0 ?_|refine sw_retg ?_|(refine hK.n0 ?_;clear hK K)|refine runG_fk (fun h=>?_) fun h=>?_|refine runQG_fk (fun h=>?_) fun h=>?_|refine sw_condg rfl (fun h=>?_) fun h=>?_|refine hK.skp rfl rfl ?_|refine sw_exit rfl ?_|refine sw_loopEnd ?_|(refine hK.fork rfl rfl rfl ?_ ?_<;>intro h<;>try simp (disch:=(refine Om.mk ?_;omega)) only[go_sem] at h)|with_reducible refine and_o ?_|((with_reducible refine And.intro ?_ ?_);· first|(intro x hx;subst hx;rfl)|(intro x;refine And.intro ?_ ?_<;>(intros;subst_vars;rfl)))|apply tTT
      have hms:=manyL_succ a (k+1) s
      rw[show i=a.rules.length by omega]
      exact⟨(k+1)+1,(by rw[hms];(refine covers_mk0 rfl rfl ?_ ?_ ?_ ?_<;>simp (disch:=(refine Om.mk ?_;omega)) only[go_sem]<;>(try omega));all_goals first|(rw[List.map_append];exact⟨rfl,by omega⟩)|trace_state),by omega,by omega⟩
    ·obtain rfl:N=k+1:=by omega
     have hg2:=manyL_get a (k+1) s (j:=k+1) (by omega)
     have hl2:((manyL a (k+1) s).getD (k+1) default).length=s:=by rw[hg2,rowL_len]
     have hsr:=sumF_range (g:=fun q=>tabG a (k+1) q (k+1)) (fun q=>hgk q (k+1)) a.final
     refine sw_loopT (ι:=Nat) (fun i=>[(13,.int .i64 i),(12,.int .i64 (sumF (fun q=>tabG a (k+1) q (k+1)) a.final i))]) (fun _=>[]) (fun _=>[68000]) (fun i=>i≤a.final.length) (fun i=>a.final.length-i) 0 cvB (by omega) (fun i hi=>?_)
     simp only[go_sem]
     have hs1:=hsr i
     by_cases hil:i<a.final.length
     ·have hf:=finalIn hA hil
      have hft:(a.final.getD i default).toNat<s:=by omega
      have hv:((manyL a (k+1) s).getD (k+1) default).getD (a.final.getD i default).toNat default=tabG a (k+1) (a.final.getD i default).toNat (k+1):=by rw[hg2];exact rowL_get _ hft
      have hgg:=hgk (a.final.getD i default).toNat (k+1)
      rw[←hv] at hgg
      repeat' first|exact h.elim|(exfalso;omega)|refine sw_n ?_|refine sw_go 0 kp15 fun K hK=>?_|refine sw_goT 0 kp15 17 (id:=12) (by kernel_rfl) fun K hK=>?_|refine fun (K:KT) (hK:KOk S 0 _ _ _ K)=>?_|refine sw_goD kp15 (by kernel_rfl) fun K hK=>?_|refine runL_g ?_|refine runQ_g ?_|refine sw_retg0 ?_|refine sw_retg ?_|(refine hK.n0 ?_;clear hK K)|refine runG_fk (fun h=>?_) fun h=>?_|refine runQG_fk (fun h=>?_) fun h=>?_|refine sw_condg rfl (fun h=>?_) fun h=>?_|refine hK.skp rfl rfl ?_|refine sw_exit rfl ?_|refine sw_loopEnd ?_|refine hK.c1 rfl rfl rfl (l1MinM_fc _) ?_|(refine hK.fork rfl rfl rfl ?_ ?_<;>intro h<;>try simp (disch:=(refine Om.mk ?_;omega)) only[go_sem] at h)|with_reducible refine and_o ?_|((with_reducible refine And.intro ?_ ?_);· first|(intro x hx;subst hx;rfl)|(intro x;refine And.intro ?_ ?_<;>(intros;subst_vars;rfl)))|apply tTT
      exact⟨i+1,(by rw[hv];(refine covers_mk0 rfl rfl ?_ ?_ ?_ ?_<;>simp (disch:=(refine Om.mk ?_;omega)) only[go_sem]<;>(try omega));all_goals first|exact⟨rfl,by omega⟩|trace_state),by omega,by omega⟩
     ·repeat' first|exact h.elim|(exfalso;omega)|refine sw_n ?_|refine sw_go 0 kp15 fun K hK=>?_|refine sw_goT 0 kp15 17 (id:=12) (by kernel_rfl) fun K hK=>?_|refine fun (K:KT) (hK:KOk S 0 _ _ _ K)=>?_|refine sw_goD kp15 (by kernel_rfl) fun K hK=>?_|refine runL_g ?_|refine runQ_g ?_|refine sw_retg0 ?_|refine sw_retg ?_|(refine hK.n0 ?_;clear hK K)|refine runG_fk (fun h=>?_) fun h=>?_|refine runQG_fk (fun h=>?_) fun h=>?_|refine sw_condg rfl (fun h=>?_) fun h=>?_|refine hK.skp rfl rfl ?_|refine sw_exit rfl ?_|refine sw_loopEnd ?_|(refine hK.fork rfl rfl rfl ?_ ?_<;>intro h<;>try simp (disch:=(refine Om.mk ?_;omega)) only[go_sem] at h)|with_reducible refine and_o ?_|((with_reducible refine And.intro ?_ ?_);· first|(intro x hx;subst hx;rfl)|(intro x;refine And.intro ?_ ?_<;>(intros;subst_vars;rfl)))|apply tTT
      rw[show i=a.final.length by omega]
  ·rw[show countR rs a n=-1 from if_neg fun h=>hn h.2]
   refine fcb Tryz.func15 fun B=>?_
   repeat' first|exact h.elim|(exfalso;omega)|(exact absurd (by assumption) hn)|refine sw_n ?_|refine sw_go 0 kp15 fun K hK=>?_|refine sw_goT 0 kp15 17 (id:=12) (by kernel_rfl) fun K hK=>?_|refine fun (K:KT) (hK:KOk S 0 _ _ _ K)=>?_|refine sw_goD kp15 (by kernel_rfl) fun K hK=>?_|refine runL_g ?_|refine runQ_g ?_|refine sw_retg0 ?_|refine sw_retg ?_|(refine hK.n0 ?_;clear hK K)|refine runG_fk (fun h=>?_) fun h=>?_|refine runQG_fk (fun h=>?_) fun h=>?_|refine sw_condg rfl (fun h=>?_) fun h=>?_|refine hK.skp rfl rfl ?_|refine sw_exit rfl ?_|refine sw_loopEnd ?_|refine hK.c1 rfl rfl rfl (specSureIn_fc _ rs a) ?_|refine hK.c1 rfl rfl rfl (l1In_fc _ _ _) ?_|(refine hK.fork rfl rfl rfl ?_ ?_<;>intro h<;>try simp (disch:=(refine Om.mk ?_;omega)) only[go_sem] at h)|with_reducible refine and_o ?_|((with_reducible refine And.intro ?_ ?_);· first|(intro x hx;subst hx;rfl)|(intro x;refine And.intro ?_ ?_<;>(intros;subst_vars;rfl)))|apply tTT
   all_goals first|rfl|exact absurd hS (by assumption)|exact absurd (by assumption) hn
 ·rw[show countR rs a n=-1 from if_neg fun h=>hS h.1]
  refine fcb Tryz.func15 fun B=>?_
  repeat' first|exact h.elim|(exact absurd (by assumption) hS)|refine sw_n ?_|refine sw_go 0 kp15 fun K hK=>?_|refine sw_goT 0 kp15 17 (id:=12) (by kernel_rfl) fun K hK=>?_|refine fun (K:KT) (hK:KOk S 0 _ _ _ K)=>?_|refine sw_goD kp15 (by kernel_rfl) fun K hK=>?_|refine runL_g ?_|refine runQ_g ?_|refine sw_retg0 ?_|refine sw_retg ?_|(refine hK.n0 ?_;clear hK K)|refine runG_fk (fun h=>?_) fun h=>?_|refine runQG_fk (fun h=>?_) fun h=>?_|refine sw_condg rfl (fun h=>?_) fun h=>?_|refine hK.skp rfl rfl ?_|refine sw_exit rfl ?_|refine sw_loopEnd ?_|refine hK.c1 rfl rfl rfl (specSureIn_fc _ rs a) ?_|refine hK.c1 rfl rfl rfl (l1In_fc _ _ _) ?_|(refine hK.fork rfl rfl rfl ?_ ?_<;>intro h<;>try simp (disch:=(refine Om.mk ?_;omega)) only[go_sem] at h)|with_reducible refine and_o ?_|((with_reducible refine And.intro ?_ ?_);· first|(intro x hx;subst hx;rfl)|(intro x;refine And.intro ?_ ?_<;>(intros;subst_vars;rfl)))|apply tTT
  all_goals first|rfl|exact absurd (by assumption) hS
end
section
attribute [local irreducible] SW runL runQ runG runQG FC Ret1 RetN toF redoL
attribute [local go_sem] pu_intsK tksL_intsK idsL_intsK
attribute [local irreducible] gridL rowL tabG midG
theorem min_mx (n:Int):(if (1000000000:Int)<n then 1000000000 else n)=mx n:=by unfold mx;split<;>split<;>omega
attribute [local go_sem] min_mx
def kp45:List (Nat×List Nat):=[(0,[0,1,2]),(1,[0,1,2,12]),(2,[14]),(3,[6]),(4,[6]),(5,[0,1,2,7]),(6,[0,1,2,7,8]),(7,[0,1,2,7,8,17]),(9,[0,1,2,7,8,9]),(10,[0,1,2,7,8,9,30]),(11,[0,1,2,7,8]),(8,[0,1,2,7,8]),(12,[6])]
attribute [go_sem] kp45 Tryz.results45 Tryz.ntmps45
theorem ways_fc (g:Cnt) (hg:CntOk g):∀(l:List Int) (n:Nat),n≤60→l.length≤3→(∀q∈l,0≤q∧q<16)→FC S 45 [(7,(gridL g).map (.int .i64))] [] [] [.box 7 0,.sl .any (l.map (.int .i64)),.int .i64 n] (.int .i64 (waysM g l n)) [] []:=by
 intro l
 have hgl:=gridL_len g
 induction l with
 | nil =>
  intro n hn hl hq
  have e:waysM g [] n=if ((n:Int)==0)=true then 1 else 0:=by unfold waysM;by_cases h:n=0<;>simp[h]
  rw[e]
  refine fcb Tryz.func45 fun B=>?_
  repeat' first|exact h.elim|(exfalso;omega)|refine sw_n ?_|refine sw_go 100 kp45 fun K hK=>?_|refine fun (K:KT) (hK:KOk S 100 _ _ _ K)=>?_|refine sw_goD kp45 (by kernel_rfl) fun K hK=>?_|refine runL_g ?_|refine runQ_g ?_|refine sw_retg0 ?_|refine sw_retg ?_|(refine hK.n0 ?_;clear hK K)|refine sw_condg rfl (fun h=>?_) fun h=>?_|refine sw_exit rfl ?_|refine sw_loopEnd ?_|with_reducible refine and_o ?_|apply tTT
  all_goals first|(rw[if_pos (by assumption)];done)|(rw[if_neg (by assumption)];done)|(split<;>first|rfl|omega)
 | cons q r ih =>
  intro n hn hl hq
  have hq0:=hq q List.mem_cons_self
  have hqr:=fun x hx=>hq x (List.mem_cons_of_mem _ hx)
  have hw:=waysM_range hg r
  have hl':r.length≤3:=by simp only[List.length_cons] at hl;omega
  have hsk:=fun k=>sumW_skip hg hw q.toNat n k
  have hsr:=sumW_range hg hw q.toNat n
  refine fcb Tryz.func45 fun B=>?_
  repeat' first|exact h.elim|(exfalso;omega)|refine sw_n ?_|refine sw_go 100 kp45 fun K hK=>?_|refine fun (K:KT) (hK:KOk S 100 _ _ _ K)=>?_|refine sw_goD kp45 (by kernel_rfl) fun K hK=>?_|refine runL_g ?_|refine runQ_g ?_|refine sw_retg0 ?_|refine sw_retg ?_|(refine hK.n0 ?_;clear hK K)|refine sw_condg rfl (fun h=>?_) fun h=>?_|refine sw_exit rfl ?_|refine sw_loopEnd ?_|with_reducible refine and_o ?_|apply tTT
  refine sw_loopT (ι:=Nat) (fun k=>[(8,.int .i64 (k+1)),(7,.int .i64 (sumW (waysM g r) g q.toNat n k))]) (fun _=>[]) (fun _=>[]) (fun k=>k≤n) (fun k=>n-k) 0 (by(refine covers_mk0 rfl rfl ?_ ?_ ?_ ?_<;>simp (disch:=(refine Om.mk ?_;omega)) only[go_sem]<;>(try omega));all_goals first|exact⟨rfl,rfl⟩|rfl|(simp[sumW];done)) (by omega) (fun k hk=>?_)
  simp only[go_sem]
  have hs1:=hsr k
  by_cases hkn:k<n
  ·have hv:=gridL_get g (q:=q.toNat) (j:=k+1) (by omega) (by omega)
   have hg1:=hg q.toNat (k+1)
   have hp:=prod_le hg1 (hw (n-(k+1)))
   have ez:((n-(k+1):Nat):Int)=(n:Int)-(k+1):=by omega
   have c2:=ih (n-(k+1)) (by omega) hl' hqr
   rw[ez] at c2
   have e3:sumW (waysM g r) g q.toNat n (k+1)=mx (sumW (waysM g r) g q.toNat n k+g q.toNat (k+1)*waysM g r (n-(k+1))):=rfl
   rw[←hv] at hp hg1 e3
   repeat' first|exact h.elim|refine sw_n ?_|refine sw_go 100 kp45 fun K hK=>?_|refine fun (K:KT) (hK:KOk S 100 _ _ _ K)=>?_|refine sw_goD kp45 (by kernel_rfl) fun K hK=>?_|refine runL_g ?_|refine runQ_g ?_|refine sw_retg0 ?_|refine sw_retg ?_|(refine hK.n0 ?_;clear hK K)|refine sw_condg rfl (fun h=>?_) fun h=>?_|refine sw_exit rfl ?_|refine sw_loopEnd ?_|refine hK.cR rfl rfl rfl (c2) ?_|with_reducible refine and_o ?_|apply tTT
   ·exact⟨k+1,(by rw[e3];(refine covers_mk0 rfl rfl ?_ ?_ ?_ ?_<;>simp (disch:=(refine Om.mk ?_;omega)) only[go_sem]<;>(try omega));all_goals exact⟨rfl,by omega⟩),by omega,by omega⟩
   ·exact⟨k+1,(by rw[hsk k (by omega)];(refine covers_mk0 rfl rfl ?_ ?_ ?_ ?_<;>simp (disch:=(refine Om.mk ?_;omega)) only[go_sem]<;>(try omega));all_goals exact⟨rfl,by omega⟩),by omega,by omega⟩
   ·exfalso;omega
  ·repeat' first|exact h.elim|(exfalso;omega)|refine sw_n ?_|refine sw_go 100 kp45 fun K hK=>?_|refine fun (K:KT) (hK:KOk S 100 _ _ _ K)=>?_|refine sw_goD kp45 (by kernel_rfl) fun K hK=>?_|refine runL_g ?_|refine runQ_g ?_|refine sw_retg0 ?_|refine sw_retg ?_|(refine hK.n0 ?_;clear hK K)|refine sw_condg rfl (fun h=>?_) fun h=>?_|refine sw_exit rfl ?_|refine sw_loopEnd ?_|with_reducible refine and_o ?_|apply tTT
   rw[show k=n by omega];rfl
def kp19:List (Nat×List Nat):=[(0,[2,3,4]),(1,[2,4,25]),(2,[6]),(3,[2,4,7]),(4,[2,4,7,8]),(5,[2,4,7,8,28]),(7,[2,4,7,8,32,33,34]),(8,[2,4,7,8,32,33,34,35]),(9,[2,4,7,8,10,32,33,34]),(10,[2,4,7,8,32,33,34]),(11,[2,4,7,8,32,33,34]),(6,[2,4,7,8]),(12,[2,4,7,11]),(13,[2,7,11,58,59,60]),(14,[2,7,11,58,59,60,61]),(15,[2,7,11,13,58,59,60]),(16,[2,7,11,58,59,60]),(17,[2,7,11,58,59,60]),(18,[6])]
attribute [go_sem] kp19 Tryz.results19 Tryz.ntmps19
theorem implCountTaken_fc (rs:List Int) (a:AutoT) (n:Int):FC S 19 [] [] [] [.agg [.sl .any (rs.map (.int .i64))],AutoD a,.int .i64 n] (.int .i64 (countR rs a n)) [] []:=by
 rcases Classical.em (AutoOkP rs a∧SureP a) with hS|hS
 ·have hA:=hS.1
  have hst:=hA.1.2.1
  have hrl:=hA.1.2.2.1
  have hfl:=final_len hA
  by_cases hn:1≤n∧n≤60
  ·rw[show countR rs a n=sumF (fun q=>tabG a n.toNat q n.toNat) a.final a.final.length from if_pos ⟨hS,hn⟩]
   obtain⟨N,rfl⟩:∃N:Nat,n=N:=⟨n.toNat,by omega⟩
   rw[Int.toNat_natCast]
   refine fcb Tryz.func19 fun B=>?_
   repeat' first|exact h.elim|refine sw_n ?_|refine sw_go 0 kp19 fun K hK=>?_|refine sw_goT 0 kp19 18 (id:=10) (by kernel_rfl) fun K hK=>?_|refine fun (K:KT) (hK:KOk S 0 _ _ _ K)=>?_|refine sw_goD kp19 (by kernel_rfl) fun K hK=>?_|refine runL_g ?_|refine runQ_g ?_|refine sw_retg0 ?_|refine sw_retg ?_|(refine hK.n0 ?_;clear hK K)|refine runG_fk (fun h=>?_) fun h=>?_|refine runQG_fk (fun h=>?_) fun h=>?_|refine sw_condg rfl (fun h=>?_) fun h=>?_|refine hK.skp rfl rfl ?_|refine sw_exit rfl ?_|refine sw_loopEnd ?_|refine hK.c1 rfl rfl rfl (implSureIn_fc _ rs a) ?_|(refine hK.fork rfl rfl rfl ?_ ?_<;>intro h<;>try simp (disch:=(refine Om.mk ?_;omega)) only[go_sem] at h)|with_reducible refine and_o ?_|apply tTT
   all_goals first|exact absurd hS (by assumption)|(exfalso;omega)|skip
   refine sw_loopT (ι:=Nat) (fun k=>[(8,.int .i64 (k+1))]) (fun k=>[(7,(gridL (tabG a k)).map (.int .i64))]) (fun _=>[]) (fun k=>k≤N) (fun k=>N-k) 0 (by(refine covers_mk0 rfl rfl ?_ ?_ ?_ ?_<;>simp (disch:=(refine Om.mk ?_;omega)) only[go_sem]<;>(try omega));all_goals first|exact grid0 a|exact⟨grid0 a,rfl⟩|exact⟨rfl,grid0 a⟩|trace_state) (by omega) (fun k hk=>?_)
   simp only[go_sem]
   have hgl0:=gridL_len (tabG a k)
   repeat' first|exact h.elim|refine sw_n ?_|refine sw_go 0 kp19 fun K hK=>?_|refine sw_goT 0 kp19 18 (id:=10) (by kernel_rfl) fun K hK=>?_|refine fun (K:KT) (hK:KOk S 0 _ _ _ K)=>?_|refine sw_goD kp19 (by kernel_rfl) fun K hK=>?_|refine runL_g ?_|refine runQ_g ?_|refine sw_retg0 ?_|refine sw_retg ?_|(refine hK.n0 ?_;clear hK K)|refine runG_fk (fun h=>?_) fun h=>?_|refine runQG_fk (fun h=>?_) fun h=>?_|refine sw_condg rfl (fun h=>?_) fun h=>?_|refine hK.skp rfl rfl ?_|refine sw_exit rfl ?_|refine sw_loopEnd ?_|(refine hK.fork rfl rfl rfl ?_ ?_<;>intro h<;>try simp (disch:=(refine Om.mk ?_;omega)) only[go_sem] at h)|with_reducible refine and_o ?_|apply tTT
   ·refine sw_loopT (ι:=Nat) (fun i=>[(34,.int .i64 i)]) (fun i=>[(7,(gridL (midG a k i)).map (.int .i64))]) (fun _=>[]) (fun i=>i≤a.rules.length) (fun i=>a.rules.length-i) 0 (by(refine covers_mk0 rfl rfl ?_ ?_ ?_ ?_<;>simp (disch:=(refine Om.mk ?_;omega)) only[go_sem]<;>(try omega));all_goals first|exact(midG_zero a k).symm|exact grid1 a k|exact⟨grid1 a k,rfl⟩|exact⟨rfl,grid1 a k⟩|trace_state) (by omega) (fun i hi=>?_)
    simp only[go_sem]
    have hgl:=gridL_len (midG a k i)
    by_cases hil:i<a.rules.length
    ·have ht:=transArgs hA hil
     have hto:(a.rules.getD i default).to.toNat<16:=by omega
     have hv:=gridL_get (midG a k i) hto (show k+1≤60 by omega)
     have hmo:=midG_ok a k i
     have hrr:=hmo (a.rules.getD i default).to.toNat (k+1)
     have hw:=waysM_range hmo (a.rules.getD i default).args k
     have c:=ways_fc (midG a k i) hmo (a.rules.getD i default).args k (by omega) ht.1 (fun q hq=>by have:=ht.2.1 q hq;omega)
     have hsp:=grid_step a k i hto (by omega)
     rw[←hv] at hrr
     repeat' first|exact h.elim|(exfalso;omega)|refine sw_n ?_|refine sw_go 0 kp19 fun K hK=>?_|refine sw_goT 0 kp19 18 (id:=10) (by kernel_rfl) fun K hK=>?_|refine fun (K:KT) (hK:KOk S 0 _ _ _ K)=>?_|refine sw_goD kp19 (by kernel_rfl) fun K hK=>?_|refine runL_g ?_|refine runQ_g ?_|refine sw_retg0 ?_|refine sw_retg ?_|(refine hK.n0 ?_;clear hK K)|refine runG_fk (fun h=>?_) fun h=>?_|refine runQG_fk (fun h=>?_) fun h=>?_|refine sw_condg rfl (fun h=>?_) fun h=>?_|refine hK.skp rfl rfl ?_|refine sw_exit rfl ?_|refine sw_loopEnd ?_|refine hK.cR rfl rfl rfl (c) ?_|(refine hK.fork rfl rfl rfl ?_ ?_<;>intro h<;>try simp (disch:=(refine Om.mk ?_;omega)) only[go_sem] at h)|with_reducible refine and_o ?_|apply tTT
     exact⟨i+1,(by rw[←hsp];(refine covers_mk0 rfl rfl ?_ ?_ ?_ ?_<;>simp (disch:=(refine Om.mk ?_;omega)) only[go_sem]<;>(try omega));all_goals first|exact⟨rfl,by omega⟩|exact⟨by omega,rfl⟩|trace_state),by omega,by omega⟩
    ·repeat' first|exact h.elim|(exfalso;omega)|refine sw_n ?_|refine sw_go 0 kp19 fun K hK=>?_|refine sw_goT 0 kp19 18 (id:=10) (by kernel_rfl) fun K hK=>?_|refine fun (K:KT) (hK:KOk S 0 _ _ _ K)=>?_|refine sw_goD kp19 (by kernel_rfl) fun K hK=>?_|refine runL_g ?_|refine runQ_g ?_|refine sw_retg0 ?_|refine sw_retg ?_|(refine hK.n0 ?_;clear hK K)|refine runG_fk (fun h=>?_) fun h=>?_|refine runQG_fk (fun h=>?_) fun h=>?_|refine sw_condg rfl (fun h=>?_) fun h=>?_|refine hK.skp rfl rfl ?_|refine sw_exit rfl ?_|refine sw_loopEnd ?_|(refine hK.fork rfl rfl rfl ?_ ?_<;>intro h<;>try simp (disch:=(refine Om.mk ?_;omega)) only[go_sem] at h)|with_reducible refine and_o ?_|apply tTT
     rw[show i=a.rules.length by omega,midG_all]
     exact⟨k+1,(by(refine covers_mk0 rfl rfl ?_ ?_ ?_ ?_<;>simp (disch:=(refine Om.mk ?_;omega)) only[go_sem]<;>(try omega));all_goals first|exact⟨rfl,by omega⟩|exact⟨by omega,rfl⟩|omega|trace_state),by omega,by omega⟩
   ·obtain rfl:N=k:=by omega
    have hgk:=tabG_ok a N
    have hsr:=sumF_range (g:=fun q=>tabG a N q N) (fun q=>hgk q N) a.final
    refine sw_loopT (ι:=Nat) (fun i=>[(60,.int .i64 i),(11,.int .i64 (sumF (fun q=>tabG a N q N) a.final i))]) (fun _=>[]) (fun _=>[]) (fun i=>i≤a.final.length) (fun i=>a.final.length-i) 0 cvB (by omega) (fun i hi=>?_)
    simp only[go_sem]
    have hs1:=hsr i
    by_cases hil:i<a.final.length
    ·have hf:=finalIn hA hil
     have hft:(a.final.getD i default).toNat<16:=by omega
     have hv:=gridL_get (tabG a N) hft (show N≤60 by omega)
     have hgg:=hgk (a.final.getD i default).toNat N
     have e3:sumF (fun q=>tabG a N q N) a.final (i+1)=mx (sumF (fun q=>tabG a N q N) a.final i+tabG a N (a.final.getD i default).toNat N):=rfl
     rw[←hv] at hgg e3
     repeat' first|exact h.elim|(exfalso;omega)|refine sw_n ?_|refine sw_go 0 kp19 fun K hK=>?_|refine sw_goT 0 kp19 18 (id:=10) (by kernel_rfl) fun K hK=>?_|refine fun (K:KT) (hK:KOk S 0 _ _ _ K)=>?_|refine sw_goD kp19 (by kernel_rfl) fun K hK=>?_|refine runL_g ?_|refine runQ_g ?_|refine sw_retg0 ?_|refine sw_retg ?_|(refine hK.n0 ?_;clear hK K)|refine runG_fk (fun h=>?_) fun h=>?_|refine runQG_fk (fun h=>?_) fun h=>?_|refine sw_condg rfl (fun h=>?_) fun h=>?_|refine hK.skp rfl rfl ?_|refine sw_exit rfl ?_|refine sw_loopEnd ?_|(refine hK.fork rfl rfl rfl ?_ ?_<;>intro h<;>try simp (disch:=(refine Om.mk ?_;omega)) only[go_sem] at h)|with_reducible refine and_o ?_|apply tTT
     exact⟨i+1,(by rw[e3];(refine covers_mk0 rfl rfl ?_ ?_ ?_ ?_<;>simp (disch:=(refine Om.mk ?_;omega)) only[go_sem]<;>(try omega));all_goals first|exact⟨rfl,by omega⟩|exact⟨by omega,rfl⟩|trace_state),by omega,by omega⟩
    ·repeat' first|exact h.elim|(exfalso;omega)|refine sw_n ?_|refine sw_go 0 kp19 fun K hK=>?_|refine sw_goT 0 kp19 18 (id:=10) (by kernel_rfl) fun K hK=>?_|refine fun (K:KT) (hK:KOk S 0 _ _ _ K)=>?_|refine sw_goD kp19 (by kernel_rfl) fun K hK=>?_|refine runL_g ?_|refine runQ_g ?_|refine sw_retg0 ?_|refine sw_retg ?_|(refine hK.n0 ?_;clear hK K)|refine runG_fk (fun h=>?_) fun h=>?_|refine runQG_fk (fun h=>?_) fun h=>?_|refine sw_condg rfl (fun h=>?_) fun h=>?_|refine hK.skp rfl rfl ?_|refine sw_exit rfl ?_|refine sw_loopEnd ?_|(refine hK.fork rfl rfl rfl ?_ ?_<;>intro h<;>try simp (disch:=(refine Om.mk ?_;omega)) only[go_sem] at h)|with_reducible refine and_o ?_|apply tTT
     rw[show i=a.final.length by omega]
  ·rw[show countR rs a n=-1 from if_neg fun h=>hn h.2]
   refine fcb Tryz.func19 fun B=>?_
   repeat' first|exact h.elim|(exfalso;omega)|refine sw_n ?_|refine sw_go 0 kp19 fun K hK=>?_|refine sw_goT 0 kp19 18 (id:=10) (by kernel_rfl) fun K hK=>?_|refine fun (K:KT) (hK:KOk S 0 _ _ _ K)=>?_|refine sw_goD kp19 (by kernel_rfl) fun K hK=>?_|refine runL_g ?_|refine runQ_g ?_|refine sw_retg0 ?_|refine sw_retg ?_|(refine hK.n0 ?_;clear hK K)|refine runG_fk (fun h=>?_) fun h=>?_|refine runQG_fk (fun h=>?_) fun h=>?_|refine sw_condg rfl (fun h=>?_) fun h=>?_|refine hK.skp rfl rfl ?_|refine sw_exit rfl ?_|refine sw_loopEnd ?_|refine hK.c1 rfl rfl rfl (implSureIn_fc _ rs a) ?_|(refine hK.fork rfl rfl rfl ?_ ?_<;>intro h<;>try simp (disch:=(refine Om.mk ?_;omega)) only[go_sem] at h)|with_reducible refine and_o ?_|apply tTT
   all_goals first|rfl|exact absurd hS (by assumption)|(exfalso;omega)
 ·rw[show countR rs a n=-1 from if_neg fun h=>hS h.1]
  refine fcb Tryz.func19 fun B=>?_
  repeat' first|exact h.elim|(exact absurd (by assumption) hS)|refine sw_n ?_|refine sw_go 0 kp19 fun K hK=>?_|refine sw_goT 0 kp19 18 (id:=10) (by kernel_rfl) fun K hK=>?_|refine fun (K:KT) (hK:KOk S 0 _ _ _ K)=>?_|refine sw_goD kp19 (by kernel_rfl) fun K hK=>?_|refine runL_g ?_|refine runQ_g ?_|refine sw_retg0 ?_|refine sw_retg ?_|(refine hK.n0 ?_;clear hK K)|refine runG_fk (fun h=>?_) fun h=>?_|refine runQG_fk (fun h=>?_) fun h=>?_|refine sw_condg rfl (fun h=>?_) fun h=>?_|refine hK.skp rfl rfl ?_|refine sw_exit rfl ?_|refine sw_loopEnd ?_|refine hK.c1 rfl rfl rfl (implSureIn_fc _ rs a) ?_|(refine hK.fork rfl rfl rfl ?_ ?_<;>intro h<;>try simp (disch:=(refine Om.mk ?_;omega)) only[go_sem] at h)|with_reducible refine and_o ?_|apply tTT
  all_goals first|rfl|exact absurd (by assumption) hS
end
section
attribute [local irreducible] Lg.SW runL runQ runG runQG FC FCw Ret1 RetN toF redoL anyB
noncomputable def manyR (x:SystemT) (n:Int):Int:=if (normR x).2=true then countR x.sig (normR x).1 n else -1
theorem many_yes {x:SystemT} {n:Int} (h:(normR x).2=true):manyR x n=countR x.sig (normR x).1 n:=if_pos h
theorem many_no {x:SystemT} {n:Int} (h:(normR x).2=false):manyR x n=-1:=if_neg (by rw[h];simp)
def kp6:List (Nat×List Nat):=[(0,[1,2]),(1,[1,2,5,6]),(2,[1,2,5,13]),(3,[4]),(4,[4])]
attribute [go_sem] kp6 Tryz.results6 Tryz.ntmps6
theorem specNormalsMany_fc (x:SystemT) (n:Int):FC S 6 [] [] [] [SystemD x,.int .i64 n] (.int .i64 (manyR x n)) [] []:=by
 have cS:=specNormalAuto_fc x
 cases hb:(normR x).2 with
 | true =>
  have cC:=specCountTaken_fc x.sig (normR x).1 n
  rw[many_yes hb]
  rw[hb] at cS
  generalize (normR x).1=a at *
  generalize countR x.sig a n=r at *
  refine fcb Tryz.func6 fun B=>?_
  repeat' first|exact h.elim|refine sw_n ?_|refine sw_go 0 kp6 fun K hK=>?_|refine fun (K:KT) (hK:KOk S 0 _ _ _ K)=>?_|refine runL_g ?_|refine sw_retg0 ?_|refine sw_retg ?_|(refine hK.n0 ?_;clear hK K)|refine sw_condg rfl (fun h=>?_) fun h=>?_|refine sw_loopEnd ?_|refine hK.c1 rfl rfl rfl (cS) ?_|refine hK.c1 rfl rfl rfl (cC) ?_|with_reducible refine and_o ?_|apply tTT
 | false =>
  rw[many_no hb]
  rw[hb] at cS
  generalize (normR x).1=a at *
  refine fcb Tryz.func6 fun B=>?_
  repeat' first|exact h.elim|refine sw_n ?_|refine sw_go 0 kp6 fun K hK=>?_|refine fun (K:KT) (hK:KOk S 0 _ _ _ K)=>?_|refine runL_g ?_|refine sw_retg0 ?_|refine sw_retg ?_|(refine hK.n0 ?_;clear hK K)|refine sw_condg rfl (fun h=>?_) fun h=>?_|refine sw_loopEnd ?_|refine hK.c1 rfl rfl rfl (cS) ?_|with_reducible refine and_o ?_|apply tTT
def kp8:List (Nat×List Nat):=[(0,[1,2]),(1,[1,2,5,6]),(2,[1,2,5,13]),(3,[4]),(4,[4])]
attribute [go_sem] kp8 Tryz.results8 Tryz.ntmps8
theorem implNormalsMany_fc (x:SystemT) (n:Int):FCw S TabW 8 [] [] [] [SystemD x,.int .i64 n] (.int .i64 (manyR x n)) [] []:=by
 have cI:=implNormalAuto_fc [0] (by simp) x
 refine fcbW Tryz.func8 rfl fun B hw hTB hI hpan=>?_
 cases hb:(normR x).2 with
 | true =>
  have cC:=FC.args (implCountTaken_fc x.sig (normR x).1 n) (args:=[.agg [.sl .any (x.sig.map (.int .i64))],AutoL [0] (normR x).1,.int .i64 n]) ⟨.refl _,le_AutoL _ _,.refl _,trivial⟩
  rw[many_yes hb]
  rw[hb] at cI
  generalize (normR x).1=a at *
  generalize countR x.sig a n=r at *
  repeat' first|exact h.elim|(exfalso;omega)|(refine hK.raw ?_;clear hK K;refine LopsW.callW rfl rfl rfl hw hTB (cI) (by refine⟨⟨?_,?_,?_,?_,?_⟩,⟨?_,?_,?_,?_,?_⟩,?_⟩<;>simp[LS.getBox,Lg.look,D.ids,D.idsL,LS.clean,D.tks,D.tksL,inTok,AutoL,TransSL,Int64SL]) (lops_go 0 (fun (K:List Oper→LS→Prop) (hK:KOk S 0 _ _ _ K)=>?_));simp (disch:=(refine Om.mk ?_;omega)) only[go_sem,List.filter_cons,List.filter_nil,Bool.false_eq_true])|refine sw_n ?_|refine sw_go 0 kp8 fun K hK=>?_|refine fun (K:KT) (hK:KOk S 0 _ _ _ K)=>?_|refine runL_g ?_|refine sw_retg0 ?_|refine sw_retg ?_|(refine hK.n0 ?_;clear hK K)|refine sw_condg rfl (fun h=>?_) fun h=>?_|refine sw_loopEnd ?_|refine hK.c1 rfl rfl rfl (cC) ?_|with_reducible refine and_o ?_|apply tTT
  all_goals (unfold RetN;simp only[go_sem];exact ret_plain rfl fun f=>rfl)
 | false =>
  rw[many_no hb]
  rw[hb] at cI
  generalize (normR x).1=a at *
  repeat' first|exact h.elim|(exfalso;omega)|(refine hK.raw ?_;clear hK K;refine LopsW.callW rfl rfl rfl hw hTB (cI) (by refine⟨⟨?_,?_,?_,?_,?_⟩,⟨?_,?_,?_,?_,?_⟩,?_⟩<;>simp[LS.getBox,Lg.look,D.ids,D.idsL,LS.clean,D.tks,D.tksL,inTok,AutoL,TransSL,Int64SL]) (lops_go 0 (fun (K:List Oper→LS→Prop) (hK:KOk S 0 _ _ _ K)=>?_));simp (disch:=(refine Om.mk ?_;omega)) only[go_sem,List.filter_cons,List.filter_nil,Bool.false_eq_true])|refine sw_n ?_|refine sw_go 0 kp8 fun K hK=>?_|refine fun (K:KT) (hK:KOk S 0 _ _ _ K)=>?_|refine runL_g ?_|refine sw_retg0 ?_|refine sw_retg ?_|(refine hK.n0 ?_;clear hK K)|refine sw_condg rfl (fun h=>?_) fun h=>?_|refine sw_loopEnd ?_|with_reducible refine and_o ?_|apply tTT
  all_goals (unfold RetN;simp only[go_sem];exact ret_plain rfl fun f=>rfl)
end
end Go.Proofs.YtcbgmeegbjokpaaGreatDoor
