/-
  D2, Dl, D3, one behind the other.
-/
import Derived.Test.YtkfkdgginfpdnaaGreatDoorG6
import Derived.Test.YtkfkdgginfpdnaaGreatDoorG2
import Derived.Test.YtkfkdgginfpdnaaGreatDoorSet
import Derived.Test.YtkfkdgginfpdnaaGreatDoorG5
import Derived.Test.YtkfkdgginfpdnaaGreatDoorLgK24
import Derived.Test.YtkfkdgginfpdnaaGreatDoorLgK13
import Derived.Test.YtkfkdgginfpdnaaGreatDoorLgK19
namespace Go.Proofs.YtkfkdgginfpdnaaGreatDoor
open Go Go.Lg
set_option linter.unusedSimpArgs false
set_option linter.unusedVariables false
set_option maxHeartbeats 4000000
section
attribute [local irreducible] Lg.SW runL runQ runG runQG FC Ret1 RetN toF redoL
def kp88:List (Nat×List Nat):=[(0,[1]),(1,[1,3]),(2,[1,3,4]),(3,[1,3,4,10]),(5,[1,3,4]),(4,[1,3,4]),(6,[2])]
attribute [go_sem] kp88 Tryz.results88 Tryz.ntmps88
theorem l26Lefs_fc (f:FrontT) (h:FrontOkP f):FC S 88 [] [] [] [FrontD f] (.sl .any ((lefsL f).map IntsD)) [] []:=by
 have hfl:=front_len h
 have hn8:=h.1.2.2
 have hz:lefsTo f 0=[]:=by simp[lefsTo]
 have hss:=fun i (h:i<f.lines.length)=>lefsTo_s f h
 have hal:=fun i h=>lefsTo_all f i h
 have hln:=fun i=>lefsTo_len f i
 generalize lefsTo f=LT at *
 generalize lefsL f=LL at *
 refine fcb Tryz.func88 fun B=>?_
 repeat' first|exact h.elim|refine sw_n ?_|refine sw_go 0 kp88 fun K hK=>?_|refine fun (K:KT) (hK:KOk S 0 _ _ _ K)=>?_|refine runL_g ?_|refine sw_retg0 ?_|refine sw_retg ?_|(refine hK.n0 ?_;clear hK K)|refine sw_condg rfl (fun h=>?_) fun h=>?_|refine sw_exit rfl ?_|refine sw_loopEnd ?_|with_reducible refine and_o ?_|((with_reducible refine And.intro ?_ ?_);· first|(intro x hx;subst hx;rfl)|(intro x;refine And.intro ?_ ?_<;>(intros;subst_vars;rfl)))|apply tTT
 refine sw_tok 3 22000 22 1 rfl (.inr rfl) rfl ?_
 simp only[go_sem]
 refine sw_loopT (ι:=Nat) (fun i=>[(4,.int .i64 i),(3,.sl (.own 22000 22 1) ((LT i).map IntsD))]) (fun _=>[]) (fun _=>[22000]) (fun i=>i≤f.lines.length) (fun i=>f.lines.length-i) 0 (by(refine covers_mk0 rfl rfl ?_ ?_ ?_ ?_<;>simp (disch:=(refine Om.mk ?_;omega)) only[go_sem]<;>(try omega));all_goals first|(rw[hz];exact⟨rfl,rfl⟩)|rfl|trace_state) (by omega) (fun i hi=>?_)
 simp only[go_sem]
 have hll:=hln i
 by_cases hil:i<f.lines.length
 ·have c:=l26Left_fc (f.lines.getD i default) (by have:=(hfl i hil).2.1;omega) (hfl i hil).1
  repeat' first|exact h.elim|(exfalso;omega)|refine sw_n ?_|refine sw_go 0 kp88 fun K hK=>?_|refine fun (K:KT) (hK:KOk S 0 _ _ _ K)=>?_|refine runL_g ?_|refine sw_retg0 ?_|refine sw_retg ?_|(refine hK.n0 ?_;clear hK K)|refine sw_condg rfl (fun h=>?_) fun h=>?_|refine sw_exit rfl ?_|refine sw_loopEnd ?_|refine hK.c1 rfl rfl rfl (c) ?_|with_reducible refine and_o ?_|((with_reducible refine And.intro ?_ ?_);· first|(intro x hx;subst hx;rfl)|(intro x;refine And.intro ?_ ?_<;>(intros;subst_vars;rfl)))|apply tTT
  exact⟨i+1,(by rw[hss i hil,List.map_append];(refine covers_mk0 rfl rfl ?_ ?_ ?_ ?_<;>simp (disch:=(refine Om.mk ?_;omega)) only[go_sem]<;>(try omega));all_goals first|rfl|exact⟨rfl,by omega⟩|trace_state),by omega,by omega⟩
 ·repeat' first|exact h.elim|(exfalso;omega)|refine sw_n ?_|refine sw_go 0 kp88 fun K hK=>?_|refine fun (K:KT) (hK:KOk S 0 _ _ _ K)=>?_|refine runL_g ?_|refine sw_retg0 ?_|refine sw_retg ?_|(refine hK.n0 ?_;clear hK K)|refine sw_condg rfl (fun h=>?_) fun h=>?_|refine sw_exit rfl ?_|refine sw_loopEnd ?_|with_reducible refine and_o ?_|((with_reducible refine And.intro ?_ ?_);· first|(intro x hx;subst hx;rfl)|(intro x;refine And.intro ?_ ?_<;>(intros;subst_vars;rfl)))|apply tTT
  rw[hal i (by omega)]
def kp48:List (Nat×List Nat):=[(0,[1,2,3,4]),(1,[1,2,3,4,9]),(2,[1,2,3,4,9,14]),(4,[1,2,3,4,9,28]),(5,[8]),(3,[1,2,3,4,9]),(6,[8])]
attribute [go_sem] kp48 Tryz.results48 Tryz.ntmps48
theorem l26Taken_fc (f:FrontT) (h:FrontOkP f) (fn:Int) (sets:List (List Int)) (hs:∀x∈lefsL f,x.getD 0 default=fn→(sets.length:Int)=arS f.sig fn):FC S 48 [] [] [] [FrontD f,.sl .any ((shpV f).map IntsD),.int .i64 fn,.sl .any (sets.map IntsD)] (.int .i64 (takI ((lefsL f).map (formR f.sig (shpV f))) fn sets)) [] []:=by
 have hfl:=front_len h
 have hn8:=h.1.2.2
 obtain⟨hO,hn,hL⟩:=shpV_ok h
 have hLl:=lefsL_len f
 have hLg:=fun i (h:i<f.lines.length)=>lefsL_get f h
 have hmem:∀i<f.lines.length,(lefsL f).getD i default∈lefsL f:=fun i hi=>getD_mem _ i (by omega)
 have hfg:∀i<f.lines.length,((lefsL f).map (formR f.sig (shpV f))).getD i default=formR f.sig (shpV f) ((lefsL f).getD i default):=fun i hi=>getD_map' (by omega)
 have hfx:∀i,i<f.lines.length→(∀j<i,¬FitF (((lefsL f).map (formR f.sig (shpV f))).getD j default) fn sets)→FitF (((lefsL f).map (formR f.sig (shpV f))).getD i default) fn sets→takI ((lefsL f).map (formR f.sig (shpV f))) fn sets=i:=fun i hi hj hf=>fidx_at (p:=fun x=>FitF x fn sets) hj (by rw[List.length_map];omega) hf
 have hfn:(∀j<f.lines.length,¬FitF (((lefsL f).map (formR f.sig (shpV f))).getD j default) fn sets)→takI ((lefsL f).map (formR f.sig (shpV f))) fn sets=-1:=fun hj=>fidx_none (p:=fun x=>FitF x fn sets) fun j hj'=>hj j (by rw[List.length_map] at hj';omega)
 generalize takI ((lefsL f).map (formR f.sig (shpV f))) fn sets=R at *
 generalize hLF:(lefsL f).map (formR f.sig (shpV f))=LF at *
 generalize shpV f=SH at *
 refine fcb Tryz.func48 fun B=>?_
 repeat' first|exact h.elim|refine sw_n ?_|refine sw_go 0 kp48 fun K hK=>?_|refine fun (K:KT) (hK:KOk S 0 _ _ _ K)=>?_|refine sw_goD kp48 (by kernel_rfl) fun K hK=>?_|refine runL_g ?_|refine runQ_g ?_|refine sw_retg0 ?_|refine sw_retg ?_|(refine hK.n0 ?_;clear hK K)|refine sw_condg rfl (fun h=>?_) fun h=>?_|refine sw_exit rfl ?_|refine sw_loopEnd ?_|with_reducible refine and_o ?_|apply tTT
 refine sw_loopT (ι:=Nat) (fun i=>[(9,.int .i64 i)]) (fun _=>[]) (fun _=>[]) (fun i=>i≤f.lines.length∧∀j<i,¬FitF (LF.getD j default) fn sets) (fun i=>f.lines.length-i) 0 cvB ⟨Nat.zero_le _,fun j hj=>absurd hj (Nat.not_lt_zero _)⟩ (fun i hi=>?_)
 obtain⟨hi,hj⟩:=hi
 simp only[go_sem]
 by_cases hil:i<f.lines.length
 ·have c:=l26Left_fc (f.lines.getD i default) (by have:=(hfl i hil).2.1;omega) (hfl i hil).1
  have hLi:=hL _ (hmem i hil)
  have hsi:=hs _ (hmem i hil)
  have hT:=hLi.1
  have hF:=hLi.2
  rw[hLg i hil] at hT hF hsi
  have cF:=l24Fits_fc f.sig SH (leftL (f.lines.getD i default)) fn sets hT hF hn (fun e=>by
   have:=hsi e
   rw[argsS_len,e,←this];omega)
  have hfgi:=hfg i hil
  rw[hLg i hil] at hfgi
  rw[←hfgi] at cF
  by_cases hf:FitF (LF.getD i default) fn sets
  ·rw[tst_true hf] at cF
   rw[hfx i hil hj hf]
   repeat' first|exact h.elim|(exfalso;omega)|refine sw_n ?_|refine sw_go 0 kp48 fun K hK=>?_|refine fun (K:KT) (hK:KOk S 0 _ _ _ K)=>?_|refine sw_goD kp48 (by kernel_rfl) fun K hK=>?_|refine runL_g ?_|refine runQ_g ?_|refine sw_retg0 ?_|refine sw_retg ?_|(refine hK.n0 ?_;clear hK K)|refine sw_condg rfl (fun h=>?_) fun h=>?_|refine sw_exit rfl ?_|refine sw_loopEnd ?_|refine hK.c1 rfl rfl rfl (c) ?_|refine hK.c1 rfl rfl rfl (cF) ?_|with_reducible refine and_o ?_|apply tTT
  ·rw[tst_false hf] at cF
   repeat' first|exact h.elim|(exfalso;omega)|refine sw_n ?_|refine sw_go 0 kp48 fun K hK=>?_|refine fun (K:KT) (hK:KOk S 0 _ _ _ K)=>?_|refine sw_goD kp48 (by kernel_rfl) fun K hK=>?_|refine runL_g ?_|refine runQ_g ?_|refine sw_retg0 ?_|refine sw_retg ?_|(refine hK.n0 ?_;clear hK K)|refine sw_condg rfl (fun h=>?_) fun h=>?_|refine sw_exit rfl ?_|refine sw_loopEnd ?_|refine hK.c1 rfl rfl rfl (c) ?_|refine hK.c1 rfl rfl rfl (cF) ?_|with_reducible refine and_o ?_|apply tTT
   all_goals exact⟨i+1,cvB,⟨by omega,upto_succ hj hf⟩,by omega⟩
 ·obtain rfl:i=f.lines.length:=by omega
  rw[hfn hj]
  repeat' first|exact h.elim|(exfalso;omega)|refine sw_n ?_|refine sw_go 0 kp48 fun K hK=>?_|refine fun (K:KT) (hK:KOk S 0 _ _ _ K)=>?_|refine sw_goD kp48 (by kernel_rfl) fun K hK=>?_|refine runL_g ?_|refine runQ_g ?_|refine sw_retg0 ?_|refine sw_retg ?_|(refine hK.n0 ?_;clear hK K)|refine sw_condg rfl (fun h=>?_) fun h=>?_|refine sw_exit rfl ?_|refine sw_loopEnd ?_|with_reducible refine and_o ?_|apply tTT
end
section
theorem tksL_L (xs:List (List Int)):D.tksL (xs.map IntsD)=[]:=by
 induction xs with
 | nil=>rfl
 | cons x r ih=>simp[D.tksL,IntsD,D.tks,ih]
theorem idsL_L (xs:List (List Int)):D.idsL (xs.map IntsD)=[]:=by
 induction xs with
 | nil=>rfl
 | cons x r ih=>simp[D.idsL,IntsD,D.ids,ih]
theorem shTL_L (o:Nat) (xs:List (List Int)):D.shTL o (xs.map IntsD)=xs.map IntsD:=by
 induction xs with
 | nil=>rfl
 | cons x r ih=>simp[D.shTL,IntsD,D.shT,ih]
theorem pu1_L (p:Nat→Bool) (xs:List (List Int)):(xs.map IntsD).map (D.pu1 p)=xs.map IntsD:=by
 rw[List.map_map];exact List.map_congr_left fun _ _=>rfl
theorem mTL_L (f:Nat→Nat) (xs:List (List Int)):D.mTL f (xs.map IntsD)=xs.map IntsD:=by
 induction xs with
 | nil=>rfl
 | cons x r ih=>simp only[List.map_cons,D.mTL,IntsD,D.mT,ih]
theorem tksL_B (xs:List Bool):D.tksL (xs.map .bool)=[]:=by
 induction xs with
 | nil=>rfl
 | cons x r ih=>simp[D.tksL,D.tks,ih]
theorem idsL_B (xs:List Bool):D.idsL (xs.map .bool)=[]:=by
 induction xs with
 | nil=>rfl
 | cons x r ih=>simp[D.idsL,D.ids,ih]
theorem shTL_B (o:Nat) (xs:List Bool):D.shTL o (xs.map .bool)=xs.map .bool:=by
 induction xs with
 | nil=>rfl
 | cons x r ih=>simp[D.shTL,D.shT,ih]
theorem pu1_B (p:Nat→Bool) (xs:List Bool):(xs.map D.bool).map (D.pu1 p)=xs.map .bool:=by
 rw[List.map_map];exact List.map_congr_left fun _ _=>rfl
theorem pu1_cB (p:Nat→Bool):(D.pu1 p∘D.bool)=D.bool:=rfl
theorem mTL_B (f:Nat→Nat) (xs:List Bool):D.mTL f (xs.map .bool)=xs.map .bool:=by
 induction xs with
 | nil=>rfl
 | cons x r ih=>simp only[List.map_cons,D.mTL,D.mT,ih]
theorem puOk_B (p:Nat→Bool) (xs:List Bool):(xs.map D.bool).all (D.puOk p)=true:=by
 rw[List.all_map]
 exact List.all_eq_true.2 fun _ _=>rfl
theorem puOk_L (p:Nat→Bool) (xs:List (List Int)):(xs.map IntsD).all (D.puOk p)=true:=by
 rw[List.all_map]
 exact List.all_eq_true.2 fun _ _=>rfl
end
section
attribute [local irreducible] Lg.SW runL runQ runG runQG FC Ret1 RetN toF redoL
attribute [local go_sem] tksL_L idsL_L shTL_L pu1_L mTL_L
theorem first_nil (B:List (List Int)) (l:List Int):∀n,(∀i<n,B.getD (l.getD i default).toNat default≠[])∨∃i<n,B.getD (l.getD i default).toNat default=[]∧∀j<i,B.getD (l.getD j default).toNat default≠[]
 | 0=>.inl fun i hi=>absurd hi (Nat.not_lt_zero _)
 | n+1=>by
  rcases first_nil B l n with h|⟨i,hi,h⟩
  ·by_cases hn:B.getD (l.getD n default).toNat default=[]
   ·exact .inr ⟨n,Nat.lt_succ_self n,hn,h⟩
   ·exact .inl fun i hi=>by
     rcases Nat.lt_or_ge i n with h1|h1
     ·exact h i h1
     ·rw[show i=n by omega];exact hn
  ·exact .inr ⟨i,by omega,h⟩
def BestP (n:Nat) (B:List (List Int)):Prop:=B.length=n∧∀b∈B,b=[]∨Oct b
def kp90:List (Nat×List Nat):=[(0,[0,1,2]),(1,[1,2,8]),(2,[1,2,8,9]),(3,[1,2,8,9,15]),(5,[1,2,8,9,26]),(6,[6,7]),(7,[1,2,8,9]),(4,[1,2,8,9]),(8,[6,7])]
attribute [go_sem] kp90 Tryz.results90 Tryz.ntmps90
theorem l26Build_ex (f:Int) (hf:0≤f∧f<8) (B:List (List Int)) (n:Nat) (hB:BestP n B) (l:List Int) (hl3:l.length≤3) (hl:∀i<l.length,0≤l.getD i default∧l.getD i default<n) (hn16:n≤16):∃(X:List Int) (b:Bool),(b=true→Oct X∧X≠[])∧X.length≤1000∧FC S 90 [(58,B.map IntsD)] [] [] [.int .i64 f,.ms 58 n,.sl .any (l.map (.int .i64))] (.tup [.sl .any (X.map (.int .i64)),.bool b]) [] []:=by
 obtain⟨rfl,hO⟩:=hB
 have hB60:∀x∈B,x.length≤60:=fun x hx=>by
  rcases hO x hx with rfl|h
  ·simp
  ·exact h.1
 have hbl:=bldT_len (f:=f) (B:=B) (l:=l) hB60
 have hbo:=bldT_oct (f:=f) (B:=B) (l:=l) hf fun b hb x hx=>by
  rcases hO b hb with rfl|h
  ·cases hx
  ·exact h.2 x hx
 have hb1:∀i,bldT f B l i≠[]:=fun i=>by unfold bldT;simp
 have hbs:=fun i (h:i<l.length)=>bldT_s (f:=f) (B:=B) h
 have hb0:bldT f B l 0=[f]:=by simp[bldT]
 have hx60:∀i<l.length,(B.getD (l.getD i default).toNat default).length≤60:=fun i hi=>hB60 _ (getD_mem B _ (by have:=hl i hi;omega))
 have hfst:=first_nil B l l.length
 generalize bldT f B l=BT at *
 rcases hfst with hall|⟨k,hk,hkn,hkj⟩
 ·refine⟨BT l.length,decide (((BT l.length).length:Int)≤60),fun h=>⟨⟨by have:=of_decide_eq_true h;omega,hbo _ (Nat.le_refl _)⟩,hb1 _⟩,by have:=hbl _ (Nat.le_refl _);omega,?_⟩
  have hpos:∀i<l.length,0<(B.getD (l.getD i default).toNat default).length:=fun i hi=>List.length_pos_iff.2 (hall i hi)
  have hfin:=hbl _ (Nat.le_refl _)
  refine fcb Tryz.func90 fun B=>?_
  repeat' first|exact h.elim|(exfalso;omega)|refine sw_n ?_|refine sw_go 0 kp90 fun K hK=>?_|refine fun (K:KT) (hK:KOk S 0 _ _ _ K)=>?_|refine runL_g ?_|refine sw_retg0 ?_|refine sw_retg ?_|(refine hK.n0 ?_;clear hK K)|refine sw_condg rfl (fun h=>?_) fun h=>?_|refine sw_exit rfl ?_|refine sw_loopEnd ?_|with_reducible refine and_o ?_|((with_reducible refine And.intro ?_ ?_);· first|(intro x hx;subst hx;rfl)|(intro x;refine And.intro ?_ ?_<;>(intros;subst_vars;rfl)))|apply tTT
  refine sw_loopT (ι:=Nat) (fun i=>[(9,.int .i64 i),(8,if i=0 then .sl .full ((BT i).map (.int .i64)) else .sl (.own 37000 2 1) ((BT i).map (.int .i64)))]) (fun _=>[]) (fun i=>if i=0 then [] else [37000]) (fun i=>i≤l.length) (fun i=>l.length-i) 0 (by(refine covers_mk0 rfl rfl ?_ ?_ ?_ ?_<;>simp (disch:=(refine Om.mk ?_;omega)) only[go_sem]<;>(try omega));all_goals first|(rw[hb0];exact⟨rfl,rfl⟩)|(rw[hb0];rfl)|trace_state) (Nat.zero_le _) (fun i hi=>?_)
  have hbli:=hbl i (by omega)
  have hp:=hpos i
  have hx:=hx60 i
  have hli:=hl i
  have hbsi:=hbs i
  cases i with
  | zero =>
   simp only[go_sem]
   by_cases hil:0<l.length
   ·have hp:=hp (by omega)
    have hx:=hx (by omega)
    have hli:=hli (by omega)
    have hbsi:=hbsi (by omega)
    repeat' first|exact h.elim|(exfalso;omega)|refine sw_n ?_|refine sw_go 0 kp90 fun K hK=>?_|refine fun (K:KT) (hK:KOk S 0 _ _ _ K)=>?_|refine runL_g ?_|refine sw_retg0 ?_|refine sw_retg ?_|(refine hK.n0 ?_;clear hK K)|refine sw_condg rfl (fun h=>?_) fun h=>?_|refine sw_exit rfl ?_|refine sw_loopEnd ?_|with_reducible refine and_o ?_|((with_reducible refine And.intro ?_ ?_);· first|(intro x hx;subst hx;rfl)|(intro x;refine And.intro ?_ ?_<;>(intros;subst_vars;rfl)))|apply tTT
    refine⟨.inr fun e=>?_,?_⟩
    ·rw[List.map_eq_nil_iff] at e
     rw[e] at hp;simp at hp
    ·repeat' first|exact h.elim|(exfalso;omega)|refine sw_n ?_|refine sw_go 0 kp90 fun K hK=>?_|refine fun (K:KT) (hK:KOk S 0 _ _ _ K)=>?_|refine runL_g ?_|refine sw_retg0 ?_|refine sw_retg ?_|(refine hK.n0 ?_;clear hK K)|refine sw_condg rfl (fun h=>?_) fun h=>?_|refine sw_exit rfl ?_|refine sw_loopEnd ?_|with_reducible refine and_o ?_|((with_reducible refine And.intro ?_ ?_);· first|(intro x hx;subst hx;rfl)|(intro x;refine And.intro ?_ ?_<;>(intros;subst_vars;rfl)))|apply tTT
     all_goals first|exact⟨0+1,(by rw[hbsi,List.map_append];(refine covers_mk0 rfl rfl ?_ ?_ ?_ ?_<;>simp (disch:=(refine Om.mk ?_;omega)) only[go_sem]<;>(try omega));all_goals first|exact⟨rfl,by omega⟩|exact⟨by omega,rfl⟩|rfl|trace_state),by omega,by omega⟩|trace_state
   ·obtain h0:l.length=0:=by omega
    rw[h0] at hfin ⊢
    repeat' first|exact h.elim|(exfalso;omega)|refine sw_n ?_|refine sw_go 0 kp90 fun K hK=>?_|refine fun (K:KT) (hK:KOk S 0 _ _ _ K)=>?_|refine runL_g ?_|refine sw_retg0 ?_|refine sw_retg ?_|(refine hK.n0 ?_;clear hK K)|refine sw_condg rfl (fun h=>?_) fun h=>?_|refine sw_exit rfl ?_|refine sw_loopEnd ?_|with_reducible refine and_o ?_|((with_reducible refine And.intro ?_ ?_);· first|(intro x hx;subst hx;rfl)|(intro x;refine And.intro ?_ ?_<;>(intros;subst_vars;rfl)))|apply tTT
    all_goals trace_state
  | succ i =>
   simp only[go_sem]
   by_cases hil:i+1<l.length
   ·have hp:=hp (by omega)
    have hx:=hx (by omega)
    have hli:=hli (by omega)
    have hbsi:=hbsi (by omega)
    repeat' first|exact h.elim|(exfalso;omega)|refine sw_n ?_|refine sw_go 0 kp90 fun K hK=>?_|refine fun (K:KT) (hK:KOk S 0 _ _ _ K)=>?_|refine runL_g ?_|refine sw_retg0 ?_|refine sw_retg ?_|(refine hK.n0 ?_;clear hK K)|refine sw_condg rfl (fun h=>?_) fun h=>?_|refine sw_exit rfl ?_|refine sw_loopEnd ?_|with_reducible refine and_o ?_|((with_reducible refine And.intro ?_ ?_);· first|(intro x hx;subst hx;rfl)|(intro x;refine And.intro ?_ ?_<;>(intros;subst_vars;rfl)))|apply tTT
    all_goals first|exact⟨i+1+1,(by rw[hbsi,List.map_append];(refine covers_mk0 rfl rfl ?_ ?_ ?_ ?_<;>simp (disch:=(refine Om.mk ?_;omega)) only[go_sem]<;>(try omega));all_goals first|exact⟨rfl,by omega⟩|exact⟨by omega,rfl⟩|rfl|trace_state),by omega,by omega⟩|trace_state
   ·obtain h0:l.length=i+1:=by omega
    rw[h0] at hfin ⊢
    repeat' first|exact h.elim|(exfalso;omega)|refine sw_n ?_|refine sw_go 0 kp90 fun K hK=>?_|refine fun (K:KT) (hK:KOk S 0 _ _ _ K)=>?_|refine runL_g ?_|refine sw_retg0 ?_|refine sw_retg ?_|(refine hK.n0 ?_;clear hK K)|refine sw_condg rfl (fun h=>?_) fun h=>?_|refine sw_exit rfl ?_|refine sw_loopEnd ?_|with_reducible refine and_o ?_|((with_reducible refine And.intro ?_ ?_);· first|(intro x hx;subst hx;rfl)|(intro x;refine And.intro ?_ ?_<;>(intros;subst_vars;rfl)))|apply tTT
    all_goals trace_state
 ·refine⟨BT k,false,(fun h=>by cases h),by have:=hbl k (by omega);omega,?_⟩
  have hpos:∀i<k,0<(B.getD (l.getD i default).toNat default).length:=fun i hi=>List.length_pos_iff.2 (hkj i hi)
  have hk0:(B.getD (l.getD k default).toNat default).length=0:=by rw[hkn];rfl
  have hlk:=hl k hk
  refine fcb Tryz.func90 fun B=>?_
  repeat' first|exact h.elim|(exfalso;omega)|refine sw_n ?_|refine sw_go 0 kp90 fun K hK=>?_|refine fun (K:KT) (hK:KOk S 0 _ _ _ K)=>?_|refine runL_g ?_|refine sw_retg0 ?_|refine sw_retg ?_|(refine hK.n0 ?_;clear hK K)|refine sw_condg rfl (fun h=>?_) fun h=>?_|refine sw_exit rfl ?_|refine sw_loopEnd ?_|with_reducible refine and_o ?_|((with_reducible refine And.intro ?_ ?_);· first|(intro x hx;subst hx;rfl)|(intro x;refine And.intro ?_ ?_<;>(intros;subst_vars;rfl)))|apply tTT
  refine sw_loopT (ι:=Nat) (fun i=>[(9,.int .i64 i),(8,if i=0 then .sl .full ((BT i).map (.int .i64)) else .sl (.own 37000 2 1) ((BT i).map (.int .i64)))]) (fun _=>[]) (fun i=>if i=0 then [] else [37000]) (fun i=>i≤k) (fun i=>k-i) 0 (by(refine covers_mk0 rfl rfl ?_ ?_ ?_ ?_<;>simp (disch:=(refine Om.mk ?_;omega)) only[go_sem]<;>(try omega));all_goals first|(rw[hb0];exact⟨rfl,rfl⟩)|(rw[hb0];rfl)|trace_state) (Nat.zero_le _) (fun i hi=>?_)
  have hbli:=hbl i (by omega)
  have hp:=hpos i
  have hx:=hx60 i
  have hli:=hl i
  have hbsi:=hbs i
  cases i with
  | zero =>
   simp only[go_sem]
   by_cases hil:0<k
   ·have hp:=hp (by omega)
    have hx:=hx (by omega)
    have hli:=hli (by omega)
    have hbsi:=hbsi (by omega)
    repeat' first|exact h.elim|(exfalso;omega)|refine sw_n ?_|refine sw_go 0 kp90 fun K hK=>?_|refine fun (K:KT) (hK:KOk S 0 _ _ _ K)=>?_|refine runL_g ?_|refine sw_retg0 ?_|refine sw_retg ?_|(refine hK.n0 ?_;clear hK K)|refine sw_condg rfl (fun h=>?_) fun h=>?_|refine sw_exit rfl ?_|refine sw_loopEnd ?_|with_reducible refine and_o ?_|((with_reducible refine And.intro ?_ ?_);· first|(intro x hx;subst hx;rfl)|(intro x;refine And.intro ?_ ?_<;>(intros;subst_vars;rfl)))|apply tTT
    refine⟨.inr fun e=>?_,?_⟩
    ·rw[List.map_eq_nil_iff] at e
     rw[e] at hp;simp at hp
    ·repeat' first|exact h.elim|(exfalso;omega)|refine sw_n ?_|refine sw_go 0 kp90 fun K hK=>?_|refine fun (K:KT) (hK:KOk S 0 _ _ _ K)=>?_|refine runL_g ?_|refine sw_retg0 ?_|refine sw_retg ?_|(refine hK.n0 ?_;clear hK K)|refine sw_condg rfl (fun h=>?_) fun h=>?_|refine sw_exit rfl ?_|refine sw_loopEnd ?_|with_reducible refine and_o ?_|((with_reducible refine And.intro ?_ ?_);· first|(intro x hx;subst hx;rfl)|(intro x;refine And.intro ?_ ?_<;>(intros;subst_vars;rfl)))|apply tTT
     all_goals first|exact⟨0+1,(by rw[hbsi,List.map_append];(refine covers_mk0 rfl rfl ?_ ?_ ?_ ?_<;>simp (disch:=(refine Om.mk ?_;omega)) only[go_sem]<;>(try omega));all_goals first|exact⟨rfl,by omega⟩|exact⟨by omega,rfl⟩|rfl|trace_state),by omega,by omega⟩|trace_state
   ·obtain h0:k=0:=by omega
    subst h0
    repeat' first|exact h.elim|(exfalso;omega)|refine sw_n ?_|refine sw_go 0 kp90 fun K hK=>?_|refine fun (K:KT) (hK:KOk S 0 _ _ _ K)=>?_|refine runL_g ?_|refine sw_retg0 ?_|refine sw_retg ?_|(refine hK.n0 ?_;clear hK K)|refine sw_condg rfl (fun h=>?_) fun h=>?_|refine sw_exit rfl ?_|refine sw_loopEnd ?_|with_reducible refine and_o ?_|((with_reducible refine And.intro ?_ ?_);· first|(intro x hx;subst hx;rfl)|(intro x;refine And.intro ?_ ?_<;>(intros;subst_vars;rfl)))|apply tTT
    all_goals trace_state
  | succ i =>
   simp only[go_sem]
   by_cases hil:i+1<k
   ·have hp:=hp (by omega)
    have hx:=hx (by omega)
    have hli:=hli (by omega)
    have hbsi:=hbsi (by omega)
    repeat' first|exact h.elim|(exfalso;omega)|refine sw_n ?_|refine sw_go 0 kp90 fun K hK=>?_|refine fun (K:KT) (hK:KOk S 0 _ _ _ K)=>?_|refine runL_g ?_|refine sw_retg0 ?_|refine sw_retg ?_|(refine hK.n0 ?_;clear hK K)|refine sw_condg rfl (fun h=>?_) fun h=>?_|refine sw_exit rfl ?_|refine sw_loopEnd ?_|with_reducible refine and_o ?_|((with_reducible refine And.intro ?_ ?_);· first|(intro x hx;subst hx;rfl)|(intro x;refine And.intro ?_ ?_<;>(intros;subst_vars;rfl)))|apply tTT
    all_goals first|exact⟨i+1+1,(by rw[hbsi,List.map_append];(refine covers_mk0 rfl rfl ?_ ?_ ?_ ?_<;>simp (disch:=(refine Om.mk ?_;omega)) only[go_sem]<;>(try omega));all_goals first|exact⟨rfl,by omega⟩|exact⟨by omega,rfl⟩|rfl|trace_state),by omega,by omega⟩|trace_state
   ·obtain h0:k=i+1:=by omega
    subst h0
    repeat' first|exact h.elim|(exfalso;omega)|refine sw_n ?_|refine sw_go 0 kp90 fun K hK=>?_|refine fun (K:KT) (hK:KOk S 0 _ _ _ K)=>?_|refine runL_g ?_|refine sw_retg0 ?_|refine sw_retg ?_|(refine hK.n0 ?_;clear hK K)|refine sw_condg rfl (fun h=>?_) fun h=>?_|refine sw_exit rfl ?_|refine sw_loopEnd ?_|with_reducible refine and_o ?_|((with_reducible refine And.intro ?_ ?_);· first|(intro x hx;subst hx;rfl)|(intro x;refine And.intro ?_ ?_<;>(intros;subst_vars;rfl)))|apply tTT
    all_goals trace_state
def kp46:List (Nat×List Nat):=[(0,[1]),(1,[1,6]),(2,[1,6,7]),(3,[1,6,7,8]),(4,[1,6,7,8,30]),(6,[1,6,7,8,37]),(7,[1,6,7,8]),(5,[1,6,7,8]),(8,[1,6,7,9,10]),(9,[1,6,7,9,52]),(10,[2,3,4,5]),(11,[1,6,7,9,11]),(12,[1,6,7,9,11,12]),(13,[1,6,7,9,11,59]),(14,[1,6,7,9,11,12]),(15,[1,6,7,9,11,12,13]),(16,[1,6,7,9,11,12,13,63]),(18,[1,6,7,9,11,12,13,68]),(19,[1,6,7,9,11,12,13,14]),(20,[1,6,7,9,11,12,13,14,15]),(21,[1,6,7,9,11,12,13,14,79]),(23,[1,6,7,9,11,12,13,14,16,17]),(24,[1,6,7,9,11,12,13,14,16,17,18]),(25,[1,6,7,9,11,12,13,14,16,18,130]),(26,[1,6,7,9,11,13,14]),(27,[1,6,7,9,11,12,13,14]),(22,[1,6,7,9,11,12,13,14,15]),(17,[1,6,7,9,11,12,13]),(28,[2,3,4,5])]
attribute [go_sem] kp46 Tryz.results46 Tryz.ntmps46
theorem l26Values_fc (f:FrontT) (h:FrontOkP f) (sets:List (List Int)) (ok:Bool) (hN:setV f=(sets,ok)):FC S 46 [] [] [] [FrontD f] (.tup [.sl .any ((shpV f).map IntsD),.sl .any (sets.map IntsD),if ok=true then D.un else .sl .any [],.bool ok]) [] []:=by
 obtain⟨hO,hn,hL⟩:=shpV_ok h
 have hrs:=h.1.1.1.2
 have cL:=l26Lefs_fc f h
 have hLl:=lefsL_len f
 have h8:=h.1.2.2
 have cS:=l24Shapes_fc f.sig (lefsL f) (by omega) (fun i hi=>by
  rw[hLl] at hi
  rw[lefsL_get f hi]
  exact(lefs_ok h hi).1)
 rw[show srtM (shpA f.sig (lefsL f) (lefsL f).length)=shpV f from rfl] at cS
 have hsy:=symsK_ok (rs:=f.sig) (us:=f.funs)
 have cT:=l24Sets_fc f.sig (shpV f) [] hO (symsK f.sig f.funs) hsy.1 (by omega)
 rw[show iterZ (imgH f.sig (shpV f) []) (evY f.sig (symsK f.sig f.funs)) 18 []=setV f from rfl,hN] at cT
 have h16:=iterZ_le (I:=imgH f.sig (shpV f) []) (E:=evY f.sig (symsK f.sig f.funs)) 18 [] (by simp)
 rw[show iterZ (imgH f.sig (shpV f) []) (evY f.sig (symsK f.sig f.funs)) 18 []=setV f from rfl,hN] at h16
 dsimp only at h16 cT
 have cT:=FC.args cT (args:=[.agg [.sl .any (f.sig.map (.int .i64))],.sl .any ((shpV f).map IntsD),.sl .full [],.sl (.own 42000 2 1) ((symsK f.sig f.funs).map natD)]) ⟨.refl _,.refl _,.any,.any,trivial⟩
 have hsT:symsT f.funs f.sig.length=symsK f.sig f.funs:=rfl
 have hs0:symsT f.funs 0=[]:=rfl
 have hsn:=fun n=>@symsT_n f.funs n
 have hsyy:=fun n=>@symsT_y f.funs n
 have hsl:=symsT_len f.funs
 generalize symsT f.funs=ST at *
 generalize hSH:shpV f=SH at *
 generalize lefsL f=LL at *
 refine fcb Tryz.func46 fun B=>?_
 repeat' first|exact h.elim|(exfalso;omega)|refine sw_n ?_|refine sw_go 0 kp46 fun K hK=>?_|refine sw_goT 0 kp46 9 (id:=19) (by kernel_rfl) fun K hK=>?_|refine fun (K:KT) (hK:KOk S 0 _ _ _ K)=>?_|refine sw_goD kp46 (by kernel_rfl) fun K hK=>?_|refine runL_g ?_|refine runQ_g ?_|refine sw_retg0 ?_|refine sw_retg ?_|(refine hK.n0 ?_;clear hK K)|refine runG_fk (fun h=>?_) fun h=>?_|refine runQG_fk (fun h=>?_) fun h=>?_|refine sw_condg rfl (fun h=>?_) fun h=>?_|refine hK.skp rfl rfl ?_|refine sw_exit rfl ?_|refine sw_loopEnd ?_|refine hK.c1 rfl rfl rfl (cL) ?_|refine hK.c1 rfl rfl rfl (cS) ?_|(refine hK.fork rfl rfl rfl ?_ ?_<;>intro h<;>try simp (disch:=(refine Om.mk ?_;omega)) only[go_sem] at h)|with_reducible refine and_o ?_|((with_reducible refine And.intro ?_ ?_);· first|(intro x hx;subst hx;rfl)|(intro x;refine And.intro ?_ ?_<;>(intros;subst_vars;rfl)))|apply tTT
 refine sw_tok 7 42000 2 1 rfl (.inr rfl) rfl ?_
 simp only[go_sem]
 refine sw_loopT (ι:=Nat) (fun i=>[(8,.int .i64 i),(7,.sl (.own 42000 2 1) ((ST i).map natD))]) (fun _=>[]) (fun _=>[42000]) (fun i=>i≤f.sig.length) (fun i=>f.sig.length-i) 0 (by(refine covers_mk0 rfl rfl ?_ ?_ ?_ ?_<;>simp (disch:=(refine Om.mk ?_;omega)) only[go_sem]<;>(try omega));all_goals first|(rw[hs0];exact⟨rfl,rfl⟩)|rfl|trace_state) (Nat.zero_le _) (fun i hi=>?_)
 simp only[go_sem]
 have hil1:=hsl i
 by_cases hil:i<f.sig.length
 ·have cH:=l1Has_fc .any f.funs (i:Int)
  by_cases hm:(i:Int)∈f.funs
  ·rw[tst_true hm] at cH
   repeat' first|exact h.elim|(exfalso;omega)|refine sw_n ?_|refine sw_go 0 kp46 fun K hK=>?_|refine sw_goT 0 kp46 9 (id:=19) (by kernel_rfl) fun K hK=>?_|refine fun (K:KT) (hK:KOk S 0 _ _ _ K)=>?_|refine sw_goD kp46 (by kernel_rfl) fun K hK=>?_|refine runL_g ?_|refine runQ_g ?_|refine sw_retg0 ?_|refine sw_retg ?_|(refine hK.n0 ?_;clear hK K)|refine runG_fk (fun h=>?_) fun h=>?_|refine runQG_fk (fun h=>?_) fun h=>?_|refine sw_condg rfl (fun h=>?_) fun h=>?_|refine hK.skp rfl rfl ?_|refine sw_exit rfl ?_|refine sw_loopEnd ?_|refine hK.c1 rfl rfl rfl (cH) ?_|(refine hK.fork rfl rfl rfl ?_ ?_<;>intro h<;>try simp (disch:=(refine Om.mk ?_;omega)) only[go_sem] at h)|with_reducible refine and_o ?_|((with_reducible refine And.intro ?_ ?_);· first|(intro x hx;subst hx;rfl)|(intro x;refine And.intro ?_ ?_<;>(intros;subst_vars;rfl)))|apply tTT
   all_goals exact⟨i+1,(by rw[hsn i hm];(refine covers_mk0 rfl rfl ?_ ?_ ?_ ?_<;>simp (disch:=(refine Om.mk ?_;omega)) only[go_sem]<;>(try omega));all_goals first|exact⟨rfl,by omega⟩|exact⟨by omega,rfl⟩|rfl|trace_state),by omega,by omega⟩
  ·rw[tst_false hm] at cH
   repeat' first|exact h.elim|(exfalso;omega)|refine sw_n ?_|refine sw_go 0 kp46 fun K hK=>?_|refine sw_goT 0 kp46 9 (id:=19) (by kernel_rfl) fun K hK=>?_|refine fun (K:KT) (hK:KOk S 0 _ _ _ K)=>?_|refine sw_goD kp46 (by kernel_rfl) fun K hK=>?_|refine runL_g ?_|refine runQ_g ?_|refine sw_retg0 ?_|refine sw_retg ?_|(refine hK.n0 ?_;clear hK K)|refine runG_fk (fun h=>?_) fun h=>?_|refine runQG_fk (fun h=>?_) fun h=>?_|refine sw_condg rfl (fun h=>?_) fun h=>?_|refine hK.skp rfl rfl ?_|refine sw_exit rfl ?_|refine sw_loopEnd ?_|refine hK.c1 rfl rfl rfl (cH) ?_|(refine hK.fork rfl rfl rfl ?_ ?_<;>intro h<;>try simp (disch:=(refine Om.mk ?_;omega)) only[go_sem] at h)|with_reducible refine and_o ?_|((with_reducible refine And.intro ?_ ?_);· first|(intro x hx;subst hx;rfl)|(intro x;refine And.intro ?_ ?_<;>(intros;subst_vars;rfl)))|apply tTT
   all_goals exact⟨i+1,(by rw[hsyy i hm,List.map_append];(refine covers_mk0 rfl rfl ?_ ?_ ?_ ?_<;>simp (disch:=(refine Om.mk ?_;omega)) only[go_sem]<;>(try omega));all_goals first|exact⟨rfl,by omega⟩|exact⟨by omega,rfl⟩|rfl|trace_state),by omega,by omega⟩
 ·obtain rfl:i=f.sig.length:=by omega
  rw[hsT]
  cases ok with
  | false =>
   simp only[Bool.false_eq_true,if_false]
   repeat' first|exact h.elim|(exfalso;omega)|refine sw_n ?_|refine sw_go 0 kp46 fun K hK=>?_|refine sw_goT 0 kp46 9 (id:=19) (by kernel_rfl) fun K hK=>?_|refine fun (K:KT) (hK:KOk S 0 _ _ _ K)=>?_|refine sw_goD kp46 (by kernel_rfl) fun K hK=>?_|refine runL_g ?_|refine runQ_g ?_|refine sw_retg0 ?_|refine sw_retg ?_|(refine hK.n0 ?_;clear hK K)|refine runG_fk (fun h=>?_) fun h=>?_|refine runQG_fk (fun h=>?_) fun h=>?_|refine sw_condg rfl (fun h=>?_) fun h=>?_|refine hK.skp rfl rfl ?_|refine sw_exit rfl ?_|refine sw_loopEnd ?_|refine hK.c1 rfl rfl rfl (cT) ?_|(refine hK.fork rfl rfl rfl ?_ ?_<;>intro h<;>try simp (disch:=(refine Om.mk ?_;omega)) only[go_sem] at h)|with_reducible refine and_o ?_|((with_reducible refine And.intro ?_ ?_);· first|(intro x hx;subst hx;rfl)|(intro x;refine And.intro ?_ ?_<;>(intros;subst_vars;rfl)))|apply tTT
   all_goals trace_state
  | true =>
   simp only[if_true]
   have hBz:BestP sets.length (List.replicate sets.length []):=⟨by simp,fun b hb=>.inl (List.mem_replicate.1 hb).2⟩
   generalize hB0:(List.replicate sets.length []:List (List Int))=B0 at hBz
   have hSY:=hsy.1
   generalize symsK f.sig f.funs=SY at *
   repeat' first|exact h.elim|(exfalso;omega)|refine sw_n ?_|refine sw_go 0 kp46 fun K hK=>?_|refine sw_goT 0 kp46 9 (id:=19) (by kernel_rfl) fun K hK=>?_|refine fun (K:KT) (hK:KOk S 0 _ _ _ K)=>?_|refine sw_goD kp46 (by kernel_rfl) fun K hK=>?_|refine runL_g ?_|refine runQ_g ?_|refine sw_retg0 ?_|refine sw_retg ?_|(refine hK.n0 ?_;clear hK K)|refine runG_fk (fun h=>?_) fun h=>?_|refine runQG_fk (fun h=>?_) fun h=>?_|refine sw_condg rfl (fun h=>?_) fun h=>?_|refine hK.skp rfl rfl ?_|refine sw_exit rfl ?_|refine sw_loopEnd ?_|refine hK.c1 rfl rfl rfl (cT) ?_|(refine hK.fork rfl rfl rfl ?_ ?_<;>intro h<;>try simp (disch:=(refine Om.mk ?_;omega)) only[go_sem] at h)|with_reducible refine and_o ?_|((with_reducible refine And.intro ?_ ?_);· first|(intro x hx;subst hx;rfl)|(intro x;refine And.intro ?_ ?_<;>(intros;subst_vars;rfl)))|apply tTT
   refine sw_boxLe 58 (B0.map IntsD) rfl (by rw[←hB0,flatten_one];simp) (fun j c d h1 h2=>?_) ?_
   ·rw[flatten_one,List.getElem?_replicate] at h1
    rw[←hB0,List.map_replicate,List.getElem?_replicate] at h2
    split at h1
    ·rename_i hj
     rw[if_pos hj] at h2
     cases h1;cases h2
     exact .any
    ·cases h1
   simp only[go_sem]
   refine sw_loopT (ι:=List (List Int)×Bool) (fun x=>[(12,.bool x.2)]) (fun x=>[(58,x.1.map IntsD)]) (fun _=>[42000]) (fun x=>BestP sets.length x.1) (fun x=>2*sum8 x.1+(if x.2=true then 1 else 0)) (B0,true) cvB hBz (fun x hx=>?_)
   obtain⟨B,mr⟩:=x
   dsimp only at hx
   simp only[go_sem]
   cases mr with
   | false =>
    refine sw_unAt 11 rfl ?_
    simp only[go_sem]
    repeat' first|exact h.elim|(exfalso;omega)|refine sw_n ?_|refine sw_go 0 kp46 fun K hK=>?_|refine sw_goT 0 kp46 9 (id:=19) (by kernel_rfl) fun K hK=>?_|refine fun (K:KT) (hK:KOk S 0 _ _ _ K)=>?_|refine sw_goD kp46 (by kernel_rfl) fun K hK=>?_|refine runL_g ?_|refine runQ_g ?_|refine sw_retg0 ?_|refine sw_retg ?_|(refine hK.n0 ?_;clear hK K)|refine runG_fk (fun h=>?_) fun h=>?_|refine runQG_fk (fun h=>?_) fun h=>?_|refine sw_condg rfl (fun h=>?_) fun h=>?_|refine hK.skp rfl rfl ?_|refine sw_exit rfl ?_|refine sw_loopEnd ?_|(refine hK.fork rfl rfl rfl ?_ ?_<;>intro h<;>try simp (disch:=(refine Om.mk ?_;omega)) only[go_sem] at h)|with_reducible refine and_o ?_|((with_reducible refine And.intro ?_ ?_);· first|(intro x hx;subst hx;rfl)|(intro x;refine And.intro ?_ ?_<;>(intros;subst_vars;rfl)))|apply tTT
    all_goals first|exact le0_un|exact⟨rfl,rfl,le0_un,rfl⟩|trace_state
   | true =>
    repeat' first|exact h.elim|(exfalso;omega)|refine sw_n ?_|refine sw_go 0 kp46 fun K hK=>?_|refine sw_goT 0 kp46 9 (id:=19) (by kernel_rfl) fun K hK=>?_|refine fun (K:KT) (hK:KOk S 0 _ _ _ K)=>?_|refine sw_goD kp46 (by kernel_rfl) fun K hK=>?_|refine runL_g ?_|refine runQ_g ?_|refine sw_retg0 ?_|refine sw_retg ?_|(refine hK.n0 ?_;clear hK K)|refine runG_fk (fun h=>?_) fun h=>?_|refine runQG_fk (fun h=>?_) fun h=>?_|refine sw_condg rfl (fun h=>?_) fun h=>?_|refine hK.skp rfl rfl ?_|refine sw_exit rfl ?_|refine sw_loopEnd ?_|(refine hK.fork rfl rfl rfl ?_ ?_<;>intro h<;>try simp (disch:=(refine Om.mk ?_;omega)) only[go_sem] at h)|with_reducible refine and_o ?_|((with_reducible refine And.intro ?_ ?_);· first|(intro x hx;subst hx;rfl)|(intro x;refine And.intro ?_ ?_<;>(intros;subst_vars;rfl)))|apply tTT
    refine sw_loopT (ι:=Nat×List (List Int)×Bool) (fun x=>[(13,.int .i64 x.1),(12,.bool x.2.2)]) (fun x=>[(58,x.2.1.map IntsD)]) (fun _=>[42000]) (fun x=>(x.1≤SY.length∧BestP sets.length x.2.1)∧(x.2.2=true→sum8 x.2.1<sum8 B)∧(x.2.2=false→x.2.1=B)) (fun x=>SY.length-x.1) (0,B,false) (by(refine covers_mk0 rfl rfl ?_ ?_ ?_ ?_<;>simp (disch:=(refine Om.mk ?_;omega)) only[go_sem]<;>(try omega));all_goals first|rfl|exact⟨rfl,rfl⟩|exact⟨rfl,rfl,rfl⟩|trace_state) ⟨⟨Nat.zero_le _,hx⟩,(fun h=>by cases h),fun _=>rfl⟩ (fun x hx2=>?_)
    obtain⟨i,C,m1⟩:=x
    obtain⟨⟨hi,hC⟩,hy,hn2⟩:=hx2
    dsimp only at hi hC hy hn2
    simp only[go_sem]
    by_cases hil:i<SY.length
    ·by_cases hs0:sets.length=0
     ·repeat' first|exact h.elim|(exfalso;omega)|refine sw_n ?_|refine sw_go 0 kp46 fun K hK=>?_|refine sw_goT 0 kp46 9 (id:=19) (by kernel_rfl) fun K hK=>?_|refine fun (K:KT) (hK:KOk S 0 _ _ _ K)=>?_|refine sw_goD kp46 (by kernel_rfl) fun K hK=>?_|refine runL_g ?_|refine runQ_g ?_|refine sw_retg0 ?_|refine sw_retg ?_|(refine hK.n0 ?_;clear hK K)|refine runG_fk (fun h=>?_) fun h=>?_|refine runQG_fk (fun h=>?_) fun h=>?_|refine sw_condg rfl (fun h=>?_) fun h=>?_|refine hK.skp rfl rfl ?_|refine sw_exit rfl ?_|refine sw_loopEnd ?_|(refine hK.fork rfl rfl rfl ?_ ?_<;>intro h<;>try simp (disch:=(refine Om.mk ?_;omega)) only[go_sem] at h)|with_reducible refine and_o ?_|((with_reducible refine And.intro ?_ ?_);· first|(intro x hx;subst hx;rfl)|(intro x;refine And.intro ?_ ?_<;>(intros;subst_vars;rfl)))|apply tTT
      all_goals exact⟨(i+1,C,m1),(by(refine covers_mk0 rfl rfl ?_ ?_ ?_ ?_<;>simp (disch:=(refine Om.mk ?_;omega)) only[go_sem]<;>(try omega));all_goals first|rfl|exact⟨rfl,rfl⟩|exact⟨rfl,rfl,rfl⟩|trace_state),⟨⟨hil,hC⟩,hy,hn2⟩,by dsimp only;omega⟩
     ·have hfs:=hSY _ (getD_mem SY i hil)
      obtain⟨har,hr0,hr3⟩:=ar_at hO.sg hfs
      obtain⟨n,hn⟩:∃n:Nat,f.sig.getD (SY.getD i default) default=n:=⟨(f.sig.getD (SY.getD i default) default).toNat,by omega⟩
      have hnt:(f.sig.getD (SY.getD i default) default).toNat=n:=by omega
      rw[hnt] at har
      obtain⟨hseq,A0,hA0⟩:=digs_ok (n:=sets.length) (k:=n) (.inl (by omega))
      have hdig:=digs_dig (n:=sets.length) (k:=n) (.inl (by omega))
      rw[hA0] at hseq hdig
      repeat' first|exact h.elim|(exfalso;omega)|refine sw_n ?_|refine sw_go 0 kp46 fun K hK=>?_|refine sw_goT 0 kp46 9 (id:=19) (by kernel_rfl) fun K hK=>?_|refine fun (K:KT) (hK:KOk S 0 _ _ _ K)=>?_|refine sw_goD kp46 (by kernel_rfl) fun K hK=>?_|refine runL_g ?_|refine runQ_g ?_|refine sw_retg0 ?_|refine sw_retg ?_|(refine hK.n0 ?_;clear hK K)|refine runG_fk (fun h=>?_) fun h=>?_|refine runQG_fk (fun h=>?_) fun h=>?_|refine sw_condg rfl (fun h=>?_) fun h=>?_|refine hK.skp rfl rfl ?_|refine sw_exit rfl ?_|refine sw_loopEnd ?_|(refine hK.fork rfl rfl rfl ?_ ?_<;>intro h<;>try simp (disch:=(refine Om.mk ?_;omega)) only[go_sem] at h)|with_reducible refine and_o ?_|((with_reducible refine And.intro ?_ ?_);· first|(intro x hx;subst hx;rfl)|(intro x;refine And.intro ?_ ?_<;>(intros;subst_vars;rfl)))|apply tTT
      rw[hnt]
      refine sw_freeze 14 1 .any ((List.replicate n (0:Int)).map (.int .i64)) rfl rfl (by rw[flatten_one,flat_ints,List.map_replicate]) (by simp) (cells_one fun _=>rfl) (by rw[flatten_one,←List.map_replicate (f:=D.int .i64)];exact memOk_ints _) (.inl rfl) ?_
      simp only[go_sem]
      refine sw_loopT (ι:=(List Int×Bool)×List (List Int)×List (List Int)×Bool) (fun p=>[(14,.sl .any (p.1.1.map (.int .i64))),(15,.bool p.1.2),(12,.bool p.2.2.2)]) (fun p=>[(58,p.2.2.1.map IntsD)]) (fun _=>[42000]) (fun p=>((p.1.1.length=n∧∀x∈p.1.1,0≤x∧x<sets.length)∧BestP sets.length p.2.2.1)∧(p.1.2=true→SeqD (List.replicate n (0,(sets.length:Int)-1)) (p.1.1::p.2.1)∧∀l∈p.2.1,l.length=n∧∀x∈l,0≤x∧x<sets.length)∧(p.2.2.2=true→sum8 p.2.2.1<sum8 B)∧(p.2.2.2=false→p.2.2.1=B)) (fun p=>if p.1.2=true then p.2.1.length+1 else 0) ((List.replicate n 0,true),A0,C,m1) (by(refine covers_mk0 rfl rfl ?_ ?_ ?_ ?_<;>simp (disch:=(refine Om.mk ?_;omega)) only[go_sem]<;>(try omega));all_goals first|rfl|exact⟨rfl,rfl⟩|exact⟨rfl,rfl,rfl⟩|trace_state) ⟨⟨hdig _ List.mem_cons_self,hC⟩,(fun _=>⟨hseq,fun l hl=>hdig l (List.mem_cons_of_mem _ hl)⟩),hy,hn2⟩ (fun p hp=>?_)
      obtain⟨⟨l,mr⟩,A,D0,m2⟩:=p
      obtain⟨⟨⟨hl1,hl2⟩,hD⟩,hm1,hy2,hn3⟩:=hp
      dsimp only at hl1 hl2 hD hm1 hy2 hn3
      simp only[go_sem]
      have hbx:∀x∈l,0≤x∧x≤1000:=fun x hx=>by have:=hl2 x hx;omega
      have hget:∀j<l.length,0≤l.getD j default∧l.getD j default<sets.length:=fun j hj=>hl2 _ (getD_mem l j hj)
      cases mr with
      | false =>
       repeat' first|exact h.elim|(exfalso;omega)|refine sw_n ?_|refine sw_go 0 kp46 fun K hK=>?_|refine sw_goT 0 kp46 9 (id:=19) (by kernel_rfl) fun K hK=>?_|refine fun (K:KT) (hK:KOk S 0 _ _ _ K)=>?_|refine sw_goD kp46 (by kernel_rfl) fun K hK=>?_|refine runL_g ?_|refine runQ_g ?_|refine sw_retg0 ?_|refine sw_retg ?_|(refine hK.n0 ?_;clear hK K)|refine runG_fk (fun h=>?_) fun h=>?_|refine runQG_fk (fun h=>?_) fun h=>?_|refine sw_condg rfl (fun h=>?_) fun h=>?_|refine hK.skp rfl rfl ?_|refine sw_exit rfl ?_|refine sw_loopEnd ?_|(refine hK.fork rfl rfl rfl ?_ ?_<;>intro h<;>try simp (disch:=(refine Om.mk ?_;omega)) only[go_sem] at h)|with_reducible refine and_o ?_|((with_reducible refine And.intro ?_ ?_);· first|(intro x hx;subst hx;rfl)|(intro x;refine And.intro ?_ ?_<;>(intros;subst_vars;rfl)))|apply tTT
       all_goals first|exact⟨(i+1,D0,m2),(by(refine covers_mk0 rfl rfl ?_ ?_ ?_ ?_<;>simp (disch:=(refine Om.mk ?_;omega)) only[go_sem]<;>(try omega));all_goals first|rfl|exact⟨rfl,rfl⟩|exact⟨rfl,rfl,rfl⟩),⟨⟨by dsimp only;omega,hD⟩,hy2,hn3⟩,by dsimp only;omega⟩|trace_state
      | true =>
       obtain⟨hs,hA1⟩:=hm1 rfl
       have hlen:=lst_len sets l
       have cLi:=l23Listed_fc .any .any sets l (by omega) hget
       have cN:=nextList_fc .any l (sets.length:Int) (by omega) hbx
       have hnx:=loop_next hl1 hl2 hs
       have cC:=l24Comes_fc f.sig SH [] hO (SY.getD i default) (lstS sets l) (by rw[hlen,hl1,har])
       obtain⟨X,b,hX,hXl,cB⟩:=l26Build_ex ((SY.getD i default:Nat):Int) ⟨by omega,by omega⟩ D0 sets.length hD l (by omega) hget h16
       generalize hST:fitsL (SH.map (formR f.sig SH)) (SY.getD i default) (lstS sets l) SH.length=s at *
       have cP:=termPlace_fc .any .any sets s
       have hpg:=placeI_ge s sets
       have hpl:0≤placeI s sets→placeI s sets<sets.length:=fun h0=>by
        have hm:=hpg.2.1 h0
        rw[place_idx hm]
        have:=List.idxOf_lt_length_iff.2 hm
        omega
       generalize placeI s sets=to at *
       cases b with
       | false =>
        repeat' first|exact h.elim|(exfalso;omega)|refine sw_n ?_|refine sw_go 0 kp46 fun K hK=>?_|refine sw_goT 0 kp46 9 (id:=19) (by kernel_rfl) fun K hK=>?_|refine fun (K:KT) (hK:KOk S 0 _ _ _ K)=>?_|refine sw_goD kp46 (by kernel_rfl) fun K hK=>?_|refine runL_g ?_|refine runQ_g ?_|refine sw_retg0 ?_|refine sw_retg ?_|(refine hK.n0 ?_;clear hK K)|refine runG_fk (fun h=>?_) fun h=>?_|refine runQG_fk (fun h=>?_) fun h=>?_|refine sw_condg rfl (fun h=>?_) fun h=>?_|refine hK.skp rfl rfl ?_|refine sw_exit rfl ?_|refine sw_loopEnd ?_|refine hK.cR rfl rfl rfl (cB) ?_|refine hK.c1 rfl rfl rfl (cLi) ?_|refine hK.c1 rfl rfl rfl (cC) ?_|refine hK.c1 rfl rfl rfl (cP) ?_|refine hK.c1 rfl rfl rfl (cN) ?_|(refine hK.fork rfl rfl rfl ?_ ?_<;>intro h<;>try simp (disch:=(refine Om.mk ?_;omega)) only[go_sem] at h)|with_reducible refine and_o ?_|((with_reducible refine And.intro ?_ ?_);· first|(intro x hx;subst hx;rfl)|(intro x;refine And.intro ?_ ?_<;>(intros;subst_vars;rfl)))|apply tTT
        all_goals first|exact⟨((((nextL (sets.length:Int) l).1,(nextL (sets.length:Int) l).2)),A.tail,D0,m2),(by(refine covers_mk0 rfl rfl ?_ ?_ ?_ ?_<;>simp (disch:=(refine Om.mk ?_;omega)) only[go_sem]<;>(try omega));all_goals first|rfl|exact⟨rfl,rfl⟩|exact⟨rfl,rfl,rfl⟩),⟨⟨hnx.1,hD⟩,fun h=>⟨(hnx.2.1 h).1,fun m hm=>hA1 m (List.mem_of_mem_tail hm)⟩,hy2,hn3⟩,nx_meas hnx⟩|trace_state
       | true =>
        obtain⟨hXo,hX0⟩:=hX rfl
        by_cases ht0:0≤to
        ·have htl:=hpl ht0
         obtain⟨k,rfl⟩:∃k:Nat,to=k:=⟨to.toNat,by omega⟩
         have hkl:k<D0.length:=by have:=hD.1;omega
         have cW:=lessTerm_fc .any .any X (D0.getD k default)
         have hDk:=hD.2 _ (getD_mem D0 k hkl)
         have hset:BestP sets.length (D0.set k X):=⟨by rw[List.length_set];exact hD.1,fun b hb=>by
          rcases List.mem_or_eq_of_mem_set hb with hb|rfl
          ·exact hD.2 b hb
          ·exact .inr hXo⟩
         have hup:(D0.getD k default=[]∨lessT X (D0.getD k default)=true)→sum8 (D0.set k X)<sum8 B:=fun h=>by
          have h1:sum8 (D0.set k X)<sum8 D0:=sum8_set D0 k X hkl (rank8_lt hXo hX0 (by
           rcases h with h|h
           ·exact .inl h
           ·rcases hDk with e|e
            ·exact .inl e
            ·exact .inr ⟨e,h⟩))
          cases m2 with
          | true=>have:=hy2 rfl;omega
          | false=>rw[←hn3 rfl];exact h1
         by_cases hz:D0.getD k default=[]
         ·have hz0:(D0.getD k default).length=0:=by rw[hz];rfl
          have hup:=hup (.inl hz)
          repeat' first|exact h.elim|(exfalso;omega)|refine sw_n ?_|refine sw_go 0 kp46 fun K hK=>?_|refine sw_goT 0 kp46 9 (id:=19) (by kernel_rfl) fun K hK=>?_|refine fun (K:KT) (hK:KOk S 0 _ _ _ K)=>?_|refine sw_goD kp46 (by kernel_rfl) fun K hK=>?_|refine runL_g ?_|refine runQ_g ?_|refine sw_retg0 ?_|refine sw_retg ?_|(refine hK.n0 ?_;clear hK K)|refine runG_fk (fun h=>?_) fun h=>?_|refine runQG_fk (fun h=>?_) fun h=>?_|refine sw_condg rfl (fun h=>?_) fun h=>?_|refine hK.skp rfl rfl ?_|refine sw_exit rfl ?_|refine sw_loopEnd ?_|refine hK.cR rfl rfl rfl (cB) ?_|refine hK.c1 rfl rfl rfl (cLi) ?_|refine hK.c1 rfl rfl rfl (cC) ?_|refine hK.c1 rfl rfl rfl (cP) ?_|refine hK.c1 rfl rfl rfl (cN) ?_|refine hK.c1 rfl rfl rfl (cW) ?_|(refine hK.fork rfl rfl rfl ?_ ?_<;>intro h<;>try simp (disch:=(refine Om.mk ?_;omega)) only[go_sem] at h)|with_reducible refine and_o ?_|((with_reducible refine And.intro ?_ ?_);· first|(intro x hx;subst hx;rfl)|(intro x;refine And.intro ?_ ?_<;>(intros;subst_vars;rfl)))|apply tTT
          all_goals first|exact⟨((((nextL (sets.length:Int) l).1,(nextL (sets.length:Int) l).2)),A.tail,D0.set k X,true),(by(refine covers_mk0 rfl rfl ?_ ?_ ?_ ?_<;>simp (disch:=(refine Om.mk ?_;omega)) only[go_sem]<;>(try omega));all_goals first|rfl|(rw[List.map_set];first|rfl|exact⟨rfl,rfl⟩)|exact⟨rfl,rfl⟩|exact⟨rfl,rfl,rfl⟩|trace_state),⟨⟨hnx.1,hset⟩,(fun h=>⟨(hnx.2.1 h).1,fun m hm=>hA1 m (List.mem_of_mem_tail hm)⟩),(fun _=>hup),(fun h=>by cases h)⟩,nx_meas hnx⟩|trace_state
         ·have hz0:=List.length_pos_iff.2 hz
          cases hw:lessT X (D0.getD k default) with
          | true =>
           have hup:=hup (.inr hw)
           rw[hw] at cW
           repeat' first|exact h.elim|(exfalso;omega)|refine sw_n ?_|refine sw_go 0 kp46 fun K hK=>?_|refine sw_goT 0 kp46 9 (id:=19) (by kernel_rfl) fun K hK=>?_|refine fun (K:KT) (hK:KOk S 0 _ _ _ K)=>?_|refine sw_goD kp46 (by kernel_rfl) fun K hK=>?_|refine runL_g ?_|refine runQ_g ?_|refine sw_retg0 ?_|refine sw_retg ?_|(refine hK.n0 ?_;clear hK K)|refine runG_fk (fun h=>?_) fun h=>?_|refine runQG_fk (fun h=>?_) fun h=>?_|refine sw_condg rfl (fun h=>?_) fun h=>?_|refine hK.skp rfl rfl ?_|refine sw_exit rfl ?_|refine sw_loopEnd ?_|refine hK.cR rfl rfl rfl (cB) ?_|refine hK.c1 rfl rfl rfl (cLi) ?_|refine hK.c1 rfl rfl rfl (cC) ?_|refine hK.c1 rfl rfl rfl (cP) ?_|refine hK.c1 rfl rfl rfl (cN) ?_|refine hK.c1 rfl rfl rfl (cW) ?_|(refine hK.fork rfl rfl rfl ?_ ?_<;>intro h<;>try simp (disch:=(refine Om.mk ?_;omega)) only[go_sem] at h)|with_reducible refine and_o ?_|((with_reducible refine And.intro ?_ ?_);· first|(intro x hx;subst hx;rfl)|(intro x;refine And.intro ?_ ?_<;>(intros;subst_vars;rfl)))|apply tTT
           all_goals first|exact⟨((((nextL (sets.length:Int) l).1,(nextL (sets.length:Int) l).2)),A.tail,D0.set k X,true),(by(refine covers_mk0 rfl rfl ?_ ?_ ?_ ?_<;>simp (disch:=(refine Om.mk ?_;omega)) only[go_sem]<;>(try omega));all_goals first|rfl|(rw[List.map_set];first|rfl|exact⟨rfl,rfl⟩)|exact⟨rfl,rfl⟩|exact⟨rfl,rfl,rfl⟩|trace_state),⟨⟨hnx.1,hset⟩,(fun h=>⟨(hnx.2.1 h).1,fun m hm=>hA1 m (List.mem_of_mem_tail hm)⟩),(fun _=>hup),(fun h=>by cases h)⟩,nx_meas hnx⟩|trace_state
          | false =>
           rw[hw] at cW
           repeat' first|exact h.elim|(exfalso;omega)|refine sw_n ?_|refine sw_go 0 kp46 fun K hK=>?_|refine sw_goT 0 kp46 9 (id:=19) (by kernel_rfl) fun K hK=>?_|refine fun (K:KT) (hK:KOk S 0 _ _ _ K)=>?_|refine sw_goD kp46 (by kernel_rfl) fun K hK=>?_|refine runL_g ?_|refine runQ_g ?_|refine sw_retg0 ?_|refine sw_retg ?_|(refine hK.n0 ?_;clear hK K)|refine runG_fk (fun h=>?_) fun h=>?_|refine runQG_fk (fun h=>?_) fun h=>?_|refine sw_condg rfl (fun h=>?_) fun h=>?_|refine hK.skp rfl rfl ?_|refine sw_exit rfl ?_|refine sw_loopEnd ?_|refine hK.cR rfl rfl rfl (cB) ?_|refine hK.c1 rfl rfl rfl (cLi) ?_|refine hK.c1 rfl rfl rfl (cC) ?_|refine hK.c1 rfl rfl rfl (cP) ?_|refine hK.c1 rfl rfl rfl (cN) ?_|refine hK.c1 rfl rfl rfl (cW) ?_|(refine hK.fork rfl rfl rfl ?_ ?_<;>intro h<;>try simp (disch:=(refine Om.mk ?_;omega)) only[go_sem] at h)|with_reducible refine and_o ?_|((with_reducible refine And.intro ?_ ?_);· first|(intro x hx;subst hx;rfl)|(intro x;refine And.intro ?_ ?_<;>(intros;subst_vars;rfl)))|apply tTT
           all_goals first|exact⟨((((nextL (sets.length:Int) l).1,(nextL (sets.length:Int) l).2)),A.tail,D0,m2),(by(refine covers_mk0 rfl rfl ?_ ?_ ?_ ?_<;>simp (disch:=(refine Om.mk ?_;omega)) only[go_sem]<;>(try omega));all_goals first|rfl|exact⟨rfl,rfl⟩|exact⟨rfl,rfl,rfl⟩),⟨⟨hnx.1,hD⟩,fun h=>⟨(hnx.2.1 h).1,fun m hm=>hA1 m (List.mem_of_mem_tail hm)⟩,hy2,hn3⟩,nx_meas hnx⟩|trace_state
        ·repeat' first|exact h.elim|(exfalso;omega)|refine sw_n ?_|refine sw_go 0 kp46 fun K hK=>?_|refine sw_goT 0 kp46 9 (id:=19) (by kernel_rfl) fun K hK=>?_|refine fun (K:KT) (hK:KOk S 0 _ _ _ K)=>?_|refine sw_goD kp46 (by kernel_rfl) fun K hK=>?_|refine runL_g ?_|refine runQ_g ?_|refine sw_retg0 ?_|refine sw_retg ?_|(refine hK.n0 ?_;clear hK K)|refine runG_fk (fun h=>?_) fun h=>?_|refine runQG_fk (fun h=>?_) fun h=>?_|refine sw_condg rfl (fun h=>?_) fun h=>?_|refine hK.skp rfl rfl ?_|refine sw_exit rfl ?_|refine sw_loopEnd ?_|refine hK.cR rfl rfl rfl (cB) ?_|refine hK.c1 rfl rfl rfl (cLi) ?_|refine hK.c1 rfl rfl rfl (cC) ?_|refine hK.c1 rfl rfl rfl (cP) ?_|refine hK.c1 rfl rfl rfl (cN) ?_|(refine hK.fork rfl rfl rfl ?_ ?_<;>intro h<;>try simp (disch:=(refine Om.mk ?_;omega)) only[go_sem] at h)|with_reducible refine and_o ?_|((with_reducible refine And.intro ?_ ?_);· first|(intro x hx;subst hx;rfl)|(intro x;refine And.intro ?_ ?_<;>(intros;subst_vars;rfl)))|apply tTT
         all_goals first|exact⟨((((nextL (sets.length:Int) l).1,(nextL (sets.length:Int) l).2)),A.tail,D0,m2),(by(refine covers_mk0 rfl rfl ?_ ?_ ?_ ?_<;>simp (disch:=(refine Om.mk ?_;omega)) only[go_sem]<;>(try omega));all_goals first|rfl|exact⟨rfl,rfl⟩|exact⟨rfl,rfl,rfl⟩),⟨⟨hnx.1,hD⟩,fun h=>⟨(hnx.2.1 h).1,fun m hm=>hA1 m (List.mem_of_mem_tail hm)⟩,hy2,hn3⟩,nx_meas hnx⟩|trace_state
    ·obtain rfl:i=SY.length:=by omega
     repeat' first|exact h.elim|(exfalso;omega)|refine sw_n ?_|refine sw_go 0 kp46 fun K hK=>?_|refine sw_goT 0 kp46 9 (id:=19) (by kernel_rfl) fun K hK=>?_|refine fun (K:KT) (hK:KOk S 0 _ _ _ K)=>?_|refine sw_goD kp46 (by kernel_rfl) fun K hK=>?_|refine runL_g ?_|refine runQ_g ?_|refine sw_retg0 ?_|refine sw_retg ?_|(refine hK.n0 ?_;clear hK K)|refine runG_fk (fun h=>?_) fun h=>?_|refine runQG_fk (fun h=>?_) fun h=>?_|refine sw_condg rfl (fun h=>?_) fun h=>?_|refine hK.skp rfl rfl ?_|refine sw_exit rfl ?_|refine sw_loopEnd ?_|(refine hK.fork rfl rfl rfl ?_ ?_<;>intro h<;>try simp (disch:=(refine Om.mk ?_;omega)) only[go_sem] at h)|with_reducible refine and_o ?_|((with_reducible refine And.intro ?_ ?_);· first|(intro x hx;subst hx;rfl)|(intro x;refine And.intro ?_ ?_<;>(intros;subst_vars;rfl)))|apply tTT
     all_goals first|exact⟨(C,m1),cvB,hC,by cases m1 with|true=>(have:=hy rfl;dsimp only;simp only[if_true];omega)|false=>(have:=hn2 rfl;dsimp only;rw[this];simp)⟩|trace_state
end
end Go.Proofs.YtkfkdgginfpdnaaGreatDoor
