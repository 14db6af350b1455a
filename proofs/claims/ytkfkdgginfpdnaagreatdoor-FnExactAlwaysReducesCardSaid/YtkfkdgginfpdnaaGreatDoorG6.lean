/-
  Si, N7, N3b, N8p, one behind the other.
-/
import Derived.Test.YtkfkdgginfpdnaaGreatDoorSet
import Derived.Test.YtkfkdgginfpdnaaGreatDoorLgK21
import Derived.Test.YtkfkdgginfpdnaaGreatDoorG5
import Derived.Test.YtkfkdgginfpdnaaGreatDoorG4
import Derived.Test.YtkfkdgginfpdnaaGreatDoorLgK23
import Derived.Test.YtkfkdgginfpdnaaGreatDoorLgK7
namespace Go.Proofs.YtkfkdgginfpdnaaGreatDoor
open Go Go.Lg
set_option linter.unusedSimpArgs false
set_option linter.unusedVariables false
set_option maxHeartbeats 4000000
section
theorem mpd_ids (m n0:Nat) (es:List (Value×Value)):(mpd m n0 es).ids=[]:=rfl
theorem mpd_tks (m n0:Nat) (es:List (Value×Value)):(mpd m n0 es).tks=[]:=rfl
theorem mpd_pu (p:Nat→Bool) (m n0:Nat) (es:List (Value×Value)):(mpd m n0 es).pu p=mpd m n0 es:=rfl
theorem tksL_i (k:IntKind) (xs:List Int):D.tksL (xs.map (D.int k))=[]:=by
 induction xs with
 | nil=>rfl
 | cons x r ih=>simp[D.tksL,D.tks,ih]
theorem idsL_i (k:IntKind) (xs:List Int):D.idsL (xs.map (.int k))=[]:=by
 induction xs with
 | nil=>rfl
 | cons x r ih=>simp[D.idsL,D.ids,ih]
theorem shTL_i (o:Nat) (k:IntKind) (xs:List Int):D.shTL o (xs.map (.int k))=xs.map (.int k):=by
 induction xs with
 | nil=>rfl
 | cons x r ih=>simp[D.shTL,D.shT,ih]
theorem puOk_i (p:Nat→Bool) (k:IntKind) (xs:List Int):(xs.map (.int k)).all (D.puOk p)=true:=by
 rw[List.all_map]
 exact List.all_eq_true.2 fun _ _=>rfl
theorem pu1_i (p:Nat→Bool) (k:IntKind) (xs:List Int):(xs.map (D.int k)).map (D.pu1 p)=xs.map (D.int k):=by
 rw[List.map_map];exact List.map_congr_left fun _ _=>rfl
theorem mTL_i (f:Nat→Nat) (k:IntKind) (xs:List Int):D.mTL f (xs.map (D.int k))=xs.map (D.int k):=by
 induction xs with
 | nil=>rfl
 | cons x r ih=>simp only[List.map_cons,D.mTL,D.mT,ih]
theorem pu1_c (p:Nat→Bool) (k:IntKind):(D.pu1 p∘D.int k)=D.int k:=rfl
attribute [go_sem] idsL_i mpd_ids mpd_tks tksL_i shTL_i pu1_i mTL_i
attribute [go_sem high] mpd_pu
end
section
attribute [local irreducible] SW runL runQ runG runQG FC FCw Ret1 RetN toF redoL anyB
attribute [local go_sem] formD
def shC (rs:List Int) (LF SF:List FormT) (sk:List Int) (K:Nat) (out:List (List Int)) (nm:D):List D:=[.sl .any (rs.map (.int .i64)),.sl .any (LF.map formD),.sl .any (SF.map formD),.sl .any (sk.map (.int .i64)),.sl (.own K 22 1) (out.map IntsD),nm]
def FormsOk (f:Int) (n:Nat) (LF:List FormT):Prop:=LF.length≤1000∧∀i<LF.length,(LF.getD i default).args.length≤3∧((LF.getD i default).head=f→(LF.getD i default).args.length≤n)
theorem imgN_no {LF SF:List FormT} {f:Nat} {args:List (List Int)} (h:∃i,i<LF.length∧FitF (LF.getD i default) f args):imgN LF SF f args=none:=by
 obtain⟨i,hi,h⟩:=h
 exact if_pos ⟨_,getD_mem LF i hi,h⟩
theorem imgN_yes {LF SF:List FormT} {f:Nat} {args:List (List Int)} (h:∀i<LF.length,¬FitF (LF.getD i default) f args):imgN LF SF f args=some (fitsL SF f args SF.length):=by
 refine if_neg fun⟨x,hx,hf⟩=>?_
 obtain⟨i,hi,rfl⟩:=List.getElem_of_mem hx
 exact h i hi (by rw[List.getD_eq_getElem?_getD,List.getElem?_eq_getElem hi];exact hf)
attribute [local go_sem] shC
def kp167:List (Nat×List Nat):=[(0,[0,1,2]),(1,[0,1,2,8]),(2,[0,1,8,16,17,18]),(3,[0,1,8,16,17,18,19]),(4,[0,1,8,10,16,17,18]),(5,[0,1,8,16,17,18]),(6,[0,1,8,16,17,18]),(7,[0,1,8,36,37,38]),(8,[0,1,8,36,37,38,39]),(9,[0,1,8,12,36,37,38]),(10,[0,1,8,36,37,38,45]),(11,[6,7]),(12,[0,1,8,36,37,38]),(13,[0,1,8,13]),(14,[1,8,13,50,51,52]),(15,[1,8,13,50,51,52,53]),(16,[1,8,13,14,15,50,51,52]),(17,[1,8,13,14,50,51,52,60]),(18,[1,8,13,50,51,52]),(19,[1,8,13,50,51,52]),(20,[6,7])]
attribute [go_sem] kp167 Tryz.results167 Tryz.ntmps167
theorem result_fc (rs:List Int) (LF SF:List FormT) (out:List (List Int)) (m n0:Nat) (es:List (Value×Value)) (sk:List Int) (f:Nat) (n:Nat) (l:List Int) (hn:n=l.length) (hl3:l.length≤3) (hlb:∀i<l.length,0≤l.getD i default∧l.getD i default<out.length) (hLF:FormsOk f l.length LF) (hSF:FormsOk f l.length SF) (ho:out.length≤17) (R:Option (List Int)) (hR:imgN LF SF f (lstS out l)=R):FC S 167 [(500,shC rs LF SF sk 501 out (mpd m n0 es)),(45,l.map (.int .i64))] [] [] [.box 500 0,.int .i64 f,.ms 45 n] (.tup [.sl .any ((R.getD []).map (.int .i64)),.bool R.isSome]) [] []:=by
 subst hn
 have hll:=lst_len out l
 have hl1:=hLF.1
 refine fcb Tryz.func167 fun B=>?_
 simp only[go_sem]
 repeat' first|exact h.elim|(exfalso;omega)|refine sw_n ?_|refine sw_go 0 kp167 fun K hK=>?_|refine fun (K:KT) (hK:KOk S 0 _ _ _ K)=>?_|refine runL_g ?_|refine sw_retg0 ?_|refine sw_retg ?_|(refine hK.n0 ?_;clear hK K)|refine sw_condg rfl (fun h=>?_) fun h=>?_|refine sw_exit rfl ?_|refine sw_loopEnd ?_|with_reducible refine and_o ?_|((with_reducible refine And.intro ?_ ?_);· first|(intro x hx;subst hx;rfl)|(intro x;refine And.intro ?_ ?_<;>(intros;subst_vars;rfl)))|apply tTT
 refine sw_tok 8 32000 22 1 rfl (.inl rfl) (by simp[LS.purge,LS.clean,mapA,pu1_c,mpd,D.pu,D.pu1,D.tks,D.tksL,tksL_i,pu1_i]) ?_
 simp only[go_sem]
 refine sw_loopT (ι:=Nat) (fun i=>[(18,.int .i64 i),(8,.sl (.own 32000 22 1) ((lstS out (l.take i)).map IntsD))]) (fun _=>[]) (fun _=>[32000]) (fun i=>i≤l.length) (fun i=>l.length-i) 0 cvB (Nat.zero_le _) (fun i hi=>?_)
 simp only[go_sem]
 have hjl:=lst_len out (l.take i)
 rw[List.length_take] at hjl
 by_cases hil:i<l.length
 ·have hx:=hlb i hil
  have hst:=lst_snoc out (l:=l) hil
  repeat' first|exact h.elim|(exfalso;omega)|refine sw_n ?_|refine sw_go 0 kp167 fun K hK=>?_|refine fun (K:KT) (hK:KOk S 0 _ _ _ K)=>?_|refine runL_g ?_|refine sw_retg0 ?_|refine sw_retg ?_|(refine hK.n0 ?_;clear hK K)|refine sw_condg rfl (fun h=>?_) fun h=>?_|refine sw_exit rfl ?_|refine sw_loopEnd ?_|with_reducible refine and_o ?_|((with_reducible refine And.intro ?_ ?_);· first|(intro x hx;subst hx;rfl)|(intro x;refine And.intro ?_ ?_<;>(intros;subst_vars;rfl)))|apply tTT
  all_goals exact⟨i+1,(by(refine covers_mk0 rfl rfl ?_ ?_ ?_ ?_<;>simp (disch:=(refine Om.mk ?_;omega)) only[go_sem]<;>(try omega));all_goals first|exact⟨by rw[hst,List.map_append];rfl,by omega⟩|(rw[hst,List.map_append];rfl)|trace_state),by omega,by omega⟩
 ·obtain rfl:i=l.length:=by omega
  rw[List.take_of_length_le (Nat.le_refl _)]
  clear hjl
  repeat' first|exact h.elim|(exfalso;omega)|refine sw_n ?_|refine sw_go 0 kp167 fun K hK=>?_|refine fun (K:KT) (hK:KOk S 0 _ _ _ K)=>?_|refine runL_g ?_|refine sw_retg0 ?_|refine sw_retg ?_|(refine hK.n0 ?_;clear hK K)|refine sw_condg rfl (fun h=>?_) fun h=>?_|refine sw_exit rfl ?_|refine sw_loopEnd ?_|with_reducible refine and_o ?_|((with_reducible refine And.intro ?_ ?_);· first|(intro x hx;subst hx;rfl)|(intro x;refine And.intro ?_ ?_<;>(intros;subst_vars;rfl)))|apply tTT
  refine sw_loopT (ι:=Nat) (fun i=>[(38,.int .i64 i)]) (fun _=>[]) (fun _=>[32000]) (fun i=>i≤LF.length∧∀j<i,¬FitF (LF.getD j default) f (lstS out l)) (fun i=>LF.length-i) 0 cvB ⟨Nat.zero_le _,fun j hj=>absurd hj (Nat.not_lt_zero _)⟩ (fun i hi=>?_)
  obtain⟨hi,hj⟩:=hi
  simp only[go_sem]
  by_cases hil:i<LF.length
  ·have hLi:=hLF.2 i hil
   have cF:=fits_fc (.own 32000 22 1) (LF.getD i default) f (lstS out l) hLi.1 (fun e=>by rw[hll];exact hLi.2 e)
   by_cases hf:FitF (LF.getD i default) f (lstS out l)
   ·rw[tst_true hf] at cF
    obtain rfl:none=R:=by rw[←hR,imgN_no ⟨i,hil,hf⟩]
    repeat' first|exact h.elim|(exfalso;omega)|refine sw_n ?_|refine sw_go 0 kp167 fun K hK=>?_|refine fun (K:KT) (hK:KOk S 0 _ _ _ K)=>?_|refine runL_g ?_|refine sw_retg0 ?_|refine sw_retg ?_|(refine hK.n0 ?_;clear hK K)|refine sw_condg rfl (fun h=>?_) fun h=>?_|refine sw_exit rfl ?_|refine sw_loopEnd ?_|refine hK.c1 rfl rfl rfl (cF) ?_|with_reducible refine and_o ?_|((with_reducible refine And.intro ?_ ?_);· first|(intro x hx;subst hx;rfl)|(intro x;refine And.intro ?_ ?_<;>(intros;subst_vars;rfl)))|apply tTT
    all_goals trace_state
   ·rw[tst_false hf] at cF
    repeat' first|exact h.elim|(exfalso;omega)|refine sw_n ?_|refine sw_go 0 kp167 fun K hK=>?_|refine fun (K:KT) (hK:KOk S 0 _ _ _ K)=>?_|refine runL_g ?_|refine sw_retg0 ?_|refine sw_retg ?_|(refine hK.n0 ?_;clear hK K)|refine sw_condg rfl (fun h=>?_) fun h=>?_|refine sw_exit rfl ?_|refine sw_loopEnd ?_|refine hK.c1 rfl rfl rfl (cF) ?_|with_reducible refine and_o ?_|((with_reducible refine And.intro ?_ ?_);· first|(intro x hx;subst hx;rfl)|(intro x;refine And.intro ?_ ?_<;>(intros;subst_vars;rfl)))|apply tTT
    all_goals exact⟨i+1,cvB,⟨by omega,upto_succ hj hf⟩,by omega⟩
  ·obtain rfl:i=LF.length:=by omega
   obtain rfl:some (fitsL SF f (lstS out l) SF.length)=R:=by rw[←hR,imgN_yes hj]
   repeat' first|exact h.elim|(exfalso;omega)|refine sw_n ?_|refine sw_go 0 kp167 fun K hK=>?_|refine fun (K:KT) (hK:KOk S 0 _ _ _ K)=>?_|refine runL_g ?_|refine sw_retg0 ?_|refine sw_retg ?_|(refine hK.n0 ?_;clear hK K)|refine sw_condg rfl (fun h=>?_) fun h=>?_|refine sw_exit rfl ?_|refine sw_loopEnd ?_|with_reducible refine and_o ?_|((with_reducible refine And.intro ?_ ?_);· first|(intro x hx;subst hx;rfl)|(intro x;refine And.intro ?_ ?_<;>(intros;subst_vars;rfl)))|apply tTT
   refine sw_tok 13 65000 2 1 rfl (.inl rfl) (by simp[LS.purge,LS.clean,mapA,pu1_c,mpd,D.pu,D.pu1,D.tks,D.tksL,tksL_i,pu1_i]) ?_
   simp only[go_sem]
   refine sw_loopT (ι:=Nat) (fun i=>[(52,.int .i64 i),(13,.sl (.own 65000 2 1) ((fitsL SF f (lstS out l) i).map (.int .i64)))]) (fun _=>[]) (fun _=>[65000,32000]) (fun i=>i≤SF.length) (fun i=>SF.length-i) 0 cvB (Nat.zero_le _) (fun i hi=>?_)
   simp only[go_sem]
   have hfl:=fitsL_len SF f (lstS out l) i
   have hs1:=hSF.1
   by_cases hil:i<SF.length
   ·have hLi:=hSF.2 i hil
    have cF:=fits_fc (.own 32000 22 1) (SF.getD i default) f (lstS out l) hLi.1 (fun e=>by rw[hll];exact hLi.2 e)
    by_cases hf:FitF (SF.getD i default) f (lstS out l)
    ·rw[tst_true hf] at cF
     have hs:=fitsL_yes (SF:=SF) (i:=i) hf
     repeat' first|exact h.elim|(exfalso;omega)|refine sw_n ?_|refine sw_go 0 kp167 fun K hK=>?_|refine fun (K:KT) (hK:KOk S 0 _ _ _ K)=>?_|refine runL_g ?_|refine sw_retg0 ?_|refine sw_retg ?_|(refine hK.n0 ?_;clear hK K)|refine sw_condg rfl (fun h=>?_) fun h=>?_|refine sw_exit rfl ?_|refine sw_loopEnd ?_|refine hK.c1 rfl rfl rfl (cF) ?_|with_reducible refine and_o ?_|((with_reducible refine And.intro ?_ ?_);· first|(intro x hx;subst hx;rfl)|(intro x;refine And.intro ?_ ?_<;>(intros;subst_vars;rfl)))|apply tTT
     all_goals first|exact⟨i+1,(by(refine covers_mk0 rfl rfl ?_ ?_ ?_ ?_<;>simp (disch:=(refine Om.mk ?_;omega)) only[go_sem]<;>(try omega));all_goals first|(rw[hs,List.map_append];rfl)|exact⟨hs.symm,by omega⟩|exact⟨by rw[hs,List.map_append];rfl,by omega⟩|decide|trace_state),by omega,by omega⟩|trace_state
    ·rw[tst_false hf] at cF
     have hs:=fitsL_no (SF:=SF) (i:=i) hf
     repeat' first|exact h.elim|(exfalso;omega)|refine sw_n ?_|refine sw_go 0 kp167 fun K hK=>?_|refine fun (K:KT) (hK:KOk S 0 _ _ _ K)=>?_|refine runL_g ?_|refine sw_retg0 ?_|refine sw_retg ?_|(refine hK.n0 ?_;clear hK K)|refine sw_condg rfl (fun h=>?_) fun h=>?_|refine sw_exit rfl ?_|refine sw_loopEnd ?_|refine hK.c1 rfl rfl rfl (cF) ?_|with_reducible refine and_o ?_|((with_reducible refine And.intro ?_ ?_);· first|(intro x hx;subst hx;rfl)|(intro x;refine And.intro ?_ ?_<;>(intros;subst_vars;rfl)))|apply tTT
     all_goals first|exact⟨i+1,(by(refine covers_mk0 rfl rfl ?_ ?_ ?_ ?_<;>simp (disch:=(refine Om.mk ?_;omega)) only[go_sem]<;>(try omega));all_goals first|(rw[hs];done)|exact⟨by rw[hs],by omega⟩|decide|trace_state),by omega,by omega⟩|trace_state
   ·obtain rfl:i=SF.length:=by omega
    repeat' first|exact h.elim|(exfalso;omega)|refine sw_n ?_|refine sw_go 0 kp167 fun K hK=>?_|refine fun (K:KT) (hK:KOk S 0 _ _ _ K)=>?_|refine runL_g ?_|refine sw_retg0 ?_|refine sw_retg ?_|(refine hK.n0 ?_;clear hK K)|refine sw_condg rfl (fun h=>?_) fun h=>?_|refine sw_exit rfl ?_|refine sw_loopEnd ?_|with_reducible refine and_o ?_|((with_reducible refine And.intro ?_ ?_);· first|(intro x hx;subst hx;rfl)|(intro x;refine And.intro ?_ ?_<;>(intros;subst_vars;rfl)))|apply tTT
    all_goals first|exact⟨rfl,rfl⟩|rfl|trace_state
end
section
attribute [local irreducible] SW runL runQ runG runQG FC Ret1 RetN toF redoL anyB
noncomputable def trZ (I:Nat→List (List Int)→Option (List Int)) (sets:List (List Int)):List (Nat×List Int)→List TransT
 | []=>[]
 | e::es=>match I e.1 (lstS sets e.2) with
  | none=>trZ I sets es
  | some s=>⟨(e.1:Int),e.2,placeI s sets⟩::trZ I sets es
theorem trZ_none {I:Nat→List (List Int)→Option (List Int)} {sets:List (List Int)} {f:Nat} {l:List Int} {E:List (Nat×List Int)} (h:I f (lstS sets l)=none):trZ I sets ((f,l)::E)=trZ I sets E:=by
 rw[trZ];simp only[h]
theorem trZ_some {I:Nat→List (List Int)→Option (List Int)} {sets:List (List Int)} {f:Nat} {l:List Int} {E:List (Nat×List Int)} {s:List Int} (h:I f (lstS sets l)=some s):trZ I sets ((f,l)::E)=⟨(f:Int),l,placeI s sets⟩::trZ I sets E:=by
 rw[trZ];simp only[h]
theorem place_idx {s:List Int} {xs:List (List Int)} (h:s∈xs):placeI s xs=(xs.idxOf s:Nat):=by
 have h1:xs.idxOf s<xs.length:=List.idxOf_lt_length_iff.2 h
 have h2:xs[xs.idxOf s]=s:=List.getElem_idxOf h1
 have hg:xs.getD (xs.idxOf s) default=s:=by rw[List.getD_eq_getElem?_getD,List.getElem?_eq_getElem h1];exact h2
 refine placeI_at (fun j hj e=>?_) h1 hg
 have:=List.not_of_lt_findIdx (p:=(·==s)) (xs:=xs) (i:=j) hj
 rw[List.getD_eq_getElem?_getD,List.getElem?_eq_getElem (by omega)] at e
 simp at this e
 exact this e
theorem capF_closed {I:Nat→List (List Int)→Option (List Int)} {sets:List (List Int)} (h16:sets.length≤16):∀E:List (Nat×List Int),(capF I sets E sets).2=true→(capF I sets E sets).1.length=sets.length→∀e∈E,∀s,I e.1 (lstS sets e.2)=some s→s∈sets
 | [],_,_=>fun e he=>by cases he
 | (f,l)::es,h,hl=>by
  cases hI:I f (lstS sets l) with
  | none =>
   rw[capF_none f l es sets h16 hI] at h hl
   intro e hm s hs
   rcases List.mem_cons.1 hm with rfl|hm
   ·rw[hI] at hs;cases hs
   ·exact capF_closed h16 es h hl e hm s hs
  | some s0 =>
   obtain⟨hc1,hc2⟩:=capF_cap (I:=I) (sets:=sets) f l es sets s0 hI
   obtain⟨r',hr'⟩:=addQ_pre sets s0
   by_cases h17:16<(addQ sets s0).length
   ·rw[hc1 h17] at h;cases h
   ·rw[hc2 h17] at h hl
    obtain⟨r,hr⟩:=capF_pre (I:=I) (sets:=sets) es (addQ sets s0)
    have he:addQ sets s0=sets:=by
     rw[hr,hr',List.length_append,List.length_append] at hl
     have:r'=[]:=List.length_eq_zero_iff.1 (by omega)
     rw[hr',this,List.append_nil]
    have hmem:=addQ_mem sets s0
    rw[he] at h hl hmem
    intro e hm s hs
    rcases List.mem_cons.1 hm with rfl|hm
    ·rw[hI] at hs;cases hs;exact hmem
    ·exact capF_closed h16 es h hl e hm s hs
theorem iterZ_closed {I:Nat→List (List Int)→Option (List Int)} {E:Nat→List (Nat×List Int)}:∀(k:Nat) (s:List (List Int)),s.length≤16→(iterZ I E k s).2=true→∀e∈E (iterZ I E k s).1.length,∀t,I e.1 (lstS (iterZ I E k s).1 e.2)=some t→t∈(iterZ I E k s).1
 | 0,s,_,h=>by cases h
 | k+1,s,h16,h=>by
  unfold iterZ at h ⊢
  by_cases h1:(capF I s (E s.length) s).2=true
  ·rw[if_pos h1] at h ⊢
   by_cases h2:(capF I s (E s.length) s).1.length=s.length
   ·rw[if_pos h2] at h ⊢
    exact capF_closed h16 _ h1 h2
   ·rw[if_neg h2] at h ⊢
    exact iterZ_closed k _ (capF_len _ _ h16 h1) h
  ·rw[if_neg h1] at h;cases h
theorem trZ_trS {I:Nat→List (List Int)→Option (List Int)} {sets:List (List Int)}:∀E:List (Nat×List Int),(∀e∈E,∀s,I e.1 (lstS sets e.2)=some s→s∈sets)→trZ I sets E=trS I sets E
 | [],_=>rfl
 | (f,l)::es,h=>by
  have ih:=trZ_trS es fun x hx=>h x (List.mem_cons_of_mem _ hx)
  cases hI:I f (lstS sets l) with
  | none=>rw[trZ_none hI,ih,trS];simp only[hI]
  | some s =>
   rw[trZ_some hI,ih,place_idx (h (f,l) List.mem_cons_self s hI),trS]
   simp only[hI]
   rfl
def numsN (n:Nat):List Int:=(List.range n).map fun (j:Nat)=>(j:Int)
theorem numsN_succ (n:Nat):numsN (n+1)=numsN n++[(n:Int)]:=by
 unfold numsN;rw[List.range_succ,List.map_append];rfl
theorem numsN_len (n:Nat):(numsN n).length=n:=by simp[numsN]
open Classical in
noncomputable def autoN (rs:List Int) (SH ls:List (List Int)) (syms:List Nat):AutoT×Bool:=if (iterZ (imgH rs SH ls) (evY rs syms) 18 []).2=true∧(iterZ (imgH rs SH ls) (evY rs syms) 18 []).1≠[]∧(trZ (imgH rs SH ls) (iterZ (imgH rs SH ls) (evY rs syms) 18 []).1 (evY rs syms (iterZ (imgH rs SH ls) (evY rs syms) 18 []).1.length)).length≤300 then (⟨((iterZ (imgH rs SH ls) (evY rs syms) 18 []).1.length:Int),trZ (imgH rs SH ls) (iterZ (imgH rs SH ls) (evY rs syms) 18 []).1 (evY rs syms (iterZ (imgH rs SH ls) (evY rs syms) 18 []).1.length),numsN (iterZ (imgH rs SH ls) (evY rs syms) 18 []).1.length⟩,true) else (⟨0,[],[]⟩,false)
theorem autoN_eq {rs:List Int} {SH ls:List (List Int)} {syms:List Nat} {s:List (List Int)} {b:Bool} (h:iterZ (imgH rs SH ls) (evY rs syms) 18 []=(s,b)):(b=true→s≠[]→(trZ (imgH rs SH ls) s (evY rs syms s.length)).length≤300→autoN rs SH ls syms=(⟨(s.length:Int),trZ (imgH rs SH ls) s (evY rs syms s.length),numsN s.length⟩,true))∧(¬(b=true∧s≠[]∧(trZ (imgH rs SH ls) s (evY rs syms s.length)).length≤300)→autoN rs SH ls syms=(⟨0,[],[]⟩,false)):=by
 unfold autoN
 rw[h]
 exact⟨fun h1 h2 h3=>if_pos ⟨h1,h2,h3⟩,fun h=>if_neg h⟩
def kp62:List (Nat×List Nat):=[(0,[1,2,3,4,8]),(1,[1,2,3,4,8,10,11]),(2,[1,2,3,4,8,10,11,12]),(3,[1,2,3,4,8,10,12,35]),(4,[8,9]),(5,[1,2,3,4,8,10,12,13]),(6,[1,2,3,4,8,10,12,13,14]),(7,[1,2,3,4,8,10,12,13,14,42]),(9,[1,2,3,4,8,10,12,13,14]),(8,[1,2,3,4,8,10,12,13,14]),(10,[1,2,3,4,8,10,12,13,15]),(11,[1,2,3,4,8,10,12,13,15,54]),(13,[1,2,3,4,8,10,12,13,15,16]),(14,[1,2,3,4,8,10,12,13,15,16,17]),(15,[1,2,3,4,8,10,12,13,15,16,17,18]),(16,[1,2,3,4,8,10,12,13,15,16,17,67]),(18,[1,2,3,4,8,10,12,13,15,16,17,19]),(19,[1,2,3,4,8,10,12,13,15,16,17,19,82]),(20,[1,2,3,4,8,10,12,13,15,16,17,19,86]),(21,[8,9]),(22,[1,2,3,4,8,10,12,13,15,16,17]),(17,[1,2,3,4,8,10,12,13,15,16,17,18]),(12,[1,2,3,4,8,10,12,13,15]),(23,[8,9])]
attribute [go_sem] kp62 Tryz.results62 Tryz.ntmps62
theorem l24Auto_fc (rs:List Int) (SH ls:List (List Int)) (hO:ShpOk rs SH ls) (syms:List Nat) (hsy:∀f∈syms,f<rs.length) (hsl:syms.length≤100):FC S 62 [] [] [] [.agg [.sl .any (rs.map (.int .i64))],.sl .any (SH.map IntsD),.sl .any (ls.map IntsD),.sl .any (syms.map natD)] (.tup [AutoD (autoN rs SH ls syms).1,.bool (autoN rs SH ls syms).2]) [] []:=by
 have hrl:=hO.sg.1.2
 have cS:=l24Sets_fc rs SH ls hO syms hsy hsl
 have hle:=iterZ_le (I:=imgH rs SH ls) (E:=evY rs syms) 18 [] (by simp)
 obtain⟨sets,ok,hN⟩:∃s b,iterZ (imgH rs SH ls) (evY rs syms) 18 []=(s,b):=⟨_,_,rfl⟩
 obtain⟨hy,hno⟩:=autoN_eq hN
 rw[hN] at cS hle
 dsimp only at cS hle
 cases ok with
 | false =>
  rw[hno (fun h=>by cases h.1)]
  refine fcb Tryz.func62 fun B=>?_
  refine sw_bnd_aggg 0 0 fun hb0_0=>?_
  refine sw_bndg 3 fun hb3=>?_
  repeat' first|exact h.elim|(exfalso;omega)|refine sw_n ?_|refine sw_go 0 kp62 fun K hK=>?_|refine sw_goT 0 kp62 14 (id:=22) (by kernel_rfl) fun K hK=>?_|refine fun (K:KT) (hK:KOk S 0 _ _ _ K)=>?_|refine sw_goD kp62 (by kernel_rfl) fun K hK=>?_|refine runL_g ?_|refine runQ_g ?_|refine sw_retg0 ?_|refine sw_retg ?_|(refine hK.n0 ?_;clear hK K)|refine runG_fk (fun h=>?_) fun h=>?_|refine runQG_fk (fun h=>?_) fun h=>?_|refine sw_condg rfl (fun h=>?_) fun h=>?_|refine hK.skp rfl rfl ?_|refine sw_exit rfl ?_|refine sw_loopEnd ?_|refine hK.c1 rfl rfl rfl (cS) ?_|(refine hK.fork rfl rfl rfl ?_ ?_<;>intro h<;>try simp (disch:=(refine Om.mk ?_;omega)) only[go_sem] at h)|with_reducible refine and_o ?_|((with_reducible refine And.intro ?_ ?_);· first|(intro x hx;subst hx;rfl)|(intro x;refine And.intro ?_ ?_<;>(intros;subst_vars;rfl)))|apply tTT
 | true =>
  by_cases h0:sets=[]
  ·subst h0
   rw[hno (fun h=>h.2.1 rfl)]
   refine fcb Tryz.func62 fun B=>?_
   refine sw_bnd_aggg 0 0 fun hb0_0=>?_
   refine sw_bndg 3 fun hb3=>?_
   repeat' first|exact h.elim|(exfalso;omega)|refine sw_n ?_|refine sw_go 0 kp62 fun K hK=>?_|refine sw_goT 0 kp62 14 (id:=22) (by kernel_rfl) fun K hK=>?_|refine fun (K:KT) (hK:KOk S 0 _ _ _ K)=>?_|refine sw_goD kp62 (by kernel_rfl) fun K hK=>?_|refine runL_g ?_|refine runQ_g ?_|refine sw_retg0 ?_|refine sw_retg ?_|(refine hK.n0 ?_;clear hK K)|refine runG_fk (fun h=>?_) fun h=>?_|refine runQG_fk (fun h=>?_) fun h=>?_|refine sw_condg rfl (fun h=>?_) fun h=>?_|refine hK.skp rfl rfl ?_|refine sw_exit rfl ?_|refine sw_loopEnd ?_|refine hK.c1 rfl rfl rfl (cS) ?_|(refine hK.fork rfl rfl rfl ?_ ?_<;>intro h<;>try simp (disch:=(refine Om.mk ?_;omega)) only[go_sem] at h)|with_reducible refine and_o ?_|((with_reducible refine And.intro ?_ ?_);· first|(intro x hx;subst hx;rfl)|(intro x;refine And.intro ?_ ?_<;>(intros;subst_vars;rfl)))|apply tTT
  ·have hpos:=List.length_pos_iff.2 h0
   generalize hANS:autoN rs SH ls syms=ANS at *
   have hall:([]:List TransT)++trZ (imgH rs SH ls) sets (evY rs (syms.drop 0) sets.length)=trZ (imgH rs SH ls) sets (evY rs syms sets.length):=by rw[List.drop_zero,List.nil_append]
   generalize hAL:trZ (imgH rs SH ls) sets (evY rs syms sets.length)=ALL at *
   refine fcb Tryz.func62 fun B=>?_
   refine sw_bnd_aggg 0 0 fun hb0_0=>?_
   refine sw_bndg 3 fun hb3=>?_
   repeat' first|exact h.elim|(exfalso;omega)|refine sw_n ?_|refine sw_go 0 kp62 fun K hK=>?_|refine sw_goT 0 kp62 14 (id:=22) (by kernel_rfl) fun K hK=>?_|refine fun (K:KT) (hK:KOk S 0 _ _ _ K)=>?_|refine sw_goD kp62 (by kernel_rfl) fun K hK=>?_|refine runL_g ?_|refine runQ_g ?_|refine sw_retg0 ?_|refine sw_retg ?_|(refine hK.n0 ?_;clear hK K)|refine runG_fk (fun h=>?_) fun h=>?_|refine runQG_fk (fun h=>?_) fun h=>?_|refine sw_condg rfl (fun h=>?_) fun h=>?_|refine hK.skp rfl rfl ?_|refine sw_exit rfl ?_|refine sw_loopEnd ?_|refine hK.c1 rfl rfl rfl (cS) ?_|(refine hK.fork rfl rfl rfl ?_ ?_<;>intro h<;>try simp (disch:=(refine Om.mk ?_;omega)) only[go_sem] at h)|with_reducible refine and_o ?_|((with_reducible refine And.intro ?_ ?_);· first|(intro x hx;subst hx;rfl)|(intro x;refine And.intro ?_ ?_<;>(intros;subst_vars;rfl)))|apply tTT
   refine sw_tokBoxF 13 2 50000 2 1 rfl rfl rfl ?_
   simp only[go_sem]
   refine sw_loopT (ι:=Nat) (fun i=>[(14,.int .i64 i)]) (fun i=>[(13,[.int .i64 sets.length,.sl .nil [],.sl (.own 50000 2 1) ((numsN i).map (.int .i64))])]) (fun _=>[50000]) (fun i=>i≤sets.length) (fun i=>sets.length-i) 0 cvB (Nat.zero_le _) (fun i hi=>?_)
   simp only[go_sem]
   have hnl:=numsN_len i
   by_cases hil:i<sets.length
   ·repeat' first|exact h.elim|(exfalso;omega)|refine sw_n ?_|refine sw_go 0 kp62 fun K hK=>?_|refine sw_goT 0 kp62 14 (id:=22) (by kernel_rfl) fun K hK=>?_|refine fun (K:KT) (hK:KOk S 0 _ _ _ K)=>?_|refine sw_goD kp62 (by kernel_rfl) fun K hK=>?_|refine runL_g ?_|refine runQ_g ?_|refine sw_retg0 ?_|refine sw_retg ?_|(refine hK.n0 ?_;clear hK K)|refine runG_fk (fun h=>?_) fun h=>?_|refine runQG_fk (fun h=>?_) fun h=>?_|refine sw_condg rfl (fun h=>?_) fun h=>?_|refine hK.skp rfl rfl ?_|refine sw_exit rfl ?_|refine sw_loopEnd ?_|(refine hK.fork rfl rfl rfl ?_ ?_<;>intro h<;>try simp (disch:=(refine Om.mk ?_;omega)) only[go_sem] at h)|with_reducible refine and_o ?_|((with_reducible refine And.intro ?_ ?_);· first|(intro x hx;subst hx;rfl)|(intro x;refine And.intro ?_ ?_<;>(intros;subst_vars;rfl)))|apply tTT
    all_goals exact⟨i+1,(by(refine covers_mk0 rfl rfl ?_ ?_ ?_ ?_<;>simp (disch:=(refine Om.mk ?_;omega)) only[go_sem]<;>(try omega));all_goals first|(rw[numsN_succ,List.map_append];rfl)|(rw[numsN_succ];done)|(rw[numsN_succ,List.map_append];exact⟨rfl,by omega⟩)|trace_state),by omega,by omega⟩
   ·obtain rfl:i=sets.length:=by omega
    clear hi hil
    repeat' first|exact h.elim|(exfalso;omega)|refine sw_n ?_|refine sw_go 0 kp62 fun K hK=>?_|refine sw_goT 0 kp62 14 (id:=22) (by kernel_rfl) fun K hK=>?_|refine fun (K:KT) (hK:KOk S 0 _ _ _ K)=>?_|refine sw_goD kp62 (by kernel_rfl) fun K hK=>?_|refine runL_g ?_|refine runQ_g ?_|refine sw_retg0 ?_|refine sw_retg ?_|(refine hK.n0 ?_;clear hK K)|refine runG_fk (fun h=>?_) fun h=>?_|refine runQG_fk (fun h=>?_) fun h=>?_|refine sw_condg rfl (fun h=>?_) fun h=>?_|refine hK.skp rfl rfl ?_|refine sw_exit rfl ?_|refine sw_loopEnd ?_|(refine hK.fork rfl rfl rfl ?_ ?_<;>intro h<;>try simp (disch:=(refine Om.mk ?_;omega)) only[go_sem] at h)|with_reducible refine and_o ?_|((with_reducible refine And.intro ?_ ?_);· first|(intro x hx;subst hx;rfl)|(intro x;refine And.intro ?_ ?_<;>(intros;subst_vars;rfl)))|apply tTT
    refine sw_tokBox 13 1 103000 64 3 rfl rfl rfl ?_
    simp only[go_sem]
    refine sw_loopT (ι:=Nat×List TransT) (fun p=>[(15,.int .i64 p.1)]) (fun p=>[(13,[.int .i64 sets.length,.sl (.own 103000 64 3) (p.2.map TransD),.sl (.own 50000 2 1) ((numsN sets.length).map (.int .i64))])]) (fun _=>[103000,50000]) (fun p=>(p.1≤syms.length∧p.2.length≤300)∧p.2++trZ (imgH rs SH ls) sets (evY rs (syms.drop p.1) sets.length)=ALL) (fun p=>syms.length-p.1) (0,[]) (by(refine covers_mk0 rfl rfl ?_ ?_ ?_ ?_<;>simp (disch:=(refine Om.mk ?_;omega)) only[go_sem]<;>(try omega));all_goals first|rfl|exact⟨rfl,rfl⟩|exact⟨rfl,rfl,rfl⟩|trace_state) ⟨⟨by simp,by simp⟩,hall⟩ (fun p hp=>?_)
    obtain⟨i,ru⟩:=p
    obtain⟨⟨hi,hr⟩,hc⟩:=hp
    dsimp only at hi hr hc
    simp only[go_sem]
    by_cases hil:i<syms.length
    ·have hfs:=hsy _ (getD_mem syms i hil)
     obtain⟨har,hr0,hr3⟩:=ar_at hO.sg hfs
     rw[evY_cons rs hil] at hc
     rw[show evF rs sets.length (syms.getD i default)=(digs sets.length (rs.getD (syms.getD i default) default).toNat).map (fun l=>(syms.getD i default,l)) from if_neg (fun h=>by omega)] at hc
     obtain⟨n,hn⟩:∃n:Nat,rs.getD (syms.getD i default) default=n:=⟨(rs.getD (syms.getD i default) default).toNat,by omega⟩
     have hnt:(rs.getD (syms.getD i default) default).toNat=n:=by omega
     rw[hnt] at hc har
     obtain⟨hseq,A0,hA0⟩:=digs_ok (n:=sets.length) (k:=n) (.inl hpos)
     have hdig:=digs_dig (n:=sets.length) (k:=n) (.inl hpos)
     rw[hA0] at hseq hdig hc
     repeat' first|exact h.elim|(exfalso;omega)|refine sw_n ?_|refine sw_go 0 kp62 fun K hK=>?_|refine sw_goT 0 kp62 14 (id:=22) (by kernel_rfl) fun K hK=>?_|refine fun (K:KT) (hK:KOk S 0 _ _ _ K)=>?_|refine sw_goD kp62 (by kernel_rfl) fun K hK=>?_|refine runL_g ?_|refine runQ_g ?_|refine sw_retg0 ?_|refine sw_retg ?_|(refine hK.n0 ?_;clear hK K)|refine runG_fk (fun h=>?_) fun h=>?_|refine runQG_fk (fun h=>?_) fun h=>?_|refine sw_condg rfl (fun h=>?_) fun h=>?_|refine hK.skp rfl rfl ?_|refine sw_exit rfl ?_|refine sw_loopEnd ?_|(refine hK.fork rfl rfl rfl ?_ ?_<;>intro h<;>try simp (disch:=(refine Om.mk ?_;omega)) only[go_sem] at h)|with_reducible refine and_o ?_|((with_reducible refine And.intro ?_ ?_);· first|(intro x hx;subst hx;rfl)|(intro x;refine And.intro ?_ ?_<;>(intros;subst_vars;rfl)))|apply tTT
     rw[hnt]
     refine sw_freeze 17 1 .any ((List.replicate n (0:Int)).map (.int .i64)) rfl rfl (by rw[flatten_one,flat_ints,List.map_replicate]) (by simp) (cells_one fun _=>rfl) (by rw[flatten_one,←List.map_replicate (f:=D.int .i64)];exact memOk_ints _) (.inl rfl) ?_
     simp only[go_sem]
     refine sw_loopT (ι:=(List Int×Bool)×List (List Int)×List TransT) (fun p=>[(17,.sl .any (p.1.1.map (.int .i64))),(18,.bool p.1.2)]) (fun p=>[(13,[.int .i64 sets.length,.sl (.own 103000 64 3) (p.2.2.map TransD),.sl (.own 50000 2 1) ((numsN sets.length).map (.int .i64))])]) (fun _=>[103000,50000]) (fun p=>((p.1.1.length=n∧∀x∈p.1.1,0≤x∧x<sets.length)∧p.2.2.length≤300)∧(p.1.2=true→(SeqD (List.replicate n (0,(sets.length:Int)-1)) (p.1.1::p.2.1)∧∀l∈p.2.1,l.length=n∧∀x∈l,0≤x∧x<sets.length)∧p.2.2++trZ (imgH rs SH ls) sets ((p.1.1::p.2.1).map (fun l=>(syms.getD i default,l))++evY rs (syms.drop (i+1)) sets.length)=ALL)∧(p.1.2=false→p.2.2++trZ (imgH rs SH ls) sets (evY rs (syms.drop (i+1)) sets.length)=ALL)) (fun p=>if p.1.2=true then p.2.1.length+1 else 0) ((List.replicate n 0,true),A0,ru) (by(refine covers_mk0 rfl rfl ?_ ?_ ?_ ?_<;>simp (disch:=(refine Om.mk ?_;omega)) only[go_sem]<;>(try omega));all_goals first|rfl|exact⟨rfl,rfl⟩|exact⟨rfl,rfl,rfl⟩|trace_state) ⟨⟨hdig _ List.mem_cons_self,hr⟩,fun _=>⟨⟨hseq,fun l hl=>hdig l (List.mem_cons_of_mem _ hl)⟩,hc⟩,fun h=>by cases h⟩ (fun p hp=>?_)
     obtain⟨⟨l,mr⟩,A,ru⟩:=p
     obtain⟨⟨⟨hl1,hl2⟩,hr⟩,hm1,hm2⟩:=hp
     dsimp only at hl1 hl2 hr hm1 hm2
     simp only[go_sem]
     have hbx:∀x∈l,0≤x∧x≤1000:=fun x hx=>by have:=hl2 x hx;omega
     have hget:∀j<l.length,0≤l.getD j default∧l.getD j default<sets.length:=fun j hj=>hl2 _ (getD_mem l j hj)
     cases mr with
     | false =>
      have hm2:=hm2 rfl
      repeat' first|exact h.elim|(exfalso;omega)|refine sw_n ?_|refine sw_go 0 kp62 fun K hK=>?_|refine sw_goT 0 kp62 14 (id:=22) (by kernel_rfl) fun K hK=>?_|refine fun (K:KT) (hK:KOk S 0 _ _ _ K)=>?_|refine sw_goD kp62 (by kernel_rfl) fun K hK=>?_|refine runL_g ?_|refine runQ_g ?_|refine sw_retg0 ?_|refine sw_retg ?_|(refine hK.n0 ?_;clear hK K)|refine runG_fk (fun h=>?_) fun h=>?_|refine runQG_fk (fun h=>?_) fun h=>?_|refine sw_condg rfl (fun h=>?_) fun h=>?_|refine hK.skp rfl rfl ?_|refine sw_exit rfl ?_|refine sw_loopEnd ?_|(refine hK.fork rfl rfl rfl ?_ ?_<;>intro h<;>try simp (disch:=(refine Om.mk ?_;omega)) only[go_sem] at h)|with_reducible refine and_o ?_|((with_reducible refine And.intro ?_ ?_);· first|(intro x hx;subst hx;rfl)|(intro x;refine And.intro ?_ ?_<;>(intros;subst_vars;rfl)))|apply tTT
      exact⟨(i+1,ru),(by(refine covers_mk0 rfl rfl ?_ ?_ ?_ ?_<;>simp (disch:=(refine Om.mk ?_;omega)) only[go_sem]<;>(try omega));all_goals first|rfl|exact⟨rfl,rfl⟩|exact⟨rfl,rfl,rfl⟩),⟨⟨by dsimp only;omega,hr⟩,hm2⟩,by dsimp only;omega⟩
     | true =>
      obtain⟨⟨hs,hA1⟩,hcc⟩:=hm1 rfl
      have hlen:=lst_len sets l
      have cL:=l23Listed_fc .any .any sets l (by omega) hget
      have cN:=nextList_fc .any l (sets.length:Int) (by omega) hbx
      have hnx:=loop_next hl1 hl2 hs
      have cH:=l24Shut_fc rs SH ls hO (syms.getD i default) (lstS sets l) (by rw[hlen,hl1,har])
      have cC:=l24Comes_fc rs SH ls hO (syms.getD i default) (lstS sets l) (by rw[hlen,hl1,har])
      have cQ:=l1CopyQ_fc .any l (by omega)
      rw[List.map_cons,List.cons_append] at hcc
      by_cases hsh:∃x∈ls.map (formR rs SH),FitF x ((syms.getD i default:Nat):Int) (lstS sets l)
      ·rw[tst_true hsh] at cH
       rw[trZ_none (imgH_no hsh)] at hcc
       repeat' first|exact h.elim|(exfalso;omega)|refine sw_n ?_|refine sw_go 0 kp62 fun K hK=>?_|refine sw_goT 0 kp62 14 (id:=22) (by kernel_rfl) fun K hK=>?_|refine fun (K:KT) (hK:KOk S 0 _ _ _ K)=>?_|refine sw_goD kp62 (by kernel_rfl) fun K hK=>?_|refine runL_g ?_|refine runQ_g ?_|refine sw_retg0 ?_|refine sw_retg ?_|(refine hK.n0 ?_;clear hK K)|refine runG_fk (fun h=>?_) fun h=>?_|refine runQG_fk (fun h=>?_) fun h=>?_|refine sw_condg rfl (fun h=>?_) fun h=>?_|refine hK.skp rfl rfl ?_|refine sw_exit rfl ?_|refine sw_loopEnd ?_|refine hK.c1 rfl rfl rfl (cL) ?_|refine hK.c1 rfl rfl rfl (cH) ?_|refine hK.c1 rfl rfl rfl (cC) ?_|refine hK.c1 rfl rfl rfl (cN) ?_|(refine hK.fork rfl rfl rfl ?_ ?_<;>intro h<;>try simp (disch:=(refine Om.mk ?_;omega)) only[go_sem] at h)|with_reducible refine and_o ?_|((with_reducible refine And.intro ?_ ?_);· first|(intro x hx;subst hx;rfl)|(intro x;refine And.intro ?_ ?_<;>(intros;subst_vars;rfl)))|apply tTT
       all_goals exact⟨((((nextL (sets.length:Int) l).1,(nextL (sets.length:Int) l).2)),A.tail,ru),(by(refine covers_mk0 rfl rfl ?_ ?_ ?_ ?_<;>simp (disch:=(refine Om.mk ?_;omega)) only[go_sem]<;>(try omega));all_goals first|rfl|exact⟨rfl,rfl⟩|exact⟨rfl,rfl,rfl⟩),⟨⟨hnx.1,hr⟩,fun h=>⟨⟨(hnx.2.1 h).1,fun m hm=>hA1 m (List.mem_of_mem_tail hm)⟩,by have e:=(hnx.2.1 h).2;rw[e] at hcc;exact hcc⟩,fun h=>by have:=hnx.2.2 h;dsimp only;rw[this] at hcc;exact hcc⟩,nx_meas hnx⟩
      ·rw[tst_false hsh] at cH
       rw[trZ_some (imgH_yes hsh)] at hcc
       have hfl:=fitsL_len (SH.map (formR rs SH)) ((syms.getD i default:Nat):Int) (lstS sets l) SH.length
       generalize hS:fitsL (SH.map (formR rs SH)) ((syms.getD i default:Nat):Int) (lstS sets l) SH.length=s at *
       have cP:=termPlace_fc .any .any sets s
       by_cases h300:300≤ru.length
       ·have:ANS=(⟨0,[],[]⟩,false):=by
         refine hno fun h=>?_
         have h1:=congrArg List.length hcc
         rw[List.length_append,List.length_cons] at h1
         have h2:=h.2.2
         omega
        subst this
        repeat' first|exact h.elim|(exfalso;omega)|refine sw_n ?_|refine sw_go 0 kp62 fun K hK=>?_|refine sw_goT 0 kp62 14 (id:=22) (by kernel_rfl) fun K hK=>?_|refine fun (K:KT) (hK:KOk S 0 _ _ _ K)=>?_|refine sw_goD kp62 (by kernel_rfl) fun K hK=>?_|refine runL_g ?_|refine runQ_g ?_|refine sw_retg0 ?_|refine sw_retg ?_|(refine hK.n0 ?_;clear hK K)|refine runG_fk (fun h=>?_) fun h=>?_|refine runQG_fk (fun h=>?_) fun h=>?_|refine sw_condg rfl (fun h=>?_) fun h=>?_|refine hK.skp rfl rfl ?_|refine sw_exit rfl ?_|refine sw_loopEnd ?_|refine hK.c1 rfl rfl rfl (cL) ?_|refine hK.c1 rfl rfl rfl (cH) ?_|refine hK.c1 rfl rfl rfl (cC) ?_|refine hK.c1 rfl rfl rfl (cP) ?_|refine hK.c1 rfl rfl rfl (cN) ?_|refine hK.c1 rfl rfl rfl (cQ) ?_|(refine hK.fork rfl rfl rfl ?_ ?_<;>intro h<;>try simp (disch:=(refine Om.mk ?_;omega)) only[go_sem] at h)|with_reducible refine and_o ?_|((with_reducible refine And.intro ?_ ?_);· first|(intro x hx;subst hx;rfl)|(intro x;refine And.intro ?_ ?_<;>(intros;subst_vars;rfl)))|apply tTT
       ·repeat' first|exact h.elim|(exfalso;omega)|refine sw_n ?_|refine sw_go 0 kp62 fun K hK=>?_|refine sw_goT 0 kp62 14 (id:=22) (by kernel_rfl) fun K hK=>?_|refine fun (K:KT) (hK:KOk S 0 _ _ _ K)=>?_|refine sw_goD kp62 (by kernel_rfl) fun K hK=>?_|refine runL_g ?_|refine runQ_g ?_|refine sw_retg0 ?_|refine sw_retg ?_|(refine hK.n0 ?_;clear hK K)|refine runG_fk (fun h=>?_) fun h=>?_|refine runQG_fk (fun h=>?_) fun h=>?_|refine sw_condg rfl (fun h=>?_) fun h=>?_|refine hK.skp rfl rfl ?_|refine sw_exit rfl ?_|refine sw_loopEnd ?_|refine hK.c1 rfl rfl rfl (cL) ?_|refine hK.c1 rfl rfl rfl (cH) ?_|refine hK.c1 rfl rfl rfl (cC) ?_|refine hK.c1 rfl rfl rfl (cP) ?_|refine hK.c1 rfl rfl rfl (cN) ?_|refine hK.c1 rfl rfl rfl (cQ) ?_|(refine hK.fork rfl rfl rfl ?_ ?_<;>intro h<;>try simp (disch:=(refine Om.mk ?_;omega)) only[go_sem] at h)|with_reducible refine and_o ?_|((with_reducible refine And.intro ?_ ?_);· first|(intro x hx;subst hx;rfl)|(intro x;refine And.intro ?_ ?_<;>(intros;subst_vars;rfl)))|apply tTT
        all_goals exact⟨(((nextL (sets.length:Int) l).1,(nextL (sets.length:Int) l).2),A.tail,ru++[⟨((syms.getD i default:Nat):Int),l,placeI s sets⟩]),(by(refine covers_mk0 rfl rfl ?_ ?_ ?_ ?_<;>simp (disch:=(refine Om.mk ?_;omega)) only[go_sem]<;>(try omega));all_goals first|rfl|exact⟨rfl,rfl⟩|(rw[List.map_append];first|rfl|exact⟨rfl,rfl⟩|exact⟨rfl,rfl,rfl⟩)|decide|(simp;done)|trace_state),⟨⟨hnx.1,by simp only[List.length_append,List.length_singleton];omega⟩,fun h=>⟨⟨(hnx.2.1 h).1,fun m hm=>hA1 m (List.mem_of_mem_tail hm)⟩,by have e:=(hnx.2.1 h).2;rw[e] at hcc;dsimp only;rw[List.append_assoc];exact hcc⟩,fun h=>by have:=hnx.2.2 h;rw[this] at hcc;dsimp only;rw[List.append_assoc];exact hcc⟩,nx_meas hnx⟩
    ·obtain rfl:i=syms.length:=by omega
     have e0:evY rs (syms.drop syms.length) sets.length=[]:=by rw[List.drop_length];rfl
     rw[e0] at hc
     have hru:ru=ALL:=by rw[←hc];exact(List.append_nil _).symm
     subst hru
     have hA:=hy rfl h0 hr
     subst hA
     repeat' first|exact h.elim|(exfalso;omega)|refine sw_n ?_|refine sw_go 0 kp62 fun K hK=>?_|refine sw_goT 0 kp62 14 (id:=22) (by kernel_rfl) fun K hK=>?_|refine fun (K:KT) (hK:KOk S 0 _ _ _ K)=>?_|refine sw_goD kp62 (by kernel_rfl) fun K hK=>?_|refine runL_g ?_|refine runQ_g ?_|refine sw_retg0 ?_|refine sw_retg ?_|(refine hK.n0 ?_;clear hK K)|refine runG_fk (fun h=>?_) fun h=>?_|refine runQG_fk (fun h=>?_) fun h=>?_|refine sw_condg rfl (fun h=>?_) fun h=>?_|refine hK.skp rfl rfl ?_|refine sw_exit rfl ?_|refine sw_loopEnd ?_|(refine hK.fork rfl rfl rfl ?_ ?_<;>intro h<;>try simp (disch:=(refine Om.mk ?_;omega)) only[go_sem] at h)|with_reducible refine and_o ?_|((with_reducible refine And.intro ?_ ?_);· first|(intro x hx;subst hx;rfl)|(intro x;refine And.intro ?_ ?_<;>(intros;subst_vars;rfl)))|apply tTT
     all_goals first|exact⟨rfl,rfl⟩|rfl|trace_state
def kp64:List (Nat×List Nat):=[(0,[1]),(1,[1,3]),(2,[1,3,4]),(3,[1,3,4,10]),(5,[1,3,4]),(4,[1,3,4]),(6,[2])]
attribute [go_sem] kp64 Tryz.results64 Tryz.ntmps64
theorem l24Syms_fc (rs:List Int) (hl:rs.length≤100):FC S 64 [] [] [] [.agg [.sl .any (rs.map (.int .i64))]] (.sl .any ((List.range rs.length).map natD)) [] []:=by
 refine fcb Tryz.func64 fun B=>?_
 refine sw_bnd_aggg 0 0 fun hb0_0=>?_
 repeat' first|exact h.elim|refine sw_n ?_|refine sw_go 0 kp64 fun K hK=>?_|refine fun (K:KT) (hK:KOk S 0 _ _ _ K)=>?_|refine runL_g ?_|refine sw_retg0 ?_|refine sw_retg ?_|(refine hK.n0 ?_;clear hK K)|refine sw_condg rfl (fun h=>?_) fun h=>?_|refine sw_exit rfl ?_|refine sw_loopEnd ?_|with_reducible refine and_o ?_|((with_reducible refine And.intro ?_ ?_);· first|(intro x hx;subst hx;rfl)|(intro x;refine And.intro ?_ ?_<;>(intros;subst_vars;rfl)))|apply tTT
 refine sw_tok 3 17000 2 1 rfl (.inr rfl) rfl ?_
 simp only[go_sem]
 refine sw_loopT (ι:=Nat) (fun i=>[(4,.int .i64 i),(3,.sl (.own 17000 2 1) ((List.range i).map natD))]) (fun _=>[]) (fun _=>[17000]) (fun i=>i≤rs.length) (fun i=>rs.length-i) 0 cvB (Nat.zero_le _) (fun i hi=>?_)
 simp only[go_sem]
 have hrl:(List.range i).length=i:=List.length_range
 by_cases hil:i<rs.length
 ·have hst:(List.range (i+1)).map natD=(List.range i).map natD++[natD i]:=by rw[List.range_succ,List.map_append];rfl
  repeat' first|exact h.elim|(exfalso;omega)|refine sw_n ?_|refine sw_go 0 kp64 fun K hK=>?_|refine fun (K:KT) (hK:KOk S 0 _ _ _ K)=>?_|refine runL_g ?_|refine sw_retg0 ?_|refine sw_retg ?_|(refine hK.n0 ?_;clear hK K)|refine sw_condg rfl (fun h=>?_) fun h=>?_|refine sw_exit rfl ?_|refine sw_loopEnd ?_|with_reducible refine and_o ?_|((with_reducible refine And.intro ?_ ?_);· first|(intro x hx;subst hx;rfl)|(intro x;refine And.intro ?_ ?_<;>(intros;subst_vars;rfl)))|apply tTT
  all_goals exact⟨i+1,(by(refine covers_mk0 rfl rfl ?_ ?_ ?_ ?_<;>simp (disch:=(refine Om.mk ?_;omega)) only[go_sem]<;>(try omega));all_goals first|exact⟨by rw[List.map_append];rfl,by omega⟩|exact⟨by omega,by rw[List.map_append];rfl⟩|(rw[hst];rfl)|(rw[hst];exact⟨rfl,by omega⟩)|(rw[hst];exact⟨by omega,rfl⟩)|trace_state),by omega,by omega⟩
 ·obtain rfl:i=rs.length:=by omega
  repeat' first|exact h.elim|(exfalso;omega)|refine sw_n ?_|refine sw_go 0 kp64 fun K hK=>?_|refine fun (K:KT) (hK:KOk S 0 _ _ _ K)=>?_|refine runL_g ?_|refine sw_retg0 ?_|refine sw_retg ?_|(refine hK.n0 ?_;clear hK K)|refine sw_condg rfl (fun h=>?_) fun h=>?_|refine sw_exit rfl ?_|refine sw_loopEnd ?_|with_reducible refine and_o ?_|((with_reducible refine And.intro ?_ ?_);· first|(intro x hx;subst hx;rfl)|(intro x;refine And.intro ?_ ?_<;>(intros;subst_vars;rfl)))|apply tTT
open Classical in
noncomputable def normR (x:SystemT):AutoT×Bool:=if LeftP x then autoN x.sig (srtM (shpA x.sig (x.rules.map (·.l)) x.rules.length)) (x.rules.map (·.l)) (List.range x.sig.length) else (⟨0,[],[]⟩,false)
theorem normR_yes {x:SystemT} (h:LeftP x):normR x=autoN x.sig (srtM (shpA x.sig (x.rules.map (·.l)) x.rules.length)) (x.rules.map (·.l)) (List.range x.sig.length):=if_pos h
theorem normR_no {x:SystemT} (h:¬LeftP x):normR x=(⟨0,[],[]⟩,false):=if_neg h
theorem LeftP.shp {x:SystemT} (h:LeftP x):ShpOk x.sig (srtM (shpA x.sig (x.rules.map (·.l)) x.rules.length)) (x.rules.map (·.l)):=by
 obtain⟨h1,h2⟩:=h.term
 have hm:∀t,t∈srtM (shpA x.sig (x.rules.map (·.l)) x.rules.length)↔t∈shpA x.sig (x.rules.map (·.l)) (x.rules.map (·.l)).length:=fun t=>by rw[mem_srtM,List.length_map]
 have hl:=shpA_len (rs:=x.sig) (ls:=x.rules.map (·.l)) (fun i hi=>(h2 i hi).2.1.2) _ (Nat.le_refl _)
 refine⟨h.1.1.1,?_,by omega,fun t ht=>?_,fun t ht=>?_⟩
 ·rw[srtM_len]
  rw[List.length_map] at hl h1
  omega
 ·have:=full_shape h2 hm t ht
  exact⟨this.1,this.2.1⟩
 ·obtain⟨i,hi,rfl⟩:=List.getElem_of_mem ht
  have e:(x.rules.map (·.l)).getD i default=(x.rules.map (·.l))[i]:=by rw[List.getD_eq_getElem?_getD,List.getElem?_eq_getElem hi];rfl
  have h3:=full_left h2 hm hi
  rw[e] at h3
  exact⟨by rw[←e];exact h2 i hi,h3⟩
def kp25:List (Nat×List Nat):=[(0,[1,2]),(1,[1,2,7]),(2,[2,3]),(3,[1,2,4]),(4,[2,3])]
attribute [go_sem] kp25 Tryz.results25 Tryz.ntmps25
theorem specNormalAuto_fc (x:SystemT):FC S 25 [] [] [] [SystemD x] (.tup [AutoD (normR x).1,.bool (normR x).2]) [] []:=by
 have cR:=l24Right_fc x
 by_cases hL:LeftP x
 ·rw[tst_true hL] at cR
  rw[normR_yes hL]
  have hO:=hL.shp
  obtain⟨h1,h2⟩:=hL.term
  have hrl:=hO.sg.1.2
  have cLs:=l24Ls_fc x (by rw[List.length_map] at h1;exact h1)
  have cSh:=l24Shapes_fc x.sig (x.rules.map (·.l)) h1 h2
  rw[List.length_map] at cSh
  have cY:=l24Syms_fc x.sig (by omega)
  have cA:=l24Auto_fc x.sig _ _ hO (List.range x.sig.length) (fun f hf=>List.mem_range.1 hf) (by rw[List.length_range];omega)
  refine fcb Tryz.func25 fun B=>?_
  repeat' first|exact h.elim|(exfalso;omega)|refine sw_n ?_|refine sw_go 0 kp25 fun K hK=>?_|refine sw_goT 0 kp25 13 (id:=4) (by kernel_rfl) fun K hK=>?_|refine fun (K:KT) (hK:KOk S 0 _ _ _ K)=>?_|refine sw_goD kp25 (by kernel_rfl) fun K hK=>?_|refine runL_g ?_|refine runQ_g ?_|refine sw_retg0 ?_|refine sw_retg ?_|(refine hK.n0 ?_;clear hK K)|refine sw_condg rfl (fun h=>?_) fun h=>?_|refine sw_loopEnd ?_|refine hK.c1 rfl rfl rfl (cR) ?_|refine hK.c1 rfl rfl rfl (cLs) ?_|refine hK.c1 rfl rfl rfl (cSh) ?_|refine hK.c1 rfl rfl rfl (cY) ?_|refine hK.c1 rfl rfl rfl (cA) ?_|with_reducible refine and_o ?_|((with_reducible refine And.intro ?_ ?_);· first|(intro x hx;subst hx;rfl)|(intro x;refine And.intro ?_ ?_<;>(intros;subst_vars;rfl)))|apply tTT
  all_goals first|exact⟨rfl,rfl⟩|rfl|trace_state
 ·rw[tst_false hL] at cR
  rw[normR_no hL]
  refine fcb Tryz.func25 fun B=>?_
  repeat' first|exact h.elim|refine sw_n ?_|refine sw_go 0 kp25 fun K hK=>?_|refine sw_goT 0 kp25 13 (id:=4) (by kernel_rfl) fun K hK=>?_|refine fun (K:KT) (hK:KOk S 0 _ _ _ K)=>?_|refine sw_goD kp25 (by kernel_rfl) fun K hK=>?_|refine runL_g ?_|refine runQ_g ?_|refine sw_retg0 ?_|refine sw_retg ?_|(refine hK.n0 ?_;clear hK K)|refine sw_condg rfl (fun h=>?_) fun h=>?_|refine sw_loopEnd ?_|refine hK.c1 rfl rfl rfl (cR) ?_|with_reducible refine and_o ?_|((with_reducible refine And.intro ?_ ?_);· first|(intro x hx;subst hx;rfl)|(intro x;refine And.intro ?_ ?_<;>(intros;subst_vars;rfl)))|apply tTT
end
section
attribute [local irreducible] SW runL runQ runG runQG FC FCw Ret1 RetN toF redoL anyB
def NumsOk (s:List Int):Prop:=(∀x∈s,0≤x∧x≤100000)∧s.length≤1000
def keyB (s:List Int):Int×ByteArray:=((s.length:Int),txtB s)
theorem key_inj {s t:List Int} (hs:NumsOk s) (ht:NumsOk t) (h:keyB s=keyB t):s=t :=
 txt_inj (fun x hx=>(hs.1 x hx).1) (fun x hx=>(ht.1 x hx).1) (congrArg Prod.snd h)
theorem key_good {s:List Int} (hs:NumsOk s):GoodK .i64 (keyB s):=goodK hs.1 hs.2
def keyM:Nat→List (List Int)→List ((Int×ByteArray)×Int)
 | _,[]=>[]
 | n,s::r=>(keyB s,(n:Int))::keyM (n+1) r
theorem keyM_snoc (s:List Int):∀(n:Nat) (out:List (List Int)),keyM n (out++[s])=keyM n out++[(keyB s,((n+out.length:Nat):Int))]
 | n,[]=>rfl
 | n,x::r=>by
  rw[List.cons_append,keyM,keyM,keyM_snoc s (n+1) r,List.cons_append,List.length_cons,show n+1+r.length=n+(r.length+1) by omega]
theorem keyM_good:∀(n:Nat) (out:List (List Int)),(∀s∈out,NumsOk s)→∀p∈keyM n out,GoodK .i64 p.1
 | n,[],_,p,hp=>by cases hp
 | n,x::r,h,p,hp=>by
  rcases List.mem_cons.1 hp with rfl|hp
  ·exact key_good (h x List.mem_cons_self)
  ·exact keyM_good (n+1) r (fun s hs=>h s (List.mem_cons_of_mem _ hs)) p hp
theorem findS_key {s:List Int} (hs:NumsOk s):∀(n:Nat) (out:List (List Int)),(∀x∈out,NumsOk x)→findS (keyM n out) (keyB s)=if s∈out then some ((n+out.idxOf s:Nat):Int) else none
 | n,[],_=>rfl
 | n,x::r,h=>by
  have ih:=findS_key hs (n+1) r fun y hy=>h y (List.mem_cons_of_mem _ hy)
  by_cases hx:x=s
  ·subst hx
   simp[findS,keyM]
  ·have hm:¬keyB x=keyB s:=fun e=>hx (key_inj (h x List.mem_cons_self) hs e)
   have e:findS (keyM n (x::r)) (keyB s)=findS (keyM (n+1) r) (keyB s):=by
    unfold findS
    rw[keyM,List.find?_cons_of_neg (by simpa using hm)]
   rw[e,ih,List.idxOf_cons,show (x==s)=false from by simpa using hx,cond_false]
   by_cases hr:s∈r
   ·rw[if_pos hr,if_pos (List.mem_cons_of_mem _ hr)]
    congr 2;omega
   ·rw[if_neg hr,if_neg (fun h1=>(List.mem_cons.1 h1).elim (fun e=>hx e.symm) hr)]
def evK (rs sk:List Int) (n:Nat):Nat→List (Nat×List Int)
 | 0=>[]
 | k+1=>(if ((rs.length-(k+1):Nat):Int)∈sk then [] else evF rs n (rs.length-(k+1)))++evK rs sk n k
def symsK (rs sk:List Int):List Nat:=(List.range rs.length).filter fun (f:Nat)=>decide ((f:Int)∉sk)
theorem evK_all (rs sk:List Int) (n:Nat):evK rs sk n rs.length=evY rs (symsK rs sk) n:=by
 have key:∀k≤rs.length,evK rs sk n k=(((List.range k).map fun i=>rs.length-k+i).filter fun (f:Nat)=>decide ((f:Int)∉sk)).flatMap (evF rs n):=fun k=>by
  induction k with
  | zero=>intro _;rfl
  | succ k ih =>
   intro hk
   have e1:((List.range (k+1)).map fun i=>rs.length-(k+1)+i)=(rs.length-(k+1))::((List.range k).map fun i=>rs.length-k+i):=by
    rw[List.range_succ_eq_map,List.map_cons,Nat.add_zero,List.map_map]
    congr 1
    refine List.map_congr_left fun i _=>?_
    simp only[Function.comp]
    omega
   rw[e1,evK,ih (by omega)]
   by_cases h:((rs.length-(k+1):Nat):Int)∈sk
   ·rw[if_pos h,List.filter_cons,if_neg (by simpa using h),List.nil_append]
   ·rw[if_neg h,List.filter_cons,if_pos (by simpa using h),List.flatMap_cons]
 have h:=key rs.length (Nat.le_refl _)
 rw[h]
 unfold evY symsK
 simp
theorem evK_len {rs sk:List Int} (h:∀f<rs.length,0≤rs.getD f default∧rs.getD f default≤3) {n:Nat} (hn:n≤16):∀k≤rs.length,(evK rs sk n k).length≤5000*k
 | 0,_=>by simp[evK]
 | k+1,hk=>by
  have ih:=evK_len (sk:=sk) h hn k (by omega)
  have hf:=h (rs.length-(k+1)) (by omega)
  have h1:(evF rs n (rs.length-(k+1))).length≤4096:=by
   unfold evF
   split
   ·simp
   ·rename_i h0
    rw[List.length_map]
    rcases Nat.eq_zero_or_pos n with hz|hz
    ·have:(rs.getD (rs.length-(k+1)) default).toNat=0:=by omega
     rw[this]
     simp[digs,allD]
    ·rw[digs_len hz]
     have h3:(rs.getD (rs.length-(k+1)) default).toNat≤3:=by omega
     calc n^(rs.getD (rs.length-(k+1)) default).toNat≤n^3:=Nat.pow_le_pow_right hz h3
      _≤16^3:=Nat.pow_le_pow_left hn 3
      _=4096:=by decide
  rw[evK,List.length_append]
  split
  ·simp only[List.length_nil];omega
  ·omega
end
end Go.Proofs.YtkfkdgginfpdnaaGreatDoor
