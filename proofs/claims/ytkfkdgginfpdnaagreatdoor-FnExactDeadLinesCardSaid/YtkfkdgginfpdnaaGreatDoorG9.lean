/-
  N7, S4k, S4l, one behind the other.
-/
import Derived.Test.YtkfkdgginfpdnaaGreatDoorG8
import Derived.Test.YtkfkdgginfpdnaaGreatDoorG6
import Derived.Test.YtkfkdgginfpdnaaGreatDoorG1
import Derived.Test.YtkfkdgginfpdnaaGreatDoorG3
import Derived.Test.YtkfkdgginfpdnaaGreatDoorG2
import Derived.Test.YtkfkdgginfpdnaaGreatDoorLgK19
import Derived.Test.YtkfkdgginfpdnaaGreatDoorLgK20
import Derived.Test.YtkfkdgginfpdnaaGreatDoorLgK10
import Derived.Test.YtkfkdgginfpdnaaGreatDoorLgK7
namespace Go.Proofs.YtkfkdgginfpdnaaGreatDoor
open Go Go.Lg
set_option linter.unusedSimpArgs false
set_option linter.unusedVariables false
set_option maxHeartbeats 4000000
section
attribute [local irreducible] SW runL runQ runG runQG FC FCw Ret1 RetN toF redoL anyB
attribute [local go_sem] formD
def shC (rs:List Int) (LF SF:List FormT) (sk:List Int) (K:Nat) (out:List (List Int)) (nm:D):List D:=[.sl .any (rs.map (.int .i64)),.sl .any (LF.map formD),.sl .any (SF.map formD),.sl .any (sk.map (.int .i64)),.sl (.own K 22 1) (out.map IntsD),nm]
def FormsOk (f:Int) (n:Nat) (LF:List FormT):Prop:=LF.length≤1000∧∀i<LF.length,(LF.getD i default).args.length≤3∧((LF.getD i default).head=f→(LF.getD i default).args.length≤n)
theorem imgN_no {LF SF:List FormT} {f:Nat} {args:List (List Int)} (h:∃i,i<LF.length∧FitF (LF.getD i default) f args):imgN LF SF f args=none:=by
 obtain⟨i,hi,h⟩:=h
 exact if_pos ⟨_,getD_mem LF i hi,h⟩
theorem imgN_yes {LF SF:List FormT} {f:Nat} {args:List (List Int)} (h:∀i<LF.length,¬FitF (LF.getD i default) f args):imgN LF SF f args=some (fitsL SF f args SF.length):=by
 refine if_neg fun⟨x,hx,hf⟩=>?_
 obtain⟨i,hi,rfl⟩:=List.getElem_of_mem hx
 exact h i hi (by rw[List.getD_eq_getElem?_getD,List.getElem?_eq_getElem hi];exact hf)
attribute [local go_sem] shC
def kp167:List (Nat×List Nat):=[(0,[0,1,2]),(1,[0,1,2,8]),(2,[0,1,8,16,17,18]),(3,[0,1,8,16,17,18,19]),(4,[0,1,8,10,16,17,18]),(5,[0,1,8,16,17,18]),(6,[0,1,8,16,17,18]),(7,[0,1,8,36,37,38]),(8,[0,1,8,36,37,38,39]),(9,[0,1,8,12,36,37,38]),(10,[0,1,8,36,37,38,45]),(11,[6,7]),(12,[0,1,8,36,37,38]),(13,[0,1,8,13]),(14,[1,8,13,50,51,52]),(15,[1,8,13,50,51,52,53]),(16,[1,8,13,14,15,50,51,52]),(17,[1,8,13,14,50,51,52,60]),(18,[1,8,13,50,51,52]),(19,[1,8,13,50,51,52]),(20,[6,7])]
attribute [go_sem] kp167 Tryz.results167 Tryz.ntmps167
theorem result_fc (rs:List Int) (LF SF:List FormT) (out:List (List Int)) (m n0:Nat) (es:List (Value×Value)) (sk:List Int) (f:Nat) (n:Nat) (l:List Int) (hn:n=l.length) (hl3:l.length≤3) (hlb:∀i<l.length,0≤l.getD i default∧l.getD i default<out.length) (hLF:FormsOk f l.length LF) (hSF:FormsOk f l.length SF) (ho:out.length≤17) (R:Option (List Int)) (hR:imgN LF SF f (lstS out l)=R):FC S 167 [(500,shC rs LF SF sk 501 out (mpd m n0 es)),(45,l.map (.int .i64))] [] [] [.box 500 0,.int .i64 f,.ms 45 n] (.tup [.sl .any ((R.getD []).map (.int .i64)),.bool R.isSome]) [] []:=by
 subst hn
 have hll:=lst_len out l
 have hl1:=hLF.1
 refine fcb Tryz.func167 fun B=>?_
 simp only[go_sem]
 repeat' first|exact h.elim|(exfalso;omega)|refine sw_n ?_|refine sw_go 0 kp167 fun K hK=>?_|refine fun (K:KT) (hK:KOk S 0 _ _ _ K)=>?_|refine runL_g ?_|refine sw_retg0 ?_|refine sw_retg ?_|(refine hK.n0 ?_;clear hK K)|refine sw_condg rfl (fun h=>?_) fun h=>?_|refine sw_exit rfl ?_|refine sw_loopEnd ?_|with_reducible refine and_o ?_|((with_reducible refine And.intro ?_ ?_);· first|(intro x hx;subst hx;rfl)|(intro x;refine And.intro ?_ ?_<;>(intros;subst_vars;rfl)))|apply tTT
 refine sw_tok 8 32000 22 1 rfl (.inl rfl) (by simp[LS.purge,LS.clean,mapA,pu1_c,mpd,D.pu,D.pu1,D.tks,D.tksL,tksL_i,pu1_i]) ?_
 simp only[go_sem]
 refine sw_loopT (ι:=Nat) (fun i=>[(18,.int .i64 i),(8,.sl (.own 32000 22 1) ((lstS out (l.take i)).map IntsD))]) (fun _=>[]) (fun _=>[32000]) (fun i=>i≤l.length) (fun i=>l.length-i) 0 cvB (Nat.zero_le _) (fun i hi=>?_)
 simp only[go_sem]
 have hjl:=lst_len out (l.take i)
 rw[List.length_take] at hjl
 by_cases hil:i<l.length
 ·have hx:=hlb i hil
  have hst:=lst_snoc out (l:=l) hil
  repeat' first|exact h.elim|(exfalso;omega)|refine sw_n ?_|refine sw_go 0 kp167 fun K hK=>?_|refine fun (K:KT) (hK:KOk S 0 _ _ _ K)=>?_|refine runL_g ?_|refine sw_retg0 ?_|refine sw_retg ?_|(refine hK.n0 ?_;clear hK K)|refine sw_condg rfl (fun h=>?_) fun h=>?_|refine sw_exit rfl ?_|refine sw_loopEnd ?_|with_reducible refine and_o ?_|((with_reducible refine And.intro ?_ ?_);· first|(intro x hx;subst hx;rfl)|(intro x;refine And.intro ?_ ?_<;>(intros;subst_vars;rfl)))|apply tTT
  all_goals exact⟨i+1,(by(refine covers_mk0 rfl rfl ?_ ?_ ?_ ?_<;>simp (disch:=(refine Om.mk ?_;omega)) only[go_sem]<;>(try omega));all_goals first|exact⟨by rw[hst,List.map_append];rfl,by omega⟩|(rw[hst,List.map_append];rfl)|trace_state),by omega,by omega⟩
 ·obtain rfl:i=l.length:=by omega
  rw[List.take_of_length_le (Nat.le_refl _)]
  clear hjl
  repeat' first|exact h.elim|(exfalso;omega)|refine sw_n ?_|refine sw_go 0 kp167 fun K hK=>?_|refine fun (K:KT) (hK:KOk S 0 _ _ _ K)=>?_|refine runL_g ?_|refine sw_retg0 ?_|refine sw_retg ?_|(refine hK.n0 ?_;clear hK K)|refine sw_condg rfl (fun h=>?_) fun h=>?_|refine sw_exit rfl ?_|refine sw_loopEnd ?_|with_reducible refine and_o ?_|((with_reducible refine And.intro ?_ ?_);· first|(intro x hx;subst hx;rfl)|(intro x;refine And.intro ?_ ?_<;>(intros;subst_vars;rfl)))|apply tTT
  refine sw_loopT (ι:=Nat) (fun i=>[(38,.int .i64 i)]) (fun _=>[]) (fun _=>[32000]) (fun i=>i≤LF.length∧∀j<i,¬FitF (LF.getD j default) f (lstS out l)) (fun i=>LF.length-i) 0 cvB ⟨Nat.zero_le _,fun j hj=>absurd hj (Nat.not_lt_zero _)⟩ (fun i hi=>?_)
  obtain⟨hi,hj⟩:=hi
  simp only[go_sem]
  by_cases hil:i<LF.length
  ·have hLi:=hLF.2 i hil
   have cF:=fits_fc (.own 32000 22 1) (LF.getD i default) f (lstS out l) hLi.1 (fun e=>by rw[hll];exact hLi.2 e)
   by_cases hf:FitF (LF.getD i default) f (lstS out l)
   ·rw[tst_true hf] at cF
    obtain rfl:none=R:=by rw[←hR,imgN_no ⟨i,hil,hf⟩]
    repeat' first|exact h.elim|(exfalso;omega)|refine sw_n ?_|refine sw_go 0 kp167 fun K hK=>?_|refine fun (K:KT) (hK:KOk S 0 _ _ _ K)=>?_|refine runL_g ?_|refine sw_retg0 ?_|refine sw_retg ?_|(refine hK.n0 ?_;clear hK K)|refine sw_condg rfl (fun h=>?_) fun h=>?_|refine sw_exit rfl ?_|refine sw_loopEnd ?_|refine hK.c1 rfl rfl rfl (cF) ?_|with_reducible refine and_o ?_|((with_reducible refine And.intro ?_ ?_);· first|(intro x hx;subst hx;rfl)|(intro x;refine And.intro ?_ ?_<;>(intros;subst_vars;rfl)))|apply tTT
    all_goals trace_state
   ·rw[tst_false hf] at cF
    repeat' first|exact h.elim|(exfalso;omega)|refine sw_n ?_|refine sw_go 0 kp167 fun K hK=>?_|refine fun (K:KT) (hK:KOk S 0 _ _ _ K)=>?_|refine runL_g ?_|refine sw_retg0 ?_|refine sw_retg ?_|(refine hK.n0 ?_;clear hK K)|refine sw_condg rfl (fun h=>?_) fun h=>?_|refine sw_exit rfl ?_|refine sw_loopEnd ?_|refine hK.c1 rfl rfl rfl (cF) ?_|with_reducible refine and_o ?_|((with_reducible refine And.intro ?_ ?_);· first|(intro x hx;subst hx;rfl)|(intro x;refine And.intro ?_ ?_<;>(intros;subst_vars;rfl)))|apply tTT
    all_goals exact⟨i+1,cvB,⟨by omega,upto_succ hj hf⟩,by omega⟩
  ·obtain rfl:i=LF.length:=by omega
   obtain rfl:some (fitsL SF f (lstS out l) SF.length)=R:=by rw[←hR,imgN_yes hj]
   repeat' first|exact h.elim|(exfalso;omega)|refine sw_n ?_|refine sw_go 0 kp167 fun K hK=>?_|refine fun (K:KT) (hK:KOk S 0 _ _ _ K)=>?_|refine runL_g ?_|refine sw_retg0 ?_|refine sw_retg ?_|(refine hK.n0 ?_;clear hK K)|refine sw_condg rfl (fun h=>?_) fun h=>?_|refine sw_exit rfl ?_|refine sw_loopEnd ?_|with_reducible refine and_o ?_|((with_reducible refine And.intro ?_ ?_);· first|(intro x hx;subst hx;rfl)|(intro x;refine And.intro ?_ ?_<;>(intros;subst_vars;rfl)))|apply tTT
   refine sw_tok 13 65000 2 1 rfl (.inl rfl) (by simp[LS.purge,LS.clean,mapA,pu1_c,mpd,D.pu,D.pu1,D.tks,D.tksL,tksL_i,pu1_i]) ?_
   simp only[go_sem]
   refine sw_loopT (ι:=Nat) (fun i=>[(52,.int .i64 i),(13,.sl (.own 65000 2 1) ((fitsL SF f (lstS out l) i).map (.int .i64)))]) (fun _=>[]) (fun _=>[65000,32000]) (fun i=>i≤SF.length) (fun i=>SF.length-i) 0 cvB (Nat.zero_le _) (fun i hi=>?_)
   simp only[go_sem]
   have hfl:=fitsL_len SF f (lstS out l) i
   have hs1:=hSF.1
   by_cases hil:i<SF.length
   ·have hLi:=hSF.2 i hil
    have cF:=fits_fc (.own 32000 22 1) (SF.getD i default) f (lstS out l) hLi.1 (fun e=>by rw[hll];exact hLi.2 e)
    by_cases hf:FitF (SF.getD i default) f (lstS out l)
    ·rw[tst_true hf] at cF
     have hs:=fitsL_yes (SF:=SF) (i:=i) hf
     repeat' first|exact h.elim|(exfalso;omega)|refine sw_n ?_|refine sw_go 0 kp167 fun K hK=>?_|refine fun (K:KT) (hK:KOk S 0 _ _ _ K)=>?_|refine runL_g ?_|refine sw_retg0 ?_|refine sw_retg ?_|(refine hK.n0 ?_;clear hK K)|refine sw_condg rfl (fun h=>?_) fun h=>?_|refine sw_exit rfl ?_|refine sw_loopEnd ?_|refine hK.c1 rfl rfl rfl (cF) ?_|with_reducible refine and_o ?_|((with_reducible refine And.intro ?_ ?_);· first|(intro x hx;subst hx;rfl)|(intro x;refine And.intro ?_ ?_<;>(intros;subst_vars;rfl)))|apply tTT
     all_goals first|exact⟨i+1,(by(refine covers_mk0 rfl rfl ?_ ?_ ?_ ?_<;>simp (disch:=(refine Om.mk ?_;omega)) only[go_sem]<;>(try omega));all_goals first|(rw[hs,List.map_append];rfl)|exact⟨hs.symm,by omega⟩|exact⟨by rw[hs,List.map_append];rfl,by omega⟩|decide|trace_state),by omega,by omega⟩|trace_state
    ·rw[tst_false hf] at cF
     have hs:=fitsL_no (SF:=SF) (i:=i) hf
     repeat' first|exact h.elim|(exfalso;omega)|refine sw_n ?_|refine sw_go 0 kp167 fun K hK=>?_|refine fun (K:KT) (hK:KOk S 0 _ _ _ K)=>?_|refine runL_g ?_|refine sw_retg0 ?_|refine sw_retg ?_|(refine hK.n0 ?_;clear hK K)|refine sw_condg rfl (fun h=>?_) fun h=>?_|refine sw_exit rfl ?_|refine sw_loopEnd ?_|refine hK.c1 rfl rfl rfl (cF) ?_|with_reducible refine and_o ?_|((with_reducible refine And.intro ?_ ?_);· first|(intro x hx;subst hx;rfl)|(intro x;refine And.intro ?_ ?_<;>(intros;subst_vars;rfl)))|apply tTT
     all_goals first|exact⟨i+1,(by(refine covers_mk0 rfl rfl ?_ ?_ ?_ ?_<;>simp (disch:=(refine Om.mk ?_;omega)) only[go_sem]<;>(try omega));all_goals first|(rw[hs];done)|exact⟨by rw[hs],by omega⟩|decide|trace_state),by omega,by omega⟩|trace_state
   ·obtain rfl:i=SF.length:=by omega
    repeat' first|exact h.elim|(exfalso;omega)|refine sw_n ?_|refine sw_go 0 kp167 fun K hK=>?_|refine fun (K:KT) (hK:KOk S 0 _ _ _ K)=>?_|refine runL_g ?_|refine sw_retg0 ?_|refine sw_retg ?_|(refine hK.n0 ?_;clear hK K)|refine sw_condg rfl (fun h=>?_) fun h=>?_|refine sw_exit rfl ?_|refine sw_loopEnd ?_|with_reducible refine and_o ?_|((with_reducible refine And.intro ?_ ?_);· first|(intro x hx;subst hx;rfl)|(intro x;refine And.intro ?_ ?_<;>(intros;subst_vars;rfl)))|apply tTT
    all_goals first|exact⟨rfl,rfl⟩|rfl|trace_state
end
section
attribute [local irreducible] SW runL runQ runG runQG FC Ret1 RetN toF redoL anyB
theorem lops_id {S:Setup} {B:Base} {ops:Array Oper} {l:List Oper} {L:LS} {N:LS→Prop} (h:LopsW S B ops l L N):LopsW S B ops l L N:=h
def repC (v:Int) (n p:Nat):List Int:=List.replicate p v++List.replicate (n-p) 0
theorem repC_len (v:Int) {n p:Nat} (h:p≤n):(repC v n p).length=n:=by simp[repC];omega
theorem repC_all (v:Int) (n:Nat):repC v n n=List.replicate n v:=by simp[repC]
theorem putC_int (a b:List Int) (k:Nat):putCells (a.map (.int .i64)) k (b.map (.int .i64))=(a.take k++b++a.drop (k+b.length)).map (.int .i64):=by
 simp[putCells,List.map_take,List.map_drop]
theorem repC_step (v:Int) {n p m:Nat} (h:p≤n) (hm:m≤p) (hn:p+m≤n):(repC v n p).take p++(repC v n p).take m++(repC v n p).drop (p+((repC v n p).take m).length)=repC v n (p+m):=by
 have h1:(repC v n p).take p=List.replicate p v:=by
  unfold repC;rw[List.take_left' (by simp)]
 have h2:(repC v n p).take m=List.replicate m v:=by
  unfold repC
  rw[List.take_append_of_le_length (by simpa using hm),List.take_replicate,Nat.min_eq_left hm]
 have h3:(repC v n p).drop (p+m)=List.replicate (n-(p+m)) 0:=by
  unfold repC
  rw[List.drop_append,List.length_replicate,List.drop_of_length_le (by simp),List.nil_append,List.drop_replicate]
  congr 1;omega
 rw[h1,h2,List.length_replicate,h3]
 unfold repC
 rw[List.replicate_append_replicate]
theorem repC_start (v:Int) {n:Nat} (h:0<n):(List.replicate n (0:Int)).take 0++[v]++(List.replicate n (0:Int)).drop (0+1)=repC v n 1:=by
 simp[repC,List.drop_replicate]
def kp186:List (Nat×List Nat):=[(0,[0,1]),(1,[0,1,6]),(2,[0,1,6,7]),(3,[0,1,6,7,8]),(4,[0,1,6,7,8,9]),(5,[0,1,6,7,8,9,10]),(6,[0,1,6,7,9,11]),(7,[0,1,6,7,9,11,12]),(8,[0,1,6,7,9,12,13]),(9,[0,1,7,9,12,13]),(10,[0,1,4]),(11,[4,5])]
attribute [go_sem] kp186 Tryz.results186 Tryz.ntmps186
theorem mul64_fc (n:Nat) (hn:n<65):FC S 186 [] [] [] [.int .u64 1,.int .u64 n] (.tup [.int .u64 0,.int .u64 n]) [] []:=by
 have key:∀m:Nat,m<65→IntKind.wrap .u64 (1*(m:Int))=m:=by decide
 refine fcb Tryz.func186 fun B=>?_
 repeat' first|refine sw_n ?_|refine sw_go 0 kp186 fun K hK=>?_|refine fun (K:KT) (hK:KOk S 0 _ _ _ K)=>?_|refine runL_g ?_|refine sw_retg0 ?_|refine sw_retg ?_|(refine hK.n0 ?_;clear hK K)|with_reducible refine and_o ?_|apply tTT
 all_goals ((repeat clear hK K);revert n;decide)
def kp169:List (Nat×List Nat):=[(0,[0,1]),(1,[6,7]),(2,[4,5]),(3,[8,9]),(4,[4,5])]
attribute [go_sem] kp169 Tryz.results169 Tryz.ntmps169
theorem mul_fc (n:Nat) (hn:n<65):FC S 169 [] [] [] [.int .u64 1,.int .u64 n] (.tup [.int .u64 0,.int .u64 n]) [] []:=by
 refine fcb Tryz.func169 fun B=>?_
 repeat' first|(refine sw_cond (b:=false) rfl (fun h=>by cases h) fun _=>?_)|refine sw_n ?_|refine sw_go 0 kp169 fun K hK=>?_|refine fun (K:KT) (hK:KOk S 0 _ _ _ K)=>?_|refine runL_g ?_|refine sw_retg0 ?_|refine sw_retg ?_|(refine hK.n0 ?_;clear hK K)|refine hK.c1 rfl rfl rfl (mul64_fc n hn) ?_|with_reducible refine and_o ?_|apply tTT
def kp152:List (Nat×List Nat):=[(0,[0,1]),(1,[0,1,10]),(2,[0,1]),(3,[0,5,6]),(4,[0,6,26]),(5,[0,6]),(6,[0,7]),(7,[7,8]),(8,[7,8,37]),(9,[7,8]),(10,[4])]
attribute [go_sem] kp152 Tryz.results152 Tryz.ntmps152
theorem repeat_fc (tk:Tk) (v:Int) (n:Nat) (h0:0<n) (hn:n<65):FC S 152 [] [] [] [.sl tk ([v].map (.int .i64)),.int .i64 n] (.ms 30 n) [(30,(List.replicate n v).map (.int .i64))] []:=by
 refine fcb Tryz.func152 fun B=>?_
 repeat' first|exact h.elim|(exfalso;omega)|(refine sw_goAt (id:=7) 0 kp152 2 rfl fun K hK=>?_)|refine sw_n ?_|refine sw_go 0 kp152 fun K hK=>?_|refine fun (K:KT) (hK:KOk S 0 _ _ _ K)=>?_|refine sw_goD kp152 (by kernel_rfl) fun K hK=>?_|refine runL_g ?_|refine runQ_g ?_|refine sw_retg0 ?_|refine sw_retg ?_|(refine hK.n0 ?_;clear hK K)|refine runG_fk (fun h=>?_) fun h=>?_|refine runQG_fk (fun h=>?_) fun h=>?_|refine sw_condg rfl (fun h=>?_) fun h=>?_|refine hK.skp rfl rfl ?_|refine sw_exit rfl ?_|refine sw_loopEnd ?_|refine hK.c1 rfl rfl rfl (mul_fc n hn) ?_|(refine hK.fork rfl rfl rfl ?_ ?_<;>intro h<;>try simp (disch:=(refine Om.mk ?_;omega)) only[go_sem] at h)|with_reducible refine and_o ?_|((with_reducible refine And.intro ?_ ?_);· first|(intro x hx;subst hx;rfl)|exact upR_mem fun _ _=>rfl|exact mapR_mem fun _ _=>rfl|(intro x;refine And.intro ?_ ?_<;>(intros;subst_vars;rfl)))|apply tTT
 rw[flatten_one,←List.map_replicate (f:=D.int .i64)]
 refine LopsW.copyL (id:=30) (n:=n) (ys:=[v]) rfl rfl rfl (by simp) rfl rfl rfl ⟨by simp;omega,by simp;omega⟩ (by simp only[Nat.reduceLT]) (LopsW.nil ?_)
 rw[putC_int,List.length_singleton,repC_start v h0]
 refine fun (K:List Oper→LS→Prop) (hK:KOk S 0 _ _ _ K)=>?_
 simp only[go_sem]
 repeat' first|exact h.elim|refine sw_n ?_|refine sw_go 0 kp152 fun K hK=>?_|refine fun (K:KT) (hK:KOk S 0 _ _ _ K)=>?_|refine sw_goD kp152 (by kernel_rfl) fun K hK=>?_|refine runL_g ?_|refine runQ_g ?_|refine sw_retg0 ?_|refine sw_retg ?_|(refine hK.n0 ?_;clear hK K)|refine runG_fk (fun h=>?_) fun h=>?_|refine runQG_fk (fun h=>?_) fun h=>?_|refine sw_condg rfl (fun h=>?_) fun h=>?_|refine hK.skp rfl rfl ?_|refine sw_exit rfl ?_|refine sw_loopEnd ?_|(refine hK.fork rfl rfl rfl ?_ ?_<;>intro h<;>try simp (disch:=(refine Om.mk ?_;omega)) only[go_sem] at h)|with_reducible refine and_o ?_|((with_reducible refine And.intro ?_ ?_);· first|(intro x hx;subst hx;rfl)|exact upR_mem fun _ _=>rfl|exact mapR_mem fun _ _=>rfl|(intro x;refine And.intro ?_ ?_<;>(intros;subst_vars;rfl)))|apply tTT
 refine sw_loopU (ι:=Nat) (fun p=>[(7,.ms 30 n),(8,.int .i64 p)]) (fun p=>[(30,(repC v n p).map (.int .i64))]) (fun p=>1≤p∧p≤n) (fun p=>n-p) 1 cvA ?_ (fun p hp=>?_)
 rotate_left
 simp only[go_sem]
 obtain⟨hp1,hp2⟩:=hp
 have hcl:=repC_len v hp2
 by_cases hpn:p<n
 ·have hm1:Nat.min p (n-p)≤p:=Nat.min_le_left _ _
  have hm2:Nat.min p (n-p)≤n-p:=Nat.min_le_right _ _
  have hm3:1≤Nat.min p (n-p):=Nat.le_min.2 ⟨by omega,by omega⟩
  have hst:=repC_step v hp2 hm1 (by omega)
  repeat' first|exact h.elim|(exfalso;omega)|(refine sw_any (id:=9) kp152 [(true,[]),(true,[]),(true,[]),(false,[1,2]),(true,[]),(true,[]),(false,[4,5]),(false,[3,6]),(false,[0,7]),(false,[8,7,0,1,2,3,4,5,6,7,8])] ⟨48,[(7,.ms 30 n),(8,.int .i64 ((p:Int)+(Nat.min p (n-p):Nat)))],[(30,(repC v n (p+Nat.min p (n-p))).map (.int .i64))],[],[],[]⟩ (by kernel_rfl) ?_ ?_;simp only[List.length_cons,List.length_nil,Nat.reduceAdd])|(with_reducible refine lops_id ?_;refine LopsW.sliceMv (i:=p) (n:=n) rfl rfl hpn rfl rfl rfl (by simp only[Nat.reduceLT]) (LopsW.nil ?_);simp only[go_sem])|(with_reducible refine lops_id ?_;refine LopsW.copyM (off:=p) (n:=n-p) (m:=p) (ys:=repC v n p) rfl rfl rfl rfl rfl rfl (by omega) (by simp only[Nat.reduceLT]) (LopsW.nil ?_);rw[putC_int,hst];simp only[go_sem])|(refine anyB_unf ?_;simp only[stepF_n,stepF_c,goR_n,goR_c,exR_n,exR_c,memB_n,memB_c,subB_n,subB_c,moveY_m,moveY_f,moveY_i,cond_t,cond_f,true_and,and_true,Bool.not_false,Bool.not_true,Bool.and_true,Bool.and_false,Bool.true_and,Bool.false_and,Bool.or_false,Bool.false_or,Bool.true_or,Bool.or_true,Nat.reduceBEq,Nat.reduceAdd])|(refine anyB_move (by simp only[Nat.reduceLT]) rfl (by simp only[go_sem];exact rfl) ?_)|(refine anyB_fa (by simp only[Nat.reduceLT]) rfl rfl rfl rfl (by decide) (by simp only[go_sem];exact rfl) ?_)|(refine hK.nil (anyB_id ?_);clear hK K)|(refine lops_and ?_ ?_)|(refine lops_go 0 ?_;refine fun (K:List Oper→LS→Prop) (hK:KOk S 0 _ _ _ K)=>?_;simp (disch:=(refine Om.mk ?_;omega)) only[go_sem])|(refine anyB_end ?_;simp (disch:=(refine Om.mk ?_;omega)) only[go_sem];(refine covers_mk0 rfl rfl ?_ ?_ ?_ ?_<;>simp (disch:=(refine Om.mk ?_;omega)) only[go_sem]<;>(try omega));done)|refine sw_n ?_|refine sw_go 0 kp152 fun K hK=>?_|refine fun (K:KT) (hK:KOk S 0 _ _ _ K)=>?_|refine sw_goD kp152 (by kernel_rfl) fun K hK=>?_|refine runL_g ?_|refine runQ_g ?_|refine sw_retg0 ?_|refine sw_retg ?_|(refine hK.n0 ?_;clear hK K)|refine runG_fk (fun h=>?_) fun h=>?_|refine runQG_fk (fun h=>?_) fun h=>?_|refine sw_condg rfl (fun h=>?_) fun h=>?_|refine hK.skp rfl rfl ?_|refine sw_exit rfl ?_|refine sw_loopEnd ?_|(refine hK.fork rfl rfl rfl ?_ ?_<;>intro h<;>try simp (disch:=(refine Om.mk ?_;omega)) only[go_sem] at h)|with_reducible refine and_o ?_|((with_reducible refine And.intro ?_ ?_);· first|(intro x hx;subst hx;rfl)|exact upR_mem fun _ _=>rfl|exact mapR_mem fun _ _=>rfl|(intro x;refine And.intro ?_ ?_<;>(intros;subst_vars;rfl)))|apply tTT
  exact⟨p+Nat.min p (n-p),cvA,⟨by omega,by omega⟩,by omega⟩
 ·obtain rfl:p=n:=by omega
  repeat' first|exact h.elim|(exfalso;omega)|refine sw_n ?_|refine sw_go 0 kp152 fun K hK=>?_|refine fun (K:KT) (hK:KOk S 0 _ _ _ K)=>?_|refine sw_goD kp152 (by kernel_rfl) fun K hK=>?_|refine runL_g ?_|refine runQ_g ?_|refine sw_retg0 ?_|refine sw_retg ?_|(refine hK.n0 ?_;clear hK K)|refine runG_fk (fun h=>?_) fun h=>?_|refine runQG_fk (fun h=>?_) fun h=>?_|refine sw_condg rfl (fun h=>?_) fun h=>?_|refine hK.skp rfl rfl ?_|refine sw_exit rfl ?_|refine sw_loopEnd ?_|(refine hK.fork rfl rfl rfl ?_ ?_<;>intro h<;>try simp (disch:=(refine Om.mk ?_;omega)) only[go_sem] at h)|with_reducible refine and_o ?_|((with_reducible refine And.intro ?_ ?_);· first|(intro x hx;subst hx;rfl)|exact upR_mem fun _ _=>rfl|exact mapR_mem fun _ _=>rfl|(intro x;refine And.intro ?_ ?_<;>(intros;subst_vars;rfl)))|apply tTT
  exact repC_all v p
 ·exact⟨Nat.le_refl _,h0⟩
theorem repeat0_fc (tk:Tk) (v:Int):FC S 152 [] [] [] [.sl tk ([v].map (.int .i64)),.int .i64 0] (.sl .any []) [] []:=by
 have hm:=mul_fc 0 (by decide)
 refine fcb Tryz.func152 fun B=>?_
 repeat' first|exact h.elim|(exfalso;omega)|(refine sw_goAt (id:=7) 0 kp152 2 rfl fun K hK=>?_)|refine sw_n ?_|refine sw_go 0 kp152 fun K hK=>?_|refine fun (K:KT) (hK:KOk S 0 _ _ _ K)=>?_|refine sw_goD kp152 (by kernel_rfl) fun K hK=>?_|refine runL_g ?_|refine runQ_g ?_|refine sw_retg0 ?_|refine sw_retg ?_|(refine hK.n0 ?_;clear hK K)|refine runG_fk (fun h=>?_) fun h=>?_|refine runQG_fk (fun h=>?_) fun h=>?_|refine sw_condg rfl (fun h=>?_) fun h=>?_|refine hK.skp rfl rfl ?_|refine sw_exit rfl ?_|refine sw_loopEnd ?_|refine hK.c1 rfl rfl rfl (hm) ?_|(refine hK.fork rfl rfl rfl ?_ ?_<;>intro h<;>try simp (disch:=(refine Om.mk ?_;omega)) only[go_sem] at h)|with_reducible refine and_o ?_|((with_reducible refine And.intro ?_ ?_);· first|(intro x hx;subst hx;rfl)|exact upR_mem fun _ _=>rfl|exact mapR_mem fun _ _=>rfl|(intro x;refine And.intro ?_ ?_<;>(intros;subst_vars;rfl)))|apply tTT
 refine LopsW.copy0 (id:=30) rfl rfl rfl rfl rfl (by simp only[Nat.reduceLT]) (LopsW.nil ?_)
 refine fun (K:List Oper→LS→Prop) (hK:KOk S 0 _ _ _ K)=>?_
 simp only[go_sem]
 repeat' first|exact h.elim|refine sw_n ?_|refine sw_go 0 kp152 fun K hK=>?_|refine fun (K:KT) (hK:KOk S 0 _ _ _ K)=>?_|refine sw_goD kp152 (by kernel_rfl) fun K hK=>?_|refine runL_g ?_|refine runQ_g ?_|refine sw_retg0 ?_|refine sw_retg ?_|(refine hK.n0 ?_;clear hK K)|refine runG_fk (fun h=>?_) fun h=>?_|refine runQG_fk (fun h=>?_) fun h=>?_|refine sw_condg rfl (fun h=>?_) fun h=>?_|refine hK.skp rfl rfl ?_|refine sw_exit rfl ?_|refine sw_loopEnd ?_|(refine hK.fork rfl rfl rfl ?_ ?_<;>intro h<;>try simp (disch:=(refine Om.mk ?_;omega)) only[go_sem] at h)|with_reducible refine and_o ?_|((with_reducible refine And.intro ?_ ?_);· first|(intro x hx;subst hx;rfl)|exact upR_mem fun _ _=>rfl|exact mapR_mem fun _ _=>rfl|(intro x;refine And.intro ?_ ?_<;>(intros;subst_vars;rfl)))|apply tTT
 refine sw_loopU (ι:=Nat) (fun p=>[(7,.ms 30 0),(8,.int .i64 0)]) (fun p=>[(30,[])]) (fun p=>True) (fun p=>p) 0 cvB ?_ (fun p hp=>?_)
 rotate_left
 simp only[go_sem]
 repeat' first|exact h.elim|(exfalso;omega)|(refine sw_freezeAt 10 7 1 .any (id:=30) (n:=0) (cs:=[]) [] rfl rfl rfl rfl (fun x hx=>by cases hx) (fun d hd=>by cases hd) (.inl rfl) ?_;simp only[go_sem])|refine sw_n ?_|refine sw_go 0 kp152 fun K hK=>?_|refine fun (K:KT) (hK:KOk S 0 _ _ _ K)=>?_|refine sw_goD kp152 (by kernel_rfl) fun K hK=>?_|refine runL_g ?_|refine runQ_g ?_|refine sw_retg0 ?_|refine sw_retg ?_|(refine hK.n0 ?_;clear hK K)|refine runG_fk (fun h=>?_) fun h=>?_|refine runQG_fk (fun h=>?_) fun h=>?_|refine sw_condg rfl (fun h=>?_) fun h=>?_|refine hK.skp rfl rfl ?_|refine sw_exit rfl ?_|refine sw_loopEnd ?_|(refine hK.fork rfl rfl rfl ?_ ?_<;>intro h<;>try simp (disch:=(refine Om.mk ?_;omega)) only[go_sem] at h)|with_reducible refine and_o ?_|((with_reducible refine And.intro ?_ ?_);· first|(intro x hx;subst hx;rfl)|exact upR_mem fun _ _=>rfl|exact mapR_mem fun _ _=>rfl|(intro x;refine And.intro ?_ ?_<;>(intros;subst_vars;rfl)))|apply tTT
 all_goals trivial
theorem repeat0M_fc (tk:Tk) (v:Int):FC S 152 [] [] [] [.sl tk ([v].map (.int .i64)),.int .i64 0] (.ms 30 0) [(30,[])] []:=by
 have hm:=mul_fc 0 (by decide)
 refine fcb Tryz.func152 fun B=>?_
 repeat' first|exact h.elim|(exfalso;omega)|(refine sw_goAt (id:=7) 0 kp152 2 rfl fun K hK=>?_)|refine sw_n ?_|refine sw_go 0 kp152 fun K hK=>?_|refine fun (K:KT) (hK:KOk S 0 _ _ _ K)=>?_|refine sw_goD kp152 (by kernel_rfl) fun K hK=>?_|refine runL_g ?_|refine runQ_g ?_|refine sw_retg0 ?_|refine sw_retg ?_|(refine hK.n0 ?_;clear hK K)|refine runG_fk (fun h=>?_) fun h=>?_|refine runQG_fk (fun h=>?_) fun h=>?_|refine sw_condg rfl (fun h=>?_) fun h=>?_|refine hK.skp rfl rfl ?_|refine sw_exit rfl ?_|refine sw_loopEnd ?_|refine hK.c1 rfl rfl rfl (hm) ?_|(refine hK.fork rfl rfl rfl ?_ ?_<;>intro h<;>try simp (disch:=(refine Om.mk ?_;omega)) only[go_sem] at h)|with_reducible refine and_o ?_|((with_reducible refine And.intro ?_ ?_);· first|(intro x hx;subst hx;rfl)|exact upR_mem fun _ _=>rfl|exact mapR_mem fun _ _=>rfl|(intro x;refine And.intro ?_ ?_<;>(intros;subst_vars;rfl)))|apply tTT
 refine LopsW.copy0 (id:=30) rfl rfl rfl rfl rfl (by simp only[Nat.reduceLT]) (LopsW.nil ?_)
 refine fun (K:List Oper→LS→Prop) (hK:KOk S 0 _ _ _ K)=>?_
 simp only[go_sem]
 repeat' first|exact h.elim|refine sw_n ?_|refine sw_go 0 kp152 fun K hK=>?_|refine fun (K:KT) (hK:KOk S 0 _ _ _ K)=>?_|refine sw_goD kp152 (by kernel_rfl) fun K hK=>?_|refine runL_g ?_|refine runQ_g ?_|refine sw_retg0 ?_|refine sw_retg ?_|(refine hK.n0 ?_;clear hK K)|refine runG_fk (fun h=>?_) fun h=>?_|refine runQG_fk (fun h=>?_) fun h=>?_|refine sw_condg rfl (fun h=>?_) fun h=>?_|refine hK.skp rfl rfl ?_|refine sw_exit rfl ?_|refine sw_loopEnd ?_|(refine hK.fork rfl rfl rfl ?_ ?_<;>intro h<;>try simp (disch:=(refine Om.mk ?_;omega)) only[go_sem] at h)|with_reducible refine and_o ?_|((with_reducible refine And.intro ?_ ?_);· first|(intro x hx;subst hx;rfl)|exact upR_mem fun _ _=>rfl|exact mapR_mem fun _ _=>rfl|(intro x;refine And.intro ?_ ?_<;>(intros;subst_vars;rfl)))|apply tTT
 refine sw_loopU (ι:=Nat) (fun p=>[(7,.ms 30 0),(8,.int .i64 0)]) (fun p=>[(30,[])]) (fun p=>True) (fun p=>p) 0 cvB ?_ (fun p hp=>?_)
 rotate_left
 simp only[go_sem]
 repeat' first|exact h.elim|(exfalso;omega)|refine sw_n ?_|refine sw_go 0 kp152 fun K hK=>?_|refine fun (K:KT) (hK:KOk S 0 _ _ _ K)=>?_|refine sw_goD kp152 (by kernel_rfl) fun K hK=>?_|refine runL_g ?_|refine runQ_g ?_|refine sw_retg0 ?_|refine sw_retg ?_|(refine hK.n0 ?_;clear hK K)|refine runG_fk (fun h=>?_) fun h=>?_|refine runQG_fk (fun h=>?_) fun h=>?_|refine sw_condg rfl (fun h=>?_) fun h=>?_|refine hK.skp rfl rfl ?_|refine sw_exit rfl ?_|refine sw_loopEnd ?_|(refine hK.fork rfl rfl rfl ?_ ?_<;>intro h<;>try simp (disch:=(refine Om.mk ?_;omega)) only[go_sem] at h)|with_reducible refine and_o ?_|((with_reducible refine And.intro ?_ ?_);· first|(intro x hx;subst hx;rfl)|exact upR_mem fun _ _=>rfl|exact mapR_mem fun _ _=>rfl|(intro x;refine And.intro ?_ ?_<;>(intros;subst_vars;rfl)))|apply tTT
 all_goals trivial
def kp106:List (Nat×List Nat):=[(0,[0,1]),(1,[4])]
attribute [go_sem] kp106 Tryz.results106 Tryz.ntmps106
theorem repeatedZ_fc (v:Int):FC S 106 [] [] [] [.int .i64 v,.int .i64 0] (.ms 8 0) [(8,[])] []:=by
 refine fcb Tryz.func106 fun B=>?_
 repeat' first|refine sw_n ?_|refine sw_go 0 kp106 fun K hK=>?_|refine fun (K:KT) (hK:KOk S 0 _ _ _ K)=>?_|refine runL_g ?_|refine sw_retg0 ?_|refine sw_retg ?_|(refine hK.n0 ?_;clear hK K)|refine sw_loopEnd ?_|refine hK.cM rfl rfl rfl (repeat0M_fc _ v) ?_|with_reducible refine and_o ?_|((with_reducible refine And.intro ?_ ?_);· first|(intro x hx;subst hx;rfl)|exact upR_mem fun _ _=>rfl|exact mapR_mem fun _ _=>rfl|(intro x;refine And.intro ?_ ?_<;>(intros;subst_vars;rfl)))|apply tTT
theorem repeatedM_fc (v:Int) (n:Nat) (h0:0<n) (hn:n<65):FC S 106 [] [] [] [.int .i64 v,.int .i64 n] (.ms 8 n) [(8,(List.replicate n v).map (.int .i64))] []:=by
 refine fcb Tryz.func106 fun B=>?_
 repeat' first|refine sw_n ?_|refine sw_go 0 kp106 fun K hK=>?_|refine fun (K:KT) (hK:KOk S 0 _ _ _ K)=>?_|refine runL_g ?_|refine sw_retg0 ?_|refine sw_retg ?_|(refine hK.n0 ?_;clear hK K)|refine sw_loopEnd ?_|refine hK.cM rfl rfl rfl (repeat_fc _ v n h0 hn) ?_|with_reducible refine and_o ?_|((with_reducible refine And.intro ?_ ?_);· first|(intro x hx;subst hx;rfl)|exact upR_mem fun _ _=>rfl|exact mapR_mem fun _ _=>rfl|(intro x;refine And.intro ?_ ?_<;>(intros;subst_vars;rfl)))|apply tTT
theorem repeatedN_fc (v:Int) (n:Nat) (hn:n<65):FC S 106 [] [] [] [.int .i64 v,.int .i64 n] (.ms 8 n) [(8,(List.replicate n v).map (.int .i64))] []:=by
 rcases Nat.eq_zero_or_pos n with h|h
 ·subst h;exact repeatedZ_fc v
 ·exact repeatedM_fc v n h hn
theorem repeatedL_fc (q:List Nat) (hq:q≠[]) (v:Int) (n:Nat) (h0:0<n) (hn:n<65):FC S 106 [] [] [] [.int .i64 v,.int .i64 n] (Int64SL q (List.replicate n v)) [] []:=by
 refine fcb Tryz.func106 fun B=>?_
 repeat' first|(refine sw_freezeLab 4 1 q (id:=8) (n:=n) (cs:=(List.replicate n v).map (.int .i64)) ((List.replicate n v).map (.int .i64)) rfl (by simp[Lg.look]) (flat_ints _).symm (by simp) (cells_one fun _=>rfl) (memOk_ints _) hq (by simp) ?_;simp only[go_sem])|refine sw_n ?_|refine sw_go 0 kp106 fun K hK=>?_|refine fun (K:KT) (hK:KOk S 0 _ _ _ K)=>?_|refine runL_g ?_|refine sw_retg0 ?_|refine sw_retg ?_|(refine hK.n0 ?_;clear hK K)|refine sw_loopEnd ?_|refine hK.cM rfl rfl rfl (repeat_fc _ v n h0 hn) ?_|with_reducible refine and_o ?_|((with_reducible refine And.intro ?_ ?_);· first|(intro x hx;subst hx;rfl)|exact upR_mem fun _ _=>rfl|exact mapR_mem fun _ _=>rfl|(intro x;refine And.intro ?_ ?_<;>(intros;subst_vars;rfl)))|apply tTT
theorem repeatedA_fc (v:Int) (n:Nat) (hn:n<65):FC S 106 [] [] [] [.int .i64 v,.int .i64 n] (.sl .any ((List.replicate n v).map (.int .i64))) [] []:=by
 rcases Nat.eq_zero_or_pos n with h|h
 ·subst h
  refine fcb Tryz.func106 fun B=>?_
  repeat' first|refine sw_n ?_|refine sw_go 0 kp106 fun K hK=>?_|refine fun (K:KT) (hK:KOk S 0 _ _ _ K)=>?_|refine runL_g ?_|refine sw_retg0 ?_|refine sw_retg ?_|(refine hK.n0 ?_;clear hK K)|refine sw_loopEnd ?_|refine hK.c1 rfl rfl rfl (repeat0_fc _ v) ?_|with_reducible refine and_o ?_|((with_reducible refine And.intro ?_ ?_);· first|(intro x hx;subst hx;rfl)|exact upR_mem fun _ _=>rfl|exact mapR_mem fun _ _=>rfl|(intro x;refine And.intro ?_ ?_<;>(intros;subst_vars;rfl)))|apply tTT
  rfl
 ·exact(repeatedL_fc [0] (by simp) v n h hn).weak .any (by simp) (by simp)
def kp108:List (Nat×List Nat):=[(0,[0,1,2]),(1,[0,1,2,7]),(2,[0,1,2,7,12]),(4,[0,1,2,7,23]),(5,[]),(6,[6]),(7,[0,1,2,7]),(3,[0,1,2,7]),(8,[6])]
attribute [go_sem] kp108 Tryz.results108 Tryz.ntmps108
theorem countUp_fc (id:Nat) (bs:List (Int×Int)) (xs:List Int) (he:xs.length=bs.length) (hl:xs.length≤100) (hx:∀x∈xs,-1≤x∧x≤1000):FC S 108 [] [(id,xs.map (.int .i64))] [] [.ms id xs.length,.sl .any ((lowD bs).map (.int .i64)),.sl .any ((bs.map (·.2)).map (.int .i64))] (.bool (nxtD bs xs).2) [(id,(nxtD bs xs).1.map (.int .i64))] []:=by
 have hll:=lowD_len bs
 have hhl:(bs.map (·.2)).length=bs.length:=by simp
 refine fcb Tryz.func108 fun B=>?_
 repeat' first|exact h.elim|refine sw_n ?_|refine sw_go 0 kp108 fun K hK=>?_|refine fun (K:KT) (hK:KOk S 0 _ _ _ K)=>?_|refine sw_goD kp108 (by kernel_rfl) fun K hK=>?_|refine runL_g ?_|refine runQ_g ?_|refine sw_retg0 ?_|refine sw_retg ?_|(refine hK.n0 ?_;clear hK K)|refine sw_condg rfl (fun h=>?_) fun h=>?_|refine sw_exit rfl ?_|refine sw_loopEnd ?_|with_reducible refine and_o ?_|apply tTT
 refine sw_loopU (ι:=Nat) (fun p=>[(7,.int .i64 (p-1:Int))]) (fun p=>[(id,(stD bs xs p).map (.int .i64))]) (fun p=>p≤xs.length∧NxInv bs xs p) (fun p=>p) xs.length (by(refine covers_mk0 rfl rfl ?_ ?_ ?_ ?_<;>simp (disch:=(refine Om.mk ?_;omega)) only[go_sem]<;>(try omega));rw[stD_all he]) ?_ (fun p hp=>?_)
 rotate_left
 simp only[go_sem]
 obtain⟨hp1,hp2⟩:=hp
 have hlen:=stD_len he hp1
 cases p with
 | zero =>
  have hz:=nx_end he hp2
  rw[hz]
  repeat' first|exact h.elim|(exfalso;omega)|refine sw_n ?_|refine sw_go 0 kp108 fun K hK=>?_|refine fun (K:KT) (hK:KOk S 0 _ _ _ K)=>?_|refine sw_goD kp108 (by kernel_rfl) fun K hK=>?_|refine runL_g ?_|refine runQ_g ?_|refine sw_retg0 ?_|refine sw_retg ?_|(refine hK.n0 ?_;clear hK K)|refine sw_condg rfl (fun h=>?_) fun h=>?_|refine sw_exit rfl ?_|refine sw_loopEnd ?_|with_reducible refine and_o ?_|apply tTT
 | succ k =>
  have hk:k<xs.length:=by omega
  have hg:=stD_get he hk
  have hxk:=hx _ (getD_mem xs k hk)
  have hlt:k<(stD bs xs (k+1)).length:=by omega
  have hkh:k<(bs.map (·.2)).length:=by omega
  have hkl:k<(lowD bs).length:=by omega
  have hi:((k+1:Nat):Int)-1=(k:Int):=by omega
  rw[hi]
  repeat' first|exact h.elim|refine sw_n ?_|refine sw_go 0 kp108 fun K hK=>?_|refine fun (K:KT) (hK:KOk S 0 _ _ _ K)=>?_|refine sw_goD kp108 (by kernel_rfl) fun K hK=>?_|refine runL_g ?_|refine runQ_g ?_|refine sw_retg0 ?_|refine sw_retg ?_|(refine hK.n0 ?_;clear hK K)|refine sw_condg rfl (fun h=>?_) fun h=>?_|refine sw_exit rfl ?_|refine sw_loopEnd ?_|with_reducible refine and_o ?_|apply tTT
  ·have hb:(bs.map (·.2)).getD k default=(bs.getD k default).2:=by simp[List.getD,List.getElem?_map,List.getElem?_eq_getElem (show k<bs.length by omega)]
   rw[hb,hg] at h
   rw[nx_yes he hk hp2 h,hg]
   exact⟨rfl,rfl⟩
  ·have hb:(bs.map (·.2)).getD k default=(bs.getD k default).2:=by simp[List.getD,List.getElem?_map,List.getElem?_eq_getElem (show k<bs.length by omega)]
   have hb2:(lowD bs).getD k default=(bs.getD k default).1:=by simp[lowD,List.getD,List.getElem?_map,List.getElem?_eq_getElem (show k<bs.length by omega)]
   rw[hb,hg] at h
   obtain⟨n1,n2⟩:=nx_no he hk hp2 (by omega)
   rw[hb2,n2]
   exact⟨k,cvA,⟨by omega,n1⟩,by omega⟩
 ·exact⟨Nat.le_refl _,nx_start he⟩
theorem cloneOwnK_fc (tk:Tk) (xs:List Int) (hl:xs.length≤17592186044416):FC S 107 [] [] [] [.sl tk (xs.map (.int .i64))] (.sl (.own 0 2 1) (xs.map (.int .i64))) [] [0]:=by
 refine FC.args (args':=[.sl .any (xs.map (.int .i64))]) ?_ (by simp only[go_sem])
 refine fcb1 Tryz.func107 fun B=>?_
 refine sw_bndg 0 fun hb0=>?_
 refine sw_nilcase 0 rfl (fun hx=>?_) ?_<;>simp only[go_sem]
 ·have hx:xs=[]:=by simpa using hx
  subst hx
  repeat' first|exact h.elim|(refine sw_tok 2 5000 2 1 rfl (.inl rfl) rfl ?_;simp only[go_sem])|refine sw_n ?_|refine sw_go 0 kp107 fun K hK=>?_|refine fun (K:KT) (hK:KOk S 0 _ _ _ K)=>?_|refine runL_g ?_|refine sw_retg0 ?_|refine sw_retg ?_|(refine hK.n0 ?_;clear hK K)|refine sw_condg rfl (fun h=>?_) fun h=>?_|with_reducible refine and_o ?_|((with_reducible refine And.intro ?_ ?_);· first|(intro x hx;subst hx;rfl)|exact upR_mem fun _ _=>rfl|exact mapR_mem fun _ _=>rfl|(intro x;refine And.intro ?_ ?_<;>(intros;subst_vars;rfl)))|apply tTT
  exact ret1_own rfl (by simp)
 ·repeat' first|exact h.elim|refine sw_n ?_|refine sw_go 0 kp107 fun K hK=>?_|refine fun (K:KT) (hK:KOk S 0 _ _ _ K)=>?_|refine runL_g ?_|refine sw_retg0 ?_|refine sw_retg ?_|(refine hK.n0 ?_;clear hK K)|refine sw_condg rfl (fun h=>?_) fun h=>?_|with_reducible refine and_o ?_|((with_reducible refine And.intro ?_ ?_);· first|(intro x hx;subst hx;rfl)|exact upR_mem fun _ _=>rfl|exact mapR_mem fun _ _=>rfl|(intro x;refine And.intro ?_ ?_<;>(intros;subst_vars;rfl)))|apply tTT
  exact ret1_own rfl (by simp)
theorem tksL_k (xs:List Int):D.tksL (xs.map (D.int .i64))=[]:=by
 induction xs with
 | nil=>rfl
 | cons x r ih=>simp[D.tksL,D.tks,ih]
theorem cloneZL_fc (p:List Nat) (hp:p≠[]) (id:Nat):FC S 107 [] [(id,[])] [] [.ms id 0] (Int64SL p []) [(id,[])] []:=by
 refine fcb Tryz.func107 fun B=>?_
 refine sw_ms0 0 rfl ?_
 simp only[go_sem]
 repeat' first|exact h.elim|refine sw_n ?_|refine sw_go 0 kp107 fun K hK=>?_|refine fun (K:KT) (hK:KOk S 0 _ _ _ K)=>?_|refine runL_g ?_|refine sw_retg0 ?_|refine sw_retg ?_|(refine hK.n0 ?_;clear hK K)|refine sw_condg rfl (fun h=>?_) fun h=>?_|with_reducible refine and_o ?_|((with_reducible refine And.intro ?_ ?_);· first|(intro x hx;subst hx;rfl)|exact upR_mem fun _ _=>rfl|exact mapR_mem fun _ _=>rfl|(intro x;refine And.intro ?_ ?_<;>(intros;subst_vars;rfl)))|apply tTT
 all_goals trace_state
 all_goals exact⟨le0_refl _,rfl⟩
theorem cloneML_fc (p:List Nat) (hp:p≠[]) (id n:Nat) (xs:List Int) (hn:n=xs.length) (h0:0<n) (hl:n≤17592186044416):FC S 107 [] [(id,xs.map (.int .i64))] [] [.ms id n] (Int64SL p xs) [(id,xs.map (.int .i64))] []:=by
 refine fcb Tryz.func107 fun B=>?_
 repeat' first|exact h.elim|(refine sw_goAt (id:=1) 0 kp107 1 rfl fun K hK=>?_)|refine sw_n ?_|refine sw_go 0 kp107 fun K hK=>?_|refine fun (K:KT) (hK:KOk S 0 _ _ _ K)=>?_|refine runL_g ?_|refine sw_retg0 ?_|refine sw_retg ?_|(refine hK.n0 ?_;clear hK K)|refine sw_condg rfl (fun h=>?_) fun h=>?_|with_reducible refine and_o ?_|((with_reducible refine And.intro ?_ ?_);· first|(intro x hx;subst hx;rfl)|exact upR_mem fun _ _=>rfl|exact mapR_mem fun _ _=>rfl|(intro x;refine And.intro ?_ ?_<;>(intros;subst_vars;rfl)))|apply tTT
 refine LopsW.nilMs (id:=id) (n:=n) (e:=2) rfl (by kernel_rfl) (by simp only[Nat.reduceLT]) (LopsW.nil ?_)
 refine fun (K:List Oper→LS→Prop) (hK:KOk S 0 _ _ _ K)=>?_
 simp only[go_sem]
 repeat' first|exact h.elim|(refine sw_goAt (id:=3) 0 kp107 2 rfl fun K hK=>?_)|refine sw_n ?_|refine sw_go 0 kp107 fun K hK=>?_|refine fun (K:KT) (hK:KOk S 0 _ _ _ K)=>?_|refine runL_g ?_|refine sw_retg0 ?_|refine sw_retg ?_|(refine hK.n0 ?_;clear hK K)|refine sw_condg rfl (fun h=>?_) fun h=>?_|with_reducible refine and_o ?_|((with_reducible refine And.intro ?_ ?_);· first|(intro x hx;subst hx;rfl)|exact upR_mem fun _ _=>rfl|exact mapR_mem fun _ _=>rfl|(intro x;refine And.intro ?_ ?_<;>(intros;subst_vars;rfl)))|apply tTT
 refine LopsW.appMs 7000 (e:=2) (i:=⟨.int .i64,8,[.int .i64]⟩) (ys:=xs.map (.int .i64)) rfl (.inr rfl) rfl (by simp[Lg.look]) (by simpa using hn) h0 ?_ ?_ (by kernel_rfl) (by kernel_rfl) rfl ⟨by simp;omega,by omega⟩ (by simp[LS.clean,D.tks,tksL_k]) (by simp only[Nat.reduceLT]) (LopsW.nil ?_)
 ·simp[D.cells]
 ·simp[D.memOk]
 refine fun (K:List Oper→LS→Prop) (hK:KOk S 0 _ _ _ K)=>?_
 simp only[go_sem]
 repeat' first|exact h.elim|(refine sw_lab 2 p (k:=7000) rfl (by simp) hp ?_;simp only[go_sem])|refine sw_n ?_|refine sw_go 0 kp107 fun K hK=>?_|refine fun (K:KT) (hK:KOk S 0 _ _ _ K)=>?_|refine runL_g ?_|refine sw_retg0 ?_|refine sw_retg ?_|(refine hK.n0 ?_;clear hK K)|refine sw_condg rfl (fun h=>?_) fun h=>?_|with_reducible refine and_o ?_|((with_reducible refine And.intro ?_ ?_);· first|(intro x hx;subst hx;rfl)|exact upR_mem fun _ _=>rfl|exact mapR_mem fun _ _=>rfl|(intro x;refine And.intro ?_ ?_<;>(intros;subst_vars;rfl)))|apply tTT
theorem cloneNL_fc (p:List Nat) (hp:p≠[]) (id n:Nat) (xs:List Int) (hn:n=xs.length) (hl:n≤17592186044416):FC S 107 [] [(id,xs.map (.int .i64))] [] [.ms id n] (Int64SL p xs) [(id,xs.map (.int .i64))] []:=by
 rcases Nat.eq_zero_or_pos n with h|h
 ·subst h
  obtain rfl:=List.length_eq_zero_iff.1 hn.symm
  exact cloneZL_fc p hp id
 ·exact cloneML_fc p hp id n xs hn h hl
end
end Go.Proofs.YtkfkdgginfpdnaaGreatDoor
