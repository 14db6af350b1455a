/-
  N8, N9, N9d, A01s, A06f, A06d, Srt, N10, one behind the other.
-/
import Derived.Test.YtkfkdgginfpdnaaGreatDoorG9
import Derived.Test.YtkfkdgginfpdnaaGreatDoorG6
import Derived.Test.YtkfkdgginfpdnaaGreatDoorG2
import Derived.Test.YtkfkdgginfpdnaaGreatDoorLgK10
import Derived.Test.YtkfkdgginfpdnaaGreatDoorG1
import Derived.Test.YtkfkdgginfpdnaaGreatDoorG3
import Derived.Shelf.SlSortCmp.NoneTotal
import Derived.Test.YtkfkdgginfpdnaaGreatDoorProg
import Derived.Test.YtkfkdgginfpdnaaGreatDoorG8
import Derived.Test.YtkfkdgginfpdnaaGreatDoorLgK9
section
namespace Go.Proofs.YtkfkdgginfpdnaaGreatDoor
open Go Go.Lg
set_option linter.unusedSimpArgs false
set_option linter.unusedVariables false
set_option maxHeartbeats 4000000
attribute [local irreducible] Lg.SW runL runQ runG runQG FC FCw Ret1 RetN toF redoL anyB
attribute [local go_sem] shC
structure TblOk (rs:List Int) (LF SF:List FormT):Prop where
 sg:SigOkP rs
 lf:∀f<rs.length,FormsOk (f:Int) (rs.getD f default).toNat LF
 sf:∀f<rs.length,FormsOk (f:Int) (rs.getD f default).toNat SF
 nm:SF.length≤1000
theorem imgN_nums {LF SF:List FormT} (h:SF.length≤1000):∀f l s,imgN LF SF f l=some s→NumsOk s:=fun f l s hs=>by
 unfold imgN at hs
 split at hs
 ·cases hs
 ·cases hs
  refine⟨fun x hx=>?_,by have:=fitsL_len SF (f:Int) l SF.length;omega⟩
  have:=fitsL_rng x hx
  omega
theorem mpk_sameN {m n0:Nat} {es es':List (Value×Value)} {cs:List D} (h:D.noPL cs=true):∀(j:Nat) d d',cs[j]?=some d→cs[j]?=some d'→MpK m n0 es es' d d':=fun j d d' h1 h2=>.inl ⟨noPL_mem h (List.mem_of_getElem? h1),by rw[h1] at h2;exact(Option.some.inj h2).symm⟩
theorem noP_intsN (tk:Tk) (xs:List Int):(D.sl tk (xs.map (.int .i64))).noP=true:=by
 rw[D.noP]
 exact noPL_of fun d hd=>by obtain⟨s,_,rfl⟩:=List.mem_map.1 hd;rfl
theorem noP_formsN (tk:Tk) (xs:List FormT):(D.sl tk (xs.map formD)).noP=true:=by
 rw[D.noP]
 exact noPL_of fun d hd=>by
  obtain⟨s,_,rfl⟩:=List.mem_map.1 hd
  simp only[formD,D.noP,D.noPL,Bool.true_and,Bool.and_true]
  exact noPL_of fun d hd=>by obtain⟨s,_,rfl⟩:=List.mem_map.1 hd;rfl
theorem noP_listsN (tk:Tk) (xs:List (List Int)):(D.sl tk (xs.map IntsD)).noP=true:=by
 rw[D.noP]
 exact noPL_of fun d hd=>by obtain⟨s,_,rfl⟩:=List.mem_map.1 hd;exact noP_intsN _ _
theorem noP_transN (tk:Tk) (q:List Nat) (xs:List TransT):(D.sl tk (mapR (fun i y=>TransL (q++[i]) y) xs)).noP=true:=by
 rw[D.noP]
 refine noPL_of ?_
 rw[←upR_all]
 refine upR_mem fun i x=>?_
 simp only[TransL,Int64SL,D.noP,D.noPL,Bool.and_true,Bool.true_and]
 exact noPL_of fun d hd=>by obtain⟨s,_,rfl⟩:=List.mem_map.1 hd;rfl
theorem mapR_snocN {α:Type} [Inhabited α] (g:Nat→α→D) (xs:List α) (x:α):mapR g (xs++[x])=mapR g xs++[g xs.length x]:=by
 rw[←upR_all,List.length_append,List.length_singleton,upR_succ]
 congr 1
 ·unfold upR mapR
  refine List.map_congr_left fun j hj=>?_
  rw[List.getD_eq_getElem?_getD,List.getElem?_append_left (by simpa using hj),←List.getD_eq_getElem?_getD]
 ·simp
theorem transN_cells (q:List Nat) (xs:List TransT):∀x∈mapR (fun i y=>TransL (q++[i]) y) xs,x.cells.length=3:=by
 rw[←upR_all]
 exact upR_mem fun i x=>rfl
theorem mpk_shC {m n0:Nat} {es es':List (Value×Value)} (rs:List Int) (LF SF:List FormT) (sk:List Int) (K:Nat) (out:List (List Int)):∀(j:Nat) d d',(shC rs LF SF sk K out (mpd m n0 es))[j]?=some d→(shC rs LF SF sk K out (mpd m n0 es'))[j]?=some d'→MpK m n0 es es' d d':=fun j d d' h1 h2=>by
 match j,h1,h2 with
 | 0,h1,h2=>cases h1;cases h2;exact .inl ⟨noP_intsN _ _,rfl⟩
 | 1,h1,h2=>cases h1;cases h2;exact .inl ⟨noP_formsN _ _,rfl⟩
 | 2,h1,h2=>cases h1;cases h2;exact .inl ⟨noP_formsN _ _,rfl⟩
 | 3,h1,h2=>cases h1;cases h2;exact .inl ⟨noP_intsN _ _,rfl⟩
 | 4,h1,h2=>cases h1;cases h2;exact .inl ⟨noP_listsN _ _,rfl⟩
 | 5,h1,h2=>cases h1;cases h2;exact .inr ⟨rfl,rfl⟩
 | j+6,h1,h2=>simp[shC] at h1
structure StpN (p:Prop):Prop where
 get:p
theorem lops_lk {S:Setup} {B:Base} {ops:Array Oper} {l:List Oper} {L:LS} {N:LS→Prop} {t:Option Nat} {T:TypeId} {xm xk:Operand} {b:Bool} {ty:TypeId} {pos:String} {aft:Array Edge} {g:Option (Nat×Bool)} (h:LopsW S B ops (⟨t,.lookup T xm xk b,ty,pos,aft,g⟩::l) L N):LopsW S B ops (⟨t,.lookup T xm xk b,ty,pos,aft,g⟩::l) L N:=h
theorem lops_mu {S:Setup} {B:Base} {ops:Array Oper} {l:List Oper} {L:LS} {N:LS→Prop} {t:Option Nat} {T:TypeId} {xm xk xv:Operand} {ty:TypeId} {pos:String} {aft:Array Edge} {g:Option (Nat×Bool)} (h:LopsW S B ops (⟨t,.mapUpdate T xm xk xv,ty,pos,aft,g⟩::l) L N):LopsW S B ops (⟨t,.mapUpdate T xm xk xv,ty,pos,aft,g⟩::l) L N:=h
theorem sKD_ids (q:IntKind) (k:Int×ByteArray):(sKD q k).ids=[]:=rfl
theorem sKD_tks (q:IntKind) (k:Int×ByteArray):(sKD q k).tks=[]:=rfl
theorem sKD_shT (q:IntKind) (k:Int×ByteArray) (o:Nat):(sKD q k).shT o=sKD q k:=rfl
attribute [local go_sem] sKD_ids sKD_tks sKD_shT
theorem idx_newN {s:List Int} {out:List (List Int)} (h:s∉out):(out++[s]).idxOf s=out.length:=by
 rw[List.idxOf_append,if_neg h]
 simp
def kp151:List (Nat×List Nat):=[(0,[0]),(1,[0,4]),(2,[0,4,5]),(3,[0,4,5,23,24,25]),(4,[0,4,5,23,24,25,26]),(5,[0,4,5,6,7,23,24,25]),(6,[0,4,5,6,7,23,24,25,43]),(7,[0,4,5,6,7,8,23,24,25]),(8,[0,4,5,6,7,8,9,23,24,25]),(9,[0,4,5,6,7,8,23,24,25,46]),(11,[0,4,5,6,7,8,10,11,23,24,25]),(12,[0,4,5,6,7,8,10,23,24,25,63]),(13,[0,4,5,6,7,8,10,12,13,23,24,25]),(14,[0,4,5,6,7,8,10,12,23,24,25,75]),(15,[0,4,5,6,7,8,10,12,23,24,25]),(16,[0,4,5,6,7,8,10,12,23,24,25]),(17,[0,4,5,6,7,8,12,23,24,25]),(18,[0,4,5,6,7,8,12,23,24,25,103]),(19,[2,3]),(20,[0,4,5,6,7,8,23,24,25]),(10,[0,4,5,6,7,8,9,23,24,25]),(21,[0,4,5,23,24,25]),(22,[2,3])]
attribute [go_sem] kp151 Tryz.results151 Tryz.ntmps151
theorem round_in {B:Base} (hw:B.wk) (hT:B.has TabW) (q:List Nat) (hq:q≠[]) (rs sk:List Int) (LF SF:List FormT) (hO:TblOk rs LF SF) (hsk:sk.length≤1000) (sets:List (List Int)) (h16:sets.length≤16) (hok:∀s∈sets,NumsOk s) (m:Nat) (C:List (List Int)×List TransT×Bool) (hC:capN (imgN LF SF) sets (evK rs sk sets.length rs.length) sets []=C) {R:LS→Prop} (hEnd:R ⟨114,[(2,.sl (.own 112000 64 3) (mapR (fun i y=>TransL (q++[i]) y) C.2.1)),(3,.bool C.2.2)],[(500,shC rs LF SF sk 501 C.1 (mpd m B.w.heap.size (strE .i64 .i64 (keyM 0 C.1))))],[],[112000,501],[500]⟩) {fn:Func} {c:Code} (hf:S.P.funcs[151]?=some fn) (hb:fn.body=some c):Lg.SW S B R [.code c] ⟨114,[(0,.box 500 0)],[(500,shC rs LF SF sk 501 sets (mpd m B.w.heap.size (strE .i64 .i64 (keyM 0 sets))))],[],[501],[500]⟩:=by
 have e:=Option.some.inj (hf.symm.trans Tryz.func151)
 subst e
 cases hb
 have hrl:=hO.sg.1.2
 have hEl:=evK_len (rs:=rs) (sk:=sk) (fun f hf=>hO.sg.2 f hf) h16 rs.length (Nat.le_refl _)
 simp only[go_sem]
 repeat' first|exact h.elim|(exfalso;omega)|refine sw_n ?_|refine sw_go 0 kp151 fun K hK=>?_|refine fun (K:KT) (hK:KOk S 0 _ _ _ K)=>?_|refine sw_goD kp151 (by kernel_rfl) fun K hK=>?_|refine runL_g ?_|refine runQ_g ?_|refine sw_retg0 ?_|refine sw_retg ?_|(refine hK.n0 ?_;clear hK K)|refine runG_fk (fun h=>?_) fun h=>?_|refine runQG_fk (fun h=>?_) fun h=>?_|refine sw_condg rfl (fun h=>?_) fun h=>?_|refine hK.skp rfl rfl ?_|refine sw_exit rfl ?_|refine sw_loopEnd ?_|(refine hK.fork rfl rfl rfl ?_ ?_<;>intro h<;>try simp (disch:=(refine Om.mk ?_;omega)) only[go_sem] at h)|with_reducible refine and_o ?_|((with_reducible refine And.intro ?_ ?_);· first|(intro x hx;subst hx;rfl)|exact upR_mem fun _ _=>rfl|exact mapR_mem fun _ _=>rfl|(intro x;refine And.intro ?_ ?_<;>(intros;subst_vars;rfl)))|apply tTT
 refine sw_tok 4 112000 64 3 rfl (.inl rfl) (by simp[LS.purge,LS.clean,mapA,pu1_c,mpd,D.pu,D.pu1,D.tks,D.tksL,tksL_i,pu1_i]) ?_
 simp only[go_sem]
 refine sw_loopT (ι:=Nat×List (List Int)×List TransT) (fun p=>[(25,.int .i64 p.1),(4,.sl (.own 112000 64 3) (mapR (fun i y=>TransL (q++[i]) y) p.2.2))]) (fun p=>[(500,shC rs LF SF sk 501 p.2.1 (mpd m B.w.heap.size (strE .i64 .i64 (keyM 0 p.2.1))))]) (fun _=>[112000,501]) (fun p=>((p.1≤rs.length∧p.2.1.length≤16)∧p.2.2.length+(evK rs sk sets.length (rs.length-p.1)).length≤40000)∧((∀s∈p.2.1,NumsOk s)∧∃r,p.2.1=sets++r)∧capN (imgN LF SF) sets (evK rs sk sets.length (rs.length-p.1)) p.2.1 p.2.2=C) (fun p=>rs.length-p.1) (0,sets,[]) (by(refine covers_mk0 rfl rfl ?_ ?_ ?_ ?_<;>simp (disch:=(refine Om.mk ?_;omega)) only[go_sem]<;>(try omega));all_goals first|rfl|exact⟨rfl,rfl⟩|exact⟨rfl,rfl,rfl⟩|trace_state) ⟨⟨⟨by simp,h16⟩,by simp only[Nat.sub_zero,List.length_nil];omega⟩,⟨hok,[],by simp⟩,hC⟩ (fun p hp=>?_)
 obtain⟨i,out,ru⟩:=p
 obtain⟨⟨⟨hi,ho⟩,hr⟩,⟨hok,rx,hpre⟩,hc⟩:=hp
 dsimp only at hi ho hr hok hpre hc
 simp only[go_sem]
 by_cases hil:i<rs.length
 ·obtain⟨k,hk⟩:∃k,rs.length-i=k+1:=⟨rs.length-i-1,by omega⟩
  have hri:=hO.sg.2 i hil
  have hkE:rs.length-(i+1)=k:=by omega
  rw[hk] at hc hr
  rw[show evK rs sk sets.length (k+1)=(if (i:Int)∈sk then [] else evF rs sets.length i)++evK rs sk sets.length k from by rw[evK,show rs.length-(k+1)=i by omega]] at hc hr
  by_cases h0:(sets.length=0∧0<rs.getD i default)∨(i:Int)∈sk
  ·rw[show (if (i:Int)∈sk then [] else evF rs sets.length i)=[] from by
    split
    ·rfl
    ·exact if_pos (h0.resolve_right (by assumption)),List.nil_append] at hc hr
   repeat' first|exact h.elim|(exfalso;first|omega|(rcases h0 with⟨_,_⟩|hz<;>first|omega|exact absurd hz (by assumption)))|refine sw_n ?_|refine sw_go 0 kp151 fun K hK=>?_|refine fun (K:KT) (hK:KOk S 0 _ _ _ K)=>?_|refine sw_goD kp151 (by kernel_rfl) fun K hK=>?_|refine runL_g ?_|refine runQ_g ?_|refine sw_retg0 ?_|refine sw_retg ?_|(refine hK.n0 ?_;clear hK K)|refine runG_fk (fun h=>?_) fun h=>?_|refine runQG_fk (fun h=>?_) fun h=>?_|refine sw_condg rfl (fun h=>?_) fun h=>?_|refine hK.skp rfl rfl ?_|refine sw_exit rfl ?_|refine sw_loopEnd ?_|refine hK.c1 rfl rfl rfl (contains_fc _ _ _) ?_|(refine hK.fork rfl rfl rfl ?_ ?_<;>intro h<;>try simp (disch:=(refine Om.mk ?_;omega)) only[go_sem] at h)|with_reducible refine and_o ?_|((with_reducible refine And.intro ?_ ?_);· first|(intro x hx;subst hx;rfl)|exact upR_mem fun _ _=>rfl|exact mapR_mem fun _ _=>rfl|(intro x;refine And.intro ?_ ?_<;>(intros;subst_vars;rfl)))|apply tTT
   all_goals first|(exfalso;first|omega|(rcases h0 with⟨_,_⟩|hz<;>first|omega|exact absurd hz (by assumption)))|exact⟨(i+1,out,ru),(by(refine covers_mk0 rfl rfl ?_ ?_ ?_ ?_<;>simp (disch:=(refine Om.mk ?_;omega)) only[go_sem]<;>(try omega));all_goals first|rfl|exact⟨rfl,rfl⟩|exact⟨rfl,rfl,rfl⟩),⟨⟨⟨by dsimp only;omega,ho⟩,by dsimp only;rw[hkE];exact hr⟩,⟨hok,rx,hpre⟩,by dsimp only;rw[hkE];exact hc⟩,by dsimp only;omega⟩|trace_state
  ·rw[show (if (i:Int)∈sk then [] else evF rs sets.length i)=(digs sets.length (rs.getD i default).toNat).map (fun l=>(i,l)) from by rw[if_neg fun h=>h0 (.inr h)];exact if_neg fun h=>h0 (.inl h)] at hc hr
   obtain⟨n,hn⟩:∃n:Nat,rs.getD i default=n:=⟨(rs.getD i default).toNat,by omega⟩
   have hnt:(rs.getD i default).toNat=n:=by omega
   rw[hnt] at hc hr
   have hd0:0<sets.length∨n=0:=by omega
   obtain⟨hseq,A0,hA0⟩:=digs_ok hd0
   have hdig:=digs_dig hd0
   rw[hA0] at hseq hdig hc hr
   have cR:=repeatedN_fc 0 n (by omega)
   rw[←hn] at cR
   have h1:¬(sets.length=0∧0<rs.getD i default):=fun h=>h0 (.inl h)
   have h2:(i:Int)∉sk:=fun h=>h0 (.inr h)
   apply mrgN
   ·intro key
    repeat' first|exact h.elim|(exfalso;first|omega|exact h2 (by assumption))|refine sw_n ?_|refine sw_go 0 kp151 fun K hK=>?_|refine fun (K:KT) (hK:KOk S 0 _ _ _ K)=>?_|refine sw_goD kp151 (by kernel_rfl) fun K hK=>?_|refine runL_g ?_|refine runQ_g ?_|refine sw_retg0 ?_|refine sw_retg ?_|(refine hK.n0 ?_;clear hK K)|refine runG_fk (fun h=>?_) fun h=>?_|refine runQG_fk (fun h=>?_) fun h=>?_|refine sw_condg rfl (fun h=>?_) fun h=>?_|refine hK.skp rfl rfl ?_|refine sw_exit rfl ?_|refine sw_loopEnd ?_|refine hK.cM rfl rfl rfl (cR) ?_|refine hK.c1 rfl rfl rfl (contains_fc _ _ _) ?_|(refine hK.fork rfl rfl rfl ?_ ?_<;>intro h<;>try simp (disch:=(refine Om.mk ?_;omega)) only[go_sem] at h)|with_reducible refine and_o ?_|((with_reducible refine And.intro ?_ ?_);· first|(intro x hx;subst hx;rfl)|exact upR_mem fun _ _=>rfl|exact mapR_mem fun _ _=>rfl|(intro x;refine And.intro ?_ ?_<;>(intros;subst_vars;rfl)))|apply tTT
    all_goals first|exact key.get|(exfalso;first|omega|exact h2 (by assumption))|trace_state
   refine sw_loopT (ι:=(List Int×Bool)×List (List Int)×List (List Int)×List TransT) (fun p=>[(9,.bool p.1.2),(4,.sl (.own 112000 64 3) (mapR (fun i y=>TransL (q++[i]) y) p.2.2.2))]) (fun p=>[(500,shC rs LF SF sk 501 p.2.2.1 (mpd m B.w.heap.size (strE .i64 .i64 (keyM 0 p.2.2.1)))),(45,p.1.1.map (.int .i64))]) (fun _=>[112000,501]) (fun p=>(((p.1.1.length=n∧∀x∈p.1.1,0≤x∧x<sets.length)∧p.2.2.1.length≤16)∧p.2.2.2.length+(if p.1.2=true then p.2.1.length+1 else 0)+(evK rs sk sets.length k).length≤40000)∧((∀s∈p.2.2.1,NumsOk s)∧∃r,p.2.2.1=sets++r)∧(p.1.2=true→(SeqD (List.replicate n (0,(sets.length:Int)-1)) (p.1.1::p.2.1)∧∀l∈p.2.1,l.length=n∧∀x∈l,0≤x∧x<sets.length)∧capN (imgN LF SF) sets ((p.1.1::p.2.1).map (fun l=>(i,l))++evK rs sk sets.length k) p.2.2.1 p.2.2.2=C)∧(p.1.2=false→capN (imgN LF SF) sets (evK rs sk sets.length k) p.2.2.1 p.2.2.2=C)) (fun p=>if p.1.2=true then p.2.1.length+1 else 0) ((List.replicate n 0,true),A0,out,ru) (by(refine covers_mk0 rfl rfl ?_ ?_ ?_ ?_<;>simp (disch:=(refine Om.mk ?_;omega)) only[go_sem]<;>(try omega));all_goals first|rfl|exact⟨rfl,rfl⟩|exact⟨rfl,rfl,rfl⟩|trace_state) ⟨⟨⟨hdig _ List.mem_cons_self,ho⟩,by simp only[List.length_append,List.length_map,List.length_cons] at hr;dsimp only;rw[if_pos rfl];omega⟩,⟨hok,rx,hpre⟩,fun _=>⟨⟨hseq,fun l hl=>hdig l (List.mem_cons_of_mem _ hl)⟩,hc⟩,fun h=>by cases h⟩ (fun p hp=>?_)
   obtain⟨⟨l,mr⟩,A,out,ru⟩:=p
   obtain⟨⟨⟨⟨hl1,hl2⟩,ho⟩,hr⟩,⟨hok,rx,hpre⟩,hm1,hm2⟩:=hp
   dsimp only at hl1 hl2 ho hr hok hpre hm1 hm2
   simp only[go_sem]
   cases mr with
   | false =>
    have hm2:=hm2 rfl
    rw[if_neg (by simp)] at hr
    repeat' first|exact h.elim|(exfalso;omega)|refine sw_n ?_|refine sw_go 0 kp151 fun K hK=>?_|refine fun (K:KT) (hK:KOk S 0 _ _ _ K)=>?_|refine sw_goD kp151 (by kernel_rfl) fun K hK=>?_|refine runL_g ?_|refine runQ_g ?_|refine sw_retg0 ?_|refine sw_retg ?_|(refine hK.n0 ?_;clear hK K)|refine runG_fk (fun h=>?_) fun h=>?_|refine runQG_fk (fun h=>?_) fun h=>?_|refine sw_condg rfl (fun h=>?_) fun h=>?_|refine hK.skp rfl rfl ?_|refine sw_exit rfl ?_|refine sw_loopEnd ?_|(refine hK.fork rfl rfl rfl ?_ ?_<;>intro h<;>try simp (disch:=(refine Om.mk ?_;omega)) only[go_sem] at h)|with_reducible refine and_o ?_|((with_reducible refine And.intro ?_ ?_);· first|(intro x hx;subst hx;rfl)|exact upR_mem fun _ _=>rfl|exact mapR_mem fun _ _=>rfl|(intro x;refine And.intro ?_ ?_<;>(intros;subst_vars;rfl)))|apply tTT
    exact⟨(i+1,out,ru),(by(refine covers_mk0 rfl rfl ?_ ?_ ?_ ?_<;>simp (disch:=(refine Om.mk ?_;omega)) only[go_sem]<;>(try omega));all_goals first|rfl|exact⟨rfl,rfl⟩|exact⟨rfl,rfl,rfl⟩|trace_state),⟨⟨⟨by dsimp only;omega,ho⟩,by dsimp only;rw[hkE];omega⟩,⟨hok,rx,hpre⟩,by dsimp only;rw[hkE];exact hm2⟩,by dsimp only;omega⟩
   | true =>
    obtain⟨⟨hs,hA1⟩,hcc⟩:=hm1 rfl
    rw[if_pos rfl] at hr
    have hol:sets.length≤out.length:=by rw[hpre,List.length_append];omega
    have hlE:lstS out l=lstS sets l:=by
     unfold lstS
     refine List.map_congr_left fun x hx=>?_
     have:=hl2 x hx
     rw[hpre,List.getD_eq_getElem?_getD,List.getElem?_append_left (by omega),←List.getD_eq_getElem?_getD]
    generalize hS:imgN LF SF i (lstS sets l)=s at *
    have cI:=result_fc rs LF SF out m B.w.heap.size (strE .i64 .i64 (keyM 0 out)) sk i n l hl1.symm (by omega) (fun j hj=>by have:=hl2 _ (getD_mem l j hj);omega) (by rw[hl1,←hnt];exact hO.lf i hil) (by rw[hl1,←hnt];exact hO.sf i hil) (by omega) s (by rw[hlE];exact hS)
    unfold shC at cI
    have cA:=repeatedA_fc 0 n (by omega)
    have cB:=repeatedA_fc ((sets.length:Int)-1) n (by omega)
    rw[←hn] at cA cB
    have cU:=countUp_fc 45 (List.replicate n (0,(sets.length:Int)-1)) l (by simp[hl1]) (by omega) (fun x hx=>by have:=hl2 x hx;omega)
    rw[show List.replicate n ((0:Int),(sets.length:Int)-1)=List.replicate l.length (0,(sets.length:Int)-1) by rw[hl1],←next_nxt,hl1,show lowD (List.replicate n ((0:Int),(sets.length:Int)-1))=List.replicate n 0 by simp[lowD],show (List.replicate n ((0:Int),(sets.length:Int)-1)).map (·.2)=List.replicate n ((sets.length:Int)-1) by simp] at cU
    have hnx:=loop_next hl1 hl2 hs
    have hrl2:(List.replicate n (0:Int)).length=n:=List.length_replicate
    have hrl3:(List.replicate n ((sets.length:Int)-1)).length=n:=List.length_replicate
    generalize hZ0:List.replicate n (0:Int)=Z0 at cA cU hrl2
    generalize hZ1:List.replicate n ((sets.length:Int)-1)=Z1 at cB cU hrl3
    cases s with
    | none =>
     have hcq:capN (imgN LF SF) sets (A.map (fun l=>(i,l))++evK rs sk sets.length k) out ru=C:=by
      simp only[List.map_cons,List.cons_append,capN,hS] at hcc
      exact hcc
     repeat' first|exact h.elim|(exfalso;omega)|(refine hK.callB rfl rfl rfl (cU) (by refine⟨⟨?_,?_,?_,?_,?_⟩,⟨?_,?_,?_,?_,?_⟩,?_⟩<;>simp[LS.getBox,Lg.look,D.ids,D.idsL,idsL_i,LS.clean,D.puOk,D.pu,D.pu1,D.tks,D.tksL,inTok,tksL_i,puOk_i,mpd,Int64SL]) ?_;simp (disch:=(refine Om.mk ?_;omega)) only[go_sem])|refine sw_n ?_|refine sw_go 0 kp151 fun K hK=>?_|refine fun (K:KT) (hK:KOk S 0 _ _ _ K)=>?_|refine sw_goD kp151 (by kernel_rfl) fun K hK=>?_|refine runL_g ?_|refine runQ_g ?_|refine sw_retg0 ?_|refine sw_retg ?_|(refine hK.n0 ?_;clear hK K)|refine runG_fk (fun h=>?_) fun h=>?_|refine runQG_fk (fun h=>?_) fun h=>?_|refine sw_condg rfl (fun h=>?_) fun h=>?_|refine hK.skp rfl rfl ?_|refine sw_exit rfl ?_|refine sw_loopEnd ?_|refine hK.cR rfl rfl rfl (cI) ?_|refine hK.c1 rfl rfl rfl (cA) ?_|refine hK.c1 rfl rfl rfl (cB) ?_|(refine hK.fork rfl rfl rfl ?_ ?_<;>intro h<;>try simp (disch:=(refine Om.mk ?_;omega)) only[go_sem] at h)|with_reducible refine and_o ?_|((with_reducible refine And.intro ?_ ?_);· first|(intro x hx;subst hx;rfl)|exact upR_mem fun _ _=>rfl|exact mapR_mem fun _ _=>rfl|(intro x;refine And.intro ?_ ?_<;>(intros;subst_vars;rfl)))|apply tTT
     all_goals first|exact⟨(((nextL (sets.length:Int) l).1,(nextL (sets.length:Int) l).2),A.tail,out,ru),(by(refine covers_mk0 rfl rfl ?_ ?_ ?_ ?_<;>simp (disch:=(refine Om.mk ?_;omega)) only[go_sem]<;>(try omega));all_goals first|rfl|exact⟨rfl,rfl⟩|exact⟨rfl,rfl,rfl⟩|(simp;done)|trace_state),⟨⟨⟨hnx.1,ho⟩,by dsimp only;have:=@List.length_tail _ A;split<;>omega⟩,⟨hok,rx,hpre⟩,fun h=>⟨⟨(hnx.2.1 h).1,fun m hm=>hA1 m (List.mem_of_mem_tail hm)⟩,by have e:=(hnx.2.1 h).2;rw[e] at hcq;exact hcq⟩,fun h=>by have:=hnx.2.2 h;dsimp only;rw[this] at hcq;exact hcq⟩,nx_meas hnx⟩|trace_state
    | some s =>
     have hsn:=imgN_nums hO.nm _ _ _ hS
     have hg:=keyM_good 0 out hok
     have hfk:=findS_key hsn 0 out hok
     have hkg:=key_good hsn
     have hmT:S.P.underlying 140=some (.map 199 3):=by kernel_rfl
     have hmZ:∀w,(zeroValue 3).run S.P w=.ok (.int .i64 0) w:=fun w=>by kernel_rfl
     have hcq:(if 16<(addQ out s).length then (addQ out s,[],false) else capN (imgN LF SF) sets (A.map (fun l=>(i,l))++evK rs sk sets.length k) (addQ out s) (ru++[trE (i,l) ((addQ out s).idxOf s)]))=C:=by
      simp only[List.map_cons,List.cons_append,capN,hS] at hcc
      exact hcc
     have cC:=cloneNL_fc (q++[ru.length]++[1]) (by simp) 45 n l hl1.symm (by omega)
     repeat' first|exact h.elim|(exfalso;omega)|(refine sw_any (id:=13) kp151 [(true,[]),(false,[0]),(false,[1]),(false,[2]),(true,[]),(false,[4]),(false,[3,5]),(true,[6]),(false,[7]),(false,[7]),(false,[8,5,0,1,2,3,4,5,6,7,8]),(false,[9,10,0,1,2,3,4,5,6,7,8,9,10])] ⟨114,[(0,.box 500 0),(4,.sl (.own 112000 64 3) (mapR (fun i y=>TransL (q++[i]) y) ru)),(5,.int .i64 sets.length),(6,.int .i64 i),(7,.int .i64 (rs.getD i default)),(8,.ms 45 n),(10,.sl .any (s.map (.int .i64))),(12,.int .i64 ((findS (keyM 0 out) (keyB s)).getD 0)),(13,.bool (findS (keyM 0 out) (keyB s)).isSome),(23,.sl .any (rs.map (.int .i64))),(24,.int .i64 rs.length),(25,.int .i64 i)],[(500,shC rs LF SF sk 501 out (mpd m B.w.heap.size (strE .i64 .i64 (keyM 0 out)))),(45,l.map (.int .i64))],[],[112000,501],[500]⟩ (by kernel_rfl) ?_ (StpN.get ?_);simp only[List.length_cons,List.length_nil,Nat.reduceAdd])|(refine hK.raw ?_;refine LopsW.callW rfl rfl rfl hw hT (keyOf_fc s hsn.1 hsn.2) ⟨⟨by simp only[Nat.reduceLT],by simp,by simp,by simp,by simp⟩,⟨by simp[sKD_ids],by simp,by simp[sKD_tks],by simp,by simp⟩,by simp[LS.clean,D.tks,D.tksL,tksL_i,mpd,inTok]⟩ (LopsW.nil ?_);simp only[go_sem,List.filter_cons,List.filter_nil,Bool.false_eq_true])|((with_reducible refine lops_lk ?_);refine LopsW.mapGetS (k:=keyB s) hmT keyS hmZ rfl rfl hkg hg (by simp only[Nat.reduceLT]) (LopsW.nil ?_);simp only[go_sem])|(refine anyB_unf ?_;simp only[stepF_n,stepF_c,goR_n,goR_c,exR_n,exR_c,memB_n,memB_c,subB_n,subB_c,moveY_m,moveY_f,moveY_i,cond_t,cond_f,true_and,and_true,Bool.not_false,Bool.not_true,Bool.and_true,Bool.and_false,Bool.true_and,Bool.false_and,Bool.or_false,Bool.false_or,Bool.true_or,Bool.or_true,Nat.reduceBEq,Nat.reduceAdd])|(refine anyB_move (by simp only[Nat.reduceLT]) rfl (by simp only[go_sem];exact rfl) ?_)|(refine anyB_fa (by simp only[Nat.reduceLT]) rfl rfl rfl rfl (by decide) (by simp only[go_sem];exact rfl) ?_)|(refine hK.nil (anyB_id ?_);clear hK K)|(refine lops_and ?_ ?_)|(refine lops_go 0 ?_;refine fun (K:List Oper→LS→Prop) (hK:KOk S 0 _ _ _ K)=>?_;simp (disch:=(refine Om.mk ?_;omega)) only[go_sem])|(refine anyB_end ?_;simp (disch:=(refine Om.mk ?_;omega)) only[go_sem];(refine covers_mk0 rfl rfl ?_ ?_ ?_ ?_<;>simp (disch:=(refine Om.mk ?_;omega)) only[go_sem]<;>(try omega));done)|refine sw_n ?_|refine sw_go 0 kp151 fun K hK=>?_|refine fun (K:KT) (hK:KOk S 0 _ _ _ K)=>?_|refine sw_goD kp151 (by kernel_rfl) fun K hK=>?_|refine runL_g ?_|refine runQ_g ?_|refine sw_retg0 ?_|refine sw_retg ?_|(refine hK.n0 ?_;clear hK K)|refine runG_fk (fun h=>?_) fun h=>?_|refine runQG_fk (fun h=>?_) fun h=>?_|refine sw_condg rfl (fun h=>?_) fun h=>?_|refine hK.skp rfl rfl ?_|refine sw_exit rfl ?_|refine sw_loopEnd ?_|refine hK.cR rfl rfl rfl (cI) ?_|(refine hK.fork rfl rfl rfl ?_ ?_<;>intro h<;>try simp (disch:=(refine Om.mk ?_;omega)) only[go_sem] at h)|with_reducible refine and_o ?_|((with_reducible refine And.intro ?_ ?_);· first|(intro x hx;subst hx;rfl)|exact upR_mem fun _ _=>rfl|exact mapR_mem fun _ _=>rfl|(intro x;refine And.intro ?_ ?_<;>(intros;subst_vars;rfl)))|apply tTT
     refine⟨?_⟩
     by_cases hso:s∈out
     ·rw[hfk,if_pos hso,Nat.zero_add]
      rw[show addQ out s=out from if_pos hso,if_neg (by omega)] at hcq
      generalize hIx:out.idxOf s=ix at hcq ⊢
      simp only[go_sem]
      repeat' first|exact h.elim|(exfalso;omega)|(with_reducible refine And.intro (List.mem_filter.2 ⟨by simp,by simp⟩) ?_)|(refine And.intro (transN_cells q ru) ?_)|(refine hK.callB rfl rfl rfl (cC) (by refine⟨⟨?_,?_,?_,?_,?_⟩,⟨?_,?_,?_,?_,?_⟩,?_⟩<;>simp[LS.getBox,Lg.look,D.ids,D.idsL,idsL_i,LS.clean,D.puOk,D.pu,D.pu1,D.tks,D.tksL,inTok,tksL_i,puOk_i,mpd,Int64SL]) ?_;simp (disch:=(refine Om.mk ?_;omega)) only[go_sem])|(refine hK.callB rfl rfl rfl (cU) (by refine⟨⟨?_,?_,?_,?_,?_⟩,⟨?_,?_,?_,?_,?_⟩,?_⟩<;>simp[LS.getBox,Lg.look,D.ids,D.idsL,idsL_i,LS.clean,D.puOk,D.pu,D.pu1,D.tks,D.tksL,inTok,tksL_i,puOk_i,mpd,Int64SL]) ?_;simp (disch:=(refine Om.mk ?_;omega)) only[go_sem])|refine sw_n ?_|refine sw_go 0 kp151 fun K hK=>?_|refine fun (K:KT) (hK:KOk S 0 _ _ _ K)=>?_|refine sw_goD kp151 (by kernel_rfl) fun K hK=>?_|refine runL_g ?_|refine runQ_g ?_|refine sw_retg0 ?_|refine sw_retg ?_|(refine hK.n0 ?_;clear hK K)|refine runG_fk (fun h=>?_) fun h=>?_|refine runQG_fk (fun h=>?_) fun h=>?_|refine sw_condg rfl (fun h=>?_) fun h=>?_|refine hK.skp rfl rfl ?_|refine sw_exit rfl ?_|refine sw_loopEnd ?_|refine hK.c1 rfl rfl rfl (cA) ?_|refine hK.c1 rfl rfl rfl (cB) ?_|(refine hK.fork rfl rfl rfl ?_ ?_<;>intro h<;>try simp (disch:=(refine Om.mk ?_;omega)) only[go_sem] at h)|with_reducible refine and_o ?_|((with_reducible refine And.intro ?_ ?_);· first|(intro x hx;subst hx;rfl)|exact upR_mem fun _ _=>rfl|exact mapR_mem fun _ _=>rfl|(intro x;refine And.intro ?_ ?_<;>(intros;subst_vars;rfl)))|apply tTT
      all_goals first|exact⟨(((nextL (sets.length:Int) l).1,(nextL (sets.length:Int) l).2),A.tail,out,ru++[trE (i,l) ix]),(by(refine covers_mk0 rfl rfl ?_ ?_ ?_ ?_<;>simp (disch:=(refine Om.mk ?_;omega)) only[go_sem]<;>(try omega));all_goals first|rfl|exact⟨rfl,rfl⟩|exact⟨rfl,rfl,rfl⟩|(simp only[mapR_snocN,List.map_append];first|rfl|exact⟨rfl,rfl⟩|exact⟨rfl,rfl,rfl⟩|(simp;done))|(simp;done)|trace_state),⟨⟨⟨hnx.1,by first|omega|(simp only[lens];omega)⟩,by have e1:=@List.length_tail _ A;simp only[List.length_append,List.length_cons,List.length_nil];split<;>first|omega|(have e2:=congrArg List.length (hnx.2.1 (by assumption)).2;simp only[List.length_cons] at e2;omega)⟩,⟨hok,rx,hpre⟩,fun h=>⟨⟨(hnx.2.1 h).1,fun m hm=>hA1 m (List.mem_of_mem_tail hm)⟩,by have e:=(hnx.2.1 h).2;rw[e] at hcq;exact hcq⟩,fun h=>by have:=hnx.2.2 h;dsimp only;rw[this] at hcq;exact hcq⟩,nx_meas hnx⟩|trace_state
     ·rw[if_neg hso] at hfk
      rw[hfk]
      rw[show addQ out s=out++[s] from if_neg hso,show (out++[s]).length=out.length+1 by simp,idx_newN hso] at hcq
      have hkm:=keyM_snoc s 0 out
      rw[Nat.zero_add] at hkm
      have hok2:∀x∈out++[s],NumsOk x:=fun x hx=>(List.mem_append.1 hx).elim (hok x) fun h=>by rw[List.mem_singleton.1 h];exact hsn
      simp only[go_sem]
      repeat' first|exact h.elim|(exfalso;omega)|(refine sw_any (id:=16) kp151 [(true,[]),(false,[0]),(false,[1]),(false,[2]),(true,[]),(false,[4]),(true,[]),(false,[3,5,6,5,0,1,2,3,4,5,6])] ⟨114,[(0,.box 500 0),(4,.sl (.own 112000 64 3) (mapR (fun i y=>TransL (q++[i]) y) ru)),(5,.int .i64 sets.length),(6,.int .i64 i),(7,.int .i64 (rs.getD i default)),(8,.ms 45 n),(10,.sl .any (s.map (.int .i64))),(12,.int .i64 out.length),(23,.sl .any (rs.map (.int .i64))),(24,.int .i64 rs.length),(25,.int .i64 i)],[(500,shC rs LF SF sk 501 out (mpd m B.w.heap.size (strE .i64 .i64 (keyM 0 out++[(keyB s,((out.length:Nat):Int))])))),(45,l.map (.int .i64))],[],[112000,501],[500]⟩ (by kernel_rfl) ?_ (StpN.get ?_);simp only[List.length_cons,List.length_nil,Nat.reduceAdd])|(refine hK.raw ?_;refine LopsW.callW rfl rfl rfl hw hT (keyOf_fc s hsn.1 hsn.2) ⟨⟨by simp only[Nat.reduceLT],by simp,by simp,by simp,by simp⟩,⟨by simp[sKD_ids],by simp,by simp[sKD_tks],by simp,by simp⟩,by simp[LS.clean,D.tks,D.tksL,tksL_i,mpd,inTok]⟩ (LopsW.nil ?_);simp only[go_sem,List.filter_cons,List.filter_nil,Bool.false_eq_true])|(refine anyB_unf ?_;simp only[stepF_n,stepF_c,goR_n,goR_c,exR_n,exR_c,memB_n,memB_c,subB_n,subB_c,moveY_m,moveY_f,moveY_i,cond_t,cond_f,true_and,and_true,Bool.not_false,Bool.not_true,Bool.and_true,Bool.and_false,Bool.true_and,Bool.false_and,Bool.or_false,Bool.false_or,Bool.true_or,Bool.or_true,Nat.reduceBEq,Nat.reduceAdd])|(refine anyB_move (by simp only[Nat.reduceLT]) rfl (by simp only[go_sem];exact rfl) ?_)|(refine anyB_fa (by simp only[Nat.reduceLT]) rfl rfl rfl rfl (by decide) (by simp only[go_sem];exact rfl) ?_)|(refine hK.nil (anyB_id ?_);clear hK K)|(refine lops_and ?_ ?_)|(refine lops_go 0 ?_;refine fun (K:List Oper→LS→Prop) (hK:KOk S 0 _ _ _ K)=>?_;simp (disch:=(refine Om.mk ?_;omega)) only[go_sem])|(refine anyB_end ?_;simp (disch:=(refine Om.mk ?_;omega)) only[go_sem];(refine covers_mk0 rfl rfl ?_ ?_ ?_ ?_<;>simp (disch:=(refine Om.mk ?_;omega)) only[go_sem]<;>(try omega));done)|refine sw_n ?_|refine sw_go 0 kp151 fun K hK=>?_|refine fun (K:KT) (hK:KOk S 0 _ _ _ K)=>?_|refine sw_goD kp151 (by kernel_rfl) fun K hK=>?_|refine runL_g ?_|refine runQ_g ?_|refine sw_retg0 ?_|refine sw_retg ?_|(refine hK.n0 ?_;clear hK K)|refine runG_fk (fun h=>?_) fun h=>?_|refine runQG_fk (fun h=>?_) fun h=>?_|refine sw_condg rfl (fun h=>?_) fun h=>?_|refine hK.skp rfl rfl ?_|refine sw_exit rfl ?_|refine sw_loopEnd ?_|(refine hK.fork rfl rfl rfl ?_ ?_<;>intro h<;>try simp (disch:=(refine Om.mk ?_;omega)) only[go_sem] at h)|with_reducible refine and_o ?_|((with_reducible refine And.intro ?_ ?_);· first|(intro x hx;subst hx;rfl)|exact upR_mem fun _ _=>rfl|exact mapR_mem fun _ _=>rfl|(intro x;refine And.intro ?_ ?_<;>(intros;subst_vars;rfl)))|apply tTT
      all_goals first|((with_reducible refine lops_mu ?_);refine LopsW.mapPutS (k:=keyB s) (v:=((out.length:Nat):Int)) hmT keyS rfl rfl rfl hkg hg hfk [(0,.box 500 0),(4,.sl (.own 112000 64 3) (mapR (fun i y=>TransL (q++[i]) y) ru)),(5,.int .i64 sets.length),(6,.int .i64 i),(7,.int .i64 (rs.getD i default)),(8,.ms 45 n),(10,.sl .any (s.map (.int .i64))),(12,.int .i64 out.length),(23,.sl .any (rs.map (.int .i64))),(24,.int .i64 rs.length),(25,.int .i64 i)] [(500,shC rs LF SF sk 501 out (mpd m B.w.heap.size (strE .i64 .i64 (keyM 0 out++[(keyB s,((out.length:Nat):Int))])))),(45,l.map (.int .i64))] ?_ ?_ (LopsW.nil ?_);(focus (intro p hp;simp only[List.mem_cons,List.not_mem_nil,or_false] at hp;rcases hp with rfl|rfl|rfl|rfl|rfl|rfl|rfl|rfl|rfl|rfl|rfl;all_goals first|exact⟨_,rfl,.inl ⟨rfl,rfl⟩⟩|exact⟨_,rfl,.inl ⟨noP_transN _ _ _,rfl⟩⟩|exact⟨_,rfl,.inl ⟨noP_intsN _ _,rfl⟩⟩));(focus (intro p hp;simp only[List.mem_cons,List.not_mem_nil,or_false] at hp;rcases hp with rfl|rfl;(exact⟨_,rfl,rfl,mpk_shC rs LF SF sk 501 out⟩);(exact⟨_,rfl,rfl,mpk_sameN (noPL_of fun d hd=>by obtain⟨s,_,rfl⟩:=List.mem_map.1 hd;rfl)⟩))))|skip
      all_goals try (refine anyB_end ?_;simp only[go_sem];(refine covers_mk0 rfl rfl ?_ ?_ ?_ ?_<;>simp (disch:=(refine Om.mk ?_;omega)) only[go_sem]<;>(try omega));done)
      refine⟨?_⟩
      rw[←hkm]
      simp only[go_sem]
      by_cases hov:16<out.length+1
      ·rw[if_pos hov] at hcq
       subst hcq
       repeat' first|exact h.elim|(exfalso;first|omega|(simp only[List.length_append,List.length_map,List.length_cons,List.length_nil] at h;omega))|(refine sw_renC 96000 501 rfl (by simp[LS.clean,mpd,D.tks,D.tksL,tksL_i]) ?_;simp only[go_sem])|(refine sw_tok 2 112000 64 3 rfl (.inl rfl) (by simp[LS.purge,LS.clean,mapA,pu1_c,mpd,D.pu,D.pu1,D.tks,D.tksL,tksL_i,pu1_i]) ?_;simp only[go_sem];refine sw_weak (L':=⟨114,[(2,.sl (.own 112000 64 3) []),(3,.bool false)],[(500,shC rs LF SF sk 501 (out++[s]) (mpd m B.w.heap.size (strE .i64 .i64 (keyM 0 (out++[s])))))],[],[112000,501],[500]⟩) (by(refine covers_mk0 rfl rfl ?_ ?_ ?_ ?_<;>simp (disch:=(refine Om.mk ?_;omega)) only[go_sem]<;>(try omega));all_goals first|rfl|exact⟨rfl,rfl⟩|(rw[List.map_append];rfl)|trace_state) ?_)|refine sw_n ?_|refine sw_go 0 kp151 fun K hK=>?_|refine fun (K:KT) (hK:KOk S 0 _ _ _ K)=>?_|refine sw_goD kp151 (by kernel_rfl) fun K hK=>?_|refine runL_g ?_|refine runQ_g ?_|refine sw_retg0 ?_|refine sw_retg ?_|(refine hK.n0 ?_;clear hK K)|refine runG_fk (fun h=>?_) fun h=>?_|refine runQG_fk (fun h=>?_) fun h=>?_|refine sw_condg rfl (fun h=>?_) fun h=>?_|refine hK.skp rfl rfl ?_|refine sw_exit rfl ?_|refine sw_loopEnd ?_|(refine hK.fork rfl rfl rfl ?_ ?_<;>intro h<;>try simp (disch:=(refine Om.mk ?_;omega)) only[go_sem] at h)|with_reducible refine and_o ?_|((with_reducible refine And.intro ?_ ?_);· first|(intro x hx;subst hx;rfl)|exact upR_mem fun _ _=>rfl|exact mapR_mem fun _ _=>rfl|(intro x;refine And.intro ?_ ?_<;>(intros;subst_vars;rfl)))|apply tTT
       all_goals first|exact hEnd|trace_state
      ·rw[if_neg hov] at hcq
       repeat' first|exact h.elim|(exfalso;first|omega|(simp only[List.length_append,List.length_map,List.length_cons,List.length_nil] at h;omega))|(refine sw_renC 96000 501 rfl (by simp[LS.clean,mpd,D.tks,D.tksL,tksL_i]) ?_;simp only[go_sem])|(with_reducible refine And.intro (List.mem_filter.2 ⟨by simp,by simp⟩) ?_)|(refine And.intro (transN_cells q ru) ?_)|(refine hK.callB rfl rfl rfl (cC) (by refine⟨⟨?_,?_,?_,?_,?_⟩,⟨?_,?_,?_,?_,?_⟩,?_⟩<;>simp[LS.getBox,Lg.look,D.ids,D.idsL,idsL_i,LS.clean,D.puOk,D.pu,D.pu1,D.tks,D.tksL,inTok,tksL_i,puOk_i,mpd,Int64SL]) ?_;simp (disch:=(refine Om.mk ?_;omega)) only[go_sem])|(refine hK.callB rfl rfl rfl (cU) (by refine⟨⟨?_,?_,?_,?_,?_⟩,⟨?_,?_,?_,?_,?_⟩,?_⟩<;>simp[LS.getBox,Lg.look,D.ids,D.idsL,idsL_i,LS.clean,D.puOk,D.pu,D.pu1,D.tks,D.tksL,inTok,tksL_i,puOk_i,mpd,Int64SL]) ?_;simp (disch:=(refine Om.mk ?_;omega)) only[go_sem])|refine sw_n ?_|refine sw_go 0 kp151 fun K hK=>?_|refine fun (K:KT) (hK:KOk S 0 _ _ _ K)=>?_|refine sw_goD kp151 (by kernel_rfl) fun K hK=>?_|refine runL_g ?_|refine runQ_g ?_|refine sw_retg0 ?_|refine sw_retg ?_|(refine hK.n0 ?_;clear hK K)|refine runG_fk (fun h=>?_) fun h=>?_|refine runQG_fk (fun h=>?_) fun h=>?_|refine sw_condg rfl (fun h=>?_) fun h=>?_|refine hK.skp rfl rfl ?_|refine sw_exit rfl ?_|refine sw_loopEnd ?_|refine hK.c1 rfl rfl rfl (cA) ?_|refine hK.c1 rfl rfl rfl (cB) ?_|(refine hK.fork rfl rfl rfl ?_ ?_<;>intro h<;>try simp (disch:=(refine Om.mk ?_;omega)) only[go_sem] at h)|with_reducible refine and_o ?_|((with_reducible refine And.intro ?_ ?_);· first|(intro x hx;subst hx;rfl)|exact upR_mem fun _ _=>rfl|exact mapR_mem fun _ _=>rfl|(intro x;refine And.intro ?_ ?_<;>(intros;subst_vars;rfl)))|apply tTT
       all_goals try (exfalso;simp only[List.length_append,List.length_map,List.length_cons,List.length_nil] at h;omega)
       all_goals first|exact⟨(((nextL (sets.length:Int) l).1,(nextL (sets.length:Int) l).2),A.tail,out++[s],ru++[trE (i,l) out.length]),(by(refine covers_mk0 rfl rfl ?_ ?_ ?_ ?_<;>simp (disch:=(refine Om.mk ?_;omega)) only[go_sem]<;>(try omega));all_goals first|rfl|exact⟨rfl,rfl⟩|exact⟨rfl,rfl,rfl⟩|(simp only[mapR_snocN,List.map_append];first|rfl|exact⟨rfl,rfl⟩|exact⟨rfl,rfl,rfl⟩|(simp;done))|(simp;done)|trace_state),⟨⟨⟨hnx.1,by first|omega|(simp only[lens];omega)⟩,by have e1:=@List.length_tail _ A;simp only[List.length_append,List.length_cons,List.length_nil];split<;>first|omega|(have e2:=congrArg List.length (hnx.2.1 (by assumption)).2;simp only[List.length_cons] at e2;omega)⟩,⟨hok2,rx++[s],by rw[hpre,List.append_assoc]⟩,fun h=>⟨⟨(hnx.2.1 h).1,fun m hm=>hA1 m (List.mem_of_mem_tail hm)⟩,by have e:=(hnx.2.1 h).2;rw[e] at hcq;exact hcq⟩,fun h=>by have:=hnx.2.2 h;dsimp only;rw[this] at hcq;exact hcq⟩,nx_meas hnx⟩|trace_state
 ·obtain rfl:i=rs.length:=by omega
  rw[Nat.sub_self] at hc
  simp only[evK,capN] at hc
  subst hc
  repeat' first|exact h.elim|(exfalso;omega)|refine sw_n ?_|refine sw_go 0 kp151 fun K hK=>?_|refine fun (K:KT) (hK:KOk S 0 _ _ _ K)=>?_|refine sw_goD kp151 (by kernel_rfl) fun K hK=>?_|refine runL_g ?_|refine runQ_g ?_|refine sw_retg0 ?_|refine sw_retg ?_|(refine hK.n0 ?_;clear hK K)|refine runG_fk (fun h=>?_) fun h=>?_|refine runQG_fk (fun h=>?_) fun h=>?_|refine sw_condg rfl (fun h=>?_) fun h=>?_|refine hK.skp rfl rfl ?_|refine sw_exit rfl ?_|refine sw_loopEnd ?_|(refine hK.fork rfl rfl rfl ?_ ?_<;>intro h<;>try simp (disch:=(refine Om.mk ?_;omega)) only[go_sem] at h)|with_reducible refine and_o ?_|((with_reducible refine And.intro ?_ ?_);· first|(intro x hx;subst hx;rfl)|exact upR_mem fun _ _=>rfl|exact mapR_mem fun _ _=>rfl|(intro x;refine And.intro ?_ ?_<;>(intros;subst_vars;rfl)))|apply tTT
  all_goals exact hEnd
end Go.Proofs.YtkfkdgginfpdnaaGreatDoor
end
section
namespace Go.Proofs.YtkfkdgginfpdnaaGreatDoor
open Go Go.Lg
set_option linter.unusedSimpArgs false
set_option linter.unusedVariables false
set_option maxHeartbeats 4000000
attribute [local irreducible] Lg.SW runL runQ runG runQG FC FCw Ret1 RetN toF redoL anyB
attribute [local go_sem] shC
def anyV:D:=.pred fun _ _ _=>True
theorem mpd_any (m n0:Nat) (es:List (Value×Value)):D.le (mpd m n0 es) anyV:=.kn fun G w v h=>by
 cases h with
 | pred hv h=>exact .pred hv fun _ _ _=>trivial
theorem shC_any (rs:List Int) (LF SF:List FormT) (sk:List Int) (K:Nat) (out:List (List Int)) (m n0:Nat) (es:List (Value×Value)):∀(j:Nat) c d,(shC rs LF SF sk K out (mpd m n0 es))[j]?=some c→(shC rs LF SF sk K out anyV)[j]?=some d→D.le c d:=fun j c d h1 h2=>by
 match j,h1,h2 with
 | 0,h1,h2=>cases h1;cases h2;exact .refl _
 | 1,h1,h2=>cases h1;cases h2;exact .refl _
 | 2,h1,h2=>cases h1;cases h2;exact .refl _
 | 3,h1,h2=>cases h1;cases h2;exact .refl _
 | 4,h1,h2=>cases h1;cases h2;exact .refl _
 | 5,h1,h2=>cases h1;cases h2;exact mpd_any _ _ _
 | j+6,h1,h2=>simp[shC] at h1
theorem ret_all {L:LS} {T z a b:Nat} {xs:List D} {bb:Bool} {rs:List Int} {LF SF:List FormT} {sk:List Int} {out:List (List Int)} (ha:a∈L.toks) (hb:b∈L.toks) (hab:a≠b) (hl:Lg.look L.boxes 500=some (shC rs LF SF sk b out anyV)):RetK (.tup [.sl (.own 0 T z) xs,.bool bb]) [(500,shC rs LF SF sk 1 out anyV)] 2 L (.tup [.sl (.own a T z) xs,.bool bb]):=by
 have e1:(a==b)=false:=by simpa using hab
 refine⟨[a,b],.tup [.sl (.own a T z) xs,.bool bb],.refl _,⟨rfl,by simp[hab]⟩,?_,?_,?_,?_⟩
 ·intro t ht;simp only[List.mem_cons,List.not_mem_nil,or_false] at ht;rcases ht with rfl|rfl<;>assumption
 ·intro k hk;simp[D.tks,D.tksL] at hk;simp[hk]
 ·simp[D.mT,D.mTL,List.idxOf_cons]
 ·intro p hp
  obtain rfl:=List.mem_singleton.1 hp
  refine⟨_,hl,fun k hk=>?_,?_⟩
  ·simp[shC,anyV,D.tksL,D.tks] at hk
   simp[hk]
  ·simp[shC,anyV,D.mT,D.mTL,List.idxOf_cons,e1]
theorem iterA_step {I:Nat→List (List Int)→Option (List Int)} {E:Nat→List (Nat×List Int)} {k:Nat} {s:List (List Int)} {R C:List (List Int)×List TransT×Bool} (h:iterA I E (k+1) s=R) (hC:capN I s (E s.length) s []=C):(C.2.2=true→C.1.length≠s.length→iterA I E k C.1=R)∧(¬(C.2.2=true∧C.1.length≠s.length)→C=R):=by
 unfold iterA at h
 rw[hC] at h
 exact⟨fun h1 h2=>by rw[if_pos ⟨h1,h2⟩] at h;exact h,fun h1=>by rw[if_neg h1] at h;exact h⟩
theorem lops_cut1 {S:Setup} {B:Base} {ops:Array Oper} {l:List Oper} {o:Oper} {L:LS} {M:LS→Prop} (h:LopsW S B ops [o] L fun L'=>LopsW S B ops l L' M):LopsW S B ops (o::l) L M:=LopsW.app (l:=[o]) h fun _ h=>h
theorem lops_cut2 {S:Setup} {B:Base} {ops:Array Oper} {l:List Oper} {o o2:Oper} {L:LS} {M:LS→Prop} (h:LopsW S B ops [o,o2] L fun L'=>LopsW S B ops l L' M):LopsW S B ops (o::o2::l) L M:=LopsW.app (l:=[o,o2]) h fun _ h=>h
theorem sw_regAt {S:Setup} {B:Base} {R:LS→Prop} {k:List VItem} {L:LS} (id:Nat) {l:List Oper} (h:LopsW S B l.toArray l L fun L'=>Lg.SW S B R k L'):Lg.SW S B R (.code (.region id l.toArray false)::k) L:=sw_region h
def kp105:List (Nat×List Nat):=[(0,[0]),(1,[0]),(2,[0,4]),(3,[0,4,5,6]),(4,[0,5,6,31]),(5,[2,3])]
attribute [go_sem] kp105 Tryz.results105 Tryz.ntmps105
end Go.Proofs.YtkfkdgginfpdnaaGreatDoor
end
section
namespace Go.Proofs.YtkfkdgginfpdnaaGreatDoor
open Go Go.Lg
set_option linter.unusedSimpArgs false
set_option linter.unusedVariables false
set_option maxHeartbeats 4000000
attribute [local irreducible] Lg.SW runL runQ runG runQG FC FCw Ret1 RetN toF redoL anyB
attribute [local go_sem] shC
theorem allV_fc (q:List Nat) (hq:q≠[]) (rs sk:List Int) (SF:List FormT) (hsk:sk.length≤1000) (hO:TblOk rs [] SF) (R:List (List Int)×List TransT×Bool) (hR:iterA (imgN [] SF) (fun n=>evK rs sk n rs.length) 18 []=R):FCw S TabW 105 [] [(500,[.sl .any (rs.map (.int .i64)),.sl .nil [],.sl .any (SF.map formD),.sl .any (sk.map (.int .i64)),.sl .nil [],.raw (.map none)])] [] [.box 500 0] (.tup [.sl (.own 0 64 3) (mapR (fun i y=>TransL (q++[i]) y) R.2.1),.bool R.2.2]) [(500,shC rs [] SF sk 1 R.1 anyV)] [0,1]:=by
 refine fcbW Tryz.func105 rfl fun B hw hT hI hpan=>?_
 obtain⟨g0,hg0⟩:=hI _ List.mem_cons_self
 repeat' first|exact h.elim|(refine sw_regAt 1 ?_)|refine sw_n ?_|refine sw_go 0 kp105 fun K hK=>?_|refine fun (K:KT) (hK:KOk S 0 _ _ _ K)=>?_|refine runL_g ?_|refine sw_retg0 ?_|refine sw_retg ?_|(refine hK.n0 ?_;clear hK K)|refine runG_fk (fun h=>?_) fun h=>?_|refine sw_condg rfl (fun h=>?_) fun h=>?_|refine hK.skp rfl rfl ?_|refine sw_loopEnd ?_|(refine hK.fork rfl rfl rfl ?_ ?_<;>intro h<;>try simp (disch:=(refine Om.mk ?_;omega)) only[go_sem] at h)|with_reducible refine and_o ?_|apply tTT
 refine lops_cut1 ?_
 refine lops_go 0 fun K hK=>?_
 simp only[go_sem]
 refine hK.nil ?_
 clear hK K
 refine LopsW.makeMap (by simp only[Nat.reduceLT]) fun m=>?_
 refine lops_cut2 ?_
 refine lops_go 0 fun K hK=>?_
 simp only[go_sem]
 refine hK.nil ?_
 clear hK K
 refine LopsW.storeMp rfl rfl rfl rfl ?s1 ?s2 (LopsW.nil ?_)
 case s1=>rfl
 case s2=>simp
 refine sw_keepAt kp105 1 ?_
 simp only[go_sem]
 refine sw_tokBox 500 4 501 22 1 rfl rfl (by simp[LS.purge,LS.clean,mapA,pu1_c,mpd,D.pu,D.pu1,D.tks,D.tksL,tksL_i,pu1_i]) ?_
 simp only[go_sem]
 refine sw_boxLe 500 (shC rs [] SF sk 501 [] (mpd m B.w.heap.size [])) rfl rfl (fun j c d h1 h2=>?_) ?_
 ·match j,h1,h2 with
  | 0,h1,h2=>cases h1;cases h2;exact .refl _
  | 1,h1,h2=>cases h1;cases h2;exact .any
  | 2,h1,h2=>cases h1;cases h2;exact .refl _
  | 3,h1,h2=>cases h1;cases h2;exact .refl _
  | 4,h1,h2=>cases h1;cases h2;exact .refl _
  | 5,h1,h2=>cases h1;cases h2;exact .refl _
  | j+6,h1,h2=>simp at h1
 simp only[go_sem]
 repeat' first|exact h.elim|refine sw_n ?_|refine sw_go 0 kp105 fun K hK=>?_|refine fun (K:KT) (hK:KOk S 0 _ _ _ K)=>?_|refine runL_g ?_|refine sw_retg0 ?_|refine sw_retg ?_|(refine hK.n0 ?_;clear hK K)|refine runG_fk (fun h=>?_) fun h=>?_|refine sw_condg rfl (fun h=>?_) fun h=>?_|refine hK.skp rfl rfl ?_|refine sw_loopEnd ?_|(refine hK.fork rfl rfl rfl ?_ ?_<;>intro h<;>try simp (disch:=(refine Om.mk ?_;omega)) only[go_sem] at h)|with_reducible refine and_o ?_|apply tTT
 refine sw_loopT (ι:=Nat×List (List Int)) (fun _=>[]) (fun x=>[(500,shC rs [] SF sk 501 x.2 (mpd m B.w.heap.size (strE .i64 .i64 (keyM 0 x.2))))]) (fun _=>[501]) (fun x=>(x.2.length≤16∧18≤x.1+x.2.length)∧((∀s∈x.2,NumsOk s)∧x.2.Nodup)∧iterA (imgN [] SF) (fun n=>evK rs sk n rs.length) x.1 x.2=R) (fun x=>x.1) (18,[]) cvB ⟨⟨by simp,by simp⟩,⟨fun s hs=>absurd hs List.not_mem_nil,List.nodup_nil⟩,hR⟩ (fun x hx=>?_)
 obtain⟨k,sets⟩:=x
 obtain⟨⟨h16,hk⟩,⟨hok,hnd⟩,hit⟩:=hx
 dsimp only at h16 hk hok hnd hit
 simp only[go_sem]
 obtain⟨k,rfl⟩:∃k',k=k'+1:=⟨k-1,by omega⟩
 have hkeep:=capN_keep (I:=imgN [] SF) (sets:=sets) (P:=NumsOk) (fun f l s h=>imgN_nums hO.nm f l s h) (evK rs sk sets.length rs.length) sets [] hok hnd
 have hlen:=capN_ok (I:=imgN [] SF) (sets:=sets) (evK rs sk sets.length rs.length) sets [] h16
 have hl16:=capF_len (I:=imgN [] SF) (sets:=sets) (evK rs sk sets.length rs.length) sets h16
 obtain⟨px,hpx⟩:=capF_pre (I:=imgN [] SF) (sets:=sets) (evK rs sk sets.length rs.length) sets
 obtain⟨C,hC⟩:∃C,capN (imgN [] SF) sets (evK rs sk sets.length rs.length) sets []=C:=⟨_,rfl⟩
 have hst:=iterA_step hit hC
 rw[hC] at hkeep hlen
 repeat' first|exact h.elim|(exfalso;omega)|(refine sw_goAt (id:=3) 0 kp105 1 rfl fun K hK=>?_)|refine sw_n ?_|refine sw_go 0 kp105 fun K hK=>?_|refine fun (K:KT) (hK:KOk S 0 _ _ _ K)=>?_|refine runL_g ?_|refine sw_retg0 ?_|refine sw_retg ?_|(refine hK.n0 ?_;clear hK K)|refine runG_fk (fun h=>?_) fun h=>?_|refine sw_condg rfl (fun h=>?_) fun h=>?_|refine hK.skp rfl rfl ?_|refine sw_loopEnd ?_|(refine hK.fork rfl rfl rfl ?_ ?_<;>intro h<;>try simp (disch:=(refine Om.mk ?_;omega)) only[go_sem] at h)|with_reducible refine and_o ?_|apply tTT
 refine LopsW.inl rfl rfl Tryz.func151 rfl (by kernel_rfl) (by kernel_rfl) hpan (by simp only[Nat.reduceLT]) [(0,.box 500 0),(4,.int .i64 sets.length)] (fun p hp=>by(simp only[List.mem_cons,List.not_mem_nil,or_false] at hp;rcases hp with rfl|rfl;(exact⟨rfl,g0,hg0⟩);(exact⟨rfl,trivial⟩))) (L0:=⟨114,[(0,.box 500 0)],[(500,shC rs [] SF sk 501 sets (mpd m B.w.heap.size (strE .i64 .i64 (keyM 0 sets))))],[],[501],[500]⟩) rfl ?_
 refine round_in hw hT q hq rs sk [] SF hO hsk sets h16 hok m C hC ?_ Tryz.func151 rfl
 obtain⟨nx,ru,ok⟩:=C
 dsimp only at hkeep hlen hst
 simp only[go_sem]
 refine LopsW.nil ?_
 refine fun (K:List Oper→LS→Prop) (hK:KOk S 0 _ _ _ K)=>?_
 simp only[go_sem]
 cases ok with
 | false =>
  obtain rfl:=hst.2 (fun h=>by cases h.1)
  repeat' first|exact h.elim|(exfalso;omega)|(refine sw_boxLe 500 (shC rs [] SF sk 501 nx anyV) (cs:=shC rs [] SF sk 501 nx (mpd m B.w.heap.size (strE .i64 .i64 (keyM 0 nx)))) rfl rfl (shC_any rs [] SF sk 501 nx m _ _) ?_;simp only[go_sem])|refine sw_n ?_|refine sw_go 0 kp105 fun K hK=>?_|refine fun (K:KT) (hK:KOk S 0 _ _ _ K)=>?_|refine runL_g ?_|refine sw_retg0 ?_|refine sw_retg ?_|(refine hK.n0 ?_;clear hK K)|refine runG_fk (fun h=>?_) fun h=>?_|refine sw_condg rfl (fun h=>?_) fun h=>?_|refine hK.skp rfl rfl ?_|refine sw_loopEnd ?_|(refine hK.fork rfl rfl rfl ?_ ?_<;>intro h<;>try simp (disch:=(refine Om.mk ?_;omega)) only[go_sem] at h)|with_reducible refine and_o ?_|apply tTT
  all_goals first|(unfold RetN;simp only[resY,resYs,resY1,LS.get,Lg.look,someK,tupD,List.map_cons,List.map_nil,Nat.reduceEqDiff,if_true,if_false,↓reduceIte];exact ret_all (a:=112000) (b:=501) (rs:=rs) (LF:=[]) (SF:=SF) (sk:=sk) (out:=nx) (by simp) (by simp) (by decide) rfl)|(unfold RetN;simp only[resY,resYs,resY1,LS.get,Lg.look,someK,tupD,List.map_cons,List.map_nil,Nat.reduceEqDiff,if_true,if_false,↓reduceIte];trace_state)
 | true =>
  have hF:=hlen.1.symm
  have hn16:nx.length≤16:=by rw[hlen.2 hF];exact hl16 hF
  have hnl:sets.length≤nx.length:=by rw[hlen.2 hF,hpx,List.length_append];omega
  by_cases hl:nx.length=sets.length
  ·obtain rfl:=hst.2 (fun h=>h.2 hl)
   repeat' first|exact h.elim|(exfalso;omega)|(refine sw_boxLe 500 (shC rs [] SF sk 501 nx anyV) (cs:=shC rs [] SF sk 501 nx (mpd m B.w.heap.size (strE .i64 .i64 (keyM 0 nx)))) rfl rfl (shC_any rs [] SF sk 501 nx m _ _) ?_;simp only[go_sem])|refine sw_n ?_|refine sw_go 0 kp105 fun K hK=>?_|refine fun (K:KT) (hK:KOk S 0 _ _ _ K)=>?_|refine runL_g ?_|refine sw_retg0 ?_|refine sw_retg ?_|(refine hK.n0 ?_;clear hK K)|refine runG_fk (fun h=>?_) fun h=>?_|refine sw_condg rfl (fun h=>?_) fun h=>?_|refine hK.skp rfl rfl ?_|refine sw_loopEnd ?_|(refine hK.fork rfl rfl rfl ?_ ?_<;>intro h<;>try simp (disch:=(refine Om.mk ?_;omega)) only[go_sem] at h)|with_reducible refine and_o ?_|apply tTT
   all_goals first|(unfold RetN;simp only[resY,resYs,resY1,LS.get,Lg.look,someK,tupD,List.map_cons,List.map_nil,Nat.reduceEqDiff,if_true,if_false,↓reduceIte];exact ret_all (a:=112000) (b:=501) (rs:=rs) (LF:=[]) (SF:=SF) (sk:=sk) (out:=nx) (by simp) (by simp) (by decide) rfl)|(unfold RetN;simp only[resY,resYs,resY1,LS.get,Lg.look,someK,tupD,List.map_cons,List.map_nil,Nat.reduceEqDiff,if_true,if_false,↓reduceIte];trace_state)
  ·have hit2:=hst.1 rfl hl
   repeat' first|exact h.elim|(exfalso;omega)|refine sw_n ?_|refine sw_go 0 kp105 fun K hK=>?_|refine fun (K:KT) (hK:KOk S 0 _ _ _ K)=>?_|refine runL_g ?_|refine sw_retg0 ?_|refine sw_retg ?_|(refine hK.n0 ?_;clear hK K)|refine runG_fk (fun h=>?_) fun h=>?_|refine sw_condg rfl (fun h=>?_) fun h=>?_|refine hK.skp rfl rfl ?_|refine sw_loopEnd ?_|(refine hK.fork rfl rfl rfl ?_ ?_<;>intro h<;>try simp (disch:=(refine Om.mk ?_;omega)) only[go_sem] at h)|with_reducible refine and_o ?_|apply tTT
   all_goals first|exact⟨(k,nx),(by(refine covers_mk0 rfl rfl ?_ ?_ ?_ ?_<;>simp (disch:=(refine Om.mk ?_;omega)) only[go_sem]<;>(try omega));all_goals first|rfl|exact⟨rfl,rfl⟩|(simp;done)|trace_state),⟨⟨hn16,by dsimp only;omega⟩,hkeep,hit2⟩,Nat.lt_succ_self k⟩|trace_state
end Go.Proofs.YtkfkdgginfpdnaaGreatDoor
end
section
namespace Go.Proofs.YtkfkdgginfpdnaaGreatDoor
open Go Go.Lg
end Go.Proofs.YtkfkdgginfpdnaaGreatDoor
end
section
namespace Go.Proofs.YtkfkdgginfpdnaaGreatDoor
open Go Go.Lg
set_option linter.unusedSimpArgs false
set_option linter.unusedVariables false
set_option maxHeartbeats 4000000
attribute [local irreducible] SW runL runQ runG runQG FC Ret1
attribute [go_sem] Tryz.results66 Tryz.ntmps66
attribute [go_sem] Tryz.results123 Tryz.ntmps123
attribute [go_sem] Tryz.results27 Tryz.ntmps27
end Go.Proofs.YtkfkdgginfpdnaaGreatDoor
end
section
namespace Go.Proofs
open Go.Shelf
def Tryz.sortT_ren:Go.Shelf.Ren:=⟨fun|6=>148|15=>164|14=>163|28=>181|29=>182|20=>173|21=>174|22=>175|23=>176|24=>177|25=>178|26=>179|27=>180|46=>187|47=>188|48=>189|49=>190|50=>191|57=>195|n=>n,fun|22=>80|24=>22|25=>181|3=>3|39=>171|0=>0|53=>75|55=>215|4=>4|46=>208|45=>207|50=>197|5=>5|9=>9|66=>222|70=>226|76=>231|77=>232|n=>n,fun|n=>n⟩
theorem Tryz.sortT:Go.Proofs.SlLaysF.n6 Tryz.prog Tryz.sortT_ren:={
 mixed:=by kernel_rfl
 f6:=⟨Tryz.f148.name,by decide,Tryz.func148.trans (congrArg some (by kernel_rfl))⟩
 f14:=⟨Tryz.f163.name,by decide,Tryz.func163.trans (congrArg some (by kernel_rfl))⟩
 f15:=Tryz.func164.trans (congrArg some (by kernel_rfl))
 f20:=⟨Tryz.f173.name,by decide,Tryz.func173.trans (congrArg some (by kernel_rfl))⟩
 f21:=⟨Tryz.f174.name,by decide,Tryz.func174.trans (congrArg some (by kernel_rfl))⟩
 f22:=⟨Tryz.f175.name,by decide,Tryz.func175.trans (congrArg some (by kernel_rfl))⟩
 f23:=⟨Tryz.f176.name,by decide,Tryz.func176.trans (congrArg some (by kernel_rfl))⟩
 f24:=⟨Tryz.f177.name,by decide,Tryz.func177.trans (congrArg some (by kernel_rfl))⟩
 f25:=⟨Tryz.f178.name,by decide,Tryz.func178.trans (congrArg some (by kernel_rfl))⟩
 f26:=⟨Tryz.f179.name,by decide,Tryz.func179.trans (congrArg some (by kernel_rfl))⟩
 f27:=⟨Tryz.f180.name,by decide,Tryz.func180.trans (congrArg some (by kernel_rfl))⟩
 f28:=Tryz.func181.trans (congrArg some (by kernel_rfl))
 f29:=Tryz.func182.trans (congrArg some (by kernel_rfl))
 f46:=⟨Tryz.f187.name,by decide,Tryz.func187.trans (congrArg some (by kernel_rfl))⟩
 f47:=Tryz.func188.trans (congrArg some (by kernel_rfl))
 f48:=Tryz.func189.trans (congrArg some (by kernel_rfl))
 f49:=⟨Tryz.f190.name,by decide,Tryz.func190.trans (congrArg some (by kernel_rfl))⟩
 f50:=⟨Tryz.f191.name,by decide,Tryz.func191.trans (congrArg some (by kernel_rfl))⟩
 f57:=⟨Tryz.f195.name,by decide,Tryz.func195.trans (congrArg some (by kernel_rfl))⟩
 t0:=Tryz.underlying0
 a0:=Tryz.isAgg0
 z0:=Tryz.sizeOf0
 v0:=Tryz.zeroValue0
 t3:=Tryz.underlying3
 a3:=Tryz.isAgg3
 z3:=Tryz.sizeOf3
 v3:=Tryz.zeroValue3
 t4:=Tryz.underlying4
 a4:=Tryz.isAgg4
 z4:=Tryz.sizeOf4
 v4:=Tryz.zeroValue4
 t5:=Tryz.underlying5
 a5:=Tryz.isAgg5
 z5:=Tryz.sizeOf5
 v5:=Tryz.zeroValue5
 t9:=Tryz.underlying9
 a9:=Tryz.isAgg9
 z9:=Tryz.sizeOf9
 v9:=Tryz.zeroValue9
 t22:=Tryz.underlying80
 a22:=Tryz.isAgg80
 z22:=Tryz.sizeOf80
 v22:=Tryz.zeroValue80
 a24:=Tryz.isAgg22
 z24:=Tryz.sizeOf22
 t25:=Tryz.underlying181
 a25:=Tryz.isAgg181
 z25:=Tryz.sizeOf181
 v25:=Tryz.zeroValue181
 t39:=Tryz.underlying171
 a39:=Tryz.isAgg171
 z39:=Tryz.sizeOf171
 v39:=Tryz.zeroValue171
 t45:=Tryz.underlying207
 a45:=Tryz.isAgg207
 z45:=Tryz.sizeOf207
 v45:=Tryz.zeroValue207
 t46:=Tryz.underlying208
 a46:=Tryz.isAgg208
 z46:=Tryz.sizeOf208
 v46:=Tryz.zeroValue208
 t50:=Tryz.underlying197
 a50:=Tryz.isAgg197
 z50:=Tryz.sizeOf197
 v50:=Tryz.zeroValue197
 t53:=Tryz.underlying75
 a53:=Tryz.isAgg75
 z53:=Tryz.sizeOf75
 v53:=Tryz.zeroValue75
 t55:=Tryz.underlying215
 a55:=Tryz.isAgg215
 z55:=Tryz.sizeOf215
 v55:=Tryz.zeroValue215
 t66:=Tryz.underlying222
 a66:=Tryz.isAgg222
 z66:=Tryz.sizeOf222
 v66:=Tryz.zeroValue222
 t70:=Tryz.underlying226
 a70:=Tryz.isAgg226
 z70:=Tryz.sizeOf226
 v70:=Tryz.zeroValue226
 t76:=Tryz.underlying231
 a76:=Tryz.isAgg231
 z76:=Tryz.sizeOf231
 v76:=Tryz.zeroValue231
 t77:=Tryz.underlying232
 a77:=Tryz.isAgg232
 z77:=Tryz.sizeOf232
 v77:=Tryz.zeroValue232}
end Go.Proofs
end
section
namespace Go.Proofs.YtkfkdgginfpdnaaGreatDoor
open Go Go.Lg
set_option linter.unusedSimpArgs false
set_option linter.unusedVariables false
set_option maxHeartbeats 4000000
attribute [local irreducible] Lg.SW runL runQ runG runQG FC FCw Ret1 RetN toF redoL anyB
theorem anyV_shT (o:Nat):anyV.shT o=anyV:=rfl
theorem anyV_ids:anyV.ids=[]:=rfl
theorem anyV_tks:anyV.tks=[]:=rfl
theorem anyV_pu (p:Nat→Bool):anyV.pu p=anyV:=rfl
attribute [local go_sem] shC anyV_shT anyV_ids anyV_tks
attribute [local go_sem high] anyV_pu
theorem ret_le {L:LS} {d d0:D} (h:D.le d0 d) (h1:d.tks=[]) (h2:∀f,d.mT f=d):RetK d [] 0 L d0:=⟨[],d,h,⟨rfl,List.nodup_nil⟩,by simp,by rw[h1];simp,h2 _,by simp⟩
theorem sortKN:SortKit S.P 148 149:=sortKit_of Tryz.sortT ⟨_,Tryz.func149,by kernel_rfl,rfl⟩
theorem forms_ok {rs:List Int} {SH ts:List (List Int)} (hsg:SigOkP rs) (h:ts.length≤1000):∀f<rs.length,FormsOk (f:Int) (rs.getD f default).toNat (ts.map (formR rs SH)):=fun f hf=>by
 refine⟨by simpa using h,fun i hi=>?_⟩
 rw[List.length_map] at hi
 rw[getD_map' hi]
 have hl:∀t,((formR rs SH t).args).length=(arS rs (t.getD 0 default)).toNat:=fun t=>by unfold formR;rw[List.length_map,argsS_len]
 refine⟨?_,fun e=>?_⟩
 ·rw[hl]
  generalize (ts.getD i default).getD 0 default=n
  unfold arS
  split
  ·simp
  ·split
   ·have:=hsg.2 n.toNat (by omega);omega
   ·simp
 ·have e:(ts.getD i default).getD 0 default=(f:Int):=e
  rw[hl,e]
  unfold arS
  rw[if_neg (by omega),if_pos (by omega)]
  simp
attribute [go_sem] Tryz.results69 Tryz.ntmps69
attribute [go_sem] Tryz.results31 Tryz.ntmps31
end Go.Proofs.YtkfkdgginfpdnaaGreatDoor
end
