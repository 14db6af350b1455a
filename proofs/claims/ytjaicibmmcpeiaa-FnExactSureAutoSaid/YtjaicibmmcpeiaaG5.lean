/-
  S4, S5p, S5, S6, one behind the other.
-/
import Derived.Test.YtjaicibmmcpeiaaG3
import Derived.Test.YtjaicibmmcpeiaaG4
import Derived.Test.YtjaicibmmcpeiaaG1
namespace Go.Proofs.Ytjaicibmmcpeiaa
open Go Go.Lg
set_option linter.unusedSimpArgs false
set_option linter.unusedVariables false
set_option maxHeartbeats 4000000
section
attribute [local irreducible] SW runL runQ runG runQG FC Ret1 RetN toF redoL anyB
theorem mpd_ids (m n0:Nat) (es:List (Value×Value)):(mpd m n0 es).ids=[]:=rfl
theorem mpd_tks (m n0:Nat) (es:List (Value×Value)):(mpd m n0 es).tks=[]:=rfl
theorem mpd_pu (p:Nat→Bool) (m n0:Nat) (es:List (Value×Value)):(mpd m n0 es).pu p=mpd m n0 es:=rfl
theorem tksL_i (k:IntKind) (xs:List Int):D.tksL (xs.map (D.int k))=[]:=by
 induction xs with
 | nil=>rfl
 | cons x r ih=>simp[D.tksL,D.tks,ih]
theorem idsL_i (k:IntKind) (xs:List Int):D.idsL (xs.map (.int k))=[]:=by
 induction xs with
 | nil=>rfl
 | cons x r ih=>simp[D.idsL,D.ids,ih]
theorem shTL_i (o:Nat) (k:IntKind) (xs:List Int):D.shTL o (xs.map (.int k))=xs.map (.int k):=by
 induction xs with
 | nil=>rfl
 | cons x r ih=>simp[D.shTL,D.shT,ih]
theorem puOk_i (p:Nat→Bool) (k:IntKind) (xs:List Int):(xs.map (.int k)).all (D.puOk p)=true:=by
 rw[List.all_map]
 exact List.all_eq_true.2 fun _ _=>rfl
theorem pu1_i (p:Nat→Bool) (k:IntKind) (xs:List Int):(xs.map (D.int k)).map (D.pu1 p)=xs.map (D.int k):=by
 rw[List.map_map];exact List.map_congr_left fun _ _=>rfl
theorem mTL_i (f:Nat→Nat) (k:IntKind) (xs:List Int):D.mTL f (xs.map (D.int k))=xs.map (D.int k):=by
 induction xs with
 | nil=>rfl
 | cons x r ih=>simp only[List.map_cons,D.mTL,D.mT,ih]
theorem pu1_c (p:Nat→Bool) (k:IntKind):(D.pu1 p∘D.int k)=D.int k:=rfl
attribute [go_sem] mpd_ids mpd_tks tksL_i shTL_i pu1_i mTL_i
attribute [go_sem high] mpd_pu
theorem idxM_take (sets:List (List Int)) {k:Nat} (h:k<sets.length):idxM 0 (sets.take (k+1))=idxM 0 (sets.take k)++[(maskI (sets.getD k default),(k:Int))]:=by
 rw[List.take_succ_eq_append_getElem h,idxM_snoc]
 simp[List.getD,h,Nat.min_eq_left (Nat.le_of_lt h)]
theorem mpk_same {m n0:Nat} {es es':List (Value×Value)} {cs:List D} (h:D.noPL cs=true):∀(j:Nat) d d',cs[j]?=some d→cs[j]?=some d'→MpK m n0 es es' d d':=fun j d d' h1 h2=>.inl ⟨noPL_mem h (List.mem_of_getElem? h1),by rw[h1] at h2;exact(Option.some.inj h2).symm⟩
theorem noP_msk (tk:Tk) (sets:List (List Int)):(D.sl tk (List.map (fun s:List Int=>D.int IntKind.u32 (maskI s)) sets)).noP=true:=by
 rw[D.noP]
 exact noPL_of fun d hd=>by obtain⟨s,_,rfl⟩:=List.mem_map.1 hd;rfl
theorem noP_ints (tk:Tk) (xs:List Int):(D.sl tk (xs.map (.int .i64))).noP=true:=by
 rw[D.noP]
 exact noPL_of fun d hd=>by obtain⟨s,_,rfl⟩:=List.mem_map.1 hd;rfl
theorem noPL_sig (rs:List Int):D.noPL [.sl .any (rs.map (.int .i64))]=true:=noPL_of fun d hd=>by
 obtain rfl:=List.mem_singleton.1 hd
 exact noP_ints _ _
theorem noP_trans (tk:Tk) (xs:List TransT):(D.sl tk (xs.map TransD)).noP=true:=by
 rw[D.noP]
 exact noPL_of fun d hd=>by
  obtain⟨s,_,rfl⟩:=List.mem_map.1 hd
  simp[TransD,D.noP,D.noPL,noP_ints]
  try exact noPL_of fun d hd=>by obtain⟨s,_,rfl⟩:=List.mem_map.1 hd;rfl
theorem noP_transL (tk:Tk) (q:List Nat) (xs:List TransT):(D.sl tk (mapR (fun i y=>TransL (q++[i]) y) xs)).noP=true:=by
 rw[D.noP]
 refine noPL_of ?_
 rw[←upR_all]
 refine upR_mem fun i x=>?_
 simp only[TransL,Int64SL,D.noP,D.noPL,Bool.and_true,Bool.true_and]
 exact noPL_of fun d hd=>by obtain⟨s,_,rfl⟩:=List.mem_map.1 hd;rfl
theorem mapR_snocR {α:Type} [Inhabited α] (g:Nat→α→D) (xs:List α) (x:α):mapR g (xs++[x])=mapR g xs++[g xs.length x]:=by
 rw[←upR_all,List.length_append,List.length_singleton,upR_succ]
 congr 1
 ·unfold upR mapR
  refine List.map_congr_left fun j hj=>?_
  rw[List.getD_eq_getElem?_getD,List.getElem?_append_left (by simpa using hj),←List.getD_eq_getElem?_getD]
 ·simp
theorem transL_cells (q:List Nat) (xs:List TransT):∀x∈mapR (fun i y=>TransL (q++[i]) y) xs,x.cells.length=3:=by
 rw[←upR_all]
 exact upR_mem fun i x=>rfl
theorem noPL_auto (a:AutoT):D.noPL [.int .i64 a.states,.sl .any (a.rules.map TransD),.sl .any (a.final.map (.int .i64))]=true:=by
 simp only[D.noPL,noP_trans,noP_ints,Bool.and_true]
 rfl
theorem ret_two {L:LS} {T1 T2 z1 z2 a b:Nat} {xs ys:List D} {bb:Bool} (ha:a∈L.toks) (hb:b∈L.toks) (hab:a≠b):RetK (.tup [.sl (.own 0 T1 z1) xs,.sl (.own 1 T2 z2) ys,.bool bb]) [] 2 L (.tup [.sl (.own a T1 z1) xs,.sl (.own b T2 z2) ys,.bool bb]):=by
 refine⟨[a,b],.tup [.sl (.own a T1 z1) xs,.sl (.own b T2 z2) ys,.bool bb],.refl _,⟨rfl,by simp[hab]⟩,?_,?_,?_,by simp⟩
 ·intro t ht;simp only[List.mem_cons,List.not_mem_nil,or_false] at ht;rcases ht with rfl|rfl<;>assumption
 ·intro k hk;simpa[D.tks,D.tksL] using hk
 ·have:(a==b)=false:=by simpa using hab
  simp[D.mT,D.mTL,List.idxOf_cons,this]
structure Hld (P:Prop):Prop where
 get:P
theorem mrg {P Q:Prop} (f:Hld P→Q) (p:P):Q:=f ⟨p⟩
theorem idx_new {s:List Int} {out:List (List Int)} (h:s∉out):(out++[s]).idxOf s=out.length:=by
 rw[List.idxOf_append,if_neg h]
 simp
theorem capR_one (a:AutoT) (sets:List (List Int)) (M f:Nat) (l:List Int) (E:List (Nat×List Int)) (out:List (List Int)) (ru:List TransT):capR (imgI a) sets M ((f,l)::E) out ru=if 16<(addQ out (imgT a f (lstS sets l) a.rules.length)).length∨M<(ru++[trE (f,l) ((addQ out (imgT a f (lstS sets l) a.rules.length)).idxOf (imgT a f (lstS sets l) a.rules.length))]).length then ([],[],false) else capR (imgI a) sets M E (addQ out (imgT a f (lstS sets l) a.rules.length)) (ru++[trE (f,l) ((addQ out (imgT a f (lstS sets l) a.rules.length)).idxOf (imgT a f (lstS sets l) a.rules.length))]):=rfl
def kp95:List (Nat×List Nat):=[(0,[2,3,4]),(1,[2,3,4,9]),(2,[2,3,4,9,10]),(3,[2,3,4,9,10,11]),(4,[2,3,4,9,10,11,27,28,29]),(5,[2,3,4,9,10,11,27,28,29,30]),(6,[2,3,4,9,10,11,12,13,27,28,29]),(7,[2,3,4,9,10,11,27,28,29]),(8,[2,3,4,9,10,11,27,28,29]),(9,[2,3,9,10,11,39,40,41]),(10,[2,3,9,10,11,39,40,41,42]),(11,[2,3,9,10,11,14,15,39,40,41]),(12,[2,3,9,10,11,14,15,39,40,41,51]),(13,[2,3,9,10,11,14,15,16,39,40,41]),(14,[2,3,9,10,11,14,15,16,17,39,40,41]),(15,[2,3,9,10,11,14,15,16,39,40,41,54]),(17,[2,3,9,10,11,14,15,16,18,39,40,41]),(18,[2,3,9,10,11,14,15,16,18,39,40,41,63,64,65]),(19,[2,3,9,10,11,14,15,16,18,39,40,41,63,64,65,66]),(20,[2,3,9,10,11,14,15,16,18,20,39,40,41,63,64,65]),(21,[2,3,9,10,11,14,15,16,18,39,40,41,63,64,65]),(22,[2,3,9,10,11,14,15,16,18,39,40,41,63,64,65]),(23,[2,3,9,10,11,14,15,16,21,39,40,41]),(24,[2,3,9,10,11,14,15,16,21,22,23,39,40,41]),(25,[2,3,9,10,11,14,15,16,21,22,39,40,41,88]),(26,[2,3,9,10,11,14,15,16,21,22,39,40,41]),(27,[2,3,9,10,11,14,15,16,21,22,39,40,41]),(28,[2,3,9,10,11,14,15,16,22,39,40,41]),(29,[2,3,9,10,11,14,15,16,39,40,41]),(30,[2,3,9,10,11,14,15,16,39,40,41,113]),(31,[6,7,8]),(16,[2,3,9,10,11,14,15,16,17,39,40,41]),(32,[2,3,9,10,11,39,40,41]),(33,[6,7,8])]
attribute [go_sem] kp95 Try.results95 Try.ntmps95
theorem roundI_fc (q:List Nat) (hq:q≠[]) (rs:List Int) (a:AutoT) (hA:AutoOkP rs a) (sets:List (List Int)) (h16:sets.length≤16) (hok:∀s∈sets,SetOk s) (hnd:∀i<sets.length,∀j<i,sets.getD j default≠sets.getD i default):FC S 95 [] [] [500] [AutoD a,.agg [.sl .any (rs.map (.int .i64))],.sl (.own 500 137 1) (List.map (fun s:List Int=>D.int IntKind.u32 (maskI s)) sets)] (.tup [.sl (.own 0 137 1) (List.map (fun s:List Int=>D.int IntKind.u32 (maskI s)) (capR (imgI a) sets 300 (evL rs sets.length) sets []).1),.sl (.own 1 85 3) (mapR (fun i y=>TransL (q++[i]) y) (capR (imgI a) sets 300 (evL rs sets.length) sets []).2.1),.bool (capR (imgI a) sets 300 (evL rs sets.length) sets []).2.2]) [] [0,1]:=by
 obtain⟨⟨hsg,⟨hs1,hs2⟩,hrl,_⟩,_⟩:=id hA
 have hsl:=hsg.1.2
 rw[evB_all]
 generalize hans:capR (imgI a) sets 300 (evB rs sets.length rs.length) sets []=R at *
 refine fcbN Try.func95 rfl fun B=>?_
 repeat' first|exact h.elim|(exfalso;omega)|(refine sw_goAt (id:=3) 0 kp95 0 rfl fun K hK=>?_)|refine sw_n ?_|refine sw_go 0 kp95 fun K hK=>?_|refine fun (K:KT) (hK:KOk S 0 _ _ _ K)=>?_|refine runL_g ?_|refine sw_retg0 ?_|refine sw_retg ?_|(refine hK.n0 ?_;clear hK K)|refine runG_fk (fun h=>?_) fun h=>?_|refine sw_condg rfl (fun h=>?_) fun h=>?_|refine hK.skp rfl rfl ?_|refine sw_exit rfl ?_|refine sw_loopEnd ?_|(refine hK.fork rfl rfl rfl ?_ ?_<;>intro h<;>try simp (disch:=(refine Om.mk ?_;omega)) only[go_sem] at h)|with_reducible refine and_o ?_|((with_reducible refine And.intro ?_ ?_);· first|(intro x hx;subst hx;rfl)|exact upR_mem fun _ _=>rfl|exact mapR_mem fun _ _=>rfl|(intro x;refine And.intro ?_ ?_<;>(intros;subst_vars;rfl)))|apply tTT
 refine LopsW.makeMap (by simp only[Nat.reduceLT]) fun m=>LopsW.nil ?_
 refine fun (K:List Oper→LS→Prop) (hK:KOk S 0 _ _ _ K)=>?_
 simp only[go_sem]
 repeat' first|exact h.elim|refine sw_n ?_|refine sw_go 0 kp95 fun K hK=>?_|refine fun (K:KT) (hK:KOk S 0 _ _ _ K)=>?_|refine runL_g ?_|refine sw_retg0 ?_|refine sw_retg ?_|(refine hK.n0 ?_;clear hK K)|refine runG_fk (fun h=>?_) fun h=>?_|refine sw_condg rfl (fun h=>?_) fun h=>?_|refine hK.skp rfl rfl ?_|refine sw_exit rfl ?_|refine sw_loopEnd ?_|(refine hK.fork rfl rfl rfl ?_ ?_<;>intro h<;>try simp (disch:=(refine Om.mk ?_;omega)) only[go_sem] at h)|with_reducible refine and_o ?_|((with_reducible refine And.intro ?_ ?_);· first|(intro x hx;subst hx;rfl)|exact upR_mem fun _ _=>rfl|exact mapR_mem fun _ _=>rfl|(intro x;refine And.intro ?_ ?_<;>(intros;subst_vars;rfl)))|apply tTT
 refine sw_loopT (ι:=Nat) (fun i=>[(29,.int .i64 i),(11,mpd m B.w.heap.size (intE .u32 .i64 (idxM 0 (sets.take i))))]) (fun _=>[]) (fun _=>[500]) (fun i=>i≤sets.length) (fun i=>sets.length-i) 0 cvB (by omega) (fun i hi=>?_)
 simp only[go_sem]
 by_cases hil:i<sets.length
 ·repeat' first|exact h.elim|(exfalso;omega)|(refine sw_goAt (id:=7) 0 kp95 3 rfl fun K hK=>?_)|refine sw_n ?_|refine sw_go 0 kp95 fun K hK=>?_|refine fun (K:KT) (hK:KOk S 0 _ _ _ K)=>?_|refine runL_g ?_|refine sw_retg0 ?_|refine sw_retg ?_|(refine hK.n0 ?_;clear hK K)|refine runG_fk (fun h=>?_) fun h=>?_|refine sw_condg rfl (fun h=>?_) fun h=>?_|refine hK.skp rfl rfl ?_|refine sw_exit rfl ?_|refine sw_loopEnd ?_|(refine hK.fork rfl rfl rfl ?_ ?_<;>intro h<;>try simp (disch:=(refine Om.mk ?_;omega)) only[go_sem] at h)|with_reducible refine and_o ?_|((with_reducible refine And.intro ?_ ?_);· first|(intro x hx;subst hx;rfl)|exact upR_mem fun _ _=>rfl|exact mapR_mem fun _ _=>rfl|(intro x;refine And.intro ?_ ?_<;>(intros;subst_vars;rfl)))|apply tTT
  have hnew:findM (idxM 0 (sets.take i)) (maskI (sets.getD i default))=none:=by
   rw[findM_idx (hok _ (getD_mem sets i hil)) 0 _ fun x hx=>hok x (List.mem_of_mem_take hx),if_neg fun h=>?_]
   obtain⟨j,hj,e⟩:=List.getElem_of_mem h
   rw[List.length_take] at hj
   refine hnd i hil j (by omega) ?_
   rw[←e,List.getElem_take,List.getD_eq_getElem?_getD,List.getElem?_eq_getElem (by omega)]
   rfl
  have hst:=idxM_take sets hil
  refine LopsW.mapPut (KT:=137) (VT:=3) (q:=.u32) (by kernel_rfl) (by kernel_rfl) rfl rfl rfl hnew [(2,.sl (.own 500 137 1) (List.map (fun s:List Int=>D.int IntKind.u32 (maskI s)) sets)),(3,.box 3 0),(4,.box 4 0),(9,.sl .nil []),(10,.int .i64 sets.length),(11,mpd m B.w.heap.size (intE .u32 .i64 (idxM 0 (sets.take i)++[(maskI (sets.getD i default),(i:Int))]))),(27,.sl (.own 500 137 1) (List.map (fun s:List Int=>D.int IntKind.u32 (maskI s)) sets)),(28,.int .i64 sets.length),(29,.int .i64 i)] [(3,[.int .i64 a.states,.sl .any (a.rules.map TransD),.sl .any (a.final.map (.int .i64))]),(4,[.sl .any (rs.map (.int .i64))])] ?_ ?_ (LopsW.nil ?_)
  ·intro p hp
   simp only[List.mem_cons,List.not_mem_nil,or_false] at hp
   rcases hp with rfl|rfl|rfl|rfl|rfl|rfl|rfl|rfl|rfl
   all_goals first|exact⟨_,rfl,.inr ⟨rfl,rfl⟩⟩|exact⟨_,rfl,.inl ⟨rfl,rfl⟩⟩|exact⟨_,rfl,.inl ⟨noP_msk _ _,rfl⟩⟩|trace_state
  ·intro p hp
   simp only[List.mem_cons,List.not_mem_nil,or_false] at hp
   rcases hp with rfl|rfl
   ·exact⟨_,rfl,rfl,mpk_same (noPL_auto a)⟩
   ·exact⟨_,rfl,rfl,mpk_same (noPL_sig rs)⟩
  rw[←hst]
  refine fun (K:List Oper→LS→Prop) (hK:KOk S 0 _ _ _ K)=>?_
  simp only[go_sem]
  repeat' first|exact h.elim|refine sw_n ?_|refine sw_go 0 kp95 fun K hK=>?_|refine fun (K:KT) (hK:KOk S 0 _ _ _ K)=>?_|refine runL_g ?_|refine sw_retg0 ?_|refine sw_retg ?_|(refine hK.n0 ?_;clear hK K)|refine runG_fk (fun h=>?_) fun h=>?_|refine sw_condg rfl (fun h=>?_) fun h=>?_|refine hK.skp rfl rfl ?_|refine sw_exit rfl ?_|refine sw_loopEnd ?_|(refine hK.fork rfl rfl rfl ?_ ?_<;>intro h<;>try simp (disch:=(refine Om.mk ?_;omega)) only[go_sem] at h)|with_reducible refine and_o ?_|((with_reducible refine And.intro ?_ ?_);· first|(intro x hx;subst hx;rfl)|exact upR_mem fun _ _=>rfl|exact mapR_mem fun _ _=>rfl|(intro x;refine And.intro ?_ ?_<;>(intros;subst_vars;rfl)))|apply tTT
  exact⟨i+1,cvB,by omega,by omega⟩
 ·obtain rfl:i=sets.length:=by omega
  rw[List.take_of_length_le (Nat.le_refl _)]
  repeat' first|exact h.elim|(exfalso;omega)|refine sw_n ?_|refine sw_go 0 kp95 fun K hK=>?_|refine fun (K:KT) (hK:KOk S 0 _ _ _ K)=>?_|refine runL_g ?_|refine sw_retg0 ?_|refine sw_retg ?_|(refine hK.n0 ?_;clear hK K)|refine runG_fk (fun h=>?_) fun h=>?_|refine sw_condg rfl (fun h=>?_) fun h=>?_|refine hK.skp rfl rfl ?_|refine sw_exit rfl ?_|refine sw_loopEnd ?_|(refine hK.fork rfl rfl rfl ?_ ?_<;>intro h<;>try simp (disch:=(refine Om.mk ?_;omega)) only[go_sem] at h)|with_reducible refine and_o ?_|((with_reducible refine And.intro ?_ ?_);· first|(intro x hx;subst hx;rfl)|exact upR_mem fun _ _=>rfl|exact mapR_mem fun _ _=>rfl|(intro x;refine And.intro ?_ ?_<;>(intros;subst_vars;rfl)))|apply tTT
  refine sw_tok 9 75000 85 3 rfl (.inl rfl) rfl ?_
  simp only[go_sem]
  refine sw_loopT (ι:=Nat×List (List Int)×List TransT) (fun p=>[(41,.int .i64 p.1),(2,.sl (.own 500 137 1) (List.map (fun s:List Int=>D.int IntKind.u32 (maskI s)) p.2.1)),(11,mpd m B.w.heap.size (intE .u32 .i64 (idxM 0 p.2.1))),(9,.sl (.own 75000 85 3) (mapR (fun i y=>TransL (q++[i]) y) p.2.2))]) (fun _=>[]) (fun _=>[500,75000]) (fun p=>((p.1≤rs.length∧p.2.1.length≤16)∧p.2.2.length≤300)∧((∀s∈p.2.1,SetOk s)∧∃r,p.2.1=sets++r)∧capR (imgI a) sets 300 (evB rs sets.length (rs.length-p.1)) p.2.1 p.2.2=R) (fun p=>rs.length-p.1) (0,sets,[]) (by(refine covers_mk0 rfl rfl ?_ ?_ ?_ ?_<;>simp (disch:=(refine Om.mk ?_;omega)) only[go_sem]<;>(try omega));all_goals first|rfl|exact⟨rfl,rfl⟩|exact⟨rfl,rfl,rfl⟩|trace_state) ⟨⟨⟨by simp,h16⟩,by simp⟩,⟨hok,[],by simp⟩,hans⟩ (fun p hp=>?_)
  obtain⟨i,out,ru⟩:=p
  obtain⟨⟨⟨hi,ho⟩,hr⟩,⟨hok,rx,hpre⟩,hc⟩:=hp
  dsimp only at hi ho hr hok hpre hc
  simp only[go_sem]
  by_cases hil:i<rs.length
  ·obtain⟨k,hk⟩:∃k,rs.length-i=k+1:=⟨rs.length-i-1,by omega⟩
   have hri:=hsg.2 i hil
   have hkE:rs.length-(i+1)=k:=by omega
   rw[hk] at hc
   rw[show evB rs sets.length (k+1)=evF rs sets.length i++evB rs sets.length k from by rw[evB,show rs.length-(k+1)=i by omega]] at hc
   by_cases h0:sets.length=0∧0<rs.getD i default
   ·rw[show evF rs sets.length i=[] from if_pos h0,List.nil_append] at hc
    repeat' first|exact h.elim|(exfalso;omega)|refine sw_n ?_|refine sw_go 0 kp95 fun K hK=>?_|refine fun (K:KT) (hK:KOk S 0 _ _ _ K)=>?_|refine runL_g ?_|refine sw_retg0 ?_|refine sw_retg ?_|(refine hK.n0 ?_;clear hK K)|refine runG_fk (fun h=>?_) fun h=>?_|refine sw_condg rfl (fun h=>?_) fun h=>?_|refine hK.skp rfl rfl ?_|refine sw_exit rfl ?_|refine sw_loopEnd ?_|(refine hK.fork rfl rfl rfl ?_ ?_<;>intro h<;>try simp (disch:=(refine Om.mk ?_;omega)) only[go_sem] at h)|with_reducible refine and_o ?_|((with_reducible refine And.intro ?_ ?_);· first|(intro x hx;subst hx;rfl)|exact upR_mem fun _ _=>rfl|exact mapR_mem fun _ _=>rfl|(intro x;refine And.intro ?_ ?_<;>(intros;subst_vars;rfl)))|apply tTT
    all_goals exact⟨(i+1,out,ru),(by(refine covers_mk0 rfl rfl ?_ ?_ ?_ ?_<;>simp (disch:=(refine Om.mk ?_;omega)) only[go_sem]<;>(try omega));all_goals first|rfl|exact⟨rfl,rfl⟩|exact⟨rfl,rfl,rfl⟩),⟨⟨⟨by dsimp only;omega,ho⟩,hr⟩,⟨hok,rx,hpre⟩,by dsimp only;rw[hkE];exact hc⟩,by dsimp only;omega⟩
   ·rw[show evF rs sets.length i=(digs sets.length (rs.getD i default).toNat).map (fun l=>(i,l)) from if_neg h0] at hc
    obtain⟨n,hn⟩:∃n:Nat,rs.getD i default=n:=⟨(rs.getD i default).toNat,by omega⟩
    have hnt:(rs.getD i default).toNat=n:=by omega
    rw[hnt] at hc
    have hd0:0<sets.length∨n=0:=by omega
    obtain⟨hseq,A0,hA0⟩:=digs_ok hd0
    have hdig:=digs_dig hd0
    rw[hA0] at hseq hdig hc
    have cR:=repeatedN_fc 0 n (by omega)
    rw[←hn] at cR
    apply mrg
    ·intro key
     repeat' first|exact h.elim|(exfalso;omega)|refine sw_n ?_|refine sw_go 0 kp95 fun K hK=>?_|refine fun (K:KT) (hK:KOk S 0 _ _ _ K)=>?_|refine runL_g ?_|refine sw_retg0 ?_|refine sw_retg ?_|(refine hK.n0 ?_;clear hK K)|refine runG_fk (fun h=>?_) fun h=>?_|refine sw_condg rfl (fun h=>?_) fun h=>?_|refine hK.skp rfl rfl ?_|refine sw_exit rfl ?_|refine sw_loopEnd ?_|refine hK.cM rfl rfl rfl (cR) ?_|(refine hK.fork rfl rfl rfl ?_ ?_<;>intro h<;>try simp (disch:=(refine Om.mk ?_;omega)) only[go_sem] at h)|with_reducible refine and_o ?_|((with_reducible refine And.intro ?_ ?_);· first|(intro x hx;subst hx;rfl)|exact upR_mem fun _ _=>rfl|exact mapR_mem fun _ _=>rfl|(intro x;refine And.intro ?_ ?_<;>(intros;subst_vars;rfl)))|apply tTT
     all_goals exact key.get
    refine sw_loopT (ι:=(List Int×Bool)×List (List Int)×List (List Int)×List TransT) (fun p=>[(17,.bool p.1.2),(2,.sl (.own 500 137 1) (List.map (fun s:List Int=>D.int IntKind.u32 (maskI s)) p.2.2.1)),(11,mpd m B.w.heap.size (intE .u32 .i64 (idxM 0 p.2.2.1))),(9,.sl (.own 75000 85 3) (mapR (fun i y=>TransL (q++[i]) y) p.2.2.2))]) (fun p=>[(53,p.1.1.map (.int .i64))]) (fun _=>[500,75000]) (fun p=>(((p.1.1.length=n∧∀x∈p.1.1,0≤x∧x<sets.length)∧p.2.2.1.length≤16)∧p.2.2.2.length≤300)∧((∀s∈p.2.2.1,SetOk s)∧∃r,p.2.2.1=sets++r)∧(p.1.2=true→(SeqD (List.replicate n (0,(sets.length:Int)-1)) (p.1.1::p.2.1)∧∀l∈p.2.1,l.length=n∧∀x∈l,0≤x∧x<sets.length)∧capR (imgI a) sets 300 ((p.1.1::p.2.1).map (fun l=>(i,l))++evB rs sets.length k) p.2.2.1 p.2.2.2=R)∧(p.1.2=false→capR (imgI a) sets 300 (evB rs sets.length k) p.2.2.1 p.2.2.2=R)) (fun p=>if p.1.2=true then p.2.1.length+1 else 0) ((List.replicate n 0,true),A0,out,ru) (by(refine covers_mk0 rfl rfl ?_ ?_ ?_ ?_<;>simp (disch:=(refine Om.mk ?_;omega)) only[go_sem]<;>(try omega));all_goals first|rfl|exact⟨rfl,rfl⟩|exact⟨rfl,rfl,rfl⟩|trace_state) ⟨⟨⟨hdig _ List.mem_cons_self,ho⟩,hr⟩,⟨hok,rx,hpre⟩,fun _=>⟨⟨hseq,fun l hl=>hdig l (List.mem_cons_of_mem _ hl)⟩,hc⟩,fun h=>by cases h⟩ (fun p hp=>?_)
    obtain⟨⟨l,mr⟩,A,out,ru⟩:=p
    obtain⟨⟨⟨⟨hl1,hl2⟩,ho⟩,hr⟩,⟨hok,rx,hpre⟩,hm1,hm2⟩:=hp
    dsimp only at hl1 hl2 ho hr hok hpre hm1 hm2
    simp only[go_sem]
    cases mr with
    | false =>
     have hm2:=hm2 rfl
     repeat' first|exact h.elim|(exfalso;omega)|refine sw_n ?_|refine sw_go 0 kp95 fun K hK=>?_|refine fun (K:KT) (hK:KOk S 0 _ _ _ K)=>?_|refine runL_g ?_|refine sw_retg0 ?_|refine sw_retg ?_|(refine hK.n0 ?_;clear hK K)|refine runG_fk (fun h=>?_) fun h=>?_|refine sw_condg rfl (fun h=>?_) fun h=>?_|refine hK.skp rfl rfl ?_|refine sw_exit rfl ?_|refine sw_loopEnd ?_|(refine hK.fork rfl rfl rfl ?_ ?_<;>intro h<;>try simp (disch:=(refine Om.mk ?_;omega)) only[go_sem] at h)|with_reducible refine and_o ?_|((with_reducible refine And.intro ?_ ?_);· first|(intro x hx;subst hx;rfl)|exact upR_mem fun _ _=>rfl|exact mapR_mem fun _ _=>rfl|(intro x;refine And.intro ?_ ?_<;>(intros;subst_vars;rfl)))|apply tTT
     exact⟨(i+1,out,ru),(by(refine covers_mk0 rfl rfl ?_ ?_ ?_ ?_<;>simp (disch:=(refine Om.mk ?_;omega)) only[go_sem]<;>(try omega));all_goals first|rfl|exact⟨rfl,rfl⟩|exact⟨rfl,rfl,rfl⟩|trace_state),⟨⟨⟨by dsimp only;omega,ho⟩,hr⟩,⟨hok,rx,hpre⟩,by dsimp only;rw[hkE];exact hm2⟩,by dsimp only;omega⟩
    | true =>
     obtain⟨⟨hs,hA1⟩,hcc⟩:=hm1 rfl
     have hlen:=lst_len sets l
     repeat' first|exact h.elim|(exfalso;omega)|refine sw_n ?_|refine sw_go 0 kp95 fun K hK=>?_|refine fun (K:KT) (hK:KOk S 0 _ _ _ K)=>?_|refine runL_g ?_|refine sw_retg0 ?_|refine sw_retg ?_|(refine hK.n0 ?_;clear hK K)|refine runG_fk (fun h=>?_) fun h=>?_|refine sw_condg rfl (fun h=>?_) fun h=>?_|refine hK.skp rfl rfl ?_|refine sw_exit rfl ?_|refine sw_loopEnd ?_|(refine hK.fork rfl rfl rfl ?_ ?_<;>intro h<;>try simp (disch:=(refine Om.mk ?_;omega)) only[go_sem] at h)|with_reducible refine and_o ?_|((with_reducible refine And.intro ?_ ?_);· first|(intro x hx;subst hx;rfl)|exact upR_mem fun _ _=>rfl|exact mapR_mem fun _ _=>rfl|(intro x;refine And.intro ?_ ?_<;>(intros;subst_vars;rfl)))|apply tTT
     refine sw_tok 18 21000 137 1 rfl (.inl rfl) (by simp[LS.purge,LS.clean,mapA,pu1_c,mpd,D.pu,D.pu1,D.tks,D.tksL,tksL_i]) ?_
     simp only[go_sem]
     refine sw_loopT (ι:=Nat) (fun j=>[(65,.int .i64 j),(18,.sl (.own 21000 137 1) (List.map (fun s:List Int=>D.int IntKind.u32 (maskI s)) (lstS sets (l.take j))))]) (fun _=>[]) (fun _=>[500,75000,21000]) (fun j=>j≤n) (fun j=>n-j) 0 (by(refine covers_mk0 rfl rfl ?_ ?_ ?_ ?_<;>simp (disch:=(refine Om.mk ?_;omega)) only[go_sem]<;>(try omega));all_goals first|rfl|exact⟨rfl,rfl⟩|exact⟨rfl,rfl,rfl⟩|trace_state) (by omega) (fun j hj=>?_)
     simp only[go_sem]
     have hjl:=lst_len sets (l.take j)
     rw[List.length_take] at hjl
     by_cases hjn:j<n
     ·have hx:=hl2 _ (getD_mem l j (by omega))
      have hst:=lst_snoc sets (l:=l) (i:=j) (by omega)
      have hgd:out.getD (l.getD j default).toNat default=sets.getD (l.getD j default).toNat default:=by
       rw[hpre,List.getD_eq_getElem?_getD,List.getElem?_append_left (by omega)];rfl
      have hol:sets.length≤out.length:=by rw[hpre,List.length_append];omega
      have hjb:(lstS sets (l.take j)).length≤8:=by omega
      repeat' first|exact h.elim|(exfalso;omega)|(refine sw_renC 76000 21000 rfl (by simp[LS.clean,mpd,D.tks,D.tksL,tksL_i]) ?_;simp only[go_sem])|refine sw_n ?_|refine sw_go 0 kp95 fun K hK=>?_|refine fun (K:KT) (hK:KOk S 0 _ _ _ K)=>?_|refine runL_g ?_|refine sw_retg0 ?_|refine sw_retg ?_|(refine hK.n0 ?_;clear hK K)|refine runG_fk (fun h=>?_) fun h=>?_|refine sw_condg rfl (fun h=>?_) fun h=>?_|refine hK.skp rfl rfl ?_|refine sw_exit rfl ?_|refine sw_loopEnd ?_|(refine hK.fork rfl rfl rfl ?_ ?_<;>intro h<;>try simp (disch:=(refine Om.mk ?_;omega)) only[go_sem] at h)|with_reducible refine and_o ?_|((with_reducible refine And.intro ?_ ?_);· first|(intro x hx;subst hx;rfl)|exact upR_mem fun _ _=>rfl|exact mapR_mem fun _ _=>rfl|(intro x;refine And.intro ?_ ?_<;>(intros;subst_vars;rfl)))|apply tTT
      all_goals first|omega|exact⟨j+1,(by(refine covers_mk0 rfl rfl ?_ ?_ ?_ ?_<;>simp (disch:=(refine Om.mk ?_;omega)) only[go_sem]<;>(try omega));all_goals first|rfl|exact⟨rfl,rfl⟩|decide|exact⟨by rw[hst,List.map_append,hgd];rfl,by omega⟩|exact mTL_i _ _ _|trace_state),by omega,by omega⟩
     ·obtain rfl:n=j:=by omega
      rw[List.take_of_length_le (by omega)]
      have cI:=reaches_fc (.own 21000 137 1) rs a hA (i:Int) (lstS sets l) (by omega) (fun s hs=>by
       obtain⟨q,hq,rfl⟩:=List.mem_map.1 hs
       have:=hl2 q hq
       have hq2:sets.getD q.toNat default∈out:=by rw[hpre];exact List.mem_append_left _ (getD_mem sets _ (by omega))
       exact(hok _ hq2).1) (by rw[hlen,hl1];exact fit_len hA hil (by omega))
      generalize hS:imgT a (i:Int) (lstS sets l) a.rules.length=s at *
      repeat' first|exact h.elim|(exfalso;omega)|(refine sw_goAt (id:=24) 0 kp95 2 rfl fun K hK=>?_)|refine sw_n ?_|refine sw_go 0 kp95 fun K hK=>?_|refine fun (K:KT) (hK:KOk S 0 _ _ _ K)=>?_|refine runL_g ?_|refine sw_retg0 ?_|refine sw_retg ?_|(refine hK.n0 ?_;clear hK K)|refine runG_fk (fun h=>?_) fun h=>?_|refine sw_condg rfl (fun h=>?_) fun h=>?_|refine hK.skp rfl rfl ?_|refine sw_exit rfl ?_|refine sw_loopEnd ?_|refine hK.c1 rfl rfl rfl (cI) ?_|(refine hK.fork rfl rfl rfl ?_ ?_<;>intro h<;>try simp (disch:=(refine Om.mk ?_;omega)) only[go_sem] at h)|with_reducible refine and_o ?_|((with_reducible refine And.intro ?_ ?_);· first|(intro x hx;subst hx;rfl)|exact upR_mem fun _ _=>rfl|exact mapR_mem fun _ _=>rfl|(intro x;refine And.intro ?_ ?_<;>(intros;subst_vars;rfl)))|apply tTT
      have hso:SetOk s:=by rw[←hS];exact imgT_ok hA _ _
      have hfm:=findM_idx hso 0 out hok
      refine LopsW.mapGet (KT:=137) (VT:=3) (q:=.u32) (by kernel_rfl) (by kernel_rfl) (fun w=>by kernel_rfl) rfl rfl (by simp only[Nat.reduceLT]) (LopsW.nil ?_)
      rw[hfm]
      refine fun (K:List Oper→LS→Prop) (hK:KOk S 0 _ _ _ K)=>?_
      have hcq:=(capR_one a sets 300 i l (A.map (fun l=>(i,l))++evB rs sets.length k) out ru).symm.trans hcc
      rw[hS] at hcq
      have cC:=cloneNL_fc (q++[ru.length]++[1]) (by simp) 53 n l hl1.symm (by omega)
      have cA:=repeatedA_fc 0 n (by omega)
      have cB:=repeatedA_fc ((sets.length:Int)-1) n (by omega)
      rw[←hn] at cA cB
      have cU:=countUp_fc 53 (List.replicate n (0,(sets.length:Int)-1)) l (by simp[hl1]) (by omega) (fun x hx=>by have:=hl2 x hx;omega)
      rw[show List.replicate n ((0:Int),(sets.length:Int)-1)=List.replicate l.length (0,(sets.length:Int)-1) by rw[hl1],←next_nxt,hl1,show lowD (List.replicate n ((0:Int),(sets.length:Int)-1))=List.replicate n 0 by simp[lowD],show (List.replicate n ((0:Int),(sets.length:Int)-1)).map (·.2)=List.replicate n ((sets.length:Int)-1) by simp] at cU
      have hnx:=loop_next hl1 hl2 hs
      have hre:∀e:TransT,(ru++[e]).length=ru.length+1:=fun e=>by simp
      rw[hre] at hcq
      have hrl2:(List.replicate n (0:Int)).length=n:=List.length_replicate
      have hrl3:(List.replicate n ((sets.length:Int)-1)).length=n:=List.length_replicate
      generalize hZ0:List.replicate n (0:Int)=Z0 at cA cU hrl2
      generalize hZ1:List.replicate n ((sets.length:Int)-1)=Z1 at cB cU hrl3
      by_cases hso2:s∈out
      ·rw[if_pos hso2]
       rw[show addQ out s=out from if_pos hso2] at hcq
       rw[Nat.zero_add]
       simp only[go_sem]
       generalize hIx:out.idxOf s=ix at hcq ⊢
       by_cases hov:16<out.length∨300<ru.length+1
       ·rw[if_pos hov] at hcq
        subst hcq
        repeat' first|exact h.elim|(exfalso;omega)|(with_reducible refine And.intro (List.mem_filter.2 ⟨by simp,by simp⟩) ?_)|(refine And.intro (transL_cells q ru) ?_)|(refine hK.callB rfl rfl rfl (cC) (by refine⟨⟨?_,?_,?_,?_,?_⟩,⟨?_,?_,?_,?_,?_⟩,?_⟩<;>simp[LS.getBox,Lg.look,D.ids,D.idsL,idsL_i,LS.clean,D.puOk,D.pu,D.pu1,D.tks,D.tksL,inTok,tksL_i,puOk_i,mpd,Int64SL]) ?_;simp (disch:=(refine Om.mk ?_;omega)) only[go_sem])|(refine hK.callB rfl rfl rfl (cU) (by refine⟨⟨?_,?_,?_,?_,?_⟩,⟨?_,?_,?_,?_,?_⟩,?_⟩<;>simp[LS.getBox,Lg.look,D.ids,D.idsL,idsL_i,LS.clean,D.puOk,D.pu,D.pu1,D.tks,D.tksL,inTok,tksL_i,puOk_i,mpd,Int64SL]) ?_;simp (disch:=(refine Om.mk ?_;omega)) only[go_sem])|(refine sw_renC 106000 75000 rfl (by simp[LS.clean,mpd,D.tks,D.tksL,tksL_i]) ?_;simp only[go_sem])|(refine sw_tok 6 77000 137 1 rfl (.inl rfl) (by simp[LS.purge,LS.clean,mapA,pu1_c,mpd,D.pu,D.pu1,D.tks,D.tksL,tksL_i,pu1_i]) ?_;simp only[go_sem])|(refine sw_tok 7 78000 85 3 rfl (.inl rfl) (by simp[LS.purge,LS.clean,mapA,pu1_c,mpd,D.pu,D.pu1,D.tks,D.tksL,tksL_i,pu1_i]) ?_;simp only[go_sem])|refine sw_n ?_|refine sw_go 0 kp95 fun K hK=>?_|refine fun (K:KT) (hK:KOk S 0 _ _ _ K)=>?_|refine runL_g ?_|refine sw_retg0 ?_|refine sw_retg ?_|(refine hK.n0 ?_;clear hK K)|refine runG_fk (fun h=>?_) fun h=>?_|refine sw_condg rfl (fun h=>?_) fun h=>?_|refine hK.skp rfl rfl ?_|refine sw_exit rfl ?_|refine sw_loopEnd ?_|refine hK.c1 rfl rfl rfl (cA) ?_|refine hK.c1 rfl rfl rfl (cB) ?_|(refine hK.fork rfl rfl rfl ?_ ?_<;>intro h<;>try simp (disch:=(refine Om.mk ?_;omega)) only[go_sem] at h)|with_reducible refine and_o ?_|((with_reducible refine And.intro ?_ ?_);· first|(intro x hx;subst hx;rfl)|exact upR_mem fun _ _=>rfl|exact mapR_mem fun _ _=>rfl|(intro x;refine And.intro ?_ ?_<;>(intros;subst_vars;rfl)))|apply tTT
        all_goals first|(exfalso;simp only[lens,mapR_length] at *;omega)|(unfold RetN;simp only[go_sem];exact ret_two (by simp) (by simp) (by decide))|trace_state
       ·rw[if_neg hov] at hcq
        repeat' first|exact h.elim|(exfalso;omega)|(with_reducible refine And.intro (List.mem_filter.2 ⟨by simp,by simp⟩) ?_)|(refine And.intro (transL_cells q ru) ?_)|(refine hK.callB rfl rfl rfl (cC) (by refine⟨⟨?_,?_,?_,?_,?_⟩,⟨?_,?_,?_,?_,?_⟩,?_⟩<;>simp[LS.getBox,Lg.look,D.ids,D.idsL,idsL_i,LS.clean,D.puOk,D.pu,D.pu1,D.tks,D.tksL,inTok,tksL_i,puOk_i,mpd,Int64SL]) ?_;simp (disch:=(refine Om.mk ?_;omega)) only[go_sem])|(refine hK.callB rfl rfl rfl (cU) (by refine⟨⟨?_,?_,?_,?_,?_⟩,⟨?_,?_,?_,?_,?_⟩,?_⟩<;>simp[LS.getBox,Lg.look,D.ids,D.idsL,idsL_i,LS.clean,D.puOk,D.pu,D.pu1,D.tks,D.tksL,inTok,tksL_i,puOk_i,mpd,Int64SL]) ?_;simp (disch:=(refine Om.mk ?_;omega)) only[go_sem])|(refine sw_renC 106000 75000 rfl (by simp[LS.clean,mpd,D.tks,D.tksL,tksL_i]) ?_;simp only[go_sem])|refine sw_n ?_|refine sw_go 0 kp95 fun K hK=>?_|refine fun (K:KT) (hK:KOk S 0 _ _ _ K)=>?_|refine runL_g ?_|refine sw_retg0 ?_|refine sw_retg ?_|(refine hK.n0 ?_;clear hK K)|refine runG_fk (fun h=>?_) fun h=>?_|refine sw_condg rfl (fun h=>?_) fun h=>?_|refine hK.skp rfl rfl ?_|refine sw_exit rfl ?_|refine sw_loopEnd ?_|refine hK.c1 rfl rfl rfl (cA) ?_|refine hK.c1 rfl rfl rfl (cB) ?_|(refine hK.fork rfl rfl rfl ?_ ?_<;>intro h<;>try simp (disch:=(refine Om.mk ?_;omega)) only[go_sem] at h)|with_reducible refine and_o ?_|((with_reducible refine And.intro ?_ ?_);· first|(intro x hx;subst hx;rfl)|exact upR_mem fun _ _=>rfl|exact mapR_mem fun _ _=>rfl|(intro x;refine And.intro ?_ ?_<;>(intros;subst_vars;rfl)))|apply tTT
        all_goals try (exfalso;simp only[lens,mapR_length] at *;omega)
        all_goals first|exact⟨(((nextL (sets.length:Int) l).1,(nextL (sets.length:Int) l).2),A.tail,out,ru++[trE (i,l) ix]),(by(refine covers_mk0 rfl rfl ?_ ?_ ?_ ?_<;>simp (disch:=(refine Om.mk ?_;omega)) only[go_sem]<;>(try omega));all_goals first|rfl|exact⟨rfl,rfl⟩|exact⟨rfl,rfl,rfl⟩|(constructor<;>simp;done)|(simp only[mapR_snocR,List.map_append];first|rfl|exact⟨rfl,rfl⟩|exact⟨rfl,rfl,rfl⟩|(simp;done))|(simp;done)|trace_state),⟨⟨⟨hnx.1,by first|omega|(simp only[lens];omega)⟩,by first|omega|(simp only[lens];omega)⟩,⟨hok,rx,hpre⟩,fun h=>⟨⟨(hnx.2.1 h).1,fun m hm=>hA1 m (List.mem_of_mem_tail hm)⟩,by have e:=(hnx.2.1 h).2;rw[e] at hcq;exact hcq⟩,fun h=>by have:=hnx.2.2 h;dsimp only;rw[this] at hcq;exact hcq⟩,nx_meas hnx⟩|trace_state
      ·rw[if_neg hso2]
       rw[show addQ out s=out++[s] from if_neg hso2,show (out++[s]).length=out.length+1 by simp,show (out++[s]).idxOf s=out.length from idx_new hso2] at hcq
       rw[if_neg hso2] at hfm
       have hsn:=idxM_snoc s 0 out
       rw[Nat.zero_add] at hsn
       have hok2:∀x∈out++[s],SetOk x:=fun x hx=>(List.mem_append.1 hx).elim (hok x) fun h=>by rw[List.mem_singleton.1 h];exact hso
       simp only[go_sem]
       repeat' first|exact h.elim|(exfalso;omega)|(refine sw_goAt (id:=27) 0 kp95 3 rfl fun K hK=>?_)|refine sw_n ?_|refine sw_go 0 kp95 fun K hK=>?_|refine fun (K:KT) (hK:KOk S 0 _ _ _ K)=>?_|refine runL_g ?_|refine sw_retg0 ?_|refine sw_retg ?_|(refine hK.n0 ?_;clear hK K)|refine runG_fk (fun h=>?_) fun h=>?_|refine sw_condg rfl (fun h=>?_) fun h=>?_|refine hK.skp rfl rfl ?_|refine sw_exit rfl ?_|refine sw_loopEnd ?_|(refine hK.fork rfl rfl rfl ?_ ?_<;>intro h<;>try simp (disch:=(refine Om.mk ?_;omega)) only[go_sem] at h)|with_reducible refine and_o ?_|((with_reducible refine And.intro ?_ ?_);· first|(intro x hx;subst hx;rfl)|exact upR_mem fun _ _=>rfl|exact mapR_mem fun _ _=>rfl|(intro x;refine And.intro ?_ ?_<;>(intros;subst_vars;rfl)))|apply tTT
       refine LopsW.mapPut (KT:=137) (VT:=3) (q:=.u32) (by kernel_rfl) (by kernel_rfl) rfl rfl rfl hfm [(2,.sl (.own 500 137 1) (List.map (fun s:List Int=>D.int IntKind.u32 (maskI s)) out)),(3,.box 3 0),(9,.sl (.own 75000 85 3) (mapR (fun i y=>TransL (q++[i]) y) ru)),(10,.int .i64 sets.length),(11,mpd m B.w.heap.size (intE .u32 .i64 (idxM 0 out++[(maskI s,((out.length:Nat):Int))]))),(14,.int .i64 i),(15,.int .i64 (rs.getD i default)),(16,.ms 53 n),(21,.int .u32 (maskI s)),(22,.int .i64 out.length),(39,.sl .any (rs.map (.int .i64))),(40,.int .i64 rs.length),(41,.int .i64 i)] [(3,[.int .i64 a.states,.sl .any (a.rules.map TransD),.sl .any (a.final.map (.int .i64))]),(4,[.sl .any (rs.map (.int .i64))]),(53,l.map (.int .i64))] ?_ ?_ (LopsW.nil ?_)
       ·intro p hp
        simp only[List.mem_cons,List.not_mem_nil,or_false] at hp
        rcases hp with rfl|rfl|rfl|rfl|rfl|rfl|rfl|rfl|rfl|rfl|rfl|rfl|rfl
        all_goals first|exact⟨_,rfl,.inr ⟨rfl,rfl⟩⟩|exact⟨_,rfl,.inl ⟨rfl,rfl⟩⟩|exact⟨_,rfl,.inl ⟨noP_msk _ _,rfl⟩⟩|exact⟨_,rfl,.inl ⟨noP_transL _ _ _,rfl⟩⟩|exact⟨_,rfl,.inl ⟨noP_ints _ _,rfl⟩⟩|trace_state
       ·intro p hp
        simp only[List.mem_cons,List.not_mem_nil,or_false] at hp
        rcases hp with rfl|rfl|rfl
        ·exact⟨_,rfl,rfl,mpk_same (noPL_auto a)⟩
        ·exact⟨_,rfl,rfl,mpk_same (noPL_sig rs)⟩
        ·exact⟨_,rfl,rfl,mpk_same (noPL_of fun d hd=>by obtain⟨s,_,rfl⟩:=List.mem_map.1 hd;rfl)⟩
       rw[←hsn]
       refine fun (K:List Oper→LS→Prop) (hK:KOk S 0 _ _ _ K)=>?_
       simp only[go_sem]
       by_cases hov:16<out.length+1∨300<ru.length+1
       ·rw[if_pos hov] at hcq
        subst hcq
        repeat' first|exact h.elim|(exfalso;omega)|(with_reducible refine And.intro (List.mem_filter.2 ⟨by simp,by simp⟩) ?_)|(refine And.intro (transL_cells q ru) ?_)|(refine hK.callB rfl rfl rfl (cC) (by refine⟨⟨?_,?_,?_,?_,?_⟩,⟨?_,?_,?_,?_,?_⟩,?_⟩<;>simp[LS.getBox,Lg.look,D.ids,D.idsL,idsL_i,LS.clean,D.puOk,D.pu,D.pu1,D.tks,D.tksL,inTok,tksL_i,puOk_i,mpd,Int64SL]) ?_;simp (disch:=(refine Om.mk ?_;omega)) only[go_sem])|(refine hK.callB rfl rfl rfl (cU) (by refine⟨⟨?_,?_,?_,?_,?_⟩,⟨?_,?_,?_,?_,?_⟩,?_⟩<;>simp[LS.getBox,Lg.look,D.ids,D.idsL,idsL_i,LS.clean,D.puOk,D.pu,D.pu1,D.tks,D.tksL,inTok,tksL_i,puOk_i,mpd,Int64SL]) ?_;simp (disch:=(refine Om.mk ?_;omega)) only[go_sem])|(refine sw_renC 106000 75000 rfl (by simp[LS.clean,mpd,D.tks,D.tksL,tksL_i]) ?_;simp only[go_sem])|(refine sw_tok 6 77000 137 1 rfl (.inl rfl) (by simp[LS.purge,LS.clean,mapA,pu1_c,mpd,D.pu,D.pu1,D.tks,D.tksL,tksL_i,pu1_i]) ?_;simp only[go_sem])|(refine sw_tok 7 78000 85 3 rfl (.inl rfl) (by simp[LS.purge,LS.clean,mapA,pu1_c,mpd,D.pu,D.pu1,D.tks,D.tksL,tksL_i,pu1_i]) ?_;simp only[go_sem])|(refine sw_renC 98000 500 rfl (by simp[LS.clean,mpd,D.tks,D.tksL,tksL_i]) ?_;simp only[go_sem])|refine sw_n ?_|refine sw_go 0 kp95 fun K hK=>?_|refine fun (K:KT) (hK:KOk S 0 _ _ _ K)=>?_|refine runL_g ?_|refine sw_retg0 ?_|refine sw_retg ?_|(refine hK.n0 ?_;clear hK K)|refine runG_fk (fun h=>?_) fun h=>?_|refine sw_condg rfl (fun h=>?_) fun h=>?_|refine hK.skp rfl rfl ?_|refine sw_exit rfl ?_|refine sw_loopEnd ?_|refine hK.c1 rfl rfl rfl (cA) ?_|refine hK.c1 rfl rfl rfl (cB) ?_|(refine hK.fork rfl rfl rfl ?_ ?_<;>intro h<;>try simp (disch:=(refine Om.mk ?_;omega)) only[go_sem] at h)|with_reducible refine and_o ?_|((with_reducible refine And.intro ?_ ?_);· first|(intro x hx;subst hx;rfl)|exact upR_mem fun _ _=>rfl|exact mapR_mem fun _ _=>rfl|(intro x;refine And.intro ?_ ?_<;>(intros;subst_vars;rfl)))|apply tTT
        all_goals first|(exfalso;simp only[lens,mapR_length] at *;omega)|(unfold RetN;simp only[go_sem];exact ret_two (by simp) (by simp) (by decide))|trace_state
       ·rw[if_neg hov] at hcq
        repeat' first|exact h.elim|(exfalso;omega)|(with_reducible refine And.intro (List.mem_filter.2 ⟨by simp,by simp⟩) ?_)|(refine And.intro (transL_cells q ru) ?_)|(refine hK.callB rfl rfl rfl (cC) (by refine⟨⟨?_,?_,?_,?_,?_⟩,⟨?_,?_,?_,?_,?_⟩,?_⟩<;>simp[LS.getBox,Lg.look,D.ids,D.idsL,idsL_i,LS.clean,D.puOk,D.pu,D.pu1,D.tks,D.tksL,inTok,tksL_i,puOk_i,mpd,Int64SL]) ?_;simp (disch:=(refine Om.mk ?_;omega)) only[go_sem])|(refine hK.callB rfl rfl rfl (cU) (by refine⟨⟨?_,?_,?_,?_,?_⟩,⟨?_,?_,?_,?_,?_⟩,?_⟩<;>simp[LS.getBox,Lg.look,D.ids,D.idsL,idsL_i,LS.clean,D.puOk,D.pu,D.pu1,D.tks,D.tksL,inTok,tksL_i,puOk_i,mpd,Int64SL]) ?_;simp (disch:=(refine Om.mk ?_;omega)) only[go_sem])|(refine sw_renC 106000 75000 rfl (by simp[LS.clean,mpd,D.tks,D.tksL,tksL_i]) ?_;simp only[go_sem])|(refine sw_renC 98000 500 rfl (by simp[LS.clean,mpd,D.tks,D.tksL,tksL_i]) ?_;simp only[go_sem])|refine sw_n ?_|refine sw_go 0 kp95 fun K hK=>?_|refine fun (K:KT) (hK:KOk S 0 _ _ _ K)=>?_|refine runL_g ?_|refine sw_retg0 ?_|refine sw_retg ?_|(refine hK.n0 ?_;clear hK K)|refine runG_fk (fun h=>?_) fun h=>?_|refine sw_condg rfl (fun h=>?_) fun h=>?_|refine hK.skp rfl rfl ?_|refine sw_exit rfl ?_|refine sw_loopEnd ?_|refine hK.c1 rfl rfl rfl (cA) ?_|refine hK.c1 rfl rfl rfl (cB) ?_|(refine hK.fork rfl rfl rfl ?_ ?_<;>intro h<;>try simp (disch:=(refine Om.mk ?_;omega)) only[go_sem] at h)|with_reducible refine and_o ?_|((with_reducible refine And.intro ?_ ?_);· first|(intro x hx;subst hx;rfl)|exact upR_mem fun _ _=>rfl|exact mapR_mem fun _ _=>rfl|(intro x;refine And.intro ?_ ?_<;>(intros;subst_vars;rfl)))|apply tTT
        all_goals try (exfalso;simp only[lens,mapR_length] at *;omega)
        all_goals first|exact⟨(((nextL (sets.length:Int) l).1,(nextL (sets.length:Int) l).2),A.tail,out++[s],ru++[trE (i,l) out.length]),(by(refine covers_mk0 rfl rfl ?_ ?_ ?_ ?_<;>simp (disch:=(refine Om.mk ?_;omega)) only[go_sem]<;>(try omega));all_goals first|rfl|exact⟨rfl,rfl⟩|exact⟨rfl,rfl,rfl⟩|(constructor<;>simp;done)|(simp only[mapR_snocR,List.map_append];first|rfl|exact⟨rfl,rfl⟩|exact⟨rfl,rfl,rfl⟩|(simp;done))|(simp;done)|trace_state),⟨⟨⟨hnx.1,by first|omega|(simp only[lens];omega)⟩,by first|omega|(simp only[lens];omega)⟩,⟨hok2,rx++[s],by rw[hpre,List.append_assoc]⟩,fun h=>⟨⟨(hnx.2.1 h).1,fun m hm=>hA1 m (List.mem_of_mem_tail hm)⟩,by have e:=(hnx.2.1 h).2;rw[e] at hcq;exact hcq⟩,fun h=>by have:=hnx.2.2 h;dsimp only;rw[this] at hcq;exact hcq⟩,nx_meas hnx⟩|trace_state
  ·repeat' first|exact h.elim|(exfalso;omega)|refine sw_n ?_|refine sw_go 0 kp95 fun K hK=>?_|refine fun (K:KT) (hK:KOk S 0 _ _ _ K)=>?_|refine runL_g ?_|refine sw_retg0 ?_|refine sw_retg ?_|(refine hK.n0 ?_;clear hK K)|refine runG_fk (fun h=>?_) fun h=>?_|refine sw_condg rfl (fun h=>?_) fun h=>?_|refine hK.skp rfl rfl ?_|refine sw_exit rfl ?_|refine sw_loopEnd ?_|(refine hK.fork rfl rfl rfl ?_ ?_<;>intro h<;>try simp (disch:=(refine Om.mk ?_;omega)) only[go_sem] at h)|with_reducible refine and_o ?_|((with_reducible refine And.intro ?_ ?_);· first|(intro x hx;subst hx;rfl)|exact upR_mem fun _ _=>rfl|exact mapR_mem fun _ _=>rfl|(intro x;refine And.intro ?_ ?_<;>(intros;subst_vars;rfl)))|apply tTT
   obtain rfl:i=rs.length:=by omega
   rw[Nat.sub_self] at hc
   subst hc
   unfold RetN
   simp only[go_sem]
   exact ret_two (by simp) (by simp) (by decide)
end
section
theorem addQ_nodup {out:List (List Int)} {s:List Int} (h:out.Nodup):(addQ out s).Nodup:=by
 unfold addQ
 split
 ·exact h
 ·rename_i hs
  rw[List.nodup_append]
  exact⟨h,by simp,fun x hx y hy=>by rw[List.mem_singleton.1 hy];exact fun e=>hs (e ▸ hx)⟩
theorem capR_keep {I:Nat→List (List Int)→Option (List Int)} {sets:List (List Int)} {M:Nat} {P:List Int→Prop} (hI:∀f l s,I f l=some s→P s):∀(E:List (Nat×List Int)) (out:List (List Int)) (ru:List TransT),(∀s∈out,P s)→out.Nodup→(∀s∈(capR I sets M E out ru).1,P s)∧(capR I sets M E out ru).1.Nodup
 | [],out,ru,h1,h2=>⟨h1,h2⟩
 | e::es,out,ru,h1,h2=>by
  unfold capR
  cases h:I e.1 (lstS sets e.2) with
  | none=>exact capR_keep hI es out ru h1 h2
  | some s =>
   simp only
   split
   ·exact⟨fun s hs=>absurd hs List.not_mem_nil,List.nodup_nil⟩
   ·refine capR_keep hI es _ _ (fun x hx=>?_) (addQ_nodup h2)
    unfold addQ at hx
    split at hx
    ·exact h1 x hx
    ·rcases List.mem_append.1 hx with hx|hx
     ·exact h1 x hx
     ·rw[List.mem_singleton.1 hx];exact hI _ _ _ h
theorem nodup_apart {out:List (List Int)} (h:out.Nodup):∀i<out.length,∀j<i,out.getD j default≠out.getD i default:=fun i hi j hj e=>by
 rw[List.getD_eq_getElem?_getD,List.getD_eq_getElem?_getD,List.getElem?_eq_getElem (show j<out.length by omega),List.getElem?_eq_getElem hi] at e
 have:=(List.getElem_inj h).1 (show out[j]=out[i] from e)
 omega
theorem iterR_step {I:Nat→List (List Int)→Option (List Int)} {M:Nat} {rs:List Int} {k:Nat} {sets:List (List Int)} {R:Option (List (List Int)×List TransT)} (h:iterR I M rs (k+1) sets=R) {nx:List (List Int)} {ru:List TransT} {ok:Bool} (hC:capR I sets M (evL rs sets.length) sets []=(nx,ru,ok)):(ok=false→R=none)∧(ok=true→nx=[]→R=none)∧(ok=true→nx≠[]→sets.length<nx.length→iterR I M rs k nx=R)∧(ok=true→nx≠[]→¬sets.length<nx.length→R=some (sets,ru)):=by
 unfold iterR at h
 rw[hC] at h
 simp only at h
 refine⟨fun h1=>?_,fun h1 h2=>?_,fun h1 h2 h3=>?_,fun h1 h2 h3=>?_⟩
 ·rw[if_neg (by simp[h1])] at h;exact h.symm
 ·rw[if_pos h1,if_pos h2] at h;exact h.symm
 ·rw[if_pos h1,if_neg h2,if_pos h3] at h;exact h
 ·rw[if_pos h1,if_neg h2,if_neg h3] at h;exact h.symm
end
section
attribute [local irreducible] SW runL runQ runG runQG FC Ret1 RetN toF redoL anyB
theorem trans_len (q:List Nat) (ru:List TransT):(mapR (fun i y=>TransL (q++[i]) y) ru).length=ru.length:=mapR_length _ _
def kp49:List (Nat×List Nat):=[(0,[2,3,4]),(1,[2,3,4,6]),(2,[2,3,4,6,7,8,9]),(3,[2,3,4,6,7,8,27]),(4,[4,5]),(5,[2,3,4,6,7,8,33]),(6,[2,3,4,6]),(7,[3,4,6,10]),(8,[3,4,10,39,40,41]),(9,[3,4,10,39,40,41,42]),(10,[3,4,10,11,12,39,40,41]),(11,[3,4,10,11,39,40,41,51]),(12,[3,4,10,39,40,41]),(13,[3,4,10,39,40,41]),(14,[4,5])]
attribute [go_sem] kp49 Try.results49 Try.ntmps49
theorem sureAutoI_fc (p:List Nat) (hp:p≠[]) (rs:List Int) (a:AutoT) (hA:AutoOkP rs a):FC S 49 [] [] [] [.agg [.sl .any (rs.map (.int .i64))],AutoD a] (.tup [AutoL p (sureR rs a).1,.bool (sureR rs a).2]) [] []:=by
 have hF:InS a.final:=fun x hx=>by
  obtain⟨j,hj,e⟩:=List.getElem_of_mem hx
  have:=(hA.1.2.2.2 j hj).1
  have:=hA.1.2.1
  simp only[List.getD,List.getElem?_eq_getElem hj,Option.getD_some,e] at *
  omega
 have cF:=setOf_fc .any a.final hF
 rw[sureR_prog hA]
 generalize hR:iterR (imgI a) 300 rs 18 []=R
 refine fcb Try.func49 fun B=>?_
 repeat' first|exact h.elim|refine sw_n ?_|refine sw_go 0 kp49 fun K hK=>?_|refine fun (K:KT) (hK:KOk S 0 _ _ _ K)=>?_|refine runL_g ?_|refine sw_retg0 ?_|refine sw_retg ?_|(refine hK.n0 ?_;clear hK K)|refine runG_fk (fun h=>?_) fun h=>?_|refine sw_condg rfl (fun h=>?_) fun h=>?_|refine hK.skp rfl rfl ?_|refine sw_exit rfl ?_|refine sw_loopEnd ?_|(refine hK.fork rfl rfl rfl ?_ ?_<;>intro h<;>try simp (disch:=(refine Om.mk ?_;omega)) only[go_sem] at h)|with_reducible refine and_o ?_|((with_reducible refine And.intro ?_ ?_);· first|(intro x hx;subst hx;rfl)|exact upR_mem fun _ _=>rfl|exact mapR_mem fun _ _=>rfl|(intro x;refine And.intro ?_ ?_<;>(intros;subst_vars;rfl)))|apply tTT
 refine sw_tok 6 500 137 1 rfl (.inl rfl) rfl ?_
 simp only[go_sem]
 refine sw_loopT (ι:=Nat×List (List Int)) (fun x=>[(6,.sl (.own 500 137 1) (List.map (fun s:List Int=>D.int IntKind.u32 (maskI s)) x.2))]) (fun _=>[]) (fun _=>[500]) (fun x=>(x.2.length≤16∧18≤x.1+x.2.length)∧((∀s∈x.2,SetOk s)∧x.2.Nodup)∧iterR (imgI a) 300 rs x.1 x.2=R) (fun x=>x.1) (18,[]) cvB ⟨⟨by simp,by simp⟩,⟨fun s hs=>absurd hs List.not_mem_nil,List.nodup_nil⟩,hR⟩ (fun x hx=>?_)
 obtain⟨k,sets⟩:=x
 obtain⟨⟨h16,hk⟩,⟨hok,hnd⟩,hit⟩:=hx
 dsimp only at h16 hk hok hnd hit
 simp only[go_sem]
 obtain⟨k,rfl⟩:∃k',k=k'+1:=⟨k-1,by omega⟩
 have cR:=roundI_fc (p++[1]) (by simp) rs a hA sets h16 hok (nodup_apart hnd)
 have hkeep:=capR_keep (I:=imgI a) (sets:=sets) (M:=300) (P:=SetOk) (fun f l s h=>by cases h;exact imgT_ok hA _ _) (evL rs sets.length) sets [] hok hnd
 have hlen:=capR_yes (I:=imgI a) (sets:=sets) (M:=300) (evL rs sets.length) sets [] h16
 have hl16:=capF_len (I:=imgI a) (sets:=sets) (evL rs sets.length) sets h16
 have hcap:=capR_cap (I:=imgI a) (sets:=sets) (M:=300) (evL rs sets.length) sets [] (by simp)
 have hst:=iterR_step hit (nx:=(capR (imgI a) sets 300 (evL rs sets.length) sets []).1) (ru:=(capR (imgI a) sets 300 (evL rs sets.length) sets []).2.1) (ok:=(capR (imgI a) sets 300 (evL rs sets.length) sets []).2.2) rfl
 generalize capR (imgI a) sets 300 (evL rs sets.length) sets []=C at *
 obtain⟨nx,ru,ok⟩:=C
 dsimp only at cR hkeep hlen hcap hst
 have htl:=trans_len (p++[1]) ru
 cases ok with
 | false =>
  obtain rfl:=hst.1 rfl
  repeat' first|exact h.elim|(exfalso;omega)|(refine hK.callB rfl rfl rfl (cR) (by refine⟨⟨?_,?_,?_,?_,?_⟩,⟨?_,?_,?_,?_,?_⟩,?_⟩<;>simp[LS.getBox,Lg.look,D.ids,D.idsL,idsL_i,LS.clean,D.puOk,D.pu,D.pu1,D.tks,D.tksL,inTok,tksL_i,puOk_i,mpd,Int64SL]) ?_;simp (disch:=(refine Om.mk ?_;omega)) only[go_sem])|refine sw_n ?_|refine sw_go 0 kp49 fun K hK=>?_|refine fun (K:KT) (hK:KOk S 0 _ _ _ K)=>?_|refine runL_g ?_|refine sw_retg0 ?_|refine sw_retg ?_|(refine hK.n0 ?_;clear hK K)|refine runG_fk (fun h=>?_) fun h=>?_|refine sw_condg rfl (fun h=>?_) fun h=>?_|refine hK.skp rfl rfl ?_|refine sw_exit rfl ?_|refine sw_loopEnd ?_|(refine hK.fork rfl rfl rfl ?_ ?_<;>intro h<;>try simp (disch:=(refine Om.mk ?_;omega)) only[go_sem] at h)|with_reducible refine and_o ?_|((with_reducible refine And.intro ?_ ?_);· first|(intro x hx;subst hx;rfl)|exact upR_mem fun _ _=>rfl|exact mapR_mem fun _ _=>rfl|(intro x;refine And.intro ?_ ?_<;>(intros;subst_vars;rfl)))|apply tTT
  all_goals (simp[mapR,le0];done)
 | true =>
  have hle:nx.length≤16:=by rw[(hlen rfl).2];exact hl16 (hlen rfl).1
  by_cases h0:nx=[]
  ·obtain rfl:=hst.2.1 rfl h0
   subst h0
   repeat' first|exact h.elim|(exfalso;omega)|(refine hK.callB rfl rfl rfl (cR) (by refine⟨⟨?_,?_,?_,?_,?_⟩,⟨?_,?_,?_,?_,?_⟩,?_⟩<;>simp[LS.getBox,Lg.look,D.ids,D.idsL,idsL_i,LS.clean,D.puOk,D.pu,D.pu1,D.tks,D.tksL,inTok,tksL_i,puOk_i,mpd,Int64SL]) ?_;simp (disch:=(refine Om.mk ?_;omega)) only[go_sem])|refine sw_n ?_|refine sw_go 0 kp49 fun K hK=>?_|refine fun (K:KT) (hK:KOk S 0 _ _ _ K)=>?_|refine runL_g ?_|refine sw_retg0 ?_|refine sw_retg ?_|(refine hK.n0 ?_;clear hK K)|refine runG_fk (fun h=>?_) fun h=>?_|refine sw_condg rfl (fun h=>?_) fun h=>?_|refine hK.skp rfl rfl ?_|refine sw_exit rfl ?_|refine sw_loopEnd ?_|(refine hK.fork rfl rfl rfl ?_ ?_<;>intro h<;>try simp (disch:=(refine Om.mk ?_;omega)) only[go_sem] at h)|with_reducible refine and_o ?_|((with_reducible refine And.intro ?_ ?_);· first|(intro x hx;subst hx;rfl)|exact upR_mem fun _ _=>rfl|exact mapR_mem fun _ _=>rfl|(intro x;refine And.intro ?_ ?_<;>(intros;subst_vars;rfl)))|apply tTT
   all_goals (simp[mapR,le0];done)
  ·have hpos:=List.length_pos_iff.2 h0
   by_cases hlt:sets.length<nx.length
   ·have hn:=hst.2.2.1 rfl h0 hlt
    repeat' first|exact h.elim|(exfalso;omega)|(refine hK.callB rfl rfl rfl (cR) (by refine⟨⟨?_,?_,?_,?_,?_⟩,⟨?_,?_,?_,?_,?_⟩,?_⟩<;>simp[LS.getBox,Lg.look,D.ids,D.idsL,idsL_i,LS.clean,D.puOk,D.pu,D.pu1,D.tks,D.tksL,inTok,tksL_i,puOk_i,mpd,Int64SL]) ?_;simp (disch:=(refine Om.mk ?_;omega)) only[go_sem])|(refine sw_renC 18000 500 rfl ?lk ?_;(case lk=>(simp[LS.clean,mpd,D.tks,D.tksL,tksL_i];done));simp only[go_sem])|refine sw_n ?_|refine sw_go 0 kp49 fun K hK=>?_|refine fun (K:KT) (hK:KOk S 0 _ _ _ K)=>?_|refine runL_g ?_|refine sw_retg0 ?_|refine sw_retg ?_|(refine hK.n0 ?_;clear hK K)|refine runG_fk (fun h=>?_) fun h=>?_|refine sw_condg rfl (fun h=>?_) fun h=>?_|refine hK.skp rfl rfl ?_|refine sw_exit rfl ?_|refine sw_loopEnd ?_|(refine hK.fork rfl rfl rfl ?_ ?_<;>intro h<;>try simp (disch:=(refine Om.mk ?_;omega)) only[go_sem] at h)|with_reducible refine and_o ?_|((with_reducible refine And.intro ?_ ?_);· first|(intro x hx;subst hx;rfl)|exact upR_mem fun _ _=>rfl|exact mapR_mem fun _ _=>rfl|(intro x;refine And.intro ?_ ?_<;>(intros;subst_vars;rfl)))|apply tTT
    exact⟨(k,nx),(by(refine covers_mk0 rfl rfl ?_ ?_ ?_ ?_<;>simp (disch:=(refine Om.mk ?_;omega)) only[go_sem]<;>(try omega));all_goals first|rfl|exact⟨rfl,rfl⟩|(simp;done)|trace_state),⟨⟨hle,by dsimp only;omega⟩,hkeep,hn⟩,Nat.lt_succ_self k⟩
   ·obtain rfl:=hst.2.2.2 rfl h0 hlt
    repeat' first|exact h.elim|(exfalso;omega)|(refine hK.callB rfl rfl rfl (cR) (by refine⟨⟨?_,?_,?_,?_,?_⟩,⟨?_,?_,?_,?_,?_⟩,?_⟩<;>simp[LS.getBox,Lg.look,D.ids,D.idsL,idsL_i,LS.clean,D.puOk,D.pu,D.pu1,D.tks,D.tksL,inTok,tksL_i,puOk_i,mpd,Int64SL]) ?_;simp (disch:=(refine Om.mk ?_;omega)) only[go_sem])|refine sw_n ?_|refine sw_go 0 kp49 fun K hK=>?_|refine fun (K:KT) (hK:KOk S 0 _ _ _ K)=>?_|refine runL_g ?_|refine sw_retg0 ?_|refine sw_retg ?_|(refine hK.n0 ?_;clear hK K)|refine runG_fk (fun h=>?_) fun h=>?_|refine sw_condg rfl (fun h=>?_) fun h=>?_|refine hK.skp rfl rfl ?_|refine sw_exit rfl ?_|refine sw_loopEnd ?_|(refine hK.fork rfl rfl rfl ?_ ?_<;>intro h<;>try simp (disch:=(refine Om.mk ?_;omega)) only[go_sem] at h)|with_reducible refine and_o ?_|((with_reducible refine And.intro ?_ ?_);· first|(intro x hx;subst hx;rfl)|exact upR_mem fun _ _=>rfl|exact mapR_mem fun _ _=>rfl|(intro x;refine And.intro ?_ ?_<;>(intros;subst_vars;rfl)))|apply tTT
    refine sw_tokBox 10 2 57000 2 1 rfl rfl (by simp[LS.purge,LS.clean,mapA,pu1_c,D.pu,D.pu1,D.tks,D.tksL,tksL_i,pu1_i]) ?_
    simp only[go_sem]
    refine sw_loopT (ι:=Nat) (fun i=>[(41,.int .i64 i)]) (fun i=>[(10,[.int .i64 sets.length,.sl (.own 18001 85 3) (mapR (fun i y=>TransL (p++[1]++[i]) y) ru),.sl (.own 57000 2 1) ((finS a sets i).map (.int .i64))])]) (fun _=>[57000,18001]) (fun i=>i≤sets.length) (fun i=>sets.length-i) 0 (by(refine covers_mk0 rfl rfl ?_ ?_ ?_ ?_<;>simp (disch:=(refine Om.mk ?_;omega)) only[go_sem]<;>(try omega));all_goals first|rfl|exact⟨rfl,rfl⟩|(simp;done)|trace_state) (by omega) (fun i hi=>?_)
    simp only[go_sem]
    have hfl:=finS_len a sets i
    by_cases hil:i<sets.length
    ·have hm:=mask_meets (hok _ (getD_mem sets i hil)).1 hF
     by_cases hx:∃x∈sets.getD i default,x∈a.final
     ·have hb:=hm.2 hx
      have hf:=finS_yes hx
      repeat' first|exact h.elim|(exfalso;first|omega|exact hb h|exact hb (by assumption))|refine sw_n ?_|refine sw_go 0 kp49 fun K hK=>?_|refine fun (K:KT) (hK:KOk S 0 _ _ _ K)=>?_|refine runL_g ?_|refine sw_retg0 ?_|refine sw_retg ?_|(refine hK.n0 ?_;clear hK K)|refine runG_fk (fun h=>?_) fun h=>?_|refine sw_condg rfl (fun h=>?_) fun h=>?_|refine hK.skp rfl rfl ?_|refine sw_exit rfl ?_|refine sw_loopEnd ?_|refine hK.c1 rfl rfl rfl (cF) ?_|(refine hK.fork rfl rfl rfl ?_ ?_<;>intro h<;>try simp (disch:=(refine Om.mk ?_;omega)) only[go_sem] at h)|with_reducible refine and_o ?_|((with_reducible refine And.intro ?_ ?_);· first|(intro x hx;subst hx;rfl)|exact upR_mem fun _ _=>rfl|exact mapR_mem fun _ _=>rfl|(intro x;refine And.intro ?_ ?_<;>(intros;subst_vars;rfl)))|apply tTT
      all_goals first|exact⟨i+1,(by(refine covers_mk0 rfl rfl ?_ ?_ ?_ ?_<;>simp (disch:=(refine Om.mk ?_;omega)) only[go_sem]<;>(try omega));all_goals first|rfl|exact⟨rfl,rfl⟩|(rw[hf,List.map_append];rfl)|(rw[hf,List.map_append];exact⟨rfl,by omega⟩)|(simp[hf];done)|trace_state),by omega,by omega⟩|trace_state
     ·have hb:=fun e=>hx (hm.1 e)
      have hf:=finS_no hx
      repeat' first|exact h.elim|(exfalso;first|omega|exact hb h|exact hb (by assumption))|refine sw_n ?_|refine sw_go 0 kp49 fun K hK=>?_|refine fun (K:KT) (hK:KOk S 0 _ _ _ K)=>?_|refine runL_g ?_|refine sw_retg0 ?_|refine sw_retg ?_|(refine hK.n0 ?_;clear hK K)|refine runG_fk (fun h=>?_) fun h=>?_|refine sw_condg rfl (fun h=>?_) fun h=>?_|refine hK.skp rfl rfl ?_|refine sw_exit rfl ?_|refine sw_loopEnd ?_|refine hK.c1 rfl rfl rfl (cF) ?_|(refine hK.fork rfl rfl rfl ?_ ?_<;>intro h<;>try simp (disch:=(refine Om.mk ?_;omega)) only[go_sem] at h)|with_reducible refine and_o ?_|((with_reducible refine And.intro ?_ ?_);· first|(intro x hx;subst hx;rfl)|exact upR_mem fun _ _=>rfl|exact mapR_mem fun _ _=>rfl|(intro x;refine And.intro ?_ ?_<;>(intros;subst_vars;rfl)))|apply tTT
      all_goals first|exact⟨i+1,(by(refine covers_mk0 rfl rfl ?_ ?_ ?_ ?_<;>simp (disch:=(refine Om.mk ?_;omega)) only[go_sem]<;>(try omega));all_goals first|rfl|exact⟨rfl,rfl⟩|(rw[hf];done)|(rw[hf];exact⟨rfl,by omega⟩)|(simp[hf];done)|trace_state),by omega,by omega⟩|trace_state
    ·obtain rfl:i=sets.length:=by omega
     repeat' first|exact h.elim|(exfalso;omega)|(refine sw_labBoxAt 14 10 1 (p++[1]) (k:=18001) rfl rfl (by simp) (by simp) ?_;simp only[go_sem])|(refine sw_labBoxAt 14 10 2 (p++[2]) (k:=57000) rfl rfl (by simp) (by simp) ?_;simp only[go_sem])|refine sw_n ?_|refine sw_go 0 kp49 fun K hK=>?_|refine fun (K:KT) (hK:KOk S 0 _ _ _ K)=>?_|refine runL_g ?_|refine sw_retg0 ?_|refine sw_retg ?_|(refine hK.n0 ?_;clear hK K)|refine runG_fk (fun h=>?_) fun h=>?_|refine sw_condg rfl (fun h=>?_) fun h=>?_|refine hK.skp rfl rfl ?_|refine sw_exit rfl ?_|refine sw_loopEnd ?_|(refine hK.fork rfl rfl rfl ?_ ?_<;>intro h<;>try simp (disch:=(refine Om.mk ?_;omega)) only[go_sem] at h)|with_reducible refine and_o ?_|((with_reducible refine And.intro ?_ ?_);· first|(intro x hx;subst hx;rfl)|exact upR_mem fun _ _=>rfl|exact mapR_mem fun _ _=>rfl|(intro x;refine And.intro ?_ ?_<;>(intros;subst_vars;rfl)))|apply tTT
     all_goals first|exact⟨rfl,rfl,rfl⟩|exact⟨rfl,rfl⟩|rfl|trace_state
def kp12:List (Nat×List Nat):=[(0,[2,3,4]),(1,[2,3,4,9]),(2,[4,5]),(3,[4,5])]
attribute [go_sem] kp12 Try.results12 Try.ntmps12
theorem implSureAuto_fc (p:List Nat) (hp:p≠[]) (rs:List Int) (a:AutoT):FC S 12 [] [] [] [.agg [.sl .any (rs.map (.int .i64))],AutoD a] (.tup [AutoL p (sureR rs a).1,.bool (sureR rs a).2]) [] []:=by
 have cA:=implAutoOk_fc .any rs a
 by_cases hA:AutoOkP rs a
 ·rw[tst_true hA] at cA
  have cI:=sureAutoI_fc p hp rs a hA
  refine fcb Try.func12 fun B=>?_
  repeat' first|exact h.elim|refine sw_n ?_|refine sw_go 0 kp12 fun K hK=>?_|refine fun (K:KT) (hK:KOk S 0 _ _ _ K)=>?_|refine runL_g ?_|refine sw_retg0 ?_|refine sw_retg ?_|(refine hK.n0 ?_;clear hK K)|refine sw_condg rfl (fun h=>?_) fun h=>?_|refine sw_loopEnd ?_|refine hK.c1 rfl rfl rfl (cA) ?_|refine hK.c1 rfl rfl rfl (cI) ?_|with_reducible refine and_o ?_|((with_reducible refine And.intro ?_ ?_);· first|(intro x hx;subst hx;rfl)|exact upR_mem fun _ _=>rfl|exact mapR_mem fun _ _=>rfl|(intro x;refine And.intro ?_ ?_<;>(intros;subst_vars;rfl)))|apply tTT
  all_goals first|exact⟨rfl,rfl,rfl⟩|exact⟨rfl,rfl⟩|rfl|trace_state
 ·rw[tst_false hA] at cA
  rw[sureR_no hA]
  refine fcb Try.func12 fun B=>?_
  repeat' first|exact h.elim|refine sw_n ?_|refine sw_go 0 kp12 fun K hK=>?_|refine fun (K:KT) (hK:KOk S 0 _ _ _ K)=>?_|refine runL_g ?_|refine sw_retg0 ?_|refine sw_retg ?_|(refine hK.n0 ?_;clear hK K)|refine sw_condg rfl (fun h=>?_) fun h=>?_|refine sw_loopEnd ?_|refine hK.c1 rfl rfl rfl (cA) ?_|with_reducible refine and_o ?_|((with_reducible refine And.intro ?_ ?_);· first|(intro x hx;subst hx;rfl)|exact upR_mem fun _ _=>rfl|exact mapR_mem fun _ _=>rfl|(intro x;refine And.intro ?_ ?_<;>(intros;subst_vars;rfl)))|apply tTT
  all_goals (simp[mapR,le0];done)
end
section
theorem evL_args {rs:List Int} (h:∀f<rs.length,0≤rs.getD f default∧rs.getD f default≤3) {n:Nat}:∀e∈evL rs n,e.2.length≤3:=fun e he=>by
 unfold evL at he
 obtain⟨f,hf,he⟩:=List.mem_flatMap.1 he
 have hf:=List.mem_range.1 hf
 have h3:=h f hf
 by_cases h0:n=0∧0<rs.getD f default
 ·rw[if_pos h0] at he;cases he
 ·rw[if_neg h0] at he
  obtain⟨l,hl,rfl⟩:=List.mem_map.1 he
  have:=(digs_dig (n:=n) (k:=(rs.getD f default).toNat) (by omega) l hl).1
  simp only
  omega
theorem sum_tr:∀ {xs:List TransT},(∀x∈xs,x.args.length≤3)→mcTransS xs≤5*xs.length
 | [],_=>by simp[mcTransS]
 | x::r,h=>by
  have h1:=h x List.mem_cons_self
  have:=sum_tr (xs:=r) fun y hy=>h y (List.mem_cons_of_mem _ hy)
  simp only[mcTransS,mcInt64S,List.map_cons,List.sum_cons,List.length_cons] at *
  omega
theorem sureR_mc (rs:List Int) (a:AutoT):mcAuto (sureR rs a).1≤2000:=by
 by_cases hA:AutoOkP rs a
 ·obtain⟨s,b,hs⟩:∃s b,iterT (imgI a) rs 18 []=(s,b):=⟨_,_,rfl⟩
  rw[sureR_ok hA hs]
  split
  ·rename_i h
   have hl:=iterT_le (I:=imgI a) (rs:=rs) 18 [] (by simp) (by rw[hs];exact h.1)
   rw[hs] at hl
   have h1:=sum_tr (xs:=trP a s (evL rs s.length)) (fun x hx=>by
    unfold trP at hx
    obtain⟨e,he,rfl⟩:=List.mem_map.1 hx
    exact evL_args (fun f hf=>hA.1.1.2 f hf) e he)
   have h2:=trP_len a s (evL rs s.length)
   have h3:=finS_len a s s.length
   have h4:=h.2
   have h5:=hl.1
   simp only[mcAuto,mcInt64S] at *
   omega
  ·simp[mcAuto,mcTransS,mcInt64S]
 ·rw[sureR_no hA]
  simp[mcAuto,mcTransS,mcInt64S]
end
end Go.Proofs.Ytjaicibmmcpeiaa
