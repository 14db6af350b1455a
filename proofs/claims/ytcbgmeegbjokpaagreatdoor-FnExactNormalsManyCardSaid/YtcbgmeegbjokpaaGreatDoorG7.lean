/-
  N3b, N8p, S4k, one behind the other.
-/
import Derived.Test.YtcbgmeegbjokpaaGreatDoorG5
import Derived.Test.YtcbgmeegbjokpaaGreatDoorLgK23
import Derived.Test.YtcbgmeegbjokpaaGreatDoorLgK7
import Derived.Test.YtcbgmeegbjokpaaGreatDoorG6
import Derived.Test.YtcbgmeegbjokpaaGreatDoorG1
import Derived.Test.YtcbgmeegbjokpaaGreatDoorG3
import Derived.Test.YtcbgmeegbjokpaaGreatDoorG2
import Derived.Test.YtcbgmeegbjokpaaGreatDoorLgK19
import Derived.Test.YtcbgmeegbjokpaaGreatDoorLgK20
import Derived.Test.YtcbgmeegbjokpaaGreatDoorLgK10
namespace Go.Proofs.YtcbgmeegbjokpaaGreatDoor
open Go Go.Lg
set_option linter.unusedSimpArgs false
set_option linter.unusedVariables false
set_option maxHeartbeats 4000000
section
attribute [local irreducible] SW runL runQ runG runQG FC Ret1 RetN toF redoL anyB
noncomputable def trZ (I:Nat→List (List Int)→Option (List Int)) (sets:List (List Int)):List (Nat×List Int)→List TransT
 | []=>[]
 | e::es=>match I e.1 (lstS sets e.2) with
  | none=>trZ I sets es
  | some s=>⟨(e.1:Int),e.2,placeI s sets⟩::trZ I sets es
theorem trZ_none {I:Nat→List (List Int)→Option (List Int)} {sets:List (List Int)} {f:Nat} {l:List Int} {E:List (Nat×List Int)} (h:I f (lstS sets l)=none):trZ I sets ((f,l)::E)=trZ I sets E:=by
 rw[trZ];simp only[h]
theorem trZ_some {I:Nat→List (List Int)→Option (List Int)} {sets:List (List Int)} {f:Nat} {l:List Int} {E:List (Nat×List Int)} {s:List Int} (h:I f (lstS sets l)=some s):trZ I sets ((f,l)::E)=⟨(f:Int),l,placeI s sets⟩::trZ I sets E:=by
 rw[trZ];simp only[h]
theorem place_idx {s:List Int} {xs:List (List Int)} (h:s∈xs):placeI s xs=(xs.idxOf s:Nat):=by
 have h1:xs.idxOf s<xs.length:=List.idxOf_lt_length_iff.2 h
 have h2:xs[xs.idxOf s]=s:=List.getElem_idxOf h1
 have hg:xs.getD (xs.idxOf s) default=s:=by rw[List.getD_eq_getElem?_getD,List.getElem?_eq_getElem h1];exact h2
 refine placeI_at (fun j hj e=>?_) h1 hg
 have:=List.not_of_lt_findIdx (p:=(·==s)) (xs:=xs) (i:=j) hj
 rw[List.getD_eq_getElem?_getD,List.getElem?_eq_getElem (by omega)] at e
 simp at this e
 exact this e
theorem capF_closed {I:Nat→List (List Int)→Option (List Int)} {sets:List (List Int)} (h16:sets.length≤16):∀E:List (Nat×List Int),(capF I sets E sets).2=true→(capF I sets E sets).1.length=sets.length→∀e∈E,∀s,I e.1 (lstS sets e.2)=some s→s∈sets
 | [],_,_=>fun e he=>by cases he
 | (f,l)::es,h,hl=>by
  cases hI:I f (lstS sets l) with
  | none =>
   rw[capF_none f l es sets h16 hI] at h hl
   intro e hm s hs
   rcases List.mem_cons.1 hm with rfl|hm
   ·rw[hI] at hs;cases hs
   ·exact capF_closed h16 es h hl e hm s hs
  | some s0 =>
   obtain⟨hc1,hc2⟩:=capF_cap (I:=I) (sets:=sets) f l es sets s0 hI
   obtain⟨r',hr'⟩:=addQ_pre sets s0
   by_cases h17:16<(addQ sets s0).length
   ·rw[hc1 h17] at h;cases h
   ·rw[hc2 h17] at h hl
    obtain⟨r,hr⟩:=capF_pre (I:=I) (sets:=sets) es (addQ sets s0)
    have he:addQ sets s0=sets:=by
     rw[hr,hr',List.length_append,List.length_append] at hl
     have:r'=[]:=List.length_eq_zero_iff.1 (by omega)
     rw[hr',this,List.append_nil]
    have hmem:=addQ_mem sets s0
    rw[he] at h hl hmem
    intro e hm s hs
    rcases List.mem_cons.1 hm with rfl|hm
    ·rw[hI] at hs;cases hs;exact hmem
    ·exact capF_closed h16 es h hl e hm s hs
theorem iterZ_closed {I:Nat→List (List Int)→Option (List Int)} {E:Nat→List (Nat×List Int)}:∀(k:Nat) (s:List (List Int)),s.length≤16→(iterZ I E k s).2=true→∀e∈E (iterZ I E k s).1.length,∀t,I e.1 (lstS (iterZ I E k s).1 e.2)=some t→t∈(iterZ I E k s).1
 | 0,s,_,h=>by cases h
 | k+1,s,h16,h=>by
  unfold iterZ at h ⊢
  by_cases h1:(capF I s (E s.length) s).2=true
  ·rw[if_pos h1] at h ⊢
   by_cases h2:(capF I s (E s.length) s).1.length=s.length
   ·rw[if_pos h2] at h ⊢
    exact capF_closed h16 _ h1 h2
   ·rw[if_neg h2] at h ⊢
    exact iterZ_closed k _ (capF_len _ _ h16 h1) h
  ·rw[if_neg h1] at h;cases h
theorem trZ_trS {I:Nat→List (List Int)→Option (List Int)} {sets:List (List Int)}:∀E:List (Nat×List Int),(∀e∈E,∀s,I e.1 (lstS sets e.2)=some s→s∈sets)→trZ I sets E=trS I sets E
 | [],_=>rfl
 | (f,l)::es,h=>by
  have ih:=trZ_trS es fun x hx=>h x (List.mem_cons_of_mem _ hx)
  cases hI:I f (lstS sets l) with
  | none=>rw[trZ_none hI,ih,trS];simp only[hI]
  | some s =>
   rw[trZ_some hI,ih,place_idx (h (f,l) List.mem_cons_self s hI),trS]
   simp only[hI]
   rfl
def numsN (n:Nat):List Int:=(List.range n).map fun (j:Nat)=>(j:Int)
theorem numsN_succ (n:Nat):numsN (n+1)=numsN n++[(n:Int)]:=by
 unfold numsN;rw[List.range_succ,List.map_append];rfl
theorem numsN_len (n:Nat):(numsN n).length=n:=by simp[numsN]
open Classical in
noncomputable def autoN (rs:List Int) (SH ls:List (List Int)) (syms:List Nat):AutoT×Bool:=if (iterZ (imgH rs SH ls) (evY rs syms) 18 []).2=true∧(iterZ (imgH rs SH ls) (evY rs syms) 18 []).1≠[]∧(trZ (imgH rs SH ls) (iterZ (imgH rs SH ls) (evY rs syms) 18 []).1 (evY rs syms (iterZ (imgH rs SH ls) (evY rs syms) 18 []).1.length)).length≤300 then (⟨((iterZ (imgH rs SH ls) (evY rs syms) 18 []).1.length:Int),trZ (imgH rs SH ls) (iterZ (imgH rs SH ls) (evY rs syms) 18 []).1 (evY rs syms (iterZ (imgH rs SH ls) (evY rs syms) 18 []).1.length),numsN (iterZ (imgH rs SH ls) (evY rs syms) 18 []).1.length⟩,true) else (⟨0,[],[]⟩,false)
theorem autoN_eq {rs:List Int} {SH ls:List (List Int)} {syms:List Nat} {s:List (List Int)} {b:Bool} (h:iterZ (imgH rs SH ls) (evY rs syms) 18 []=(s,b)):(b=true→s≠[]→(trZ (imgH rs SH ls) s (evY rs syms s.length)).length≤300→autoN rs SH ls syms=(⟨(s.length:Int),trZ (imgH rs SH ls) s (evY rs syms s.length),numsN s.length⟩,true))∧(¬(b=true∧s≠[]∧(trZ (imgH rs SH ls) s (evY rs syms s.length)).length≤300)→autoN rs SH ls syms=(⟨0,[],[]⟩,false)):=by
 unfold autoN
 rw[h]
 exact⟨fun h1 h2 h3=>if_pos ⟨h1,h2,h3⟩,fun h=>if_neg h⟩
def kp33:List (Nat×List Nat):=[(0,[1,2,3,4,8]),(1,[1,2,3,4,8,10,11]),(2,[1,2,3,4,8,10,11,12]),(3,[1,2,3,4,8,10,12,35]),(4,[8,9]),(5,[1,2,3,4,8,10,12,13]),(6,[1,2,3,4,8,10,12,13,14]),(7,[1,2,3,4,8,10,12,13,14,42]),(9,[1,2,3,4,8,10,12,13,14]),(8,[1,2,3,4,8,10,12,13,14]),(10,[1,2,3,4,8,10,12,13,15]),(11,[1,2,3,4,8,10,12,13,15,54]),(13,[1,2,3,4,8,10,12,13,15,16]),(14,[1,2,3,4,8,10,12,13,15,16,17]),(15,[1,2,3,4,8,10,12,13,15,16,17,18]),(16,[1,2,3,4,8,10,12,13,15,16,17,67]),(18,[1,2,3,4,8,10,12,13,15,16,17,19]),(19,[1,2,3,4,8,10,12,13,15,16,17,19,82]),(20,[1,2,3,4,8,10,12,13,15,16,17,19,86]),(21,[8,9]),(22,[1,2,3,4,8,10,12,13,15,16,17]),(17,[1,2,3,4,8,10,12,13,15,16,17,18]),(12,[1,2,3,4,8,10,12,13,15]),(23,[8,9])]
attribute [go_sem] kp33 Tryz.results33 Tryz.ntmps33
theorem l24Auto_fc (rs:List Int) (SH ls:List (List Int)) (hO:ShpOk rs SH ls) (syms:List Nat) (hsy:∀f∈syms,f<rs.length) (hsl:syms.length≤100):FC S 33 [] [] [] [.agg [.sl .any (rs.map (.int .i64))],.sl .any (SH.map IntsD),.sl .any (ls.map IntsD),.sl .any (syms.map natD)] (.tup [AutoD (autoN rs SH ls syms).1,.bool (autoN rs SH ls syms).2]) [] []:=by
 have hrl:=hO.sg.1.2
 have cS:=l24Sets_fc rs SH ls hO syms hsy hsl
 have hle:=iterZ_le (I:=imgH rs SH ls) (E:=evY rs syms) 18 [] (by simp)
 obtain⟨sets,ok,hN⟩:∃s b,iterZ (imgH rs SH ls) (evY rs syms) 18 []=(s,b):=⟨_,_,rfl⟩
 obtain⟨hy,hno⟩:=autoN_eq hN
 rw[hN] at cS hle
 dsimp only at cS hle
 cases ok with
 | false =>
  rw[hno (fun h=>by cases h.1)]
  refine fcb Tryz.func33 fun B=>?_
  refine sw_bnd_aggg 0 0 fun hb0_0=>?_
  refine sw_bndg 3 fun hb3=>?_
  repeat' first|exact h.elim|(exfalso;omega)|refine sw_n ?_|refine sw_go 0 kp33 fun K hK=>?_|refine sw_goT 0 kp33 14 (id:=22) (by kernel_rfl) fun K hK=>?_|refine fun (K:KT) (hK:KOk S 0 _ _ _ K)=>?_|refine sw_goD kp33 (by kernel_rfl) fun K hK=>?_|refine runL_g ?_|refine runQ_g ?_|refine sw_retg0 ?_|refine sw_retg ?_|(refine hK.n0 ?_;clear hK K)|refine runG_fk (fun h=>?_) fun h=>?_|refine runQG_fk (fun h=>?_) fun h=>?_|refine sw_condg rfl (fun h=>?_) fun h=>?_|refine hK.skp rfl rfl ?_|refine sw_exit rfl ?_|refine sw_loopEnd ?_|refine hK.c1 rfl rfl rfl (cS) ?_|(refine hK.fork rfl rfl rfl ?_ ?_<;>intro h<;>try simp (disch:=(refine Om.mk ?_;omega)) only[go_sem] at h)|with_reducible refine and_o ?_|((with_reducible refine And.intro ?_ ?_);· first|(intro x hx;subst hx;rfl)|(intro x;refine And.intro ?_ ?_<;>(intros;subst_vars;rfl)))|apply tTT
 | true =>
  by_cases h0:sets=[]
  ·subst h0
   rw[hno (fun h=>h.2.1 rfl)]
   refine fcb Tryz.func33 fun B=>?_
   refine sw_bnd_aggg 0 0 fun hb0_0=>?_
   refine sw_bndg 3 fun hb3=>?_
   repeat' first|exact h.elim|(exfalso;omega)|refine sw_n ?_|refine sw_go 0 kp33 fun K hK=>?_|refine sw_goT 0 kp33 14 (id:=22) (by kernel_rfl) fun K hK=>?_|refine fun (K:KT) (hK:KOk S 0 _ _ _ K)=>?_|refine sw_goD kp33 (by kernel_rfl) fun K hK=>?_|refine runL_g ?_|refine runQ_g ?_|refine sw_retg0 ?_|refine sw_retg ?_|(refine hK.n0 ?_;clear hK K)|refine runG_fk (fun h=>?_) fun h=>?_|refine runQG_fk (fun h=>?_) fun h=>?_|refine sw_condg rfl (fun h=>?_) fun h=>?_|refine hK.skp rfl rfl ?_|refine sw_exit rfl ?_|refine sw_loopEnd ?_|refine hK.c1 rfl rfl rfl (cS) ?_|(refine hK.fork rfl rfl rfl ?_ ?_<;>intro h<;>try simp (disch:=(refine Om.mk ?_;omega)) only[go_sem] at h)|with_reducible refine and_o ?_|((with_reducible refine And.intro ?_ ?_);· first|(intro x hx;subst hx;rfl)|(intro x;refine And.intro ?_ ?_<;>(intros;subst_vars;rfl)))|apply tTT
  ·have hpos:=List.length_pos_iff.2 h0
   generalize hANS:autoN rs SH ls syms=ANS at *
   have hall:([]:List TransT)++trZ (imgH rs SH ls) sets (evY rs (syms.drop 0) sets.length)=trZ (imgH rs SH ls) sets (evY rs syms sets.length):=by rw[List.drop_zero,List.nil_append]
   generalize hAL:trZ (imgH rs SH ls) sets (evY rs syms sets.length)=ALL at *
   refine fcb Tryz.func33 fun B=>?_
   refine sw_bnd_aggg 0 0 fun hb0_0=>?_
   refine sw_bndg 3 fun hb3=>?_
   repeat' first|exact h.elim|(exfalso;omega)|refine sw_n ?_|refine sw_go 0 kp33 fun K hK=>?_|refine sw_goT 0 kp33 14 (id:=22) (by kernel_rfl) fun K hK=>?_|refine fun (K:KT) (hK:KOk S 0 _ _ _ K)=>?_|refine sw_goD kp33 (by kernel_rfl) fun K hK=>?_|refine runL_g ?_|refine runQ_g ?_|refine sw_retg0 ?_|refine sw_retg ?_|(refine hK.n0 ?_;clear hK K)|refine runG_fk (fun h=>?_) fun h=>?_|refine runQG_fk (fun h=>?_) fun h=>?_|refine sw_condg rfl (fun h=>?_) fun h=>?_|refine hK.skp rfl rfl ?_|refine sw_exit rfl ?_|refine sw_loopEnd ?_|refine hK.c1 rfl rfl rfl (cS) ?_|(refine hK.fork rfl rfl rfl ?_ ?_<;>intro h<;>try simp (disch:=(refine Om.mk ?_;omega)) only[go_sem] at h)|with_reducible refine and_o ?_|((with_reducible refine And.intro ?_ ?_);· first|(intro x hx;subst hx;rfl)|(intro x;refine And.intro ?_ ?_<;>(intros;subst_vars;rfl)))|apply tTT
   refine sw_tokBoxF 13 2 50000 2 1 rfl rfl rfl ?_
   simp only[go_sem]
   refine sw_loopT (ι:=Nat) (fun i=>[(14,.int .i64 i)]) (fun i=>[(13,[.int .i64 sets.length,.sl .nil [],.sl (.own 50000 2 1) ((numsN i).map (.int .i64))])]) (fun _=>[50000]) (fun i=>i≤sets.length) (fun i=>sets.length-i) 0 cvB (Nat.zero_le _) (fun i hi=>?_)
   simp only[go_sem]
   have hnl:=numsN_len i
   by_cases hil:i<sets.length
   ·repeat' first|exact h.elim|(exfalso;omega)|refine sw_n ?_|refine sw_go 0 kp33 fun K hK=>?_|refine sw_goT 0 kp33 14 (id:=22) (by kernel_rfl) fun K hK=>?_|refine fun (K:KT) (hK:KOk S 0 _ _ _ K)=>?_|refine sw_goD kp33 (by kernel_rfl) fun K hK=>?_|refine runL_g ?_|refine runQ_g ?_|refine sw_retg0 ?_|refine sw_retg ?_|(refine hK.n0 ?_;clear hK K)|refine runG_fk (fun h=>?_) fun h=>?_|refine runQG_fk (fun h=>?_) fun h=>?_|refine sw_condg rfl (fun h=>?_) fun h=>?_|refine hK.skp rfl rfl ?_|refine sw_exit rfl ?_|refine sw_loopEnd ?_|(refine hK.fork rfl rfl rfl ?_ ?_<;>intro h<;>try simp (disch:=(refine Om.mk ?_;omega)) only[go_sem] at h)|with_reducible refine and_o ?_|((with_reducible refine And.intro ?_ ?_);· first|(intro x hx;subst hx;rfl)|(intro x;refine And.intro ?_ ?_<;>(intros;subst_vars;rfl)))|apply tTT
    all_goals exact⟨i+1,(by(refine covers_mk0 rfl rfl ?_ ?_ ?_ ?_<;>simp (disch:=(refine Om.mk ?_;omega)) only[go_sem]<;>(try omega));all_goals first|(rw[numsN_succ,List.map_append];rfl)|(rw[numsN_succ];done)|(rw[numsN_succ,List.map_append];exact⟨rfl,by omega⟩)|trace_state),by omega,by omega⟩
   ·obtain rfl:i=sets.length:=by omega
    clear hi hil
    repeat' first|exact h.elim|(exfalso;omega)|refine sw_n ?_|refine sw_go 0 kp33 fun K hK=>?_|refine sw_goT 0 kp33 14 (id:=22) (by kernel_rfl) fun K hK=>?_|refine fun (K:KT) (hK:KOk S 0 _ _ _ K)=>?_|refine sw_goD kp33 (by kernel_rfl) fun K hK=>?_|refine runL_g ?_|refine runQ_g ?_|refine sw_retg0 ?_|refine sw_retg ?_|(refine hK.n0 ?_;clear hK K)|refine runG_fk (fun h=>?_) fun h=>?_|refine runQG_fk (fun h=>?_) fun h=>?_|refine sw_condg rfl (fun h=>?_) fun h=>?_|refine hK.skp rfl rfl ?_|refine sw_exit rfl ?_|refine sw_loopEnd ?_|(refine hK.fork rfl rfl rfl ?_ ?_<;>intro h<;>try simp (disch:=(refine Om.mk ?_;omega)) only[go_sem] at h)|with_reducible refine and_o ?_|((with_reducible refine And.intro ?_ ?_);· first|(intro x hx;subst hx;rfl)|(intro x;refine And.intro ?_ ?_<;>(intros;subst_vars;rfl)))|apply tTT
    refine sw_tokBox 13 1 103000 54 3 rfl rfl rfl ?_
    simp only[go_sem]
    refine sw_loopT (ι:=Nat×List TransT) (fun p=>[(15,.int .i64 p.1)]) (fun p=>[(13,[.int .i64 sets.length,.sl (.own 103000 54 3) (p.2.map TransD),.sl (.own 50000 2 1) ((numsN sets.length).map (.int .i64))])]) (fun _=>[103000,50000]) (fun p=>(p.1≤syms.length∧p.2.length≤300)∧p.2++trZ (imgH rs SH ls) sets (evY rs (syms.drop p.1) sets.length)=ALL) (fun p=>syms.length-p.1) (0,[]) (by(refine covers_mk0 rfl rfl ?_ ?_ ?_ ?_<;>simp (disch:=(refine Om.mk ?_;omega)) only[go_sem]<;>(try omega));all_goals first|rfl|exact⟨rfl,rfl⟩|exact⟨rfl,rfl,rfl⟩|trace_state) ⟨⟨by simp,by simp⟩,hall⟩ (fun p hp=>?_)
    obtain⟨i,ru⟩:=p
    obtain⟨⟨hi,hr⟩,hc⟩:=hp
    dsimp only at hi hr hc
    simp only[go_sem]
    by_cases hil:i<syms.length
    ·have hfs:=hsy _ (getD_mem syms i hil)
     obtain⟨har,hr0,hr3⟩:=ar_at hO.sg hfs
     rw[evY_cons rs hil] at hc
     rw[show evF rs sets.length (syms.getD i default)=(digs sets.length (rs.getD (syms.getD i default) default).toNat).map (fun l=>(syms.getD i default,l)) from if_neg (fun h=>by omega)] at hc
     obtain⟨n,hn⟩:∃n:Nat,rs.getD (syms.getD i default) default=n:=⟨(rs.getD (syms.getD i default) default).toNat,by omega⟩
     have hnt:(rs.getD (syms.getD i default) default).toNat=n:=by omega
     rw[hnt] at hc har
     obtain⟨hseq,A0,hA0⟩:=digs_ok (n:=sets.length) (k:=n) (.inl hpos)
     have hdig:=digs_dig (n:=sets.length) (k:=n) (.inl hpos)
     rw[hA0] at hseq hdig hc
     repeat' first|exact h.elim|(exfalso;omega)|refine sw_n ?_|refine sw_go 0 kp33 fun K hK=>?_|refine sw_goT 0 kp33 14 (id:=22) (by kernel_rfl) fun K hK=>?_|refine fun (K:KT) (hK:KOk S 0 _ _ _ K)=>?_|refine sw_goD kp33 (by kernel_rfl) fun K hK=>?_|refine runL_g ?_|refine runQ_g ?_|refine sw_retg0 ?_|refine sw_retg ?_|(refine hK.n0 ?_;clear hK K)|refine runG_fk (fun h=>?_) fun h=>?_|refine runQG_fk (fun h=>?_) fun h=>?_|refine sw_condg rfl (fun h=>?_) fun h=>?_|refine hK.skp rfl rfl ?_|refine sw_exit rfl ?_|refine sw_loopEnd ?_|(refine hK.fork rfl rfl rfl ?_ ?_<;>intro h<;>try simp (disch:=(refine Om.mk ?_;omega)) only[go_sem] at h)|with_reducible refine and_o ?_|((with_reducible refine And.intro ?_ ?_);· first|(intro x hx;subst hx;rfl)|(intro x;refine And.intro ?_ ?_<;>(intros;subst_vars;rfl)))|apply tTT
     rw[hnt]
     refine sw_freeze 17 1 .any ((List.replicate n (0:Int)).map (.int .i64)) rfl rfl (by rw[flatten_one,flat_ints,List.map_replicate]) (by simp) (cells_one fun _=>rfl) (by rw[flatten_one,←List.map_replicate (f:=D.int .i64)];exact memOk_ints _) (.inl rfl) ?_
     simp only[go_sem]
     refine sw_loopT (ι:=(List Int×Bool)×List (List Int)×List TransT) (fun p=>[(17,.sl .any (p.1.1.map (.int .i64))),(18,.bool p.1.2)]) (fun p=>[(13,[.int .i64 sets.length,.sl (.own 103000 54 3) (p.2.2.map TransD),.sl (.own 50000 2 1) ((numsN sets.length).map (.int .i64))])]) (fun _=>[103000,50000]) (fun p=>((p.1.1.length=n∧∀x∈p.1.1,0≤x∧x<sets.length)∧p.2.2.length≤300)∧(p.1.2=true→(SeqD (List.replicate n (0,(sets.length:Int)-1)) (p.1.1::p.2.1)∧∀l∈p.2.1,l.length=n∧∀x∈l,0≤x∧x<sets.length)∧p.2.2++trZ (imgH rs SH ls) sets ((p.1.1::p.2.1).map (fun l=>(syms.getD i default,l))++evY rs (syms.drop (i+1)) sets.length)=ALL)∧(p.1.2=false→p.2.2++trZ (imgH rs SH ls) sets (evY rs (syms.drop (i+1)) sets.length)=ALL)) (fun p=>if p.1.2=true then p.2.1.length+1 else 0) ((List.replicate n 0,true),A0,ru) (by(refine covers_mk0 rfl rfl ?_ ?_ ?_ ?_<;>simp (disch:=(refine Om.mk ?_;omega)) only[go_sem]<;>(try omega));all_goals first|rfl|exact⟨rfl,rfl⟩|exact⟨rfl,rfl,rfl⟩|trace_state) ⟨⟨hdig _ List.mem_cons_self,hr⟩,fun _=>⟨⟨hseq,fun l hl=>hdig l (List.mem_cons_of_mem _ hl)⟩,hc⟩,fun h=>by cases h⟩ (fun p hp=>?_)
     obtain⟨⟨l,mr⟩,A,ru⟩:=p
     obtain⟨⟨⟨hl1,hl2⟩,hr⟩,hm1,hm2⟩:=hp
     dsimp only at hl1 hl2 hr hm1 hm2
     simp only[go_sem]
     have hbx:∀x∈l,0≤x∧x≤1000:=fun x hx=>by have:=hl2 x hx;omega
     have hget:∀j<l.length,0≤l.getD j default∧l.getD j default<sets.length:=fun j hj=>hl2 _ (getD_mem l j hj)
     cases mr with
     | false =>
      have hm2:=hm2 rfl
      repeat' first|exact h.elim|(exfalso;omega)|refine sw_n ?_|refine sw_go 0 kp33 fun K hK=>?_|refine sw_goT 0 kp33 14 (id:=22) (by kernel_rfl) fun K hK=>?_|refine fun (K:KT) (hK:KOk S 0 _ _ _ K)=>?_|refine sw_goD kp33 (by kernel_rfl) fun K hK=>?_|refine runL_g ?_|refine runQ_g ?_|refine sw_retg0 ?_|refine sw_retg ?_|(refine hK.n0 ?_;clear hK K)|refine runG_fk (fun h=>?_) fun h=>?_|refine runQG_fk (fun h=>?_) fun h=>?_|refine sw_condg rfl (fun h=>?_) fun h=>?_|refine hK.skp rfl rfl ?_|refine sw_exit rfl ?_|refine sw_loopEnd ?_|(refine hK.fork rfl rfl rfl ?_ ?_<;>intro h<;>try simp (disch:=(refine Om.mk ?_;omega)) only[go_sem] at h)|with_reducible refine and_o ?_|((with_reducible refine And.intro ?_ ?_);· first|(intro x hx;subst hx;rfl)|(intro x;refine And.intro ?_ ?_<;>(intros;subst_vars;rfl)))|apply tTT
      exact⟨(i+1,ru),(by(refine covers_mk0 rfl rfl ?_ ?_ ?_ ?_<;>simp (disch:=(refine Om.mk ?_;omega)) only[go_sem]<;>(try omega));all_goals first|rfl|exact⟨rfl,rfl⟩|exact⟨rfl,rfl,rfl⟩),⟨⟨by dsimp only;omega,hr⟩,hm2⟩,by dsimp only;omega⟩
     | true =>
      obtain⟨⟨hs,hA1⟩,hcc⟩:=hm1 rfl
      have hlen:=lst_len sets l
      have cL:=l23Listed_fc .any .any sets l (by omega) hget
      have cN:=nextList_fc .any l (sets.length:Int) (by omega) hbx
      have hnx:=loop_next hl1 hl2 hs
      have cH:=l24Shut_fc rs SH ls hO (syms.getD i default) (lstS sets l) (by rw[hlen,hl1,har])
      have cC:=l24Comes_fc rs SH ls hO (syms.getD i default) (lstS sets l) (by rw[hlen,hl1,har])
      have cQ:=l1CopyQ_fc .any l (by omega)
      rw[List.map_cons,List.cons_append] at hcc
      by_cases hsh:∃x∈ls.map (formR rs SH),FitF x ((syms.getD i default:Nat):Int) (lstS sets l)
      ·rw[tst_true hsh] at cH
       rw[trZ_none (imgH_no hsh)] at hcc
       repeat' first|exact h.elim|(exfalso;omega)|refine sw_n ?_|refine sw_go 0 kp33 fun K hK=>?_|refine sw_goT 0 kp33 14 (id:=22) (by kernel_rfl) fun K hK=>?_|refine fun (K:KT) (hK:KOk S 0 _ _ _ K)=>?_|refine sw_goD kp33 (by kernel_rfl) fun K hK=>?_|refine runL_g ?_|refine runQ_g ?_|refine sw_retg0 ?_|refine sw_retg ?_|(refine hK.n0 ?_;clear hK K)|refine runG_fk (fun h=>?_) fun h=>?_|refine runQG_fk (fun h=>?_) fun h=>?_|refine sw_condg rfl (fun h=>?_) fun h=>?_|refine hK.skp rfl rfl ?_|refine sw_exit rfl ?_|refine sw_loopEnd ?_|refine hK.c1 rfl rfl rfl (cL) ?_|refine hK.c1 rfl rfl rfl (cH) ?_|refine hK.c1 rfl rfl rfl (cC) ?_|refine hK.c1 rfl rfl rfl (cN) ?_|(refine hK.fork rfl rfl rfl ?_ ?_<;>intro h<;>try simp (disch:=(refine Om.mk ?_;omega)) only[go_sem] at h)|with_reducible refine and_o ?_|((with_reducible refine And.intro ?_ ?_);· first|(intro x hx;subst hx;rfl)|(intro x;refine And.intro ?_ ?_<;>(intros;subst_vars;rfl)))|apply tTT
       all_goals exact⟨((((nextL (sets.length:Int) l).1,(nextL (sets.length:Int) l).2)),A.tail,ru),(by(refine covers_mk0 rfl rfl ?_ ?_ ?_ ?_<;>simp (disch:=(refine Om.mk ?_;omega)) only[go_sem]<;>(try omega));all_goals first|rfl|exact⟨rfl,rfl⟩|exact⟨rfl,rfl,rfl⟩),⟨⟨hnx.1,hr⟩,fun h=>⟨⟨(hnx.2.1 h).1,fun m hm=>hA1 m (List.mem_of_mem_tail hm)⟩,by have e:=(hnx.2.1 h).2;rw[e] at hcc;exact hcc⟩,fun h=>by have:=hnx.2.2 h;dsimp only;rw[this] at hcc;exact hcc⟩,nx_meas hnx⟩
      ·rw[tst_false hsh] at cH
       rw[trZ_some (imgH_yes hsh)] at hcc
       have hfl:=fitsL_len (SH.map (formR rs SH)) ((syms.getD i default:Nat):Int) (lstS sets l) SH.length
       generalize hS:fitsL (SH.map (formR rs SH)) ((syms.getD i default:Nat):Int) (lstS sets l) SH.length=s at *
       have cP:=termPlace_fc .any .any sets s
       by_cases h300:300≤ru.length
       ·have:ANS=(⟨0,[],[]⟩,false):=by
         refine hno fun h=>?_
         have h1:=congrArg List.length hcc
         rw[List.length_append,List.length_cons] at h1
         have h2:=h.2.2
         omega
        subst this
        repeat' first|exact h.elim|(exfalso;omega)|refine sw_n ?_|refine sw_go 0 kp33 fun K hK=>?_|refine sw_goT 0 kp33 14 (id:=22) (by kernel_rfl) fun K hK=>?_|refine fun (K:KT) (hK:KOk S 0 _ _ _ K)=>?_|refine sw_goD kp33 (by kernel_rfl) fun K hK=>?_|refine runL_g ?_|refine runQ_g ?_|refine sw_retg0 ?_|refine sw_retg ?_|(refine hK.n0 ?_;clear hK K)|refine runG_fk (fun h=>?_) fun h=>?_|refine runQG_fk (fun h=>?_) fun h=>?_|refine sw_condg rfl (fun h=>?_) fun h=>?_|refine hK.skp rfl rfl ?_|refine sw_exit rfl ?_|refine sw_loopEnd ?_|refine hK.c1 rfl rfl rfl (cL) ?_|refine hK.c1 rfl rfl rfl (cH) ?_|refine hK.c1 rfl rfl rfl (cC) ?_|refine hK.c1 rfl rfl rfl (cP) ?_|refine hK.c1 rfl rfl rfl (cN) ?_|refine hK.c1 rfl rfl rfl (cQ) ?_|(refine hK.fork rfl rfl rfl ?_ ?_<;>intro h<;>try simp (disch:=(refine Om.mk ?_;omega)) only[go_sem] at h)|with_reducible refine and_o ?_|((with_reducible refine And.intro ?_ ?_);· first|(intro x hx;subst hx;rfl)|(intro x;refine And.intro ?_ ?_<;>(intros;subst_vars;rfl)))|apply tTT
       ·repeat' first|exact h.elim|(exfalso;omega)|refine sw_n ?_|refine sw_go 0 kp33 fun K hK=>?_|refine sw_goT 0 kp33 14 (id:=22) (by kernel_rfl) fun K hK=>?_|refine fun (K:KT) (hK:KOk S 0 _ _ _ K)=>?_|refine sw_goD kp33 (by kernel_rfl) fun K hK=>?_|refine runL_g ?_|refine runQ_g ?_|refine sw_retg0 ?_|refine sw_retg ?_|(refine hK.n0 ?_;clear hK K)|refine runG_fk (fun h=>?_) fun h=>?_|refine runQG_fk (fun h=>?_) fun h=>?_|refine sw_condg rfl (fun h=>?_) fun h=>?_|refine hK.skp rfl rfl ?_|refine sw_exit rfl ?_|refine sw_loopEnd ?_|refine hK.c1 rfl rfl rfl (cL) ?_|refine hK.c1 rfl rfl rfl (cH) ?_|refine hK.c1 rfl rfl rfl (cC) ?_|refine hK.c1 rfl rfl rfl (cP) ?_|refine hK.c1 rfl rfl rfl (cN) ?_|refine hK.c1 rfl rfl rfl (cQ) ?_|(refine hK.fork rfl rfl rfl ?_ ?_<;>intro h<;>try simp (disch:=(refine Om.mk ?_;omega)) only[go_sem] at h)|with_reducible refine and_o ?_|((with_reducible refine And.intro ?_ ?_);· first|(intro x hx;subst hx;rfl)|(intro x;refine And.intro ?_ ?_<;>(intros;subst_vars;rfl)))|apply tTT
        all_goals exact⟨(((nextL (sets.length:Int) l).1,(nextL (sets.length:Int) l).2),A.tail,ru++[⟨((syms.getD i default:Nat):Int),l,placeI s sets⟩]),(by(refine covers_mk0 rfl rfl ?_ ?_ ?_ ?_<;>simp (disch:=(refine Om.mk ?_;omega)) only[go_sem]<;>(try omega));all_goals first|rfl|exact⟨rfl,rfl⟩|(rw[List.map_append];first|rfl|exact⟨rfl,rfl⟩|exact⟨rfl,rfl,rfl⟩)|decide|(simp;done)|trace_state),⟨⟨hnx.1,by simp only[List.length_append,List.length_singleton];omega⟩,fun h=>⟨⟨(hnx.2.1 h).1,fun m hm=>hA1 m (List.mem_of_mem_tail hm)⟩,by have e:=(hnx.2.1 h).2;rw[e] at hcc;dsimp only;rw[List.append_assoc];exact hcc⟩,fun h=>by have:=hnx.2.2 h;rw[this] at hcc;dsimp only;rw[List.append_assoc];exact hcc⟩,nx_meas hnx⟩
    ·obtain rfl:i=syms.length:=by omega
     have e0:evY rs (syms.drop syms.length) sets.length=[]:=by rw[List.drop_length];rfl
     rw[e0] at hc
     have hru:ru=ALL:=by rw[←hc];exact(List.append_nil _).symm
     subst hru
     have hA:=hy rfl h0 hr
     subst hA
     repeat' first|exact h.elim|(exfalso;omega)|refine sw_n ?_|refine sw_go 0 kp33 fun K hK=>?_|refine sw_goT 0 kp33 14 (id:=22) (by kernel_rfl) fun K hK=>?_|refine fun (K:KT) (hK:KOk S 0 _ _ _ K)=>?_|refine sw_goD kp33 (by kernel_rfl) fun K hK=>?_|refine runL_g ?_|refine runQ_g ?_|refine sw_retg0 ?_|refine sw_retg ?_|(refine hK.n0 ?_;clear hK K)|refine runG_fk (fun h=>?_) fun h=>?_|refine runQG_fk (fun h=>?_) fun h=>?_|refine sw_condg rfl (fun h=>?_) fun h=>?_|refine hK.skp rfl rfl ?_|refine sw_exit rfl ?_|refine sw_loopEnd ?_|(refine hK.fork rfl rfl rfl ?_ ?_<;>intro h<;>try simp (disch:=(refine Om.mk ?_;omega)) only[go_sem] at h)|with_reducible refine and_o ?_|((with_reducible refine And.intro ?_ ?_);· first|(intro x hx;subst hx;rfl)|(intro x;refine And.intro ?_ ?_<;>(intros;subst_vars;rfl)))|apply tTT
     all_goals first|exact⟨rfl,rfl⟩|rfl|trace_state
def kp35:List (Nat×List Nat):=[(0,[1]),(1,[1,3]),(2,[1,3,4]),(3,[1,3,4,10]),(5,[1,3,4]),(4,[1,3,4]),(6,[2])]
attribute [go_sem] kp35 Tryz.results35 Tryz.ntmps35
theorem l24Syms_fc (rs:List Int) (hl:rs.length≤100):FC S 35 [] [] [] [.agg [.sl .any (rs.map (.int .i64))]] (.sl .any ((List.range rs.length).map natD)) [] []:=by
 refine fcb Tryz.func35 fun B=>?_
 refine sw_bnd_aggg 0 0 fun hb0_0=>?_
 repeat' first|exact h.elim|refine sw_n ?_|refine sw_go 0 kp35 fun K hK=>?_|refine fun (K:KT) (hK:KOk S 0 _ _ _ K)=>?_|refine runL_g ?_|refine sw_retg0 ?_|refine sw_retg ?_|(refine hK.n0 ?_;clear hK K)|refine sw_condg rfl (fun h=>?_) fun h=>?_|refine sw_exit rfl ?_|refine sw_loopEnd ?_|with_reducible refine and_o ?_|((with_reducible refine And.intro ?_ ?_);· first|(intro x hx;subst hx;rfl)|(intro x;refine And.intro ?_ ?_<;>(intros;subst_vars;rfl)))|apply tTT
 refine sw_tok 3 17000 2 1 rfl (.inr rfl) rfl ?_
 simp only[go_sem]
 refine sw_loopT (ι:=Nat) (fun i=>[(4,.int .i64 i),(3,.sl (.own 17000 2 1) ((List.range i).map natD))]) (fun _=>[]) (fun _=>[17000]) (fun i=>i≤rs.length) (fun i=>rs.length-i) 0 cvB (Nat.zero_le _) (fun i hi=>?_)
 simp only[go_sem]
 have hrl:(List.range i).length=i:=List.length_range
 by_cases hil:i<rs.length
 ·have hst:(List.range (i+1)).map natD=(List.range i).map natD++[natD i]:=by rw[List.range_succ,List.map_append];rfl
  repeat' first|exact h.elim|(exfalso;omega)|refine sw_n ?_|refine sw_go 0 kp35 fun K hK=>?_|refine fun (K:KT) (hK:KOk S 0 _ _ _ K)=>?_|refine runL_g ?_|refine sw_retg0 ?_|refine sw_retg ?_|(refine hK.n0 ?_;clear hK K)|refine sw_condg rfl (fun h=>?_) fun h=>?_|refine sw_exit rfl ?_|refine sw_loopEnd ?_|with_reducible refine and_o ?_|((with_reducible refine And.intro ?_ ?_);· first|(intro x hx;subst hx;rfl)|(intro x;refine And.intro ?_ ?_<;>(intros;subst_vars;rfl)))|apply tTT
  all_goals exact⟨i+1,(by(refine covers_mk0 rfl rfl ?_ ?_ ?_ ?_<;>simp (disch:=(refine Om.mk ?_;omega)) only[go_sem]<;>(try omega));all_goals first|exact⟨by rw[List.map_append];rfl,by omega⟩|exact⟨by omega,by rw[List.map_append];rfl⟩|(rw[hst];rfl)|(rw[hst];exact⟨rfl,by omega⟩)|(rw[hst];exact⟨by omega,rfl⟩)|trace_state),by omega,by omega⟩
 ·obtain rfl:i=rs.length:=by omega
  repeat' first|exact h.elim|(exfalso;omega)|refine sw_n ?_|refine sw_go 0 kp35 fun K hK=>?_|refine fun (K:KT) (hK:KOk S 0 _ _ _ K)=>?_|refine runL_g ?_|refine sw_retg0 ?_|refine sw_retg ?_|(refine hK.n0 ?_;clear hK K)|refine sw_condg rfl (fun h=>?_) fun h=>?_|refine sw_exit rfl ?_|refine sw_loopEnd ?_|with_reducible refine and_o ?_|((with_reducible refine And.intro ?_ ?_);· first|(intro x hx;subst hx;rfl)|(intro x;refine And.intro ?_ ?_<;>(intros;subst_vars;rfl)))|apply tTT
open Classical in
noncomputable def normR (x:SystemT):AutoT×Bool:=if LeftP x then autoN x.sig (srtM (shpA x.sig (x.rules.map (·.l)) x.rules.length)) (x.rules.map (·.l)) (List.range x.sig.length) else (⟨0,[],[]⟩,false)
theorem normR_yes {x:SystemT} (h:LeftP x):normR x=autoN x.sig (srtM (shpA x.sig (x.rules.map (·.l)) x.rules.length)) (x.rules.map (·.l)) (List.range x.sig.length):=if_pos h
theorem normR_no {x:SystemT} (h:¬LeftP x):normR x=(⟨0,[],[]⟩,false):=if_neg h
theorem LeftP.shp {x:SystemT} (h:LeftP x):ShpOk x.sig (srtM (shpA x.sig (x.rules.map (·.l)) x.rules.length)) (x.rules.map (·.l)):=by
 obtain⟨h1,h2⟩:=h.term
 have hm:∀t,t∈srtM (shpA x.sig (x.rules.map (·.l)) x.rules.length)↔t∈shpA x.sig (x.rules.map (·.l)) (x.rules.map (·.l)).length:=fun t=>by rw[mem_srtM,List.length_map]
 have hl:=shpA_len (rs:=x.sig) (ls:=x.rules.map (·.l)) (fun i hi=>(h2 i hi).2.1.2) _ (Nat.le_refl _)
 refine⟨h.1.1.1,?_,by omega,fun t ht=>?_,fun t ht=>?_⟩
 ·rw[srtM_len]
  rw[List.length_map] at hl h1
  omega
 ·have:=full_shape h2 hm t ht
  exact⟨this.1,this.2.1⟩
 ·obtain⟨i,hi,rfl⟩:=List.getElem_of_mem ht
  have e:(x.rules.map (·.l)).getD i default=(x.rules.map (·.l))[i]:=by rw[List.getD_eq_getElem?_getD,List.getElem?_eq_getElem hi];rfl
  have h3:=full_left h2 hm hi
  rw[e] at h3
  exact⟨by rw[←e];exact h2 i hi,h3⟩
def kp14:List (Nat×List Nat):=[(0,[1,2]),(1,[1,2,7]),(2,[2,3]),(3,[1,2,4]),(4,[2,3])]
attribute [go_sem] kp14 Tryz.results14 Tryz.ntmps14
theorem specNormalAuto_fc (x:SystemT):FC S 14 [] [] [] [SystemD x] (.tup [AutoD (normR x).1,.bool (normR x).2]) [] []:=by
 have cR:=l24Right_fc x
 by_cases hL:LeftP x
 ·rw[tst_true hL] at cR
  rw[normR_yes hL]
  have hO:=hL.shp
  obtain⟨h1,h2⟩:=hL.term
  have hrl:=hO.sg.1.2
  have cLs:=l24Ls_fc x (by rw[List.length_map] at h1;exact h1)
  have cSh:=l24Shapes_fc x.sig (x.rules.map (·.l)) h1 h2
  rw[List.length_map] at cSh
  have cY:=l24Syms_fc x.sig (by omega)
  have cA:=l24Auto_fc x.sig _ _ hO (List.range x.sig.length) (fun f hf=>List.mem_range.1 hf) (by rw[List.length_range];omega)
  refine fcb Tryz.func14 fun B=>?_
  repeat' first|exact h.elim|(exfalso;omega)|refine sw_n ?_|refine sw_go 0 kp14 fun K hK=>?_|refine sw_goT 0 kp14 13 (id:=4) (by kernel_rfl) fun K hK=>?_|refine fun (K:KT) (hK:KOk S 0 _ _ _ K)=>?_|refine sw_goD kp14 (by kernel_rfl) fun K hK=>?_|refine runL_g ?_|refine runQ_g ?_|refine sw_retg0 ?_|refine sw_retg ?_|(refine hK.n0 ?_;clear hK K)|refine sw_condg rfl (fun h=>?_) fun h=>?_|refine sw_loopEnd ?_|refine hK.c1 rfl rfl rfl (cR) ?_|refine hK.c1 rfl rfl rfl (cLs) ?_|refine hK.c1 rfl rfl rfl (cSh) ?_|refine hK.c1 rfl rfl rfl (cY) ?_|refine hK.c1 rfl rfl rfl (cA) ?_|with_reducible refine and_o ?_|((with_reducible refine And.intro ?_ ?_);· first|(intro x hx;subst hx;rfl)|(intro x;refine And.intro ?_ ?_<;>(intros;subst_vars;rfl)))|apply tTT
  all_goals first|exact⟨rfl,rfl⟩|rfl|trace_state
 ·rw[tst_false hL] at cR
  rw[normR_no hL]
  refine fcb Tryz.func14 fun B=>?_
  repeat' first|exact h.elim|refine sw_n ?_|refine sw_go 0 kp14 fun K hK=>?_|refine sw_goT 0 kp14 13 (id:=4) (by kernel_rfl) fun K hK=>?_|refine fun (K:KT) (hK:KOk S 0 _ _ _ K)=>?_|refine sw_goD kp14 (by kernel_rfl) fun K hK=>?_|refine runL_g ?_|refine runQ_g ?_|refine sw_retg0 ?_|refine sw_retg ?_|(refine hK.n0 ?_;clear hK K)|refine sw_condg rfl (fun h=>?_) fun h=>?_|refine sw_loopEnd ?_|refine hK.c1 rfl rfl rfl (cR) ?_|with_reducible refine and_o ?_|((with_reducible refine And.intro ?_ ?_);· first|(intro x hx;subst hx;rfl)|(intro x;refine And.intro ?_ ?_<;>(intros;subst_vars;rfl)))|apply tTT
end
section
attribute [local irreducible] SW runL runQ runG runQG FC FCw Ret1 RetN toF redoL anyB
def NumsOk (s:List Int):Prop:=(∀x∈s,0≤x∧x≤100000)∧s.length≤1000
def keyB (s:List Int):Int×ByteArray:=((s.length:Int),txtB s)
theorem key_inj {s t:List Int} (hs:NumsOk s) (ht:NumsOk t) (h:keyB s=keyB t):s=t :=
 txt_inj (fun x hx=>(hs.1 x hx).1) (fun x hx=>(ht.1 x hx).1) (congrArg Prod.snd h)
theorem key_good {s:List Int} (hs:NumsOk s):GoodK .i64 (keyB s):=goodK hs.1 hs.2
def keyM:Nat→List (List Int)→List ((Int×ByteArray)×Int)
 | _,[]=>[]
 | n,s::r=>(keyB s,(n:Int))::keyM (n+1) r
theorem keyM_snoc (s:List Int):∀(n:Nat) (out:List (List Int)),keyM n (out++[s])=keyM n out++[(keyB s,((n+out.length:Nat):Int))]
 | n,[]=>rfl
 | n,x::r=>by
  rw[List.cons_append,keyM,keyM,keyM_snoc s (n+1) r,List.cons_append,List.length_cons,show n+1+r.length=n+(r.length+1) by omega]
theorem keyM_good:∀(n:Nat) (out:List (List Int)),(∀s∈out,NumsOk s)→∀p∈keyM n out,GoodK .i64 p.1
 | n,[],_,p,hp=>by cases hp
 | n,x::r,h,p,hp=>by
  rcases List.mem_cons.1 hp with rfl|hp
  ·exact key_good (h x List.mem_cons_self)
  ·exact keyM_good (n+1) r (fun s hs=>h s (List.mem_cons_of_mem _ hs)) p hp
theorem findS_key {s:List Int} (hs:NumsOk s):∀(n:Nat) (out:List (List Int)),(∀x∈out,NumsOk x)→findS (keyM n out) (keyB s)=if s∈out then some ((n+out.idxOf s:Nat):Int) else none
 | n,[],_=>rfl
 | n,x::r,h=>by
  have ih:=findS_key hs (n+1) r fun y hy=>h y (List.mem_cons_of_mem _ hy)
  by_cases hx:x=s
  ·subst hx
   simp[findS,keyM]
  ·have hm:¬keyB x=keyB s:=fun e=>hx (key_inj (h x List.mem_cons_self) hs e)
   have e:findS (keyM n (x::r)) (keyB s)=findS (keyM (n+1) r) (keyB s):=by
    unfold findS
    rw[keyM,List.find?_cons_of_neg (by simpa using hm)]
   rw[e,ih,List.idxOf_cons,show (x==s)=false from by simpa using hx,cond_false]
   by_cases hr:s∈r
   ·rw[if_pos hr,if_pos (List.mem_cons_of_mem _ hr)]
    congr 2;omega
   ·rw[if_neg hr,if_neg (fun h1=>(List.mem_cons.1 h1).elim (fun e=>hx e.symm) hr)]
def evK (rs sk:List Int) (n:Nat):Nat→List (Nat×List Int)
 | 0=>[]
 | k+1=>(if ((rs.length-(k+1):Nat):Int)∈sk then [] else evF rs n (rs.length-(k+1)))++evK rs sk n k
def symsK (rs sk:List Int):List Nat:=(List.range rs.length).filter fun (f:Nat)=>decide ((f:Int)∉sk)
theorem evK_all (rs sk:List Int) (n:Nat):evK rs sk n rs.length=evY rs (symsK rs sk) n:=by
 have key:∀k≤rs.length,evK rs sk n k=(((List.range k).map fun i=>rs.length-k+i).filter fun (f:Nat)=>decide ((f:Int)∉sk)).flatMap (evF rs n):=fun k=>by
  induction k with
  | zero=>intro _;rfl
  | succ k ih =>
   intro hk
   have e1:((List.range (k+1)).map fun i=>rs.length-(k+1)+i)=(rs.length-(k+1))::((List.range k).map fun i=>rs.length-k+i):=by
    rw[List.range_succ_eq_map,List.map_cons,Nat.add_zero,List.map_map]
    congr 1
    refine List.map_congr_left fun i _=>?_
    simp only[Function.comp]
    omega
   rw[e1,evK,ih (by omega)]
   by_cases h:((rs.length-(k+1):Nat):Int)∈sk
   ·rw[if_pos h,List.filter_cons,if_neg (by simpa using h),List.nil_append]
   ·rw[if_neg h,List.filter_cons,if_pos (by simpa using h),List.flatMap_cons]
 have h:=key rs.length (Nat.le_refl _)
 rw[h]
 unfold evY symsK
 simp
theorem evK_len {rs sk:List Int} (h:∀f<rs.length,0≤rs.getD f default∧rs.getD f default≤3) {n:Nat} (hn:n≤16):∀k≤rs.length,(evK rs sk n k).length≤5000*k
 | 0,_=>by simp[evK]
 | k+1,hk=>by
  have ih:=evK_len (sk:=sk) h hn k (by omega)
  have hf:=h (rs.length-(k+1)) (by omega)
  have h1:(evF rs n (rs.length-(k+1))).length≤4096:=by
   unfold evF
   split
   ·simp
   ·rename_i h0
    rw[List.length_map]
    rcases Nat.eq_zero_or_pos n with hz|hz
    ·have:(rs.getD (rs.length-(k+1)) default).toNat=0:=by omega
     rw[this]
     simp[digs,allD]
    ·rw[digs_len hz]
     have h3:(rs.getD (rs.length-(k+1)) default).toNat≤3:=by omega
     calc n^(rs.getD (rs.length-(k+1)) default).toNat≤n^3:=Nat.pow_le_pow_right hz h3
      _≤16^3:=Nat.pow_le_pow_left hn 3
      _=4096:=by decide
  rw[evK,List.length_append]
  split
  ·simp only[List.length_nil];omega
  ·omega
end
section
attribute [local irreducible] SW runL runQ runG runQG FC Ret1 RetN toF redoL anyB
theorem lops_id {S:Setup} {B:Base} {ops:Array Oper} {l:List Oper} {L:LS} {N:LS→Prop} (h:LopsW S B ops l L N):LopsW S B ops l L N:=h
def repC (v:Int) (n p:Nat):List Int:=List.replicate p v++List.replicate (n-p) 0
theorem repC_len (v:Int) {n p:Nat} (h:p≤n):(repC v n p).length=n:=by simp[repC];omega
theorem repC_all (v:Int) (n:Nat):repC v n n=List.replicate n v:=by simp[repC]
theorem putC_int (a b:List Int) (k:Nat):putCells (a.map (.int .i64)) k (b.map (.int .i64))=(a.take k++b++a.drop (k+b.length)).map (.int .i64):=by
 simp[putCells,List.map_take,List.map_drop]
theorem repC_step (v:Int) {n p m:Nat} (h:p≤n) (hm:m≤p) (hn:p+m≤n):(repC v n p).take p++(repC v n p).take m++(repC v n p).drop (p+((repC v n p).take m).length)=repC v n (p+m):=by
 have h1:(repC v n p).take p=List.replicate p v:=by
  unfold repC;rw[List.take_left' (by simp)]
 have h2:(repC v n p).take m=List.replicate m v:=by
  unfold repC
  rw[List.take_append_of_le_length (by simpa using hm),List.take_replicate,Nat.min_eq_left hm]
 have h3:(repC v n p).drop (p+m)=List.replicate (n-(p+m)) 0:=by
  unfold repC
  rw[List.drop_append,List.length_replicate,List.drop_of_length_le (by simp),List.nil_append,List.drop_replicate]
  congr 1;omega
 rw[h1,h2,List.length_replicate,h3]
 unfold repC
 rw[List.replicate_append_replicate]
theorem repC_start (v:Int) {n:Nat} (h:0<n):(List.replicate n (0:Int)).take 0++[v]++(List.replicate n (0:Int)).drop (0+1)=repC v n 1:=by
 simp[repC,List.drop_replicate]
def kp159:List (Nat×List Nat):=[(0,[0,1]),(1,[0,1,6]),(2,[0,1,6,7]),(3,[0,1,6,7,8]),(4,[0,1,6,7,8,9]),(5,[0,1,6,7,8,9,10]),(6,[0,1,6,7,9,11]),(7,[0,1,6,7,9,11,12]),(8,[0,1,6,7,9,12,13]),(9,[0,1,7,9,12,13]),(10,[0,1,4]),(11,[4,5])]
attribute [go_sem] kp159 Tryz.results159 Tryz.ntmps159
theorem mul64_fc (n:Nat) (hn:n<65):FC S 159 [] [] [] [.int .u64 1,.int .u64 n] (.tup [.int .u64 0,.int .u64 n]) [] []:=by
 have key:∀m:Nat,m<65→IntKind.wrap .u64 (1*(m:Int))=m:=by decide
 refine fcb Tryz.func159 fun B=>?_
 repeat' first|refine sw_n ?_|refine sw_go 0 kp159 fun K hK=>?_|refine fun (K:KT) (hK:KOk S 0 _ _ _ K)=>?_|refine runL_g ?_|refine sw_retg0 ?_|refine sw_retg ?_|(refine hK.n0 ?_;clear hK K)|with_reducible refine and_o ?_|apply tTT
 all_goals ((repeat clear hK K);revert n;decide)
def kp154:List (Nat×List Nat):=[(0,[0,1]),(1,[6,7]),(2,[4,5]),(3,[8,9]),(4,[4,5])]
attribute [go_sem] kp154 Tryz.results154 Tryz.ntmps154
theorem mul_fc (n:Nat) (hn:n<65):FC S 154 [] [] [] [.int .u64 1,.int .u64 n] (.tup [.int .u64 0,.int .u64 n]) [] []:=by
 refine fcb Tryz.func154 fun B=>?_
 repeat' first|(refine sw_cond (b:=false) rfl (fun h=>by cases h) fun _=>?_)|refine sw_n ?_|refine sw_go 0 kp154 fun K hK=>?_|refine fun (K:KT) (hK:KOk S 0 _ _ _ K)=>?_|refine runL_g ?_|refine sw_retg0 ?_|refine sw_retg ?_|(refine hK.n0 ?_;clear hK K)|refine hK.c1 rfl rfl rfl (mul64_fc n hn) ?_|with_reducible refine and_o ?_|apply tTT
def kp143:List (Nat×List Nat):=[(0,[0,1]),(1,[0,1,10]),(2,[0,1]),(3,[0,5,6]),(4,[0,6,26]),(5,[0,6]),(6,[0,7]),(7,[7,8]),(8,[7,8,37]),(9,[7,8]),(10,[4])]
attribute [go_sem] kp143 Tryz.results143 Tryz.ntmps143
theorem repeat_fc (tk:Tk) (v:Int) (n:Nat) (h0:0<n) (hn:n<65):FC S 143 [] [] [] [.sl tk ([v].map (.int .i64)),.int .i64 n] (.ms 30 n) [(30,(List.replicate n v).map (.int .i64))] []:=by
 refine fcb Tryz.func143 fun B=>?_
 repeat' first|exact h.elim|(exfalso;omega)|(refine sw_goAt (id:=7) 0 kp143 2 rfl fun K hK=>?_)|refine sw_n ?_|refine sw_go 0 kp143 fun K hK=>?_|refine fun (K:KT) (hK:KOk S 0 _ _ _ K)=>?_|refine sw_goD kp143 (by kernel_rfl) fun K hK=>?_|refine runL_g ?_|refine runQ_g ?_|refine sw_retg0 ?_|refine sw_retg ?_|(refine hK.n0 ?_;clear hK K)|refine runG_fk (fun h=>?_) fun h=>?_|refine runQG_fk (fun h=>?_) fun h=>?_|refine sw_condg rfl (fun h=>?_) fun h=>?_|refine hK.skp rfl rfl ?_|refine sw_exit rfl ?_|refine sw_loopEnd ?_|refine hK.c1 rfl rfl rfl (mul_fc n hn) ?_|(refine hK.fork rfl rfl rfl ?_ ?_<;>intro h<;>try simp (disch:=(refine Om.mk ?_;omega)) only[go_sem] at h)|with_reducible refine and_o ?_|((with_reducible refine And.intro ?_ ?_);· first|(intro x hx;subst hx;rfl)|exact upR_mem fun _ _=>rfl|exact mapR_mem fun _ _=>rfl|(intro x;refine And.intro ?_ ?_<;>(intros;subst_vars;rfl)))|apply tTT
 rw[flatten_one,←List.map_replicate (f:=D.int .i64)]
 refine LopsW.copyL (id:=30) (n:=n) (ys:=[v]) rfl rfl rfl (by simp) rfl rfl rfl ⟨by simp;omega,by simp;omega⟩ (by simp only[Nat.reduceLT]) (LopsW.nil ?_)
 rw[putC_int,List.length_singleton,repC_start v h0]
 refine fun (K:List Oper→LS→Prop) (hK:KOk S 0 _ _ _ K)=>?_
 simp only[go_sem]
 repeat' first|exact h.elim|refine sw_n ?_|refine sw_go 0 kp143 fun K hK=>?_|refine fun (K:KT) (hK:KOk S 0 _ _ _ K)=>?_|refine sw_goD kp143 (by kernel_rfl) fun K hK=>?_|refine runL_g ?_|refine runQ_g ?_|refine sw_retg0 ?_|refine sw_retg ?_|(refine hK.n0 ?_;clear hK K)|refine runG_fk (fun h=>?_) fun h=>?_|refine runQG_fk (fun h=>?_) fun h=>?_|refine sw_condg rfl (fun h=>?_) fun h=>?_|refine hK.skp rfl rfl ?_|refine sw_exit rfl ?_|refine sw_loopEnd ?_|(refine hK.fork rfl rfl rfl ?_ ?_<;>intro h<;>try simp (disch:=(refine Om.mk ?_;omega)) only[go_sem] at h)|with_reducible refine and_o ?_|((with_reducible refine And.intro ?_ ?_);· first|(intro x hx;subst hx;rfl)|exact upR_mem fun _ _=>rfl|exact mapR_mem fun _ _=>rfl|(intro x;refine And.intro ?_ ?_<;>(intros;subst_vars;rfl)))|apply tTT
 refine sw_loopU (ι:=Nat) (fun p=>[(7,.ms 30 n),(8,.int .i64 p)]) (fun p=>[(30,(repC v n p).map (.int .i64))]) (fun p=>1≤p∧p≤n) (fun p=>n-p) 1 cvA ?_ (fun p hp=>?_)
 rotate_left
 simp only[go_sem]
 obtain⟨hp1,hp2⟩:=hp
 have hcl:=repC_len v hp2
 by_cases hpn:p<n
 ·have hm1:Nat.min p (n-p)≤p:=Nat.min_le_left _ _
  have hm2:Nat.min p (n-p)≤n-p:=Nat.min_le_right _ _
  have hm3:1≤Nat.min p (n-p):=Nat.le_min.2 ⟨by omega,by omega⟩
  have hst:=repC_step v hp2 hm1 (by omega)
  repeat' first|exact h.elim|(exfalso;omega)|(refine sw_any (id:=9) kp143 [(true,[]),(true,[]),(true,[]),(false,[1,2]),(true,[]),(true,[]),(false,[4,5]),(false,[3,6]),(false,[0,7]),(false,[8,7,0,1,2,3,4,5,6,7,8])] ⟨48,[(7,.ms 30 n),(8,.int .i64 ((p:Int)+(Nat.min p (n-p):Nat)))],[(30,(repC v n (p+Nat.min p (n-p))).map (.int .i64))],[],[],[]⟩ (by kernel_rfl) ?_ ?_;simp only[List.length_cons,List.length_nil,Nat.reduceAdd])|(with_reducible refine lops_id ?_;refine LopsW.sliceMv (i:=p) (n:=n) rfl rfl hpn rfl rfl rfl (by simp only[Nat.reduceLT]) (LopsW.nil ?_);simp only[go_sem])|(with_reducible refine lops_id ?_;refine LopsW.copyM (off:=p) (n:=n-p) (m:=p) (ys:=repC v n p) rfl rfl rfl rfl rfl rfl (by omega) (by simp only[Nat.reduceLT]) (LopsW.nil ?_);rw[putC_int,hst];simp only[go_sem])|(refine anyB_unf ?_;simp only[stepF_n,stepF_c,goR_n,goR_c,exR_n,exR_c,memB_n,memB_c,subB_n,subB_c,moveY_m,moveY_f,moveY_i,cond_t,cond_f,true_and,and_true,Bool.not_false,Bool.not_true,Bool.and_true,Bool.and_false,Bool.true_and,Bool.false_and,Bool.or_false,Bool.false_or,Bool.true_or,Bool.or_true,Nat.reduceBEq,Nat.reduceAdd])|(refine anyB_move (by simp only[Nat.reduceLT]) rfl (by simp only[go_sem];exact rfl) ?_)|(refine anyB_fa (by simp only[Nat.reduceLT]) rfl rfl rfl rfl (by decide) (by simp only[go_sem];exact rfl) ?_)|(refine hK.nil (anyB_id ?_);clear hK K)|(refine lops_and ?_ ?_)|(refine lops_go 0 ?_;refine fun (K:List Oper→LS→Prop) (hK:KOk S 0 _ _ _ K)=>?_;simp (disch:=(refine Om.mk ?_;omega)) only[go_sem])|(refine anyB_end ?_;simp (disch:=(refine Om.mk ?_;omega)) only[go_sem];(refine covers_mk0 rfl rfl ?_ ?_ ?_ ?_<;>simp (disch:=(refine Om.mk ?_;omega)) only[go_sem]<;>(try omega));done)|refine sw_n ?_|refine sw_go 0 kp143 fun K hK=>?_|refine fun (K:KT) (hK:KOk S 0 _ _ _ K)=>?_|refine sw_goD kp143 (by kernel_rfl) fun K hK=>?_|refine runL_g ?_|refine runQ_g ?_|refine sw_retg0 ?_|refine sw_retg ?_|(refine hK.n0 ?_;clear hK K)|refine runG_fk (fun h=>?_) fun h=>?_|refine runQG_fk (fun h=>?_) fun h=>?_|refine sw_condg rfl (fun h=>?_) fun h=>?_|refine hK.skp rfl rfl ?_|refine sw_exit rfl ?_|refine sw_loopEnd ?_|(refine hK.fork rfl rfl rfl ?_ ?_<;>intro h<;>try simp (disch:=(refine Om.mk ?_;omega)) only[go_sem] at h)|with_reducible refine and_o ?_|((with_reducible refine And.intro ?_ ?_);· first|(intro x hx;subst hx;rfl)|exact upR_mem fun _ _=>rfl|exact mapR_mem fun _ _=>rfl|(intro x;refine And.intro ?_ ?_<;>(intros;subst_vars;rfl)))|apply tTT
  exact⟨p+Nat.min p (n-p),cvA,⟨by omega,by omega⟩,by omega⟩
 ·obtain rfl:p=n:=by omega
  repeat' first|exact h.elim|(exfalso;omega)|refine sw_n ?_|refine sw_go 0 kp143 fun K hK=>?_|refine fun (K:KT) (hK:KOk S 0 _ _ _ K)=>?_|refine sw_goD kp143 (by kernel_rfl) fun K hK=>?_|refine runL_g ?_|refine runQ_g ?_|refine sw_retg0 ?_|refine sw_retg ?_|(refine hK.n0 ?_;clear hK K)|refine runG_fk (fun h=>?_) fun h=>?_|refine runQG_fk (fun h=>?_) fun h=>?_|refine sw_condg rfl (fun h=>?_) fun h=>?_|refine hK.skp rfl rfl ?_|refine sw_exit rfl ?_|refine sw_loopEnd ?_|(refine hK.fork rfl rfl rfl ?_ ?_<;>intro h<;>try simp (disch:=(refine Om.mk ?_;omega)) only[go_sem] at h)|with_reducible refine and_o ?_|((with_reducible refine And.intro ?_ ?_);· first|(intro x hx;subst hx;rfl)|exact upR_mem fun _ _=>rfl|exact mapR_mem fun _ _=>rfl|(intro x;refine And.intro ?_ ?_<;>(intros;subst_vars;rfl)))|apply tTT
  exact repC_all v p
 ·exact⟨Nat.le_refl _,h0⟩
theorem repeat0_fc (tk:Tk) (v:Int):FC S 143 [] [] [] [.sl tk ([v].map (.int .i64)),.int .i64 0] (.sl .any []) [] []:=by
 have hm:=mul_fc 0 (by decide)
 refine fcb Tryz.func143 fun B=>?_
 repeat' first|exact h.elim|(exfalso;omega)|(refine sw_goAt (id:=7) 0 kp143 2 rfl fun K hK=>?_)|refine sw_n ?_|refine sw_go 0 kp143 fun K hK=>?_|refine fun (K:KT) (hK:KOk S 0 _ _ _ K)=>?_|refine sw_goD kp143 (by kernel_rfl) fun K hK=>?_|refine runL_g ?_|refine runQ_g ?_|refine sw_retg0 ?_|refine sw_retg ?_|(refine hK.n0 ?_;clear hK K)|refine runG_fk (fun h=>?_) fun h=>?_|refine runQG_fk (fun h=>?_) fun h=>?_|refine sw_condg rfl (fun h=>?_) fun h=>?_|refine hK.skp rfl rfl ?_|refine sw_exit rfl ?_|refine sw_loopEnd ?_|refine hK.c1 rfl rfl rfl (hm) ?_|(refine hK.fork rfl rfl rfl ?_ ?_<;>intro h<;>try simp (disch:=(refine Om.mk ?_;omega)) only[go_sem] at h)|with_reducible refine and_o ?_|((with_reducible refine And.intro ?_ ?_);· first|(intro x hx;subst hx;rfl)|exact upR_mem fun _ _=>rfl|exact mapR_mem fun _ _=>rfl|(intro x;refine And.intro ?_ ?_<;>(intros;subst_vars;rfl)))|apply tTT
 refine LopsW.copy0 (id:=30) rfl rfl rfl rfl rfl (by simp only[Nat.reduceLT]) (LopsW.nil ?_)
 refine fun (K:List Oper→LS→Prop) (hK:KOk S 0 _ _ _ K)=>?_
 simp only[go_sem]
 repeat' first|exact h.elim|refine sw_n ?_|refine sw_go 0 kp143 fun K hK=>?_|refine fun (K:KT) (hK:KOk S 0 _ _ _ K)=>?_|refine sw_goD kp143 (by kernel_rfl) fun K hK=>?_|refine runL_g ?_|refine runQ_g ?_|refine sw_retg0 ?_|refine sw_retg ?_|(refine hK.n0 ?_;clear hK K)|refine runG_fk (fun h=>?_) fun h=>?_|refine runQG_fk (fun h=>?_) fun h=>?_|refine sw_condg rfl (fun h=>?_) fun h=>?_|refine hK.skp rfl rfl ?_|refine sw_exit rfl ?_|refine sw_loopEnd ?_|(refine hK.fork rfl rfl rfl ?_ ?_<;>intro h<;>try simp (disch:=(refine Om.mk ?_;omega)) only[go_sem] at h)|with_reducible refine and_o ?_|((with_reducible refine And.intro ?_ ?_);· first|(intro x hx;subst hx;rfl)|exact upR_mem fun _ _=>rfl|exact mapR_mem fun _ _=>rfl|(intro x;refine And.intro ?_ ?_<;>(intros;subst_vars;rfl)))|apply tTT
 refine sw_loopU (ι:=Nat) (fun p=>[(7,.ms 30 0),(8,.int .i64 0)]) (fun p=>[(30,[])]) (fun p=>True) (fun p=>p) 0 cvB ?_ (fun p hp=>?_)
 rotate_left
 simp only[go_sem]
 repeat' first|exact h.elim|(exfalso;omega)|(refine sw_freezeAt 10 7 1 .any (id:=30) (n:=0) (cs:=[]) [] rfl rfl rfl rfl (fun x hx=>by cases hx) (fun d hd=>by cases hd) (.inl rfl) ?_;simp only[go_sem])|refine sw_n ?_|refine sw_go 0 kp143 fun K hK=>?_|refine fun (K:KT) (hK:KOk S 0 _ _ _ K)=>?_|refine sw_goD kp143 (by kernel_rfl) fun K hK=>?_|refine runL_g ?_|refine runQ_g ?_|refine sw_retg0 ?_|refine sw_retg ?_|(refine hK.n0 ?_;clear hK K)|refine runG_fk (fun h=>?_) fun h=>?_|refine runQG_fk (fun h=>?_) fun h=>?_|refine sw_condg rfl (fun h=>?_) fun h=>?_|refine hK.skp rfl rfl ?_|refine sw_exit rfl ?_|refine sw_loopEnd ?_|(refine hK.fork rfl rfl rfl ?_ ?_<;>intro h<;>try simp (disch:=(refine Om.mk ?_;omega)) only[go_sem] at h)|with_reducible refine and_o ?_|((with_reducible refine And.intro ?_ ?_);· first|(intro x hx;subst hx;rfl)|exact upR_mem fun _ _=>rfl|exact mapR_mem fun _ _=>rfl|(intro x;refine And.intro ?_ ?_<;>(intros;subst_vars;rfl)))|apply tTT
 all_goals trivial
theorem repeat0M_fc (tk:Tk) (v:Int):FC S 143 [] [] [] [.sl tk ([v].map (.int .i64)),.int .i64 0] (.ms 30 0) [(30,[])] []:=by
 have hm:=mul_fc 0 (by decide)
 refine fcb Tryz.func143 fun B=>?_
 repeat' first|exact h.elim|(exfalso;omega)|(refine sw_goAt (id:=7) 0 kp143 2 rfl fun K hK=>?_)|refine sw_n ?_|refine sw_go 0 kp143 fun K hK=>?_|refine fun (K:KT) (hK:KOk S 0 _ _ _ K)=>?_|refine sw_goD kp143 (by kernel_rfl) fun K hK=>?_|refine runL_g ?_|refine runQ_g ?_|refine sw_retg0 ?_|refine sw_retg ?_|(refine hK.n0 ?_;clear hK K)|refine runG_fk (fun h=>?_) fun h=>?_|refine runQG_fk (fun h=>?_) fun h=>?_|refine sw_condg rfl (fun h=>?_) fun h=>?_|refine hK.skp rfl rfl ?_|refine sw_exit rfl ?_|refine sw_loopEnd ?_|refine hK.c1 rfl rfl rfl (hm) ?_|(refine hK.fork rfl rfl rfl ?_ ?_<;>intro h<;>try simp (disch:=(refine Om.mk ?_;omega)) only[go_sem] at h)|with_reducible refine and_o ?_|((with_reducible refine And.intro ?_ ?_);· first|(intro x hx;subst hx;rfl)|exact upR_mem fun _ _=>rfl|exact mapR_mem fun _ _=>rfl|(intro x;refine And.intro ?_ ?_<;>(intros;subst_vars;rfl)))|apply tTT
 refine LopsW.copy0 (id:=30) rfl rfl rfl rfl rfl (by simp only[Nat.reduceLT]) (LopsW.nil ?_)
 refine fun (K:List Oper→LS→Prop) (hK:KOk S 0 _ _ _ K)=>?_
 simp only[go_sem]
 repeat' first|exact h.elim|refine sw_n ?_|refine sw_go 0 kp143 fun K hK=>?_|refine fun (K:KT) (hK:KOk S 0 _ _ _ K)=>?_|refine sw_goD kp143 (by kernel_rfl) fun K hK=>?_|refine runL_g ?_|refine runQ_g ?_|refine sw_retg0 ?_|refine sw_retg ?_|(refine hK.n0 ?_;clear hK K)|refine runG_fk (fun h=>?_) fun h=>?_|refine runQG_fk (fun h=>?_) fun h=>?_|refine sw_condg rfl (fun h=>?_) fun h=>?_|refine hK.skp rfl rfl ?_|refine sw_exit rfl ?_|refine sw_loopEnd ?_|(refine hK.fork rfl rfl rfl ?_ ?_<;>intro h<;>try simp (disch:=(refine Om.mk ?_;omega)) only[go_sem] at h)|with_reducible refine and_o ?_|((with_reducible refine And.intro ?_ ?_);· first|(intro x hx;subst hx;rfl)|exact upR_mem fun _ _=>rfl|exact mapR_mem fun _ _=>rfl|(intro x;refine And.intro ?_ ?_<;>(intros;subst_vars;rfl)))|apply tTT
 refine sw_loopU (ι:=Nat) (fun p=>[(7,.ms 30 0),(8,.int .i64 0)]) (fun p=>[(30,[])]) (fun p=>True) (fun p=>p) 0 cvB ?_ (fun p hp=>?_)
 rotate_left
 simp only[go_sem]
 repeat' first|exact h.elim|(exfalso;omega)|refine sw_n ?_|refine sw_go 0 kp143 fun K hK=>?_|refine fun (K:KT) (hK:KOk S 0 _ _ _ K)=>?_|refine sw_goD kp143 (by kernel_rfl) fun K hK=>?_|refine runL_g ?_|refine runQ_g ?_|refine sw_retg0 ?_|refine sw_retg ?_|(refine hK.n0 ?_;clear hK K)|refine runG_fk (fun h=>?_) fun h=>?_|refine runQG_fk (fun h=>?_) fun h=>?_|refine sw_condg rfl (fun h=>?_) fun h=>?_|refine hK.skp rfl rfl ?_|refine sw_exit rfl ?_|refine sw_loopEnd ?_|(refine hK.fork rfl rfl rfl ?_ ?_<;>intro h<;>try simp (disch:=(refine Om.mk ?_;omega)) only[go_sem] at h)|with_reducible refine and_o ?_|((with_reducible refine And.intro ?_ ?_);· first|(intro x hx;subst hx;rfl)|exact upR_mem fun _ _=>rfl|exact mapR_mem fun _ _=>rfl|(intro x;refine And.intro ?_ ?_<;>(intros;subst_vars;rfl)))|apply tTT
 all_goals trivial
def kp121:List (Nat×List Nat):=[(0,[0,1]),(1,[4])]
attribute [go_sem] kp121 Tryz.results121 Tryz.ntmps121
theorem repeatedZ_fc (v:Int):FC S 121 [] [] [] [.int .i64 v,.int .i64 0] (.ms 8 0) [(8,[])] []:=by
 refine fcb Tryz.func121 fun B=>?_
 repeat' first|refine sw_n ?_|refine sw_go 0 kp121 fun K hK=>?_|refine fun (K:KT) (hK:KOk S 0 _ _ _ K)=>?_|refine runL_g ?_|refine sw_retg0 ?_|refine sw_retg ?_|(refine hK.n0 ?_;clear hK K)|refine sw_loopEnd ?_|refine hK.cM rfl rfl rfl (repeat0M_fc _ v) ?_|with_reducible refine and_o ?_|((with_reducible refine And.intro ?_ ?_);· first|(intro x hx;subst hx;rfl)|exact upR_mem fun _ _=>rfl|exact mapR_mem fun _ _=>rfl|(intro x;refine And.intro ?_ ?_<;>(intros;subst_vars;rfl)))|apply tTT
theorem repeatedM_fc (v:Int) (n:Nat) (h0:0<n) (hn:n<65):FC S 121 [] [] [] [.int .i64 v,.int .i64 n] (.ms 8 n) [(8,(List.replicate n v).map (.int .i64))] []:=by
 refine fcb Tryz.func121 fun B=>?_
 repeat' first|refine sw_n ?_|refine sw_go 0 kp121 fun K hK=>?_|refine fun (K:KT) (hK:KOk S 0 _ _ _ K)=>?_|refine runL_g ?_|refine sw_retg0 ?_|refine sw_retg ?_|(refine hK.n0 ?_;clear hK K)|refine sw_loopEnd ?_|refine hK.cM rfl rfl rfl (repeat_fc _ v n h0 hn) ?_|with_reducible refine and_o ?_|((with_reducible refine And.intro ?_ ?_);· first|(intro x hx;subst hx;rfl)|exact upR_mem fun _ _=>rfl|exact mapR_mem fun _ _=>rfl|(intro x;refine And.intro ?_ ?_<;>(intros;subst_vars;rfl)))|apply tTT
theorem repeatedN_fc (v:Int) (n:Nat) (hn:n<65):FC S 121 [] [] [] [.int .i64 v,.int .i64 n] (.ms 8 n) [(8,(List.replicate n v).map (.int .i64))] []:=by
 rcases Nat.eq_zero_or_pos n with h|h
 ·subst h;exact repeatedZ_fc v
 ·exact repeatedM_fc v n h hn
theorem repeatedL_fc (q:List Nat) (hq:q≠[]) (v:Int) (n:Nat) (h0:0<n) (hn:n<65):FC S 121 [] [] [] [.int .i64 v,.int .i64 n] (Int64SL q (List.replicate n v)) [] []:=by
 refine fcb Tryz.func121 fun B=>?_
 repeat' first|(refine sw_freezeLab 4 1 q (id:=8) (n:=n) (cs:=(List.replicate n v).map (.int .i64)) ((List.replicate n v).map (.int .i64)) rfl (by simp[Lg.look]) (flat_ints _).symm (by simp) (cells_one fun _=>rfl) (memOk_ints _) hq (by simp) ?_;simp only[go_sem])|refine sw_n ?_|refine sw_go 0 kp121 fun K hK=>?_|refine fun (K:KT) (hK:KOk S 0 _ _ _ K)=>?_|refine runL_g ?_|refine sw_retg0 ?_|refine sw_retg ?_|(refine hK.n0 ?_;clear hK K)|refine sw_loopEnd ?_|refine hK.cM rfl rfl rfl (repeat_fc _ v n h0 hn) ?_|with_reducible refine and_o ?_|((with_reducible refine And.intro ?_ ?_);· first|(intro x hx;subst hx;rfl)|exact upR_mem fun _ _=>rfl|exact mapR_mem fun _ _=>rfl|(intro x;refine And.intro ?_ ?_<;>(intros;subst_vars;rfl)))|apply tTT
theorem repeatedA_fc (v:Int) (n:Nat) (hn:n<65):FC S 121 [] [] [] [.int .i64 v,.int .i64 n] (.sl .any ((List.replicate n v).map (.int .i64))) [] []:=by
 rcases Nat.eq_zero_or_pos n with h|h
 ·subst h
  refine fcb Tryz.func121 fun B=>?_
  repeat' first|refine sw_n ?_|refine sw_go 0 kp121 fun K hK=>?_|refine fun (K:KT) (hK:KOk S 0 _ _ _ K)=>?_|refine runL_g ?_|refine sw_retg0 ?_|refine sw_retg ?_|(refine hK.n0 ?_;clear hK K)|refine sw_loopEnd ?_|refine hK.c1 rfl rfl rfl (repeat0_fc _ v) ?_|with_reducible refine and_o ?_|((with_reducible refine And.intro ?_ ?_);· first|(intro x hx;subst hx;rfl)|exact upR_mem fun _ _=>rfl|exact mapR_mem fun _ _=>rfl|(intro x;refine And.intro ?_ ?_<;>(intros;subst_vars;rfl)))|apply tTT
  rfl
 ·exact(repeatedL_fc [0] (by simp) v n h hn).weak .any (by simp) (by simp)
def kp122:List (Nat×List Nat):=[(0,[0,1,2]),(1,[0,1,2,7]),(2,[0,1,2,7,12]),(4,[0,1,2,7,23]),(5,[]),(6,[6]),(7,[0,1,2,7]),(3,[0,1,2,7]),(8,[6])]
attribute [go_sem] kp122 Tryz.results122 Tryz.ntmps122
theorem countUp_fc (id:Nat) (bs:List (Int×Int)) (xs:List Int) (he:xs.length=bs.length) (hl:xs.length≤100) (hx:∀x∈xs,-1≤x∧x≤1000):FC S 122 [] [(id,xs.map (.int .i64))] [] [.ms id xs.length,.sl .any ((lowD bs).map (.int .i64)),.sl .any ((bs.map (·.2)).map (.int .i64))] (.bool (nxtD bs xs).2) [(id,(nxtD bs xs).1.map (.int .i64))] []:=by
 have hll:=lowD_len bs
 have hhl:(bs.map (·.2)).length=bs.length:=by simp
 refine fcb Tryz.func122 fun B=>?_
 repeat' first|exact h.elim|refine sw_n ?_|refine sw_go 0 kp122 fun K hK=>?_|refine fun (K:KT) (hK:KOk S 0 _ _ _ K)=>?_|refine sw_goD kp122 (by kernel_rfl) fun K hK=>?_|refine runL_g ?_|refine runQ_g ?_|refine sw_retg0 ?_|refine sw_retg ?_|(refine hK.n0 ?_;clear hK K)|refine sw_condg rfl (fun h=>?_) fun h=>?_|refine sw_exit rfl ?_|refine sw_loopEnd ?_|with_reducible refine and_o ?_|apply tTT
 refine sw_loopU (ι:=Nat) (fun p=>[(7,.int .i64 (p-1:Int))]) (fun p=>[(id,(stD bs xs p).map (.int .i64))]) (fun p=>p≤xs.length∧NxInv bs xs p) (fun p=>p) xs.length (by(refine covers_mk0 rfl rfl ?_ ?_ ?_ ?_<;>simp (disch:=(refine Om.mk ?_;omega)) only[go_sem]<;>(try omega));rw[stD_all he]) ?_ (fun p hp=>?_)
 rotate_left
 simp only[go_sem]
 obtain⟨hp1,hp2⟩:=hp
 have hlen:=stD_len he hp1
 cases p with
 | zero =>
  have hz:=nx_end he hp2
  rw[hz]
  repeat' first|exact h.elim|(exfalso;omega)|refine sw_n ?_|refine sw_go 0 kp122 fun K hK=>?_|refine fun (K:KT) (hK:KOk S 0 _ _ _ K)=>?_|refine sw_goD kp122 (by kernel_rfl) fun K hK=>?_|refine runL_g ?_|refine runQ_g ?_|refine sw_retg0 ?_|refine sw_retg ?_|(refine hK.n0 ?_;clear hK K)|refine sw_condg rfl (fun h=>?_) fun h=>?_|refine sw_exit rfl ?_|refine sw_loopEnd ?_|with_reducible refine and_o ?_|apply tTT
 | succ k =>
  have hk:k<xs.length:=by omega
  have hg:=stD_get he hk
  have hxk:=hx _ (getD_mem xs k hk)
  have hlt:k<(stD bs xs (k+1)).length:=by omega
  have hkh:k<(bs.map (·.2)).length:=by omega
  have hkl:k<(lowD bs).length:=by omega
  have hi:((k+1:Nat):Int)-1=(k:Int):=by omega
  rw[hi]
  repeat' first|exact h.elim|refine sw_n ?_|refine sw_go 0 kp122 fun K hK=>?_|refine fun (K:KT) (hK:KOk S 0 _ _ _ K)=>?_|refine sw_goD kp122 (by kernel_rfl) fun K hK=>?_|refine runL_g ?_|refine runQ_g ?_|refine sw_retg0 ?_|refine sw_retg ?_|(refine hK.n0 ?_;clear hK K)|refine sw_condg rfl (fun h=>?_) fun h=>?_|refine sw_exit rfl ?_|refine sw_loopEnd ?_|with_reducible refine and_o ?_|apply tTT
  ·have hb:(bs.map (·.2)).getD k default=(bs.getD k default).2:=by simp[List.getD,List.getElem?_map,List.getElem?_eq_getElem (show k<bs.length by omega)]
   rw[hb,hg] at h
   rw[nx_yes he hk hp2 h,hg]
   exact⟨rfl,rfl⟩
  ·have hb:(bs.map (·.2)).getD k default=(bs.getD k default).2:=by simp[List.getD,List.getElem?_map,List.getElem?_eq_getElem (show k<bs.length by omega)]
   have hb2:(lowD bs).getD k default=(bs.getD k default).1:=by simp[lowD,List.getD,List.getElem?_map,List.getElem?_eq_getElem (show k<bs.length by omega)]
   rw[hb,hg] at h
   obtain⟨n1,n2⟩:=nx_no he hk hp2 (by omega)
   rw[hb2,n2]
   exact⟨k,cvA,⟨by omega,n1⟩,by omega⟩
 ·exact⟨Nat.le_refl _,nx_start he⟩
theorem tksL_k (xs:List Int):D.tksL (xs.map (D.int .i64))=[]:=by
 induction xs with
 | nil=>rfl
 | cons x r ih=>simp[D.tksL,D.tks,ih]
end
end Go.Proofs.YtcbgmeegbjokpaaGreatDoor
