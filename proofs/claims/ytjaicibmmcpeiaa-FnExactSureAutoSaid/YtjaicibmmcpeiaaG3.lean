/-
  S3, S4p, A23h, one behind the other.
-/
import Derived.Test.YtjaicibmmcpeiaaG2
import Derived.Test.YtjaicibmmcpeiaaG1
import Derived.Test.YtjaicibmmcpeiaaLgK21
namespace Go.Proofs.Ytjaicibmmcpeiaa
open Go Go.Lg
set_option linter.unusedSimpArgs false
set_option linter.unusedVariables false
set_option maxHeartbeats 4000000
section
attribute [local irreducible] SW runL runQ runG runQG FC Ret1 RetN toF redoL anyB
def iterT (I:Nat→List (List Int)→Option (List Int)) (rs:List Int):Nat→List (List Int)→List (List Int)×Bool
 | 0,s=>(s,false)
 | k+1,s=>if (capF I s (evL rs s.length) s).2=true then (if (capF I s (evL rs s.length) s).1.length=s.length then (s,decide (0<s.length)) else iterT I rs k (capF I s (evL rs s.length) s).1) else capF I s (evL rs s.length) s
theorem iterT_eq {I:Nat→List (List Int)→Option (List Int)} {rs:List Int}:∀(k:Nat) (s:List (List Int)),(iterS I rs k s=none→(iterT I rs k s).2=false)∧∀t,iterS I rs k s=some t→iterT I rs k s=(t,decide (0<t.length))
 | 0,s=>⟨fun _=>rfl,fun t h=>(by cases h)⟩
 | k+1,s=>by
  unfold iterS iterT
  by_cases h1:(capF I s (evL rs s.length) s).2=true
  ·rw[if_pos h1,if_pos h1]
   by_cases h2:(capF I s (evL rs s.length) s).1.length=s.length
   ·rw[if_pos h2,if_pos h2]
    exact⟨fun h=>(by cases h),fun t h=>(by cases h;rfl)⟩
   ·rw[if_neg h2,if_neg h2]
    exact iterT_eq k _
  ·rw[if_neg h1,if_neg h1]
   exact⟨fun _=>(by simpa using h1),fun t h=>(by cases h)⟩
def kp40:List (Nat×List Nat):=[(0,[2,3]),(1,[2,3,6]),(2,[2,3,6,7,8]),(3,[2,3,6,7,18]),(4,[4,5]),(5,[2,3,6,7,24]),(6,[4,5]),(7,[2,3,6])]
attribute [go_sem] kp40 Try.results40 Try.ntmps40
theorem l23Sets_fc (rs:List Int) (a:AutoT) (hA:AutoOkP rs a):FC S 40 [] [] [] [.agg [.sl .any (rs.map (.int .i64))],AutoD a] (.tup [.sl .any ((iterT (imgI a) rs 18 []).1.map IntsD),.bool (iterT (imgI a) rs 18 []).2]) [] []:=by
 generalize hans:iterT (imgI a) rs 18 []=ANS
 refine fcb Try.func40 fun B=>?_
 repeat' first|exact h.elim|refine sw_n ?_|refine sw_go 0 kp40 fun K hK=>?_|refine fun (K:KT) (hK:KOk S 0 _ _ _ K)=>?_|refine runL_g ?_|refine sw_retg0 ?_|refine sw_retg ?_|(refine hK.n0 ?_;clear hK K)|refine sw_condg rfl (fun h=>?_) fun h=>?_|refine sw_loopEnd ?_|with_reducible refine and_o ?_|((with_reducible refine And.intro ?_ ?_);· first|(intro x hx;subst hx;rfl)|(intro x;refine And.intro ?_ ?_<;>(intros;subst_vars;rfl)))|apply tTT
 refine sw_loopT (ι:=Nat×List (List Int)) (fun p=>[(6,.sl .any (p.2.map IntsD))]) (fun _=>[]) (fun _=>[]) (fun p=>(p.2.length≤16∧18≤p.1+p.2.length)∧iterT (imgI a) rs p.1 p.2=ANS) (fun p=>p.1) (18,[]) cvA ⟨⟨by simp,by simp⟩,hans⟩ (fun p hp=>?_)
 obtain⟨k,sets⟩:=p
 obtain⟨⟨h16,h18⟩,hc⟩:=hp
 dsimp only at h16 h18 hc
 simp only[go_sem]
 obtain⟨k,rfl⟩:∃j,k=j+1:=⟨k-1,by omega⟩
 have cR:=l23Round_fc rs a hA sets h16
 unfold iterT at hc
 have hle:=capF_len (I:=imgI a) (sets:=sets) (evL rs sets.length) sets h16
 obtain⟨r0,hr0⟩:=capF_pre (I:=imgI a) (sets:=sets) (evL rs sets.length) sets
 generalize capF (imgI a) sets (evL rs sets.length) sets=N at *
 obtain⟨nx,ok⟩:=N
 dsimp only at cR hc hle hr0
 have hge:sets.length≤nx.length:=by rw[hr0,List.length_append];omega
 cases ok with
 | false =>
  rw[if_neg (by simp)] at hc
  subst hc
  repeat' first|exact h.elim|(exfalso;omega)|refine sw_n ?_|refine sw_go 0 kp40 fun K hK=>?_|refine fun (K:KT) (hK:KOk S 0 _ _ _ K)=>?_|refine runL_g ?_|refine sw_retg0 ?_|refine sw_retg ?_|(refine hK.n0 ?_;clear hK K)|refine sw_condg rfl (fun h=>?_) fun h=>?_|refine sw_loopEnd ?_|refine hK.c1 rfl rfl rfl (cR) ?_|with_reducible refine and_o ?_|((with_reducible refine And.intro ?_ ?_);· first|(intro x hx;subst hx;rfl)|(intro x;refine And.intro ?_ ?_<;>(intros;subst_vars;rfl)))|apply tTT
  all_goals first|exact⟨rfl,rfl⟩|trace_state
 | true =>
  rw[if_pos rfl] at hc
  have hle:=hle rfl
  by_cases hl:nx.length=sets.length
  ·rw[if_pos hl] at hc
   subst hc
   repeat' first|exact h.elim|(exfalso;omega)|refine sw_n ?_|refine sw_go 0 kp40 fun K hK=>?_|refine fun (K:KT) (hK:KOk S 0 _ _ _ K)=>?_|refine runL_g ?_|refine sw_retg0 ?_|refine sw_retg ?_|(refine hK.n0 ?_;clear hK K)|refine sw_condg rfl (fun h=>?_) fun h=>?_|refine sw_loopEnd ?_|refine hK.c1 rfl rfl rfl (cR) ?_|with_reducible refine and_o ?_|((with_reducible refine And.intro ?_ ?_);· first|(intro x hx;subst hx;rfl)|(intro x;refine And.intro ?_ ?_<;>(intros;subst_vars;rfl)))|apply tTT
   all_goals first|exact⟨rfl,rfl⟩|exact decide_eq_decide.2 ⟨fun h=>by omega,fun h=>by omega⟩|trace_state
  ·rw[if_neg hl] at hc
   repeat' first|exact h.elim|(exfalso;omega)|refine sw_n ?_|refine sw_go 0 kp40 fun K hK=>?_|refine fun (K:KT) (hK:KOk S 0 _ _ _ K)=>?_|refine runL_g ?_|refine sw_retg0 ?_|refine sw_retg ?_|(refine hK.n0 ?_;clear hK K)|refine sw_condg rfl (fun h=>?_) fun h=>?_|refine sw_loopEnd ?_|refine hK.c1 rfl rfl rfl (cR) ?_|with_reducible refine and_o ?_|((with_reducible refine And.intro ?_ ?_);· first|(intro x hx;subst hx;rfl)|(intro x;refine And.intro ?_ ?_<;>(intros;subst_vars;rfl)))|apply tTT
   all_goals first|exact⟨(k,nx),cvA,⟨⟨hle,by dsimp only;omega⟩,hc⟩,by dsimp only;omega⟩|trace_state
noncomputable def trP (a:AutoT) (sets:List (List Int)) (E:List (Nat×List Int)):List TransT:=E.map fun e=>⟨(e.1:Int),e.2,plcS sets (imgT a e.1 (lstS sets e.2) a.rules.length)⟩
def finS (a:AutoT) (sets:List (List Int)) (i:Nat):List Int:=((List.range i).filter fun j=>decide (∃x∈sets.getD j default,x∈a.final)).map fun (j:Nat)=>(j:Int)
theorem finS_yes {a:AutoT} {sets:List (List Int)} {i:Nat} (h:∃x∈sets.getD i default,x∈a.final):finS a sets (i+1)=finS a sets i++[(i:Int)]:=by
 unfold finS
 have e:([i].filter fun j=>decide (∃x∈sets.getD j default,x∈a.final))=[i]:=by
  rw[List.filter_cons,if_pos (decide_eq_true h)];rfl
 rw[List.range_succ,List.filter_append,List.map_append,e]
 rfl
theorem finS_no {a:AutoT} {sets:List (List Int)} {i:Nat} (h:¬ ∃x∈sets.getD i default,x∈a.final):finS a sets (i+1)=finS a sets i:=by
 unfold finS
 have e:([i].filter fun j=>decide (∃x∈sets.getD j default,x∈a.final))=[]:=by
  rw[List.filter_cons,if_neg (by rw[decide_eq_false h];simp)];rfl
 rw[List.range_succ,List.filter_append,List.map_append,e,List.map_nil,List.append_nil]
theorem finS_len (a:AutoT) (sets:List (List Int)) (i:Nat):(finS a sets i).length≤i:=by
 unfold finS
 rw[List.length_map]
 exact Nat.le_trans (List.length_filter_le _ _) (Nat.le_of_eq List.length_range)
open Classical in
noncomputable def sureR (rs:List Int) (a:AutoT):AutoT×Bool:=if AutoOkP rs a then (if (iterT (imgI a) rs 18 []).2=true∧(evL rs (iterT (imgI a) rs 18 []).1.length).length≤300 then (⟨((iterT (imgI a) rs 18 []).1.length:Int),trP a (iterT (imgI a) rs 18 []).1 (evL rs (iterT (imgI a) rs 18 []).1.length),finS a (iterT (imgI a) rs 18 []).1 (iterT (imgI a) rs 18 []).1.length⟩,true) else (⟨0,[],[]⟩,false)) else (⟨0,[],[]⟩,false)
theorem trP_len (a:AutoT) (sets:List (List Int)) (A:List (Nat×List Int)):(trP a sets A).length=A.length:=by
 unfold trP;rw[List.length_map]
theorem sureR_no {rs:List Int} {a:AutoT} (h:¬AutoOkP rs a):sureR rs a=(⟨0,[],[]⟩,false):=if_neg h
theorem sureR_ok {rs:List Int} {a:AutoT} (h:AutoOkP rs a) {s:List (List Int)} {b:Bool} (hs:iterT (imgI a) rs 18 []=(s,b)):sureR rs a=if b=true∧(evL rs s.length).length≤300 then (⟨(s.length:Int),trP a s (evL rs s.length),finS a s s.length⟩,true) else (⟨0,[],[]⟩,false):=by
 unfold sureR
 rw[if_pos h,hs]
theorem iterT_le {I:Nat→List (List Int)→Option (List Int)} {rs:List Int}:∀(k:Nat) (s:List (List Int)),s.length≤16→(iterT I rs k s).2=true→(iterT I rs k s).1.length≤16∧0<(iterT I rs k s).1.length
 | 0,s,_,h=>by cases h
 | k+1,s,h16,h=>by
  unfold iterT at h ⊢
  by_cases h1:(capF I s (evL rs s.length) s).2=true
  ·rw[if_pos h1] at h ⊢
   by_cases h2:(capF I s (evL rs s.length) s).1.length=s.length
   ·rw[if_pos h2] at h ⊢
    exact⟨h16,by simpa using h⟩
   ·rw[if_neg h2] at h ⊢
    exact iterT_le k _ (capF_len _ _ h16 h1) h
  ·rw[if_neg h1] at h
   exact absurd h h1
def kp9:List (Nat×List Nat):=[(0,[2,3,4]),(1,[2,3,4,18]),(2,[4,5]),(3,[2,3,4,6,7]),(4,[2,3,4,6,27]),(5,[4,5]),(6,[2,3,4,6,8]),(7,[2,3,4,6,8,9]),(8,[2,3,4,6,8,9,10]),(9,[2,3,4,6,8,9,10,37]),(11,[2,3,4,6,8,9,10,11]),(12,[2,3,4,6,8,9,10,11,12]),(13,[2,3,4,6,8,9,10,11,46]),(15,[2,3,4,6,8,9,10,11,56]),(16,[4,5]),(17,[2,3,4,6,8,9,10,11,13]),(18,[2,3,4,6,8,9,10,11]),(14,[2,3,4,6,8,9,10,11,12]),(10,[2,3,4,6,8,9,10]),(19,[3,4,6,8,9,14]),(20,[3,4,6,8,9,14,78]),(22,[3,4,6,8,9,14,87]),(23,[3,4,6,8,9,14]),(21,[3,4,6,8,9,14]),(24,[4,5])]
attribute [go_sem] kp9 Try.results9 Try.ntmps9
theorem specSureAuto_fc (rs:List Int) (a:AutoT):FC S 9 [] [] [] [.agg [.sl .any (rs.map (.int .i64))],AutoD a] (.tup [AutoD (sureR rs a).1,.bool (sureR rs a).2]) [] []:=by
 have cA:=specAutoOk_fc .any rs a
 rcases Classical.em (AutoOkP rs a) with hA|hA
 ·obtain⟨⟨hsg,⟨hs1,hs2⟩,hrl,_⟩,_⟩:=id hA
  have hsl:=hsg.1.2
  rw[tst_true hA] at cA
  have cS:=l23Sets_fc rs a hA
  have hle:=iterT_le (I:=imgI a) (rs:=rs) 18 [] (by simp)
  rw[sureR_ok hA (s:=(iterT (imgI a) rs 18 []).1) (b:=(iterT (imgI a) rs 18 []).2) rfl]
  generalize iterT (imgI a) rs 18 []=N at *
  obtain⟨sets,ok⟩:=N
  dsimp only at cS hle ⊢
  cases ok with
  | false =>
   rw[if_neg (by simp)]
   refine fcb Try.func9 fun B=>?_
   refine sw_bnd_aggg 0 0 fun hb0_0=>?_
   repeat' first|exact h.elim|(exfalso;omega)|refine sw_n ?_|refine sw_go 0 kp9 fun K hK=>?_|refine sw_goT 0 kp9 8 (id:=18) (by kernel_rfl) fun K hK=>?_|refine fun (K:KT) (hK:KOk S 0 _ _ _ K)=>?_|refine sw_goD kp9 (by kernel_rfl) fun K hK=>?_|refine runL_g ?_|refine runQ_g ?_|refine sw_retg0 ?_|refine sw_retg ?_|(refine hK.n0 ?_;clear hK K)|refine sw_condg rfl (fun h=>?_) fun h=>?_|refine sw_exit rfl ?_|refine sw_loopEnd ?_|refine hK.c1 rfl rfl rfl (cA) ?_|refine hK.c1 rfl rfl rfl (cS) ?_|with_reducible refine and_o ?_|((with_reducible refine And.intro ?_ ?_);· first|(intro x hx;subst hx;rfl)|(intro x;refine And.intro ?_ ?_<;>(intros;subst_vars;rfl)))|apply tTT
  | true =>
   obtain⟨h16,hpos⟩:=hle rfl
   generalize hans:(if true=true∧(evL rs sets.length).length≤300 then ((⟨(sets.length:Int),trP a sets (evL rs sets.length),finS a sets sets.length⟩,true):AutoT×Bool) else (⟨0,[],[]⟩,false))=ANS
   refine fcb Try.func9 fun B=>?_
   refine sw_bnd_aggg 0 0 fun hb0_0=>?_
   repeat' first|exact h.elim|(exfalso;omega)|refine sw_n ?_|refine sw_go 0 kp9 fun K hK=>?_|refine sw_goT 0 kp9 8 (id:=18) (by kernel_rfl) fun K hK=>?_|refine fun (K:KT) (hK:KOk S 0 _ _ _ K)=>?_|refine sw_goD kp9 (by kernel_rfl) fun K hK=>?_|refine runL_g ?_|refine runQ_g ?_|refine sw_retg0 ?_|refine sw_retg ?_|(refine hK.n0 ?_;clear hK K)|refine sw_condg rfl (fun h=>?_) fun h=>?_|refine sw_exit rfl ?_|refine sw_loopEnd ?_|refine hK.c1 rfl rfl rfl (cA) ?_|refine hK.c1 rfl rfl rfl (cS) ?_|with_reducible refine and_o ?_|((with_reducible refine And.intro ?_ ?_);· first|(intro x hx;subst hx;rfl)|(intro x;refine And.intro ?_ ?_<;>(intros;subst_vars;rfl)))|apply tTT
   refine sw_tokBox 9 1 75000 85 3 rfl rfl rfl ?_
   simp only[go_sem]
   have hall:([]:List TransT)++trP a sets (evB rs sets.length rs.length)=trP a sets (evL rs sets.length):=by rw[evB_all];rfl
   have hAl:=trP_len a sets (evL rs sets.length)
   generalize trP a sets (evL rs sets.length)=ALL at *
   refine sw_loopT (ι:=Nat×List TransT) (fun p=>[(10,.int .i64 p.1)]) (fun p=>[(9,[.int .i64 sets.length,.sl (.own 75000 85 3) (p.2.map TransD),.sl .nil []])]) (fun _=>[75000]) (fun p=>(p.1≤rs.length∧p.2.length≤300)∧p.2++trP a sets (evB rs sets.length (rs.length-p.1))=ALL) (fun p=>rs.length-p.1) (0,[]) (by(refine covers_mk0 rfl rfl ?_ ?_ ?_ ?_<;>simp (disch:=(refine Om.mk ?_;omega)) only[go_sem]<;>(try omega));all_goals first|rfl|exact⟨rfl,rfl⟩|exact⟨rfl,rfl,rfl⟩) ⟨⟨by simp,by simp⟩,hall⟩ (fun p hp=>?_)
   obtain⟨i,ru⟩:=p
   obtain⟨⟨hi,hr⟩,hc⟩:=hp
   dsimp only at hi hr hc
   simp only[go_sem]
   by_cases hil:i<rs.length
   ·obtain⟨k,hk⟩:∃k,rs.length-i=k+1:=⟨rs.length-i-1,by omega⟩
    have hri:=hsg.2 i hil
    have hkE:rs.length-(i+1)=k:=by omega
    rw[hk] at hc
    rw[show evB rs sets.length (k+1)=evF rs sets.length i++evB rs sets.length k from by rw[evB,show rs.length-(k+1)=i by omega]] at hc
    rw[show evF rs sets.length i=(digs sets.length (rs.getD i default).toNat).map (fun l=>(i,l)) from if_neg (fun h=>by omega)] at hc
    obtain⟨n,hn⟩:∃n:Nat,rs.getD i default=n:=⟨(rs.getD i default).toNat,by omega⟩
    have hnt:(rs.getD i default).toNat=n:=by omega
    rw[hnt] at hc
    obtain⟨hseq,A0,hA0⟩:=digs_ok (n:=sets.length) (k:=n) (.inl hpos)
    have hdig:=digs_dig (n:=sets.length) (k:=n) (.inl hpos)
    rw[hA0] at hseq hdig hc
    repeat' first|exact h.elim|(exfalso;omega)|refine sw_n ?_|refine sw_go 0 kp9 fun K hK=>?_|refine sw_goT 0 kp9 8 (id:=18) (by kernel_rfl) fun K hK=>?_|refine fun (K:KT) (hK:KOk S 0 _ _ _ K)=>?_|refine sw_goD kp9 (by kernel_rfl) fun K hK=>?_|refine runL_g ?_|refine runQ_g ?_|refine sw_retg0 ?_|refine sw_retg ?_|(refine hK.n0 ?_;clear hK K)|refine sw_condg rfl (fun h=>?_) fun h=>?_|refine sw_exit rfl ?_|refine sw_loopEnd ?_|with_reducible refine and_o ?_|((with_reducible refine And.intro ?_ ?_);· first|(intro x hx;subst hx;rfl)|(intro x;refine And.intro ?_ ?_<;>(intros;subst_vars;rfl)))|apply tTT
    rw[hnt]
    refine sw_freeze 11 1 .any ((List.replicate n (0:Int)).map (.int .i64)) rfl rfl (by rw[flatten_one,flat_ints,List.map_replicate]) (by simp) (cells_one fun _=>rfl) (by rw[flatten_one,←List.map_replicate (f:=D.int .i64)];exact memOk_ints _) (.inl rfl) ?_
    simp only[go_sem]
    refine sw_loopT (ι:=(List Int×Bool)×List (List Int)×List TransT) (fun p=>[(11,.sl .any (p.1.1.map (.int .i64))),(12,.bool p.1.2)]) (fun p=>[(9,[.int .i64 sets.length,.sl (.own 75000 85 3) (p.2.2.map TransD),.sl .nil []])]) (fun _=>[75000]) (fun p=>((p.1.1.length=n∧∀x∈p.1.1,0≤x∧x<sets.length)∧p.2.2.length≤300)∧(p.1.2=true→(SeqD (List.replicate n (0,(sets.length:Int)-1)) (p.1.1::p.2.1)∧∀l∈p.2.1,l.length=n∧∀x∈l,0≤x∧x<sets.length)∧p.2.2++trP a sets ((p.1.1::p.2.1).map (fun l=>(i,l))++evB rs sets.length k)=ALL)∧(p.1.2=false→p.2.2++trP a sets (evB rs sets.length k)=ALL)) (fun p=>if p.1.2=true then p.2.1.length+1 else 0) ((List.replicate n 0,true),A0,ru) (by(refine covers_mk0 rfl rfl ?_ ?_ ?_ ?_<;>simp (disch:=(refine Om.mk ?_;omega)) only[go_sem]<;>(try omega));all_goals first|rfl|exact⟨rfl,rfl⟩|exact⟨rfl,rfl,rfl⟩) ⟨⟨hdig _ List.mem_cons_self,hr⟩,fun _=>⟨⟨hseq,fun l hl=>hdig l (List.mem_cons_of_mem _ hl)⟩,hc⟩,fun h=>by cases h⟩ (fun p hp=>?_)
    obtain⟨⟨l,mr⟩,A,ru⟩:=p
    obtain⟨⟨⟨hl1,hl2⟩,hr⟩,hm1,hm2⟩:=hp
    dsimp only at hl1 hl2 hr hm1 hm2
    simp only[go_sem]
    have hbx:∀x∈l,0≤x∧x≤1000:=fun x hx=>by have:=hl2 x hx;omega
    have hget:∀j<l.length,0≤l.getD j default∧l.getD j default<sets.length:=fun j hj=>hl2 _ (getD_mem l j hj)
    cases mr with
    | false =>
     have hm2:=hm2 rfl
     repeat' first|exact h.elim|(exfalso;omega)|refine sw_n ?_|refine sw_go 0 kp9 fun K hK=>?_|refine sw_goT 0 kp9 8 (id:=18) (by kernel_rfl) fun K hK=>?_|refine fun (K:KT) (hK:KOk S 0 _ _ _ K)=>?_|refine sw_goD kp9 (by kernel_rfl) fun K hK=>?_|refine runL_g ?_|refine runQ_g ?_|refine sw_retg0 ?_|refine sw_retg ?_|(refine hK.n0 ?_;clear hK K)|refine sw_condg rfl (fun h=>?_) fun h=>?_|refine sw_exit rfl ?_|refine sw_loopEnd ?_|with_reducible refine and_o ?_|((with_reducible refine And.intro ?_ ?_);· first|(intro x hx;subst hx;rfl)|(intro x;refine And.intro ?_ ?_<;>(intros;subst_vars;rfl)))|apply tTT
     exact⟨(i+1,ru),(by(refine covers_mk0 rfl rfl ?_ ?_ ?_ ?_<;>simp (disch:=(refine Om.mk ?_;omega)) only[go_sem]<;>(try omega));all_goals first|rfl|exact⟨rfl,rfl⟩|exact⟨rfl,rfl,rfl⟩),⟨⟨by dsimp only;omega,hr⟩,by dsimp only;rw[hkE];exact hm2⟩,by dsimp only;omega⟩
    | true =>
     obtain⟨⟨hs,hA1⟩,hc⟩:=hm1 rfl
     have hlen:=lst_len sets l
     have cL:=l23Listed_fc .any .any sets l (by omega) hget
     have cI:=l23Image_fc .any rs a hA (i:Int) (lstS sets l) (by omega) (by rw[hlen,hl1];exact fit_len hA hil (by omega))
     rw[List.map_cons,List.cons_append,show trP a sets ((i,l)::(A.map (fun l=>(i,l))++evB rs sets.length k))=⟨(i:Int),l,plcS sets (imgT a i (lstS sets l) a.rules.length)⟩::trP a sets (A.map (fun l=>(i,l))++evB rs sets.length k) from rfl] at hc
     generalize hS:imgT a (i:Int) (lstS sets l) a.rules.length=s at *
     have cP:=l1TermPlace_fc .any .any sets s
     have cN:=nextList_fc .any l (sets.length:Int) (by omega) hbx
     have cC:=l1CopyQ_fc .any l (by omega)
     have hnx:=loop_next hl1 hl2 hs
     by_cases h300:300≤ru.length
     ·have:ANS=(⟨0,[],[]⟩,false):=by
       rw[←hans,if_neg]
       intro h
       have:=congrArg List.length hc
       rw[List.length_append,List.length_cons] at this
       omega
      subst this
      repeat' first|exact h.elim|(exfalso;omega)|refine sw_n ?_|refine sw_go 0 kp9 fun K hK=>?_|refine sw_goT 0 kp9 8 (id:=18) (by kernel_rfl) fun K hK=>?_|refine fun (K:KT) (hK:KOk S 0 _ _ _ K)=>?_|refine sw_goD kp9 (by kernel_rfl) fun K hK=>?_|refine runL_g ?_|refine runQ_g ?_|refine sw_retg0 ?_|refine sw_retg ?_|(refine hK.n0 ?_;clear hK K)|refine sw_condg rfl (fun h=>?_) fun h=>?_|refine sw_exit rfl ?_|refine sw_loopEnd ?_|refine hK.c1 rfl rfl rfl (cL) ?_|refine hK.c1 rfl rfl rfl (cI) ?_|refine hK.c1 rfl rfl rfl (cP) ?_|refine hK.c1 rfl rfl rfl (cN) ?_|refine hK.c1 rfl rfl rfl (cC) ?_|with_reducible refine and_o ?_|((with_reducible refine And.intro ?_ ?_);· first|(intro x hx;subst hx;rfl)|(intro x;refine And.intro ?_ ?_<;>(intros;subst_vars;rfl)))|apply tTT
     ·repeat' first|exact h.elim|(exfalso;omega)|refine sw_n ?_|refine sw_go 0 kp9 fun K hK=>?_|refine sw_goT 0 kp9 8 (id:=18) (by kernel_rfl) fun K hK=>?_|refine fun (K:KT) (hK:KOk S 0 _ _ _ K)=>?_|refine sw_goD kp9 (by kernel_rfl) fun K hK=>?_|refine runL_g ?_|refine runQ_g ?_|refine sw_retg0 ?_|refine sw_retg ?_|(refine hK.n0 ?_;clear hK K)|refine sw_condg rfl (fun h=>?_) fun h=>?_|refine sw_exit rfl ?_|refine sw_loopEnd ?_|refine hK.c1 rfl rfl rfl (cL) ?_|refine hK.c1 rfl rfl rfl (cI) ?_|refine hK.c1 rfl rfl rfl (cP) ?_|refine hK.c1 rfl rfl rfl (cN) ?_|refine hK.c1 rfl rfl rfl (cC) ?_|with_reducible refine and_o ?_|((with_reducible refine And.intro ?_ ?_);· first|(intro x hx;subst hx;rfl)|(intro x;refine And.intro ?_ ?_<;>(intros;subst_vars;rfl)))|apply tTT
      exact⟨(((nextL (sets.length:Int) l).1,(nextL (sets.length:Int) l).2),A.tail,ru++[⟨(i:Int),l,plcS sets s⟩]),(by(refine covers_mk0 rfl rfl ?_ ?_ ?_ ?_<;>simp (disch:=(refine Om.mk ?_;omega)) only[go_sem]<;>(try omega));all_goals first|rfl|exact⟨rfl,rfl⟩|(rw[List.map_append];first|rfl|exact⟨rfl,rfl⟩|exact⟨rfl,rfl,rfl⟩)|trace_state),⟨⟨hnx.1,by simp only[List.length_append,List.length_singleton];omega⟩,fun h=>⟨⟨(hnx.2.1 h).1,fun m hm=>hA1 m (List.mem_of_mem_tail hm)⟩,by have e:=(hnx.2.1 h).2;rw[e] at hc;dsimp only;rw[List.append_assoc];exact hc⟩,fun h=>by have:=hnx.2.2 h;rw[this] at hc;dsimp only;rw[List.append_assoc];exact hc⟩,nx_meas hnx⟩
   ·obtain rfl:i=rs.length:=by omega
    rw[Nat.sub_self] at hc
    have hru:ru=ALL:=by rw[←hc];exact(List.append_nil _).symm
    subst hru
    rw[if_pos ⟨rfl,by omega⟩] at hans
    subst hans
    repeat' first|exact h.elim|(exfalso;omega)|refine sw_n ?_|refine sw_go 0 kp9 fun K hK=>?_|refine sw_goT 0 kp9 8 (id:=18) (by kernel_rfl) fun K hK=>?_|refine fun (K:KT) (hK:KOk S 0 _ _ _ K)=>?_|refine sw_goD kp9 (by kernel_rfl) fun K hK=>?_|refine runL_g ?_|refine runQ_g ?_|refine sw_retg0 ?_|refine sw_retg ?_|(refine hK.n0 ?_;clear hK K)|refine sw_condg rfl (fun h=>?_) fun h=>?_|refine sw_exit rfl ?_|refine sw_loopEnd ?_|with_reducible refine and_o ?_|((with_reducible refine And.intro ?_ ?_);· first|(intro x hx;subst hx;rfl)|(intro x;refine And.intro ?_ ?_<;>(intros;subst_vars;rfl)))|apply tTT
    refine sw_tokBox 9 2 93000 2 1 rfl rfl rfl ?_
    simp only[go_sem]
    refine sw_loopT (ι:=Nat) (fun j=>[(14,.int .i64 j)]) (fun j=>[(9,[.int .i64 sets.length,.sl (.own 75000 85 3) (ru.map TransD),.sl (.own 93000 2 1) ((finS a sets j).map (.int .i64))])]) (fun _=>[75000,93000]) (fun j=>j≤sets.length) (fun j=>sets.length-j) 0 (by(refine covers_mk0 rfl rfl ?_ ?_ ?_ ?_<;>simp (disch:=(refine Om.mk ?_;omega)) only[go_sem]<;>(try omega));all_goals first|rfl|exact⟨rfl,rfl⟩|exact⟨rfl,rfl,rfl⟩|trace_state) (by omega) (fun j hj=>?_)
    simp only[go_sem]
    have hfl:=finS_len a sets j
    by_cases hjl:j<sets.length
    ·have cM:=l23Meets_fc .any .any (sets.getD j default) a.final
     rcases Classical.em (∃x∈sets.getD j default,x∈a.final) with hm|hm
     ·rw[tst_true hm] at cM
      have hf:=finS_yes hm
      repeat' first|exact h.elim|(exfalso;omega)|refine sw_n ?_|refine sw_go 0 kp9 fun K hK=>?_|refine sw_goT 0 kp9 8 (id:=18) (by kernel_rfl) fun K hK=>?_|refine fun (K:KT) (hK:KOk S 0 _ _ _ K)=>?_|refine sw_goD kp9 (by kernel_rfl) fun K hK=>?_|refine runL_g ?_|refine runQ_g ?_|refine sw_retg0 ?_|refine sw_retg ?_|(refine hK.n0 ?_;clear hK K)|refine sw_condg rfl (fun h=>?_) fun h=>?_|refine sw_exit rfl ?_|refine sw_loopEnd ?_|refine hK.c1 rfl rfl rfl (cM) ?_|with_reducible refine and_o ?_|((with_reducible refine And.intro ?_ ?_);· first|(intro x hx;subst hx;rfl)|(intro x;refine And.intro ?_ ?_<;>(intros;subst_vars;rfl)))|apply tTT
      all_goals exact⟨j+1,(by(refine covers_mk0 rfl rfl ?_ ?_ ?_ ?_<;>simp (disch:=(refine Om.mk ?_;omega)) only[go_sem]<;>(try omega));all_goals first|rfl|exact⟨rfl,rfl⟩|decide|(rw[hf];done)|trace_state),by omega,by omega⟩
     ·rw[tst_false hm] at cM
      have hf:=finS_no hm
      repeat' first|exact h.elim|(exfalso;omega)|refine sw_n ?_|refine sw_go 0 kp9 fun K hK=>?_|refine sw_goT 0 kp9 8 (id:=18) (by kernel_rfl) fun K hK=>?_|refine fun (K:KT) (hK:KOk S 0 _ _ _ K)=>?_|refine sw_goD kp9 (by kernel_rfl) fun K hK=>?_|refine runL_g ?_|refine runQ_g ?_|refine sw_retg0 ?_|refine sw_retg ?_|(refine hK.n0 ?_;clear hK K)|refine sw_condg rfl (fun h=>?_) fun h=>?_|refine sw_exit rfl ?_|refine sw_loopEnd ?_|refine hK.c1 rfl rfl rfl (cM) ?_|with_reducible refine and_o ?_|((with_reducible refine And.intro ?_ ?_);· first|(intro x hx;subst hx;rfl)|(intro x;refine And.intro ?_ ?_<;>(intros;subst_vars;rfl)))|apply tTT
      all_goals exact⟨j+1,(by(refine covers_mk0 rfl rfl ?_ ?_ ?_ ?_<;>simp (disch:=(refine Om.mk ?_;omega)) only[go_sem]<;>(try omega));all_goals first|rfl|exact⟨rfl,rfl⟩|decide|(rw[hf];done)|trace_state),by omega,by omega⟩
    ·obtain rfl:j=sets.length:=by omega
     repeat' first|exact h.elim|(exfalso;omega)|refine sw_n ?_|refine sw_go 0 kp9 fun K hK=>?_|refine sw_goT 0 kp9 8 (id:=18) (by kernel_rfl) fun K hK=>?_|refine fun (K:KT) (hK:KOk S 0 _ _ _ K)=>?_|refine sw_goD kp9 (by kernel_rfl) fun K hK=>?_|refine runL_g ?_|refine runQ_g ?_|refine sw_retg0 ?_|refine sw_retg ?_|(refine hK.n0 ?_;clear hK K)|refine sw_condg rfl (fun h=>?_) fun h=>?_|refine sw_exit rfl ?_|refine sw_loopEnd ?_|with_reducible refine and_o ?_|((with_reducible refine And.intro ?_ ?_);· first|(intro x hx;subst hx;rfl)|(intro x;refine And.intro ?_ ?_<;>(intros;subst_vars;rfl)))|apply tTT
     all_goals first|exact⟨rfl,rfl⟩|trace_state
 ·rw[sureR_no hA]
  rw[tst_false hA] at cA
  refine fcb Try.func9 fun B=>?_
  refine sw_bnd_aggg 0 0 fun hb0_0=>?_
  repeat' first|exact h.elim|(exfalso;omega)|refine sw_n ?_|refine sw_go 0 kp9 fun K hK=>?_|refine sw_goT 0 kp9 8 (id:=18) (by kernel_rfl) fun K hK=>?_|refine fun (K:KT) (hK:KOk S 0 _ _ _ K)=>?_|refine sw_goD kp9 (by kernel_rfl) fun K hK=>?_|refine runL_g ?_|refine runQ_g ?_|refine sw_retg0 ?_|refine sw_retg ?_|(refine hK.n0 ?_;clear hK K)|refine sw_condg rfl (fun h=>?_) fun h=>?_|refine sw_exit rfl ?_|refine sw_loopEnd ?_|refine hK.c1 rfl rfl rfl (cA) ?_|with_reducible refine and_o ?_|((with_reducible refine And.intro ?_ ?_);· first|(intro x hx;subst hx;rfl)|(intro x;refine And.intro ?_ ?_<;>(intros;subst_vars;rfl)))|apply tTT
end
section
attribute [local irreducible] SW runL runQ runG runQG FC Ret1 RetN toF redoL
def SetOk (s:List Int):Prop:=InS s∧SortP s
theorem mask_inj {s s':List Int} (hs:SetOk s) (hs':SetOk s') (h:maskI s=maskI s'):s=s':=by
 have e:maskN s=maskN s':=by unfold maskI at h;omega
 refine sort_ext hs.2 hs'.2 fun x=>⟨fun hx=>?_,fun hx=>?_⟩
 ·have h0:=(hs.1 x hx).1
  have h1:=maskN_bit hs.1 h0
  rw[e,maskN_bit hs'.1 h0] at h1
  simpa[hx] using h1
 ·have h0:=(hs'.1 x hx).1
  have h1:=maskN_bit hs'.1 h0
  rw[←e,maskN_bit hs.1 h0] at h1
  simpa[hx] using h1
theorem imgT_sort (a:AutoT) (sym:Int) (args:List (List Int)):∀i≤a.rules.length,SortP (imgT a sym args i)
 | 0,_=>by simp[imgT,SortP]
 | i+1,hi=>by
  have ih:=imgT_sort a sym args i (by omega)
  rw[imgT_succ a sym args (by omega)]
  rcases Classical.em ((a.rules.getD i default).sym=sym∧FitA (a.rules.getD i default) args) with h|h
  ·rw[imgS_yes h];exact sort_intoL _ _ ih
  ·rw[imgS_no h];exact ih
theorem imgT_ok {rs:List Int} {a:AutoT} (hA:AutoOkP rs a) (sym:Int) (args:List (List Int)):SetOk (imgT a sym args a.rules.length):=⟨imgT_in hA sym args _ (Nat.le_refl _),imgT_sort a sym args _ (Nat.le_refl _)⟩
def idxM:Nat→List (List Int)→List (Int×Int)
 | _,[]=>[]
 | n,s::r=>(maskI s,(n:Int))::idxM (n+1) r
theorem idxM_snoc (s:List Int):∀(n:Nat) (out:List (List Int)),idxM n (out++[s])=idxM n out++[(maskI s,((n+out.length:Nat):Int))]
 | n,[]=>rfl
 | n,x::r=>by
  rw[List.cons_append,idxM,idxM,idxM_snoc s (n+1) r,List.cons_append,List.length_cons,show n+1+r.length=n+(r.length+1) by omega]
theorem findM_idx {s:List Int} (hs:SetOk s):∀(n:Nat) (out:List (List Int)),(∀x∈out,SetOk x)→findM (idxM n out) (maskI s)=if s∈out then some ((n+out.idxOf s:Nat):Int) else none
 | n,[],_=>rfl
 | n,x::r,h=>by
  have ih:=findM_idx hs (n+1) r fun y hy=>h y (List.mem_cons_of_mem _ hy)
  by_cases hx:x=s
  ·subst hx
   simp[findM,idxM]
  ·have hm:¬maskI x=maskI s:=fun e=>hx (mask_inj (h x List.mem_cons_self) hs e)
   have e:findM (idxM n (x::r)) (maskI s)=findM (idxM (n+1) r) (maskI s):=by
    unfold findM
    rw[idxM,List.find?_cons_of_neg (by simpa using hm)]
   rw[e,ih,List.idxOf_cons,show (x==s)=false from by simpa using hx,cond_false]
   by_cases hr:s∈r
   ·rw[if_pos hr,if_pos (List.mem_cons_of_mem _ hr)]
    congr 2;omega
   ·rw[if_neg hr,if_neg (fun h1=>(List.mem_cons.1 h1).elim (fun e=>hx e.symm) hr)]
theorem capF_fix {a:AutoT} {sets:List (List Int)} (h16:sets.length≤16):∀E:List (Nat×List Int),(capF (imgI a) sets E sets).2=true→(capF (imgI a) sets E sets).1.length=sets.length→∀e∈E,imgT a e.1 (lstS sets e.2) a.rules.length∈sets
 | [],_,_=>fun e he=>by cases he
 | (f,l)::es,h,hl=>by
  have hc:=capF_cons a sets f l es sets
  obtain⟨r',hr'⟩:=addQ_pre sets (imgT a f (lstS sets l) a.rules.length)
  have hmem:=addQ_mem sets (imgT a f (lstS sets l) a.rules.length)
  by_cases h17:16<(addQ sets (imgT a f (lstS sets l) a.rules.length)).length
  ·rw[if_pos h17] at hc
   rw[hc] at h
   cases h
  ·rw[if_neg h17] at hc
   rw[hc] at h hl
   obtain⟨r,hr⟩:=capF_pre (I:=imgI a) (sets:=sets) es (addQ sets (imgT a f (lstS sets l) a.rules.length))
   have he:addQ sets (imgT a f (lstS sets l) a.rules.length)=sets:=by
    rw[hr,hr',List.length_append,List.length_append] at hl
    have:r'=[]:=List.length_eq_zero_iff.1 (by omega)
    rw[hr',this,List.append_nil]
   rw[he] at h hl hmem
   intro e hm
   rcases List.mem_cons.1 hm with rfl|hm
   ·exact hmem
   ·exact capF_fix h16 es h hl e hm
theorem trP_trS {a:AutoT} {sets:List (List Int)}:∀E:List (Nat×List Int),(∀e∈E,imgT a e.1 (lstS sets e.2) a.rules.length∈sets)→trP a sets E=trS (imgI a) sets E
 | [],_=>rfl
 | e::es,h=>by
  have ih:=trP_trS es fun x hx=>h x (List.mem_cons_of_mem _ hx)
  have hm:=h e List.mem_cons_self
  have e1:trS (imgI a) sets (e::es)=trE e (sets.idxOf (imgT a e.1 (lstS sets e.2) a.rules.length))::trS (imgI a) sets es:=rfl
  have e2:trP a sets (e::es)=⟨(e.1:Int),e.2,plcS sets (imgT a e.1 (lstS sets e.2) a.rules.length)⟩::trP a sets es:=rfl
  rw[e1,e2,ih]
  unfold plcS
  rw[if_pos hm]
  rfl
theorem iterS_fix {I:Nat→List (List Int)→Option (List Int)} {rs:List Int}:∀ {k:Nat} {sets s:List (List Int)},sets.length≤16→iterS I rs k sets=some s→s.length≤16∧(capF I s (evL rs s.length) s).2=true∧(capF I s (evL rs s.length) s).1.length=s.length
 | 0,_,_,_,h=>by cases h
 | k+1,sets,s,h16,h=>by
  unfold iterS at h
  split at h
  ·rename_i h1
   split at h
   ·rename_i h2
    cases h
    exact⟨h16,h1,h2⟩
   ·exact iterS_fix (capF_len _ _ h16 h1) h
  ·cases h
theorem sureR_prog {rs:List Int} {a:AutoT} (hA:AutoOkP rs a):sureR rs a=match iterR (imgI a) 300 rs 18 [] with
  | none=>(⟨0,[],[]⟩,false)
  | some (s,ru)=>(⟨(s.length:Int),ru,finS a s s.length⟩,true):=by
 have hrs:∀f<rs.length,0≤rs.getD f default:=fun f hf=>(hA.1.1.2 f hf).1
 rw[iter_eq (imgI_some a) hrs 18 [] (by simp)]
 have hT:=iterT_eq (I:=imgI a) (rs:=rs) 18 []
 cases hS:iterS (imgI a) rs 18 [] with
 | none =>
  have h2:=hT.1 hS
  rw[sureR_ok hA (s:=(iterT (imgI a) rs 18 []).1) (b:=(iterT (imgI a) rs 18 []).2) rfl,if_neg (by rw[h2];simp)]
 | some s =>
  rw[sureR_ok hA (hT.2 s hS)]
  obtain⟨h1,h2,h3⟩:=iterS_fix (by simp) hS
  simp only
  by_cases h0:s=[]
  ·rw[if_neg (by simp[h0]),if_pos (.inl h0)]
  ·have hpos:0<s.length:=List.length_pos_iff.2 h0
   by_cases hm:300<(evL rs s.length).length
   ·rw[if_neg (fun h=>by omega),if_pos (.inr hm)]
   ·rw[if_pos ⟨decide_eq_true hpos,by omega⟩,if_neg (fun h=>h.elim h0 hm),trP_trS _ (capF_fix h1 _ h2 h3)]
end
section
attribute [local irreducible] SW runL runQ runG runQG FC Ret1 RetN toF redoL
theorem bits_u32:IntKind.bits .u32=32:=rfl
attribute [local go_sem] bits_u32
def kp142:List (Nat×List Nat):=[(0,[0,1]),(1,[4])]
attribute [go_sem] kp142 Try.results142 Try.ntmps142
theorem has_fc (s:List Int) (hs:InS s) (q:Int) (h0:0≤q) (h1:q<16):FC S 142 [] [] [] [.int .u32 (maskI s),.int .i64 q] (.bool (tst (q∈s))) [] []:=by
 have h:=mask_has hs h0 h1
 refine fcb Try.func142 fun B=>?_
 repeat' first|refine sw_n ?_|refine sw_go 0 kp142 fun K hK=>?_|refine fun (K:KT) (hK:KOk S 0 _ _ _ K)=>?_|refine runL_g ?_|refine sw_retg0 ?_|refine sw_retg ?_|(refine hK.n0 ?_;clear hK K)|refine sw_loopEnd ?_|with_reducible refine and_o ?_|apply tTT
 exact h
def kp96:List (Nat×List Nat):=[(0,[0]),(1,[0,3]),(2,[3,6,7,8]),(3,[3,6,7,8,9]),(4,[3,5,6,7,8]),(5,[3,6,7,8]),(6,[3,6,7,8]),(7,[2])]
attribute [go_sem] kp96 Try.results96 Try.ntmps96
theorem setOf_fc (tk:Tk) (s:List Int) (hs:InS s):FC S 96 [] [] [] [.sl tk (s.map (.int .i64))] (.int .u32 (maskI s)) [] []:=by
 refine FC.args (args':=[.sl .any (s.map (.int .i64))]) ?_ (by simp only[go_sem])
 refine fcb Try.func96 fun B=>?_
 refine sw_bndg 0 fun hb0=>?_
 repeat' first|exact h.elim|refine sw_n ?_|refine sw_go 0 kp96 fun K hK=>?_|refine fun (K:KT) (hK:KOk S 0 _ _ _ K)=>?_|refine runL_g ?_|refine sw_retg0 ?_|refine sw_retg ?_|(refine hK.n0 ?_;clear hK K)|refine sw_condg rfl (fun h=>?_) fun h=>?_|refine sw_exit rfl ?_|refine sw_loopEnd ?_|with_reducible refine and_o ?_|apply tTT
 refine sw_loopU (ι:=Nat) (fun p=>[(8,.int .i64 p),(3,.int .u32 (maskI (s.take p)))]) (fun p=>[]) (fun p=>p≤s.length) (fun p=>s.length-p) 0 cvB ?_ (fun p hp=>?_)
 rotate_left
 simp only[go_sem]
 have hq:p<s.length→0≤s.getD p default∧s.getD p default<16:=fun h=>hs _ (getD_mem s p h)
 repeat' first|exact h.elim|refine sw_n ?_|refine sw_go 0 kp96 fun K hK=>?_|refine fun (K:KT) (hK:KOk S 0 _ _ _ K)=>?_|refine runL_g ?_|refine sw_retg0 ?_|refine sw_retg ?_|(refine hK.n0 ?_;clear hK K)|refine sw_condg rfl (fun h=>?_) fun h=>?_|refine sw_exit rfl ?_|refine sw_loopEnd ?_|with_reducible refine and_o ?_|apply tTT
 ·have hpl:p<s.length:=by omega
  have hin:InS (s.take p):=fun x hx=>hs x (List.mem_of_mem_take hx)
  have e:=mask_snoc hin (hq hpl).1 (hq hpl).2
  have e2:s.take (p+1)=s.take p++[s.getD p default]:=by rw[List.take_succ_eq_append_getElem hpl];simp[List.getD,hpl]
  exact⟨p+1,(by rw[e,←e2];(refine covers_mk0 rfl rfl ?_ ?_ ?_ ?_<;>simp (disch:=(refine Om.mk ?_;omega)) only[go_sem]<;>(try omega));all_goals exact⟨rfl,by omega⟩),by omega,by omega⟩
 ·rw[List.take_of_length_le (by omega)]
 ·omega
def kp118:List (Nat×List Nat):=[(0,[1,2,3]),(1,[1,2,3,7]),(2,[1,2,7,14,15,16]),(3,[1,2,7,14,15,16,17]),(4,[1,2,7,9,14,15,16]),(5,[1,2,7,9,14,15,16,23]),(6,[1,2,7,9,10,14,15,16]),(7,[1,2,7,9,10,14,15,16,25,26,27]),(8,[1,2,7,9,10,14,15,16,25,26,27,28]),(9,[1,2,7,9,10,11,12,14,15,16,25,26,27]),(10,[1,2,7,9,10,14,15,16,25,26,27]),(11,[1,2,7,9,10,14,15,16,25,26,27]),(12,[1,2,7,9,14,15,16,42]),(13,[1,2,7,14,15,16]),(14,[1,2,7,14,15,16]),(15,[6])]
attribute [go_sem] kp118 Try.results118 Try.ntmps118
theorem reaches_fc (tk:Tk) (rs:List Int) (a:AutoT) (hA:AutoOkP rs a) (sym:Int) (args:List (List Int)) (hn:args.length≤100) (hin:∀s∈args,InS s) (hf:∀i<a.rules.length,(a.rules.getD i default).sym=sym→(a.rules.getD i default).args.length=args.length):FC S 118 [] [] [] [AutoD a,.int .i64 sym,.sl tk (args.map fun s=>.int .u32 (maskI s))] (.int .u32 (maskI (imgT a sym args a.rules.length))) [] []:=by
 have hr:=hA.1.2.2.1
 refine FC.args (args':=[AutoD a,.int .i64 sym,.sl .any (args.map fun s=>.int .u32 (maskI s))]) ?_ (by simp only[go_sem])
 refine fcb Try.func118 fun B=>?_
 refine sw_bndg 2 fun hb2=>?_
 repeat' first|exact h.elim|refine sw_n ?_|refine sw_go 0 kp118 fun K hK=>?_|refine fun (K:KT) (hK:KOk S 0 _ _ _ K)=>?_|refine runL_g ?_|refine sw_retg0 ?_|refine sw_retg ?_|(refine hK.n0 ?_;clear hK K)|refine runG_fk (fun h=>?_) fun h=>?_|refine sw_condg rfl (fun h=>?_) fun h=>?_|refine hK.skp rfl rfl ?_|refine sw_exit rfl ?_|refine sw_loopEnd ?_|(refine hK.fork rfl rfl rfl ?_ ?_<;>intro h<;>try simp (disch:=(refine Om.mk ?_;omega)) only[go_sem] at h)|with_reducible refine and_o ?_|apply tTT
 refine sw_loopU (ι:=Nat) (fun p=>[(16,.int .i64 p),(7,.int .u32 (maskI (imgT a sym args p)))]) (fun p=>[]) (fun p=>p≤a.rules.length) (fun p=>a.rules.length-p) 0 cvB ?_ (fun p hp=>?_)
 rotate_left
 simp only[go_sem]
 have hs:=fun h=>imgT_succ a sym args (i:=p) h
 have hI:=imgT_in hA sym args p hp
 have hst:=hA.1.2.1
 have hf:=hf p
 have hto:=fun h=>(hA.2 p h).1.2.2.1
 have hir:=fun h=>(hA.2 p h).1.2.2.2
 repeat' first|exact h.elim|refine sw_n ?_|refine sw_go 0 kp118 fun K hK=>?_|refine fun (K:KT) (hK:KOk S 0 _ _ _ K)=>?_|refine runL_g ?_|refine sw_retg0 ?_|refine sw_retg ?_|(refine hK.n0 ?_;clear hK K)|refine runG_fk (fun h=>?_) fun h=>?_|refine sw_condg rfl (fun h=>?_) fun h=>?_|refine hK.skp rfl rfl ?_|refine sw_exit rfl ?_|refine sw_loopEnd ?_|(refine hK.fork rfl rfl rfl ?_ ?_<;>intro h<;>try simp (disch:=(refine Om.mk ?_;omega)) only[go_sem] at h)|with_reducible refine and_o ?_|apply tTT
 ·have hnf:¬((a.rules.getD p default).sym=sym∧FitA (a.rules.getD p default) args):=fun e=>by first|exact h e.1|exact absurd e.1 h|omega
  exact⟨p+1,(by rw[hs (by omega),imgS_no hnf];(refine covers_mk0 rfl rfl ?_ ?_ ?_ ?_<;>simp (disch:=(refine Om.mk ?_;omega)) only[go_sem]<;>(try omega));all_goals exact⟨rfl,by omega⟩),by omega,by omega⟩
 ·generalize hrd:a.rules.getD p default=r at *
  have hsy:r.sym=sym:=by first|assumption|omega
  have hlen:=hf (by omega) hsy
  have hir:=hir (by omega)
  have hto:=hto (by omega)
  refine sw_loopT (ι:=Nat) (fun k=>[(27,.int .i64 k),(10,.bool (tst (∀j<k,r.args.getD j default∈args.getD j default)))]) (fun _=>[]) (fun _=>[]) (fun k=>k≤args.length) (fun k=>args.length-k) 0 (by(refine covers_mk0 rfl rfl ?_ ?_ ?_ ?_<;>simp (disch:=(refine Om.mk ?_;omega)) only[go_sem]<;>(try omega));all_goals exact⟨fun j hj=>absurd hj (by omega),rfl⟩) (by omega) (fun k hk=>?_)
  simp only[go_sem]
  by_cases hkl:k<args.length
  ·have hq:=hir k (by omega)
   repeat' first|exact h.elim|(exfalso;omega)|refine sw_n ?_|refine sw_go 0 kp118 fun K hK=>?_|refine fun (K:KT) (hK:KOk S 0 _ _ _ K)=>?_|refine runL_g ?_|refine sw_retg0 ?_|refine sw_retg ?_|(refine hK.n0 ?_;clear hK K)|refine runG_fk (fun h=>?_) fun h=>?_|refine sw_condg rfl (fun h=>?_) fun h=>?_|refine hK.skp rfl rfl ?_|refine sw_exit rfl ?_|refine sw_loopEnd ?_|refine hK.c1 rfl rfl rfl (has_fc (args.getD k default) (hin _ (getD_mem args k hkl)) (r.args.getD k default) hq.1 (by omega)) ?_|(refine hK.fork rfl rfl rfl ?_ ?_<;>intro h<;>try simp (disch:=(refine Om.mk ?_;omega)) only[go_sem] at h)|with_reducible refine and_o ?_|apply tTT
   ·exact⟨k+1,(by(refine covers_mk0 rfl rfl ?_ ?_ ?_ ?_<;>simp (disch:=(refine Om.mk ?_;omega)) only[go_sem]<;>(try omega));refine⟨⟨fun hm=>upto_succ h hm,fun hm=>hm k (by omega)⟩,?_⟩;omega),by omega,by omega⟩
   ·have e:tst (∀j<k+1,r.args.getD j default∈args.getD j default)=false:=tst_false fun e=>h fun j hj=>e j (by omega)
    exact⟨k+1,(by rw[e];(refine covers_mk0 rfl rfl ?_ ?_ ?_ ?_<;>simp (disch:=(refine Om.mk ?_;omega)) only[go_sem]<;>(try omega));all_goals exact⟨rfl,by omega⟩),by omega,by omega⟩
  ·repeat' first|exact h.elim|(exfalso;omega)|refine sw_n ?_|refine sw_go 0 kp118 fun K hK=>?_|refine fun (K:KT) (hK:KOk S 0 _ _ _ K)=>?_|refine runL_g ?_|refine sw_retg0 ?_|refine sw_retg ?_|(refine hK.n0 ?_;clear hK K)|refine runG_fk (fun h=>?_) fun h=>?_|refine sw_condg rfl (fun h=>?_) fun h=>?_|refine hK.skp rfl rfl ?_|refine sw_exit rfl ?_|refine sw_loopEnd ?_|(refine hK.fork rfl rfl rfl ?_ ?_<;>intro h<;>try simp (disch:=(refine Om.mk ?_;omega)) only[go_sem] at h)|with_reducible refine and_o ?_|apply tTT
   ·have hF:r.sym=sym∧FitA r args:=⟨hsy,fun j hj=>h j (by omega)⟩
    have e:=mask_into hI hto.1 (show r.to<16 by omega)
    exact⟨p+1,(by rw[hs (by omega),imgS_yes hF,e];(refine covers_mk0 rfl rfl ?_ ?_ ?_ ?_<;>simp (disch:=(refine Om.mk ?_;omega)) only[go_sem]<;>(try omega));all_goals exact⟨rfl,by omega⟩),by omega,by omega⟩
   ·have hnf:¬(r.sym=sym∧FitA r args):=fun e=>h fun j hj=>e.2 j (by omega)
    exact⟨p+1,(by rw[hs (by omega),imgS_no hnf];(refine covers_mk0 rfl rfl ?_ ?_ ?_ ?_<;>simp (disch:=(refine Om.mk ?_;omega)) only[go_sem]<;>(try omega));all_goals exact⟨rfl,by omega⟩),by omega,by omega⟩
 ·rw[show p=a.rules.length by omega]
 ·omega
end
end Go.Proofs.Ytjaicibmmcpeiaa
