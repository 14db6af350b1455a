/-
  N1p, S2a, N3, A28c, one behind the other.
-/
import Derived.Test.YtkfkdgginfpdnaaGreatDoorG1
import Derived.Test.YtkfkdgginfpdnaaGreatDoorG3
import Derived.Test.YtkfkdgginfpdnaaGreatDoorG2
import Derived.Test.YtkfkdgginfpdnaaGreatDoorG0
import Derived.Test.YtkfkdgginfpdnaaGreatDoorLgK10
namespace Go.Proofs.YtkfkdgginfpdnaaGreatDoor
open Go Go.Lg
set_option linter.unusedSimpArgs false
set_option linter.unusedVariables false
set_option maxHeartbeats 4000000
section
attribute [local irreducible] SW runL runQ runG runQG FC Ret1 RetN toF redoL
structure FormT where
 head:Int
 args:List Int
 deriving Inhabited,DecidableEq
def formD (x:FormT):D:=.agg [.int .i64 x.head,.sl .any (x.args.map (.int .i64))]
noncomputable def argF (rs:List Int) (SH:List (List Int)) (t:List Int) (q:Nat):Int:=if 0≤t.getD q default then placeI (ren0 (subS rs t q)) SH else -1
noncomputable def formR (rs:List Int) (SH:List (List Int)) (t:List Int):FormT:=⟨t.getD 0 default,(argsS rs t 0).map (argF rs SH t)⟩
def FitF (x:FormT) (f:Int) (args:List (List Int)):Prop:=x.head=f∧∀j<x.args.length,0≤x.args.getD j default→x.args.getD j default∈args.getD j default
def FullP (rs:List Int) (SH:List (List Int)) (t:List Int):Prop:=∀q∈argsS rs t 0,0≤t.getD q default→ren0 (subS rs t q)∈SH
theorem addS_has (Q:List (List Int)) (t:List Int):t∈addS Q t∧∀x∈Q,x∈addS Q t:=by
 unfold addS
 split
 ·exact⟨by assumption,fun x hx=>hx⟩
 ·exact⟨by simp,fun x hx=>List.mem_append_left _ hx⟩
theorem addS_of {Q:List (List Int)} {t x:List Int} (h:x∈addS Q t):x∈Q∨x=t:=by
 unfold addS at h
 split at h
 ·exact .inl h
 ·rcases List.mem_append.1 h with h|h
  ·exact .inl h
  ·exact .inr (List.mem_singleton.1 h)
theorem shpM_sub {rs l:List Int} {P:List (List Int)}:∀n,∀x∈P,x∈shpM rs l P n
 | 0,x,h=>h
 | n+1,x,h=>by
  have ih:=shpM_sub (rs:=rs) (l:=l) n x h
  unfold shpM
  split
  ·exact(addS_has _ _).2 _ ih
  ·exact ih
theorem shpM_has {rs l:List Int} {P:List (List Int)}:∀n p,1≤p→p≤n→0≤l.getD p default→ren0 (subS rs l p)∈shpM rs l P n
 | 0,p,h1,h2,_=>by omega
 | n+1,p,h1,h2,h3=>by
  by_cases e:p=n+1
  ·subst e
   unfold shpM
   rw[if_pos h3]
   exact(addS_has _ _).1
  ·have ih:=shpM_has (rs:=rs) (l:=l) (P:=P) n p h1 (by omega) h3
   unfold shpM
   split
   ·exact(addS_has _ _).2 _ ih
   ·exact ih
theorem shpM_of {rs l:List Int} {P:List (List Int)}:∀n,∀x∈shpM rs l P n,x∈P∨∃p,1≤p∧p≤n∧0≤l.getD p default∧x=ren0 (subS rs l p)
 | 0,x,h=>.inl h
 | n+1,x,h=>by
  unfold shpM at h
  split at h
  ·rename_i h0
   rcases addS_of h with h|h
   ·rcases shpM_of n x h with h|⟨p,h1,h2,h3,h4⟩
    ·exact .inl h
    ·exact .inr ⟨p,h1,by omega,h3,h4⟩
   ·exact .inr ⟨n+1,by omega,Nat.le_refl _,h0,h⟩
  ·rcases shpM_of n x h with h|⟨p,h1,h2,h3,h4⟩
   ·exact .inl h
   ·exact .inr ⟨p,h1,by omega,h3,h4⟩
theorem shpA_has {rs:List Int} {ls:List (List Int)}:∀n i,i<n→∀p,1≤p→p<(ls.getD i default).length→0≤(ls.getD i default).getD p default→ren0 (subS rs (ls.getD i default) p)∈shpA rs ls n
 | 0,i,h,_,_,_,_=>by omega
 | n+1,i,h,p,h1,h2,h3=>by
  unfold shpA
  by_cases e:i=n
  ·subst e
   exact shpM_has _ p h1 (by omega) h3
  ·exact shpM_sub _ _ (shpA_has n i (by omega) p h1 h2 h3)
theorem shpA_of {rs:List Int} {ls:List (List Int)}:∀n,∀x∈shpA rs ls n,∃i p,i<n∧1≤p∧p<(ls.getD i default).length∧0≤(ls.getD i default).getD p default∧x=ren0 (subS rs (ls.getD i default) p)
 | 0,x,h=>by cases h
 | n+1,x,h=>by
  unfold shpA at h
  rcases shpM_of _ x h with h|⟨p,h1,h2,h3,h4⟩
  ·obtain⟨i,p,h0,h⟩:=shpA_of n x h
   exact⟨i,p,by omega,h⟩
  ·refine⟨n,p,by omega,h1,?_,h3,h4⟩
   omega
theorem idx_injN:∀ {s:List Int} {n m:Int},n∈s→m∈s→s.idxOf n=s.idxOf m→n=m
 | [],_,_,hn,_,_=>by cases hn
 | x::s,n,m,hn,hm,e=>by
  rw[List.idxOf_cons,List.idxOf_cons] at e
  by_cases h1:x=n
  ·by_cases h2:x=m
   ·rw[←h1,h2]
   ·rw[beq_iff_eq.2 h1,beq_eq_false_iff_ne.2 h2] at e
    simp at e
  ·by_cases h2:x=m
   ·rw[beq_iff_eq.2 h2,beq_eq_false_iff_ne.2 h1] at e
    simp at e
   ·rw[beq_eq_false_iff_ne.2 h1,beq_eq_false_iff_ne.2 h2] at e
    simp only[cond_false,Nat.add_right_cancel_iff] at e
    exact idx_injN ((List.mem_cons.1 hn).resolve_left (fun h=>h1 h.symm)) ((List.mem_cons.1 hm).resolve_left (fun h=>h2 h.symm)) e
theorem code_signN (s:List Int) (n:Int):0≤codeI s n↔0≤n:=by
 unfold codeI
 split<;>omega
theorem code_injN {s:List Int} {n m:Int} (hn:n<0→n∈s) (hm:m<0→m∈s) (e:codeI s n=codeI s m):n=m:=by
 unfold codeI at e
 split at e<;>split at e
 ·exact e
 ·omega
 ·omega
 ·exact idx_injN (hn (by omega)) (hm (by omega)) (by omega)
theorem scan_map {rs:List Int} {f:Int→Int}:∀(t:List Int) (need:Int) (i:Nat),(∀n∈t,arS rs (f n)=arS rs n)→scan rs (t.map f) need i=scan rs t need i
 | [],_,_,_=>rfl
 | n::t,need,i,h=>by
  have h0:=h n List.mem_cons_self
  have ih:=fun need i=>scan_map (rs:=rs) (f:=f) t need i fun m hm=>h m (List.mem_cons_of_mem _ hm)
  simp only[List.map_cons,scan,h0,ih]
theorem endS_map {rs t:List Int} {f:Int→Int} (h:∀n∈t,arS rs (f n)=arS rs n) (a:Nat):endS rs (t.map f) a=endS rs t a:=by
 unfold endS
 rw[←List.map_drop]
 exact scan_map _ _ _ fun n hn=>h n (List.mem_of_mem_drop hn)
theorem begS_map {rs t:List Int} {f:Int→Int} (h:∀n∈t,arS rs (f n)=arS rs n):∀k a,begS rs (t.map f) k a=begS rs t k a
 | 0,a=>rfl
 | k+1,a=>by
  simp only[begS,endS_map h,begS_map h k]
theorem subS_map {rs t:List Int} {f:Int→Int} (h:∀n∈t,arS rs (f n)=arS rs n) (a:Nat):subS rs (t.map f) a=(subS rs t a).map f:=by
 unfold subS
 rw[endS_map h,←List.map_take,←List.map_drop]
theorem getD_mapf {t:List Int} {f:Int→Int} {a:Nat} (h:a<t.length):(t.map f).getD a default=f (t.getD a default):=by
 simp[List.getD,h]
theorem argsS_map {rs t:List Int} {f:Int→Int} (h:∀n∈t,arS rs (f n)=arS rs n) {a:Nat} (ha:a<t.length):argsS rs (t.map f) a=argsS rs t a:=by
 unfold argsS
 rw[getD_mapf ha,h _ (getD_mem t a ha),begS_map h]
theorem code_ar {rs u:List Int} (h:TermOkP rs u):∀n∈u,arS rs (codeI (seenS [] u) n)=arS rs n:=fun n hn=>by
 have hl:=seen0_len h.ge
 unfold codeI
 split
 ·rfl
 ·rename_i h0
  have:=List.idxOf_lt_length_of_mem (seenS_mem u [] n hn (by omega))
  rw[arS_var ⟨h.ge n hn,by omega⟩,arS_var ⟨by omega,by omega⟩]
theorem ren0_sub {u v:List Int} (h:∀n∈v,n∈u):ren0 (v.map (codeI (seenS [] u)))=ren0 v:=by
 have h:=renL_map (f:=codeI (seenS [] u)) v [] (fun n _=>code_signN _ n) (fun n hn m hm e=>code_injN (fun h0=>seenS_mem u [] n (h n (by simpa using hn)) h0) (fun h0=>seenS_mem u [] m (h m (by simpa using hm)) h0) e) (fun n _ h0=>by unfold codeI;rw[if_pos h0])
 simp only[renL,List.map_nil,List.cons.injEq] at h
 exact h.1
theorem mem_sub {rs t:List Int} {a:Nat}:∀n∈subS rs t a,n∈t:=fun n hn=>by
 unfold subS at hn
 exact List.mem_of_mem_take (List.mem_of_mem_drop hn)
theorem full_left {rs:List Int} {ls:List (List Int)} (hT:∀i<ls.length,TermOkP rs (ls.getD i default)) {SH:List (List Int)} (hS:∀x,x∈SH↔x∈shpA rs ls ls.length) {i:Nat} (hi:i<ls.length):FullP rs SH (ls.getD i default):=fun q hq h0=>by
 have h1:=argsS_lt (hT i hi) (a:=0) (by have:=(hT i hi).2.1.1;omega) q hq
 exact(hS _).2 (shpA_has _ i hi q (by omega) h1.2 h0)
theorem full_shape {rs:List Int} {ls:List (List Int)} (hT:∀i<ls.length,TermOkP rs (ls.getD i default)) {SH:List (List Int)} (hS:∀x,x∈SH↔x∈shpA rs ls ls.length):∀t∈SH,TermOkP rs t∧FullP rs SH t∧t.length≤60:=fun t ht=>by
 obtain⟨i,p,hi,h1,h2,h3,rfl⟩:=shpA_of _ t ((hS t).1 ht)
 have hl:=hT i hi
 have key:=fun p=>shpA_has (rs:=rs) (ls:=ls) ls.length i hi p
 generalize ls.getD i default=l at *
 have hu:=subS_ok hl h2
 have hok:=ren0_ok hu
 refine⟨hok,fun q hq h0=>?_,hok.2.1.2⟩
 have har:=code_ar hu
 have hul:0<(subS rs l p).length:=by have:=hu.2.1.1;omega
 rw[show ren0 (subS rs l p)=(subS rs l p).map (codeI (seenS [] (subS rs l p))) from rfl] at hq h0 ⊢
 rw[argsS_map har hul] at hq
 have hq2:=argsS_lt hu hul q hq
 rw[getD_mapf hq2.2,code_signN] at h0
 rw[subS_map har,ren0_sub fun n hn=>mem_sub n hn]
 obtain⟨j,hj,rfl⟩:=List.getElem_of_mem hq
 have hjl:j<(arS rs ((subS rs l p).getD 0 default)).toNat:=by rw[←argsS_len];exact hj
 have hg:=argsS_get rs (subS rs l p) 0 j hjl
 rw[List.getD_eq_getElem?_getD,List.getElem?_eq_getElem hj,Option.getD_some] at hg
 obtain⟨s1,s2⟩:=sub_sub hl h2
 rw[s1] at hjl
 have hs:=s2 j hjl
 rw[hg] at h0 hq2 ⊢
 have hq3:nthB rs l (p+1) j∈argsS rs l p:=by
  rw[←argsS_get rs l p j hjl]
  exact getD_mem _ _ (by rw[argsS_len];exact hjl)
 have hq4:=argsS_lt hl h2 _ hq3
 rw[hs]
 refine(hS _).2 (key _ (by omega) hq4.2 ?_)
 have e1:=(sub_sub hu hq2.2).1
 have e2:=(sub_sub hl hq4.2).1
 rw[hs] at e1
 rw[←e2,e1]
 exact h0
open Classical in
noncomputable def fitsL (SF:List FormT) (f:Int) (args:List (List Int)) (i:Nat):List Int:=((List.range i).filter fun j=>decide (FitF (SF.getD j default) f args)).map fun (j:Nat)=>(j:Int)
open Classical in
theorem fitsL_yes {SF:List FormT} {f:Int} {args:List (List Int)} {i:Nat} (h:FitF (SF.getD i default) f args):fitsL SF f args (i+1)=fitsL SF f args i++[(i:Int)]:=by
 unfold fitsL
 have e:([i].filter fun j=>decide (FitF (SF.getD j default) f args))=[i]:=by
  rw[List.filter_cons,if_pos (decide_eq_true h)];rfl
 rw[List.range_succ,List.filter_append,List.map_append,e]
 rfl
open Classical in
theorem fitsL_no {SF:List FormT} {f:Int} {args:List (List Int)} {i:Nat} (h:¬FitF (SF.getD i default) f args):fitsL SF f args (i+1)=fitsL SF f args i:=by
 unfold fitsL
 have e:([i].filter fun j=>decide (FitF (SF.getD j default) f args))=[]:=by
  rw[List.filter_cons,if_neg (by simpa using h)];rfl
 rw[List.range_succ,List.filter_append,List.map_append,e]
 simp
open Classical in
theorem fitsL_len (SF:List FormT) (f:Int) (args:List (List Int)) (i:Nat):(fitsL SF f args i).length≤i:=by
 unfold fitsL
 rw[List.length_map]
 exact Nat.le_trans (List.length_filter_le _ _) (by simp)
open Classical in
theorem fitsL_rng {SF:List FormT} {f:Int} {args:List (List Int)} {i:Nat}:∀x∈fitsL SF f args i,0≤x∧x<i:=fun x hx=>by
 unfold fitsL at hx
 obtain⟨j,hj,rfl⟩:=List.mem_map.1 hx
 have:=List.mem_range.1 (List.mem_filter.1 hj).1
 omega
open Classical in
noncomputable def imgN (LF SF:List FormT) (f:Nat) (args:List (List Int)):Option (List Int):=if ∃x∈LF,FitF x (f:Int) args then none else some (fitsL SF (f:Int) args SF.length)
end
section
attribute [local irreducible] SW runL runQ runG runQG FC Ret1 RetN toF redoL anyB
theorem lst_snoc (sets:List (List Int)) {l:List Int} {i:Nat} (hi:i<l.length):lstS sets (l.take (i+1))=lstS sets (l.take i)++[sets.getD (l.getD i default).toNat default]:=by
 have e:l.take (i+1)=l.take i++[l.getD i default]:=by
  rw[List.take_add_one,List.getElem?_eq_getElem hi,List.getD_eq_getElem?_getD,List.getElem?_eq_getElem hi];rfl
 rw[e]
 simp only[lstS,List.map_append,List.map_cons,List.map_nil]
theorem lst_len (sets:List (List Int)) (l:List Int):(lstS sets l).length=l.length:=by simp[lstS]
def kp49:List (Nat×List Nat):=[(0,[0,1]),(1,[0,1,5]),(2,[0,1,5,6]),(3,[0,1,5,6,11]),(5,[0,1,5,6]),(4,[0,1,5,6]),(6,[4])]
attribute [go_sem] kp49 Tryz.results49 Tryz.ntmps49
theorem l23Listed_fc (tk tk1:Tk) (sets:List (List Int)) (l:List Int) (hl:l.length≤100) (hi:∀i<l.length,0≤l.getD i default∧l.getD i default<sets.length):FC S 49 [] [] [] [.sl tk (sets.map IntsD),.sl tk1 (l.map (.int .i64))] (.sl .any ((lstS sets l).map IntsD)) [] []:=by
 refine FC.args (args':=[.sl .any (sets.map IntsD),.sl .any (l.map (.int .i64))]) ?_ (by simp only[go_sem])
 refine fcb Tryz.func49 fun B=>?_
 refine sw_bndg 1 fun hb1=>?_
 repeat' first|exact h.elim|refine sw_n ?_|refine sw_go 0 kp49 fun K hK=>?_|refine fun (K:KT) (hK:KOk S 0 _ _ _ K)=>?_|refine runL_g ?_|refine sw_retg0 ?_|refine sw_retg ?_|(refine hK.n0 ?_;clear hK K)|refine sw_condg rfl (fun h=>?_) fun h=>?_|refine sw_exit rfl ?_|refine sw_loopEnd ?_|with_reducible refine and_o ?_|((with_reducible refine And.intro ?_ ?_);· first|(intro x hx;subst hx;rfl)|(intro x;refine And.intro ?_ ?_<;>(intros;subst_vars;rfl)))|apply tTT
 refine sw_tok 5 24000 22 1 rfl (.inr rfl) rfl ?_
 simp only[go_sem]
 refine sw_loopT (ι:=Nat) (fun i=>[(6,.int .i64 i),(5,.sl (.own 24000 22 1) ((lstS sets (l.take i)).map IntsD))]) (fun _=>[]) (fun _=>[24000]) (fun i=>i≤l.length) (fun i=>l.length-i) 0 cvB (by omega) (fun i hi2=>?_)
 simp only[go_sem]
 have hll:=lst_len sets (l.take i)
 rw[List.length_take] at hll
 by_cases hlt:i<l.length
 ·have hx:=hi i hlt
  have hs:=lst_snoc sets hlt
  repeat' first|exact h.elim|(exfalso;omega)|refine sw_n ?_|refine sw_go 0 kp49 fun K hK=>?_|refine fun (K:KT) (hK:KOk S 0 _ _ _ K)=>?_|refine runL_g ?_|refine sw_retg0 ?_|refine sw_retg ?_|(refine hK.n0 ?_;clear hK K)|refine sw_condg rfl (fun h=>?_) fun h=>?_|refine sw_exit rfl ?_|refine sw_loopEnd ?_|with_reducible refine and_o ?_|((with_reducible refine And.intro ?_ ?_);· first|(intro x hx;subst hx;rfl)|(intro x;refine And.intro ?_ ?_<;>(intros;subst_vars;rfl)))|apply tTT
  exact⟨i+1,(by(refine covers_mk0 rfl rfl ?_ ?_ ?_ ?_<;>simp (disch:=(refine Om.mk ?_;omega)) only[go_sem]<;>(try omega));rw[hs,List.map_append];first|exact⟨rfl,by omega⟩|exact⟨by omega,rfl⟩),by omega,by omega⟩
 ·repeat' first|exact h.elim|(exfalso;omega)|refine sw_n ?_|refine sw_go 0 kp49 fun K hK=>?_|refine fun (K:KT) (hK:KOk S 0 _ _ _ K)=>?_|refine runL_g ?_|refine sw_retg0 ?_|refine sw_retg ?_|(refine hK.n0 ?_;clear hK K)|refine sw_condg rfl (fun h=>?_) fun h=>?_|refine sw_exit rfl ?_|refine sw_loopEnd ?_|with_reducible refine and_o ?_|((with_reducible refine And.intro ?_ ?_);· first|(intro x hx;subst hx;rfl)|(intro x;refine And.intro ?_ ?_<;>(intros;subst_vars;rfl)))|apply tTT
  rw[List.take_of_length_le (by omega)]
def evF (rs:List Int) (n f:Nat):List (Nat×List Int):=if n=0∧0<rs.getD f default then [] else (digs n (rs.getD f default).toNat).map fun l=>(f,l)
theorem capF_cap {I:Nat→List (List Int)→Option (List Int)} {sets:List (List Int)} (f:Nat) (l:List Int) (E:List (Nat×List Int)) (out:List (List Int)) (s:List Int) (hI:I f (lstS sets l)=some s):(16<(addQ out s).length→capF I sets ((f,l)::E) out=(addQ out s,false))∧(¬16<(addQ out s).length→capF I sets ((f,l)::E) out=capF I sets E (addQ out s)):=by
 have h:capF I sets ((f,l)::E) out=if 16<(stepO I sets out (f,l)).length then (stepO I sets out (f,l),false) else capF I sets E (stepO I sets out (f,l)):=rfl
 have h2:stepO I sets out (f,l)=addQ out s:=by unfold stepO;rw[hI]
 rw[h2] at h
 exact⟨fun h1=>by rw[h,if_pos h1],fun h1=>by rw[h,if_neg h1]⟩
theorem loop_next {N n:Nat} {l:List Int} {A:List (List Int)} (hl:l.length=n) (hv:∀x∈l,0≤x∧x<N) (hs:SeqD (List.replicate n (0,(N:Int)-1)) (l::A)):((nextL N l).1.length=n∧∀x∈(nextL N l).1,0≤x∧x<N)∧((nextL N l).2=true→SeqD (List.replicate n (0,(N:Int)-1)) ((nextL N l).1::A.tail)∧A=(nextL N l).1::A.tail)∧((nextL N l).2=false→A=[]):=by
 have hn1:N=0→n=0:=fun h0=>by
  cases l with
  | nil=>simpa using hl.symm
  | cons x r=>have:=hv x List.mem_cons_self;omega
 have hlen:(nextL N l).1.length=n:=by
  unfold nextL
  rw[List.length_reverse,nextR_len,List.length_reverse]
  exact hl
 have hok:=fun h=>(nextR_ok (s:=N) h (l:=l.reverse) (fun x hx=>hv x (List.mem_reverse.1 hx))).1
 have hval:∀x∈(nextL N l).1,0≤x∧x<N:=fun x hx=>by
  rcases Nat.eq_zero_or_pos N with h0|h0
  ·rw[hn1 h0] at hlen
   rw[List.length_eq_zero_iff.1 hlen] at hx
   cases hx
  ·exact hok h0 x (List.mem_reverse.1 hx)
 refine⟨⟨hlen,hval⟩,?_⟩
 rcases digs_next hl hs with⟨h1,h2⟩|⟨m,A',h1,h2⟩
 ·exact⟨fun h=>(by rw[h2] at h;cases h),fun _=>h1⟩
 ·rw[h1] at hs
  rw[h2,h1]
  exact⟨fun _=>⟨hs.2,rfl⟩,fun h=>(by cases h)⟩
theorem nx_meas {N:Nat} {l:List Int} {A:List (List Int)} {P:Prop} {Q:Prop} (h:P∧((nextL N l).2=true→Q∧A=(nextL N l).1::A.tail)∧((nextL N l).2=false→A=[])):(if (nextL N l).2=true then A.tail.length+1 else 0)<A.length+1:=by
 split
 ·rename_i h1
  have:=(h.2.1 h1).2
  have h3:=congrArg List.length this
  simp only[List.length_cons] at h3
  omega
 ·omega
theorem formR_args (rs:List Int) (SH:List (List Int)) (t:List Int):(formR rs SH t).args.length=(argsS rs t 0).length:=by simp[formR]
theorem formR_get (rs:List Int) (SH:List (List Int)) (t:List Int) {i:Nat} (h:i<(argsS rs t 0).length):(formR rs SH t).args.getD i default=argF rs SH t ((argsS rs t 0).getD i default):=by
 simp[formR,List.getD,h]
def kp95:List (Nat×List Nat):=[(0,[1,2,3,4,5]),(1,[1,2,4,5,18]),(2,[10]),(3,[1,2,4,5,11]),(4,[1,2,4,5,11,12]),(5,[1,2,4,5,11,12,25]),(7,[1,2,4,5,11,12,13]),(8,[1,2,4,5,11,12,50]),(9,[10]),(6,[1,2,4,5,11,12]),(10,[10])]
attribute [go_sem] kp95 Tryz.results95 Tryz.ntmps95
theorem l24Fits_fc (rs:List Int) (SH:List (List Int)) (p:List Int) (f:Int) (sets:List (List Int)) (hT:TermOkP rs p) (hF:FullP rs SH p) (hSH:SH.length≤1000) (hl:p.getD 0 default=f→(argsS rs p 0).length≤sets.length):FC S 95 [] [] [] [.agg [.sl .any (rs.map (.int .i64))],.sl .any (SH.map IntsD),.sl .any (p.map (.int .i64)),.int .i64 f,.sl .any (sets.map IntsD)] (.bool (tst (FitF (formR rs SH p) f sets))) [] []:=by
 have hpl:=hT.2.1
 have hp0:0<p.length:=by omega
 by_cases he:p.getD 0 default=f
 ·have hl:=hl he
  have h3:(argsS rs p 0).length≤3:=by
   rw[argsS_len]
   have:=arS_rng hT.1 (p.getD 0 default)
   omega
  have cA:=l1Args_fc .any .any rs p 0 hT hp0
  have hlt:=argsS_lt hT hp0
  have hg:=fun i (hi:i<(argsS rs p 0).length)=>formR_get rs SH p hi
  have hfit:FitF (formR rs SH p) f sets↔∀j<(argsS rs p 0).length,0≤argF rs SH p ((argsS rs p 0).getD j default)→argF rs SH p ((argsS rs p 0).getD j default)∈sets.getD j default:=by
   unfold FitF
   rw[formR_args]
   refine⟨fun h j hj h0=>?_,fun h=>⟨he,fun j hj h0=>?_⟩⟩
   ·have:=h.2 j hj;rw[hg j hj] at this;exact this h0
   ·rw[hg j hj] at h0 ⊢;exact h j hj h0
  rw[tst_congr hfit]
  generalize hA:argsS rs p 0=A at *
  refine fcb Tryz.func95 fun B=>?_
  repeat' first|exact h.elim|(exfalso;omega)|refine sw_n ?_|refine sw_go 0 kp95 fun K hK=>?_|refine fun (K:KT) (hK:KOk S 0 _ _ _ K)=>?_|refine sw_goD kp95 (by kernel_rfl) fun K hK=>?_|refine runL_g ?_|refine runQ_g ?_|refine sw_retg0 ?_|refine sw_retg ?_|(refine hK.n0 ?_;clear hK K)|refine runG_fk (fun h=>?_) fun h=>?_|refine runQG_fk (fun h=>?_) fun h=>?_|refine sw_condg rfl (fun h=>?_) fun h=>?_|refine hK.skp rfl rfl ?_|refine sw_exit rfl ?_|refine sw_loopEnd ?_|refine hK.c1 rfl rfl rfl (cA) ?_|(refine hK.fork rfl rfl rfl ?_ ?_<;>intro h<;>try simp (disch:=(refine Om.mk ?_;omega)) only[go_sem] at h)|with_reducible refine and_o ?_|apply tTT
  refine sw_loopT (ι:=Nat) (fun i=>[(12,.int .i64 i)]) (fun _=>[]) (fun _=>[]) (fun i=>i≤A.length∧∀j<i,0≤argF rs SH p (A.getD j default)→argF rs SH p (A.getD j default)∈sets.getD j default) (fun i=>A.length-i) 0 cvB ⟨Nat.zero_le _,fun j hj=>absurd hj (Nat.not_lt_zero _)⟩ (fun i hi=>?_)
  obtain⟨hi,hj⟩:=hi
  simp only[go_sem]
  by_cases hil:i<A.length
  ·have hq:=hlt _ (getD_mem A i hil)
   have hfu:=hF _ (by rw[hA];exact getD_mem A i hil)
   have hAi:argF rs SH p (A.getD i default)=if 0≤p.getD (A.getD i default) default then placeI (ren0 (subS rs p (A.getD i default))) SH else -1:=rfl
   have hS:=subS_ok hT hq.2
   have hrh:=ren0_head hS.2.1.1
   rw[(sub_sub hT hq.2).1] at hrh
   have hrl:(ren0 (subS rs p (A.getD i default))).length=(subS rs p (A.getD i default)).length:=by unfold ren0;rw[List.length_map]
   have hSl:=hS.2.1
   have cS:=l1Sub_fc .any .any rs p (A.getD i default) hT hq.2
   have cR:=l2Renamed_fc rs _ hS
   by_cases h0:0≤p.getD (A.getD i default) default
   ·have h00:=hrh.2 h0
    rw[if_pos h0] at hAi
    have hpl:=(placeI_ge (ren0 (subS rs p (A.getD i default))) SH).2.2 (hfu h0)
    by_cases hm:placeI (ren0 (subS rs p (A.getD i default))) SH∈sets.getD i default
    ·repeat' first|exact h.elim|(exfalso;first|omega|exact absurd hm (by assumption))|refine sw_n ?_|refine sw_go 0 kp95 fun K hK=>?_|refine fun (K:KT) (hK:KOk S 0 _ _ _ K)=>?_|refine sw_goD kp95 (by kernel_rfl) fun K hK=>?_|refine runL_g ?_|refine runQ_g ?_|refine sw_retg0 ?_|refine sw_retg ?_|(refine hK.n0 ?_;clear hK K)|refine runG_fk (fun h=>?_) fun h=>?_|refine runQG_fk (fun h=>?_) fun h=>?_|refine sw_condg rfl (fun h=>?_) fun h=>?_|refine hK.skp rfl rfl ?_|refine sw_exit rfl ?_|refine sw_loopEnd ?_|refine hK.c1 rfl rfl rfl (cS) ?_|refine hK.c1 rfl rfl rfl (cR) ?_|refine hK.c1 rfl rfl rfl (termPlace_fc _ _ _ _) ?_|refine hK.c1 rfl rfl rfl (l1Has_fc _ _ _) ?_|(refine hK.fork rfl rfl rfl ?_ ?_<;>intro h<;>try simp (disch:=(refine Om.mk ?_;omega)) only[go_sem] at h)|with_reducible refine and_o ?_|apply tTT
     all_goals first|(exfalso;first|omega|exact absurd hm (by assumption))|exact⟨i+1,cvA,⟨by omega,upto_succ hj (by rw[hAi];exact fun _=>hm)⟩,by omega⟩|trace_state
    ·have hno:¬ ∀j<A.length,0≤argF rs SH p (A.getD j default)→argF rs SH p (A.getD j default)∈sets.getD j default:=fun h=>by
      have h1:=h i hil
      rw[hAi] at h1
      exact hm (h1 hpl)
     rw[tst_false hno]
     repeat' first|exact h.elim|(exfalso;first|omega|exact absurd (by assumption) hm)|refine sw_n ?_|refine sw_go 0 kp95 fun K hK=>?_|refine fun (K:KT) (hK:KOk S 0 _ _ _ K)=>?_|refine sw_goD kp95 (by kernel_rfl) fun K hK=>?_|refine runL_g ?_|refine runQ_g ?_|refine sw_retg0 ?_|refine sw_retg ?_|(refine hK.n0 ?_;clear hK K)|refine runG_fk (fun h=>?_) fun h=>?_|refine runQG_fk (fun h=>?_) fun h=>?_|refine sw_condg rfl (fun h=>?_) fun h=>?_|refine hK.skp rfl rfl ?_|refine sw_exit rfl ?_|refine sw_loopEnd ?_|refine hK.c1 rfl rfl rfl (cS) ?_|refine hK.c1 rfl rfl rfl (cR) ?_|refine hK.c1 rfl rfl rfl (termPlace_fc _ _ _ _) ?_|refine hK.c1 rfl rfl rfl (l1Has_fc _ _ _) ?_|(refine hK.fork rfl rfl rfl ?_ ?_<;>intro h<;>try simp (disch:=(refine Om.mk ?_;omega)) only[go_sem] at h)|with_reducible refine and_o ?_|apply tTT
     all_goals first|(exfalso;first|omega|exact absurd (by assumption) hm)|trace_state
   ·have h00:¬0≤(ren0 (subS rs p (A.getD i default))).getD 0 default:=fun h=>h0 (hrh.1 h)
    rw[if_neg h0] at hAi
    repeat' first|exact h.elim|(exfalso;omega)|refine sw_n ?_|refine sw_go 0 kp95 fun K hK=>?_|refine fun (K:KT) (hK:KOk S 0 _ _ _ K)=>?_|refine sw_goD kp95 (by kernel_rfl) fun K hK=>?_|refine runL_g ?_|refine runQ_g ?_|refine sw_retg0 ?_|refine sw_retg ?_|(refine hK.n0 ?_;clear hK K)|refine runG_fk (fun h=>?_) fun h=>?_|refine runQG_fk (fun h=>?_) fun h=>?_|refine sw_condg rfl (fun h=>?_) fun h=>?_|refine hK.skp rfl rfl ?_|refine sw_exit rfl ?_|refine sw_loopEnd ?_|refine hK.c1 rfl rfl rfl (cS) ?_|refine hK.c1 rfl rfl rfl (cR) ?_|refine hK.c1 rfl rfl rfl (termPlace_fc _ _ _ _) ?_|refine hK.c1 rfl rfl rfl (l1Has_fc _ _ _) ?_|(refine hK.fork rfl rfl rfl ?_ ?_<;>intro h<;>try simp (disch:=(refine Om.mk ?_;omega)) only[go_sem] at h)|with_reducible refine and_o ?_|apply tTT
    all_goals first|(exfalso;omega)|exact⟨i+1,cvA,⟨by omega,upto_succ hj (by rw[hAi];intro h;omega)⟩,by omega⟩|trace_state
  ·obtain rfl:i=A.length:=by omega
   repeat' first|exact h.elim|(exfalso;omega)|refine sw_n ?_|refine sw_go 0 kp95 fun K hK=>?_|refine fun (K:KT) (hK:KOk S 0 _ _ _ K)=>?_|refine sw_goD kp95 (by kernel_rfl) fun K hK=>?_|refine runL_g ?_|refine runQ_g ?_|refine sw_retg0 ?_|refine sw_retg ?_|(refine hK.n0 ?_;clear hK K)|refine runG_fk (fun h=>?_) fun h=>?_|refine runQG_fk (fun h=>?_) fun h=>?_|refine sw_condg rfl (fun h=>?_) fun h=>?_|refine hK.skp rfl rfl ?_|refine sw_exit rfl ?_|refine sw_loopEnd ?_|(refine hK.fork rfl rfl rfl ?_ ?_<;>intro h<;>try simp (disch:=(refine Om.mk ?_;omega)) only[go_sem] at h)|with_reducible refine and_o ?_|apply tTT
   exact hj
 ·rw[tst_false fun h=>he h.1]
  refine fcb Tryz.func95 fun B=>?_
  repeat' first|exact h.elim|(exfalso;exact he (by assumption))|refine sw_n ?_|refine sw_go 0 kp95 fun K hK=>?_|refine fun (K:KT) (hK:KOk S 0 _ _ _ K)=>?_|refine sw_goD kp95 (by kernel_rfl) fun K hK=>?_|refine runL_g ?_|refine runQ_g ?_|refine sw_retg0 ?_|refine sw_retg ?_|(refine hK.n0 ?_;clear hK K)|refine runG_fk (fun h=>?_) fun h=>?_|refine runQG_fk (fun h=>?_) fun h=>?_|refine sw_condg rfl (fun h=>?_) fun h=>?_|refine hK.skp rfl rfl ?_|refine sw_exit rfl ?_|refine sw_loopEnd ?_|(refine hK.fork rfl rfl rfl ?_ ?_<;>intro h<;>try simp (disch:=(refine Om.mk ?_;omega)) only[go_sem] at h)|with_reducible refine and_o ?_|apply tTT
theorem ar_at {rs:List Int} (hs:SigOkP rs) {f:Nat} (hf:f<rs.length):(arS rs (f:Int)).toNat=(rs.getD f default).toNat∧0≤rs.getD f default∧rs.getD f default≤3:=by
 have h:=hs.2 f hf
 refine⟨?_,h⟩
 unfold arS
 rw[if_neg (by omega),if_pos ⟨by omega,by omega⟩,Int.toNat_natCast]
structure ShpOk (rs:List Int) (SH ls:List (List Int)):Prop where
 sg:SigOkP rs
 n:SH.length≤1000
 m:ls.length≤100
 sh:∀t∈SH,TermOkP rs t∧FullP rs SH t
 lf:∀t∈ls,TermOkP rs t∧FullP rs SH t
noncomputable def imgH (rs:List Int) (SH ls:List (List Int)):Nat→List (List Int)→Option (List Int):=imgN (ls.map (formR rs SH)) (SH.map (formR rs SH))
theorem getD_map' {α β:Type} [Inhabited α] [Inhabited β] {g:α→β} {xs:List α} {i:Nat} (h:i<xs.length):(xs.map g).getD i default=g (xs.getD i default):=by
 simp[List.getD,h]
theorem args_len {rs:List Int} {t:List Int} {f:Nat} {n:Nat} (h:n=(arS rs (f:Int)).toNat) (he:t.getD 0 default=(f:Int)):(argsS rs t 0).length≤n:=by
 rw[argsS_len,he];omega
def kp92:List (Nat×List Nat):=[(0,[1,2,3,4]),(1,[1,2,3,4,9]),(2,[1,2,3,4,9,10]),(3,[1,2,3,4,9,10,15]),(5,[1,2,3,4,9,10,26]),(6,[1,2,3,4,9,10]),(4,[1,2,3,4,9,10]),(7,[8])]
attribute [go_sem] kp92 Tryz.results92 Tryz.ntmps92
theorem l24Comes_fc (rs:List Int) (SH ls:List (List Int)) (hO:ShpOk rs SH ls) (f:Nat) (sets:List (List Int)) (hl:sets.length=(arS rs (f:Int)).toNat):FC S 92 [] [] [] [.agg [.sl .any (rs.map (.int .i64))],.sl .any (SH.map IntsD),.int .i64 f,.sl .any (sets.map IntsD)] (.sl .any ((fitsL (SH.map (formR rs SH)) f sets SH.length).map (.int .i64))) [] []:=by
 have hn:=hO.n
 refine fcb Tryz.func92 fun B=>?_
 repeat' first|exact h.elim|refine sw_n ?_|refine sw_go 0 kp92 fun K hK=>?_|refine fun (K:KT) (hK:KOk S 0 _ _ _ K)=>?_|refine sw_goD kp92 (by kernel_rfl) fun K hK=>?_|refine runL_g ?_|refine runQ_g ?_|refine sw_retg0 ?_|refine sw_retg ?_|(refine hK.n0 ?_;clear hK K)|refine sw_condg rfl (fun h=>?_) fun h=>?_|refine sw_exit rfl ?_|refine sw_loopEnd ?_|with_reducible refine and_o ?_|((with_reducible refine And.intro ?_ ?_);· first|(intro x hx;subst hx;rfl)|(intro x;refine And.intro ?_ ?_<;>(intros;subst_vars;rfl)))|apply tTT
 refine sw_tok 9 31000 2 1 rfl (.inr rfl) rfl ?_
 simp only[go_sem]
 refine sw_loopT (ι:=Nat) (fun i=>[(10,.int .i64 i),(9,.sl (.own 31000 2 1) ((fitsL (SH.map (formR rs SH)) f sets i).map (.int .i64)))]) (fun _=>[]) (fun _=>[31000]) (fun i=>i≤SH.length) (fun i=>SH.length-i) 0 cvB (Nat.zero_le _) (fun i hi=>?_)
 simp only[go_sem]
 have hfl:=fitsL_len (SH.map (formR rs SH)) f sets i
 by_cases hil:i<SH.length
 ·have hO1:=hO.sh _ (getD_mem SH i hil)
  have cF:=l24Fits_fc rs SH (SH.getD i default) f sets hO1.1 hO1.2 hn (fun e=>args_len hl e)
  have hgd:=getD_map' (g:=formR rs SH) hil
  by_cases hf:FitF (formR rs SH (SH.getD i default)) f sets
  ·have hs:=fitsL_yes (SF:=SH.map (formR rs SH)) (i:=i) (by rw[hgd];exact hf)
   rw[tst_true hf] at cF
   repeat' first|exact h.elim|(exfalso;omega)|refine sw_n ?_|refine sw_go 0 kp92 fun K hK=>?_|refine fun (K:KT) (hK:KOk S 0 _ _ _ K)=>?_|refine sw_goD kp92 (by kernel_rfl) fun K hK=>?_|refine runL_g ?_|refine runQ_g ?_|refine sw_retg0 ?_|refine sw_retg ?_|(refine hK.n0 ?_;clear hK K)|refine sw_condg rfl (fun h=>?_) fun h=>?_|refine sw_exit rfl ?_|refine sw_loopEnd ?_|refine hK.c1 rfl rfl rfl (cF) ?_|with_reducible refine and_o ?_|((with_reducible refine And.intro ?_ ?_);· first|(intro x hx;subst hx;rfl)|(intro x;refine And.intro ?_ ?_<;>(intros;subst_vars;rfl)))|apply tTT
   all_goals first|exact⟨i+1,(by(refine covers_mk0 rfl rfl ?_ ?_ ?_ ?_<;>simp (disch:=(refine Om.mk ?_;omega)) only[go_sem]<;>(try omega));all_goals first|(rw[hs,List.map_append];rfl)|(rw[hs,List.map_append];exact⟨rfl,by omega⟩)|(simp[hs];done)|trace_state),by omega,by omega⟩|trace_state
  ·have hs:=fitsL_no (SF:=SH.map (formR rs SH)) (i:=i) (by rw[hgd];exact hf)
   rw[tst_false hf] at cF
   repeat' first|exact h.elim|(exfalso;omega)|refine sw_n ?_|refine sw_go 0 kp92 fun K hK=>?_|refine fun (K:KT) (hK:KOk S 0 _ _ _ K)=>?_|refine sw_goD kp92 (by kernel_rfl) fun K hK=>?_|refine runL_g ?_|refine runQ_g ?_|refine sw_retg0 ?_|refine sw_retg ?_|(refine hK.n0 ?_;clear hK K)|refine sw_condg rfl (fun h=>?_) fun h=>?_|refine sw_exit rfl ?_|refine sw_loopEnd ?_|refine hK.c1 rfl rfl rfl (cF) ?_|with_reducible refine and_o ?_|((with_reducible refine And.intro ?_ ?_);· first|(intro x hx;subst hx;rfl)|(intro x;refine And.intro ?_ ?_<;>(intros;subst_vars;rfl)))|apply tTT
   all_goals first|exact⟨i+1,(by(refine covers_mk0 rfl rfl ?_ ?_ ?_ ?_<;>simp (disch:=(refine Om.mk ?_;omega)) only[go_sem]<;>(try omega));all_goals first|(rw[hs];done)|(rw[hs];exact⟨rfl,by omega⟩)|(rw[hs];exact⟨by omega,rfl⟩)|(simp[hs];done)|trace_state),by omega,by omega⟩|trace_state
 ·obtain rfl:i=SH.length:=by omega
  repeat' first|exact h.elim|(exfalso;omega)|refine sw_n ?_|refine sw_go 0 kp92 fun K hK=>?_|refine fun (K:KT) (hK:KOk S 0 _ _ _ K)=>?_|refine sw_goD kp92 (by kernel_rfl) fun K hK=>?_|refine runL_g ?_|refine runQ_g ?_|refine sw_retg0 ?_|refine sw_retg ?_|(refine hK.n0 ?_;clear hK K)|refine sw_condg rfl (fun h=>?_) fun h=>?_|refine sw_exit rfl ?_|refine sw_loopEnd ?_|with_reducible refine and_o ?_|((with_reducible refine And.intro ?_ ?_);· first|(intro x hx;subst hx;rfl)|(intro x;refine And.intro ?_ ?_<;>(intros;subst_vars;rfl)))|apply tTT
def kp115:List (Nat×List Nat):=[(0,[1,2,3,4,5]),(1,[1,2,3,4,5,11]),(2,[1,2,3,4,5,11,15]),(4,[1,2,3,4,5,11,26]),(5,[10]),(3,[1,2,3,4,5,11]),(6,[10])]
attribute [go_sem] kp115 Tryz.results115 Tryz.ntmps115
theorem l24Shut_fc (rs:List Int) (SH ls:List (List Int)) (hO:ShpOk rs SH ls) (f:Nat) (sets:List (List Int)) (hl:sets.length=(arS rs (f:Int)).toNat):FC S 115 [] [] [] [.agg [.sl .any (rs.map (.int .i64))],.sl .any (SH.map IntsD),.sl .any (ls.map IntsD),.int .i64 f,.sl .any (sets.map IntsD)] (.bool (tst (∃x∈ls.map (formR rs SH),FitF x f sets))) [] []:=by
 have hn:=hO.n
 have hm:=hO.m
 have hex:(∃x∈ls.map (formR rs SH),FitF x f sets)↔∃i,i<ls.length∧FitF (formR rs SH (ls.getD i default)) f sets:=by
  constructor
  ·rintro⟨x,hx,h⟩
   obtain⟨t,ht,rfl⟩:=List.mem_map.1 hx
   obtain⟨i,hi,rfl⟩:=List.getElem_of_mem ht
   exact⟨i,hi,by rw[List.getD_eq_getElem?_getD,List.getElem?_eq_getElem hi];exact h⟩
  ·rintro⟨i,hi,h⟩
   exact⟨_,List.mem_map_of_mem (getD_mem ls i hi),h⟩
 rw[tst_congr hex]
 refine fcb Tryz.func115 fun B=>?_
 repeat' first|exact h.elim|refine sw_n ?_|refine sw_go 0 kp115 fun K hK=>?_|refine fun (K:KT) (hK:KOk S 0 _ _ _ K)=>?_|refine sw_goD kp115 (by kernel_rfl) fun K hK=>?_|refine runL_g ?_|refine runQ_g ?_|refine sw_retg0 ?_|refine sw_retg ?_|(refine hK.n0 ?_;clear hK K)|refine sw_condg rfl (fun h=>?_) fun h=>?_|refine sw_exit rfl ?_|refine sw_loopEnd ?_|with_reducible refine and_o ?_|apply tTT
 refine sw_loopT (ι:=Nat) (fun i=>[(11,.int .i64 i)]) (fun _=>[]) (fun _=>[]) (fun i=>i≤ls.length∧∀j<i,¬FitF (formR rs SH (ls.getD j default)) f sets) (fun i=>ls.length-i) 0 cvB ⟨Nat.zero_le _,fun j hj=>absurd hj (Nat.not_lt_zero _)⟩ (fun i hi=>?_)
 obtain⟨hi,hj⟩:=hi
 simp only[go_sem]
 by_cases hil:i<ls.length
 ·have hO1:=hO.lf _ (getD_mem ls i hil)
  have cF:=l24Fits_fc rs SH (ls.getD i default) f sets hO1.1 hO1.2 hn (fun e=>args_len hl e)
  by_cases hf:FitF (formR rs SH (ls.getD i default)) f sets
  ·rw[tst_true hf] at cF
   rw[tst_true ⟨i,hil,hf⟩]
   repeat' first|exact h.elim|(exfalso;omega)|refine sw_n ?_|refine sw_go 0 kp115 fun K hK=>?_|refine fun (K:KT) (hK:KOk S 0 _ _ _ K)=>?_|refine sw_goD kp115 (by kernel_rfl) fun K hK=>?_|refine runL_g ?_|refine runQ_g ?_|refine sw_retg0 ?_|refine sw_retg ?_|(refine hK.n0 ?_;clear hK K)|refine sw_condg rfl (fun h=>?_) fun h=>?_|refine sw_exit rfl ?_|refine sw_loopEnd ?_|refine hK.c1 rfl rfl rfl (cF) ?_|with_reducible refine and_o ?_|apply tTT
  ·rw[tst_false hf] at cF
   repeat' first|exact h.elim|(exfalso;omega)|refine sw_n ?_|refine sw_go 0 kp115 fun K hK=>?_|refine fun (K:KT) (hK:KOk S 0 _ _ _ K)=>?_|refine sw_goD kp115 (by kernel_rfl) fun K hK=>?_|refine runL_g ?_|refine runQ_g ?_|refine sw_retg0 ?_|refine sw_retg ?_|(refine hK.n0 ?_;clear hK K)|refine sw_condg rfl (fun h=>?_) fun h=>?_|refine sw_exit rfl ?_|refine sw_loopEnd ?_|refine hK.c1 rfl rfl rfl (cF) ?_|with_reducible refine and_o ?_|apply tTT
   exact⟨i+1,cvA,⟨by omega,upto_succ hj hf⟩,by omega⟩
 ·obtain rfl:i=ls.length:=by omega
  rw[tst_false (fun⟨j,hj1,hj2⟩=>hj j hj1 hj2)]
  repeat' first|exact h.elim|(exfalso;omega)|refine sw_n ?_|refine sw_go 0 kp115 fun K hK=>?_|refine fun (K:KT) (hK:KOk S 0 _ _ _ K)=>?_|refine sw_goD kp115 (by kernel_rfl) fun K hK=>?_|refine runL_g ?_|refine runQ_g ?_|refine sw_retg0 ?_|refine sw_retg ?_|(refine hK.n0 ?_;clear hK K)|refine sw_condg rfl (fun h=>?_) fun h=>?_|refine sw_exit rfl ?_|refine sw_loopEnd ?_|with_reducible refine and_o ?_|apply tTT
def evY (rs:List Int) (syms:List Nat) (n:Nat):List (Nat×List Int):=syms.flatMap (evF rs n)
theorem evY_cons (rs:List Int) {syms:List Nat} {n i:Nat} (h:i<syms.length):evY rs (syms.drop i) n=evF rs n (syms.getD i default)++evY rs (syms.drop (i+1)) n:=by
 unfold evY
 rw[List.drop_eq_getElem_cons h,List.flatMap_cons]
 simp[List.getD,h]
structure HldN (P:Prop):Prop where
 get:P
theorem mrgN {P Q:Prop} (f:HldN P→Q) (p:P):Q:=f ⟨p⟩
theorem capF_none {I:Nat→List (List Int)→Option (List Int)} {sets:List (List Int)} (f:Nat) (l:List Int) (E:List (Nat×List Int)) (out:List (List Int)) (h16:out.length≤16) (hI:I f (lstS sets l)=none):capF I sets ((f,l)::E) out=capF I sets E out:=by
 have h:capF I sets ((f,l)::E) out=if 16<(stepO I sets out (f,l)).length then (stepO I sets out (f,l),false) else capF I sets E (stepO I sets out (f,l)):=rfl
 have h2:stepO I sets out (f,l)=out:=by unfold stepO;rw[hI]
 rw[h2,if_neg (by omega)] at h
 exact h
theorem iterZ_step {I:Nat→List (List Int)→Option (List Int)} {E:Nat→List (Nat×List Int)} {k:Nat} {s:List (List Int)} {R:List (List Int)×Bool} (h:iterZ I E (k+1) s=R) {nx:List (List Int)} {ok:Bool} (hC:capF I s (E s.length) s=(nx,ok)):(ok=false→R=(s,false))∧(ok=true→nx.length=s.length→R=(s,true))∧(ok=true→nx.length≠s.length→iterZ I E k nx=R):=by
 unfold iterZ at h
 rw[hC] at h
 simp only at h
 refine⟨fun h1=>?_,fun h1 h2=>?_,fun h1 h2=>?_⟩
 ·rw[if_neg (by simp[h1])] at h;exact h.symm
 ·rw[if_pos h1,if_pos h2] at h;exact h.symm
 ·rw[if_pos h1,if_neg h2] at h;exact h
theorem imgH_no {rs:List Int} {SH ls:List (List Int)} {f:Nat} {args:List (List Int)} (h:∃x∈ls.map (formR rs SH),FitF x f args):imgH rs SH ls f args=none:=if_pos h
theorem imgH_yes {rs:List Int} {SH ls:List (List Int)} {f:Nat} {args:List (List Int)} (h:¬ ∃x∈ls.map (formR rs SH),FitF x f args):imgH rs SH ls f args=some (fitsL (SH.map (formR rs SH)) f args SH.length):=by
 unfold imgH imgN
 rw[if_neg h,List.length_map]
def kp89:List (Nat×List Nat):=[(0,[1,2,3,4]),(1,[1,2,3,4,10]),(2,[1,2,3,4,10,11]),(3,[1,2,3,4,10,11,12]),(4,[1,2,3,4,10,11,12,13]),(5,[1,2,3,4,10,11,12,13,28]),(7,[1,2,3,4,10,11,12,13,14]),(8,[1,2,3,4,10,11,12,13,14,44]),(9,[1,2,3,4,10,11,12,13,14,15]),(10,[1,2,3,4,10,11,12,13,14,15,16]),(11,[1,2,3,4,10,11,12,13,14,15,51]),(13,[1,2,3,4,10,11,12,13,14,15,17]),(14,[1,2,3,4,10,11,12,13,14,15,17,66]),(15,[1,2,3,4,10,11,12,13,14,15,18]),(16,[1,2,3,4,10,11,12,13,14,15,18,75]),(17,[1,2,3,4,10,11,12,13,14,15]),(18,[1,2,3,4,10,11,12,13,14,15,82]),(19,[8,9]),(12,[1,2,3,4,10,11,12,13,14,15,16]),(6,[1,2,3,4,10,11,12,13]),(20,[1,2,3,4,10,11,88]),(21,[8,9]),(22,[1,2,3,4,10])]
attribute [go_sem] kp89 Tryz.results89 Tryz.ntmps89
theorem l24Sets_fc (rs:List Int) (SH ls:List (List Int)) (hO:ShpOk rs SH ls) (syms:List Nat) (hsy:∀f∈syms,f<rs.length) (hsl:syms.length≤100):FC S 89 [] [] [] [.agg [.sl .any (rs.map (.int .i64))],.sl .any (SH.map IntsD),.sl .any (ls.map IntsD),.sl .any (syms.map natD)] (.tup [.sl .any ((iterZ (imgH rs SH ls) (evY rs syms) 18 []).1.map IntsD),.bool (iterZ (imgH rs SH ls) (evY rs syms) 18 []).2]) [] []:=by
 have hrl:=hO.sg.1.2
 generalize hR:iterZ (imgH rs SH ls) (evY rs syms) 18 []=R
 refine fcb Tryz.func89 fun B=>?_
 refine sw_bnd_aggg 0 0 fun hb0_0=>?_
 refine sw_bndg 3 fun hb3=>?_
 repeat' first|exact h.elim|refine sw_n ?_|refine sw_go 0 kp89 fun K hK=>?_|refine fun (K:KT) (hK:KOk S 0 _ _ _ K)=>?_|refine runL_g ?_|refine sw_retg0 ?_|refine sw_retg ?_|(refine hK.n0 ?_;clear hK K)|refine runG_fk (fun h=>?_) fun h=>?_|refine sw_condg rfl (fun h=>?_) fun h=>?_|refine hK.skp rfl rfl ?_|refine sw_exit rfl ?_|refine sw_loopEnd ?_|(refine hK.fork rfl rfl rfl ?_ ?_<;>intro h<;>try simp (disch:=(refine Om.mk ?_;omega)) only[go_sem] at h)|with_reducible refine and_o ?_|((with_reducible refine And.intro ?_ ?_);· first|(intro x hx;subst hx;rfl)|(intro x;refine And.intro ?_ ?_<;>(intros;subst_vars;rfl)))|apply tTT
 refine sw_loopT (ι:=Nat×List (List Int)) (fun x=>[(10,.sl .any (x.2.map IntsD))]) (fun _=>[]) (fun _=>[]) (fun x=>(x.2.length≤16∧18≤x.1+x.2.length)∧iterZ (imgH rs SH ls) (evY rs syms) x.1 x.2=R) (fun x=>x.1) (18,[]) cvB ⟨⟨by simp,by simp⟩,hR⟩ (fun x hx=>?_)
 obtain⟨k,sets⟩:=x
 obtain⟨⟨h16,hk⟩,hit⟩:=hx
 dsimp only at h16 hk hit
 simp only[go_sem]
 obtain⟨k,rfl⟩:∃k',k=k'+1:=⟨k-1,by omega⟩
 have hst:=fun nx ok=>iterZ_step hit (nx:=nx) (ok:=ok)
 have hl16:=capF_len (I:=imgH rs SH ls) (sets:=sets) (evY rs syms sets.length) sets h16
 obtain⟨rr,hpre⟩:=capF_pre (I:=imgH rs SH ls) (sets:=sets) (evY rs syms sets.length) sets
 generalize hans:capF (imgH rs SH ls) sets (evY rs syms sets.length) sets=ANS at *
 have hst:=hst ANS.1 ANS.2 rfl
 repeat' first|exact h.elim|(exfalso;omega)|refine sw_n ?_|refine sw_go 0 kp89 fun K hK=>?_|refine fun (K:KT) (hK:KOk S 0 _ _ _ K)=>?_|refine runL_g ?_|refine sw_retg0 ?_|refine sw_retg ?_|(refine hK.n0 ?_;clear hK K)|refine runG_fk (fun h=>?_) fun h=>?_|refine sw_condg rfl (fun h=>?_) fun h=>?_|refine hK.skp rfl rfl ?_|refine sw_exit rfl ?_|refine sw_loopEnd ?_|(refine hK.fork rfl rfl rfl ?_ ?_<;>intro h<;>try simp (disch:=(refine Om.mk ?_;omega)) only[go_sem] at h)|with_reducible refine and_o ?_|((with_reducible refine And.intro ?_ ?_);· first|(intro x hx;subst hx;rfl)|(intro x;refine And.intro ?_ ?_<;>(intros;subst_vars;rfl)))|apply tTT
 refine sw_loopT (ι:=Nat×List (List Int)) (fun p=>[(13,.int .i64 p.1),(11,.sl (.own 23000 22 1) (p.2.map IntsD))]) (fun _=>[]) (fun _=>[23000]) (fun p=>(p.1≤syms.length∧p.2.length≤16)∧capF (imgH rs SH ls) sets (evY rs (syms.drop p.1) sets.length) p.2=ANS) (fun p=>syms.length-p.1) (0,sets) cvB ⟨⟨by simp,h16⟩,hans⟩ (fun p hp=>?_)
 obtain⟨i,out⟩:=p
 obtain⟨⟨hi,ho⟩,hc⟩:=hp
 dsimp only at hi ho hc
 simp only[go_sem]
 by_cases hil:i<syms.length
 ·have hfs:=hsy _ (getD_mem syms i hil)
  obtain⟨har,hr0,hr3⟩:=ar_at hO.sg hfs
  rw[evY_cons rs hil] at hc
  have hnE:((syms.drop (i+1)).flatMap (evF rs sets.length))=evY rs (syms.drop (i+1)) sets.length:=rfl
  by_cases h0:sets.length=0∧0<rs.getD (syms.getD i default) default
  ·rw[show evF rs sets.length (syms.getD i default)=[] from if_pos h0,List.nil_append] at hc
   repeat' first|exact h.elim|(exfalso;omega)|refine sw_n ?_|refine sw_go 0 kp89 fun K hK=>?_|refine fun (K:KT) (hK:KOk S 0 _ _ _ K)=>?_|refine runL_g ?_|refine sw_retg0 ?_|refine sw_retg ?_|(refine hK.n0 ?_;clear hK K)|refine runG_fk (fun h=>?_) fun h=>?_|refine sw_condg rfl (fun h=>?_) fun h=>?_|refine hK.skp rfl rfl ?_|refine sw_exit rfl ?_|refine sw_loopEnd ?_|(refine hK.fork rfl rfl rfl ?_ ?_<;>intro h<;>try simp (disch:=(refine Om.mk ?_;omega)) only[go_sem] at h)|with_reducible refine and_o ?_|((with_reducible refine And.intro ?_ ?_);· first|(intro x hx;subst hx;rfl)|(intro x;refine And.intro ?_ ?_<;>(intros;subst_vars;rfl)))|apply tTT
   all_goals exact⟨(i+1,out),cvB,⟨⟨by dsimp only;omega,ho⟩,hc⟩,by dsimp only;omega⟩
  ·rw[show evF rs sets.length (syms.getD i default)=(digs sets.length (rs.getD (syms.getD i default) default).toNat).map (fun l=>(syms.getD i default,l)) from if_neg h0] at hc
   obtain⟨n,hn⟩:∃n:Nat,rs.getD (syms.getD i default) default=n:=⟨(rs.getD (syms.getD i default) default).toNat,by omega⟩
   have hnt:(rs.getD (syms.getD i default) default).toNat=n:=by omega
   rw[hnt] at hc har
   have hd0:0<sets.length∨n=0:=by omega
   obtain⟨hseq,A0,hA0⟩:=digs_ok hd0
   have hdig:=digs_dig hd0
   rw[hA0] at hseq hdig hc
   apply mrgN
   ·intro key
    repeat' first|exact h.elim|(exfalso;omega)|refine sw_n ?_|refine sw_go 0 kp89 fun K hK=>?_|refine fun (K:KT) (hK:KOk S 0 _ _ _ K)=>?_|refine runL_g ?_|refine sw_retg0 ?_|refine sw_retg ?_|(refine hK.n0 ?_;clear hK K)|refine runG_fk (fun h=>?_) fun h=>?_|refine sw_condg rfl (fun h=>?_) fun h=>?_|refine hK.skp rfl rfl ?_|refine sw_exit rfl ?_|refine sw_loopEnd ?_|(refine hK.fork rfl rfl rfl ?_ ?_<;>intro h<;>try simp (disch:=(refine Om.mk ?_;omega)) only[go_sem] at h)|with_reducible refine and_o ?_|((with_reducible refine And.intro ?_ ?_);· first|(intro x hx;subst hx;rfl)|(intro x;refine And.intro ?_ ?_<;>(intros;subst_vars;rfl)))|apply tTT
    all_goals exact key.get
   rw[hnt]
   refine sw_freeze 15 1 .any ((List.replicate n (0:Int)).map (.int .i64)) rfl rfl (by rw[flatten_one,flat_ints,List.map_replicate]) (by simp) (cells_one fun _=>rfl) (by rw[flatten_one,←List.map_replicate (f:=D.int .i64)];exact memOk_ints _) (.inl rfl) ?_
   simp only[go_sem]
   refine sw_loopT (ι:=(List Int×Bool)×List (List Int)×List (List Int)) (fun p=>[(15,.sl .any (p.1.1.map (.int .i64))),(16,.bool p.1.2),(11,.sl (.own 23000 22 1) (p.2.2.map IntsD))]) (fun _=>[]) (fun _=>[23000]) (fun p=>((p.1.1.length=n∧∀x∈p.1.1,0≤x∧x<sets.length)∧p.2.2.length≤16)∧(p.1.2=true→(SeqD (List.replicate n (0,(sets.length:Int)-1)) (p.1.1::p.2.1)∧∀l∈p.2.1,l.length=n∧∀x∈l,0≤x∧x<sets.length)∧capF (imgH rs SH ls) sets ((p.1.1::p.2.1).map (fun l=>(syms.getD i default,l))++evY rs (syms.drop (i+1)) sets.length) p.2.2=ANS)∧(p.1.2=false→capF (imgH rs SH ls) sets (evY rs (syms.drop (i+1)) sets.length) p.2.2=ANS)) (fun p=>if p.1.2=true then p.2.1.length+1 else 0) ((List.replicate n 0,true),A0,out) (by(refine covers_mk0 rfl rfl ?_ ?_ ?_ ?_<;>simp (disch:=(refine Om.mk ?_;omega)) only[go_sem]<;>(try omega));all_goals first|rfl|exact⟨rfl,rfl⟩|exact⟨rfl,rfl,rfl⟩) ⟨⟨hdig _ List.mem_cons_self,ho⟩,fun _=>⟨⟨hseq,fun l hl=>hdig l (List.mem_cons_of_mem _ hl)⟩,hc⟩,fun h=>by cases h⟩ (fun p hp=>?_)
   obtain⟨⟨l,mr⟩,A,out⟩:=p
   obtain⟨⟨⟨hl1,hl2⟩,ho⟩,hm1,hm2⟩:=hp
   dsimp only at hl1 hl2 ho hm1 hm2
   simp only[go_sem]
   have hbx:∀x∈l,0≤x∧x≤1000:=fun x hx=>by have:=hl2 x hx;omega
   have hget:∀j<l.length,0≤l.getD j default∧l.getD j default<sets.length:=fun j hj=>hl2 _ (getD_mem l j hj)
   cases mr with
   | false =>
    have hm2:=hm2 rfl
    repeat' first|exact h.elim|(exfalso;omega)|refine sw_n ?_|refine sw_go 0 kp89 fun K hK=>?_|refine fun (K:KT) (hK:KOk S 0 _ _ _ K)=>?_|refine runL_g ?_|refine sw_retg0 ?_|refine sw_retg ?_|(refine hK.n0 ?_;clear hK K)|refine runG_fk (fun h=>?_) fun h=>?_|refine sw_condg rfl (fun h=>?_) fun h=>?_|refine hK.skp rfl rfl ?_|refine sw_exit rfl ?_|refine sw_loopEnd ?_|(refine hK.fork rfl rfl rfl ?_ ?_<;>intro h<;>try simp (disch:=(refine Om.mk ?_;omega)) only[go_sem] at h)|with_reducible refine and_o ?_|((with_reducible refine And.intro ?_ ?_);· first|(intro x hx;subst hx;rfl)|(intro x;refine And.intro ?_ ?_<;>(intros;subst_vars;rfl)))|apply tTT
    exact⟨(i+1,out),cvB,⟨⟨by dsimp only;omega,ho⟩,hm2⟩,by dsimp only;omega⟩
   | true =>
    obtain⟨⟨hs,hA1⟩,hcc⟩:=hm1 rfl
    have hlen:=lst_len sets l
    have cL:=l23Listed_fc .any .any sets l (by omega) hget
    have cN:=nextList_fc .any l (sets.length:Int) (by omega) hbx
    have hnx:=loop_next hl1 hl2 hs
    have cH:=l24Shut_fc rs SH ls hO (syms.getD i default) (lstS sets l) (by rw[hlen,hl1,har])
    have cC:=l24Comes_fc rs SH ls hO (syms.getD i default) (lstS sets l) (by rw[hlen,hl1,har])
    rw[List.map_cons,List.cons_append] at hcc
    by_cases hsh:∃x∈ls.map (formR rs SH),FitF x ((syms.getD i default:Nat):Int) (lstS sets l)
    ·rw[tst_true hsh] at cH
     rw[capF_none _ _ _ _ ho (imgH_no hsh)] at hcc
     repeat' first|exact h.elim|(exfalso;omega)|refine sw_n ?_|refine sw_go 0 kp89 fun K hK=>?_|refine fun (K:KT) (hK:KOk S 0 _ _ _ K)=>?_|refine runL_g ?_|refine sw_retg0 ?_|refine sw_retg ?_|(refine hK.n0 ?_;clear hK K)|refine runG_fk (fun h=>?_) fun h=>?_|refine sw_condg rfl (fun h=>?_) fun h=>?_|refine hK.skp rfl rfl ?_|refine sw_exit rfl ?_|refine sw_loopEnd ?_|refine hK.c1 rfl rfl rfl (cL) ?_|refine hK.c1 rfl rfl rfl (cH) ?_|refine hK.c1 rfl rfl rfl (cC) ?_|refine hK.c1 rfl rfl rfl (cN) ?_|(refine hK.fork rfl rfl rfl ?_ ?_<;>intro h<;>try simp (disch:=(refine Om.mk ?_;omega)) only[go_sem] at h)|with_reducible refine and_o ?_|((with_reducible refine And.intro ?_ ?_);· first|(intro x hx;subst hx;rfl)|(intro x;refine And.intro ?_ ?_<;>(intros;subst_vars;rfl)))|apply tTT
     all_goals exact⟨((((nextL (sets.length:Int) l).1,(nextL (sets.length:Int) l).2)),A.tail,out),(by(refine covers_mk0 rfl rfl ?_ ?_ ?_ ?_<;>simp (disch:=(refine Om.mk ?_;omega)) only[go_sem]<;>(try omega));all_goals first|rfl|exact⟨rfl,rfl⟩|exact⟨rfl,rfl,rfl⟩),⟨⟨hnx.1,ho⟩,fun h=>⟨⟨(hnx.2.1 h).1,fun m hm=>hA1 m (List.mem_of_mem_tail hm)⟩,by have e:=(hnx.2.1 h).2;rw[e] at hcc;exact hcc⟩,fun h=>by have:=hnx.2.2 h;dsimp only;rw[this] at hcc;exact hcc⟩,nx_meas hnx⟩
    ·rw[tst_false hsh] at cH
     have hcap:=capF_cap (I:=imgH rs SH ls) (sets:=sets) (syms.getD i default) l (A.map (fun l=>(syms.getD i default,l))++evY rs (syms.drop (i+1)) sets.length) out _ (imgH_yes hsh)
     rw[hcc] at hcap
     have hfl:=fitsL_len (SH.map (formR rs SH)) ((syms.getD i default:Nat):Int) (lstS sets l) SH.length
     generalize hS:fitsL (SH.map (formR rs SH)) ((syms.getD i default:Nat):Int) (lstS sets l) SH.length=s at *
     have hpl:=placeI_ge s out
     have cP:=termPlace_fc (.own 23000 22 1) .any out s
     by_cases hm:s∈out
     ·have hp:=hpl.2.2 hm
      rw[show addQ out s=out from if_pos hm] at hcap
      have hcc:=hcap.2 (by omega)
      repeat' first|exact h.elim|(exfalso;omega)|refine sw_n ?_|refine sw_go 0 kp89 fun K hK=>?_|refine fun (K:KT) (hK:KOk S 0 _ _ _ K)=>?_|refine runL_g ?_|refine sw_retg0 ?_|refine sw_retg ?_|(refine hK.n0 ?_;clear hK K)|refine runG_fk (fun h=>?_) fun h=>?_|refine sw_condg rfl (fun h=>?_) fun h=>?_|refine hK.skp rfl rfl ?_|refine sw_exit rfl ?_|refine sw_loopEnd ?_|refine hK.c1 rfl rfl rfl (cL) ?_|refine hK.c1 rfl rfl rfl (cH) ?_|refine hK.c1 rfl rfl rfl (cC) ?_|refine hK.c1 rfl rfl rfl (cP) ?_|refine hK.c1 rfl rfl rfl (cN) ?_|(refine hK.fork rfl rfl rfl ?_ ?_<;>intro h<;>try simp (disch:=(refine Om.mk ?_;omega)) only[go_sem] at h)|with_reducible refine and_o ?_|((with_reducible refine And.intro ?_ ?_);· first|(intro x hx;subst hx;rfl)|(intro x;refine And.intro ?_ ?_<;>(intros;subst_vars;rfl)))|apply tTT
      all_goals exact⟨((((nextL (sets.length:Int) l).1,(nextL (sets.length:Int) l).2)),A.tail,out),(by(refine covers_mk0 rfl rfl ?_ ?_ ?_ ?_<;>simp (disch:=(refine Om.mk ?_;omega)) only[go_sem]<;>(try omega));all_goals first|rfl|exact⟨rfl,rfl⟩|exact⟨rfl,rfl,rfl⟩),⟨⟨hnx.1,ho⟩,fun h=>⟨⟨(hnx.2.1 h).1,fun m hm=>hA1 m (List.mem_of_mem_tail hm)⟩,by have e:=(hnx.2.1 h).2;rw[e] at hcc;exact hcc.symm⟩,fun h=>by have:=hnx.2.2 h;dsimp only;rw[this] at hcc;exact hcc.symm⟩,nx_meas hnx⟩
     ·have hp:¬0≤placeI s out:=fun h=>hm (hpl.2.1 h)
      rw[show addQ out s=out++[s] from if_neg hm] at hcap
      simp only[List.length_append,List.length_singleton] at hcap
      by_cases h17:16<out.length+1
      ·obtain rfl:=hcap.1 h17
       have hst:=hst.1 rfl
       subst hst
       repeat' first|exact h.elim|(exfalso;omega)|(exfalso;simp only[lens] at *;omega)|(refine sw_renC 80000 23000 rfl rfl ?_;simp only[go_sem])|refine sw_n ?_|refine sw_go 0 kp89 fun K hK=>?_|refine fun (K:KT) (hK:KOk S 0 _ _ _ K)=>?_|refine runL_g ?_|refine sw_retg0 ?_|refine sw_retg ?_|(refine hK.n0 ?_;clear hK K)|refine runG_fk (fun h=>?_) fun h=>?_|refine sw_condg rfl (fun h=>?_) fun h=>?_|refine hK.skp rfl rfl ?_|refine sw_exit rfl ?_|refine sw_loopEnd ?_|refine hK.c1 rfl rfl rfl (cL) ?_|refine hK.c1 rfl rfl rfl (cH) ?_|refine hK.c1 rfl rfl rfl (cC) ?_|refine hK.c1 rfl rfl rfl (cP) ?_|refine hK.c1 rfl rfl rfl (cN) ?_|(refine hK.fork rfl rfl rfl ?_ ?_<;>intro h<;>try simp (disch:=(refine Om.mk ?_;omega)) only[go_sem] at h)|with_reducible refine and_o ?_|((with_reducible refine And.intro ?_ ?_);· first|(intro x hx;subst hx;rfl)|(intro x;refine And.intro ?_ ?_<;>(intros;subst_vars;rfl)))|apply tTT
       all_goals first|(exfalso;simp only[lens] at *;omega)|exact⟨by simp,rfl⟩|rfl|trace_state
      ·have hcc:=hcap.2 h17
       repeat' first|exact h.elim|(exfalso;omega)|(exfalso;simp only[lens] at *;omega)|(refine sw_renC 80000 23000 rfl rfl ?_;simp only[go_sem])|refine sw_n ?_|refine sw_go 0 kp89 fun K hK=>?_|refine fun (K:KT) (hK:KOk S 0 _ _ _ K)=>?_|refine runL_g ?_|refine sw_retg0 ?_|refine sw_retg ?_|(refine hK.n0 ?_;clear hK K)|refine runG_fk (fun h=>?_) fun h=>?_|refine sw_condg rfl (fun h=>?_) fun h=>?_|refine hK.skp rfl rfl ?_|refine sw_exit rfl ?_|refine sw_loopEnd ?_|refine hK.c1 rfl rfl rfl (cL) ?_|refine hK.c1 rfl rfl rfl (cH) ?_|refine hK.c1 rfl rfl rfl (cC) ?_|refine hK.c1 rfl rfl rfl (cP) ?_|refine hK.c1 rfl rfl rfl (cN) ?_|(refine hK.fork rfl rfl rfl ?_ ?_<;>intro h<;>try simp (disch:=(refine Om.mk ?_;omega)) only[go_sem] at h)|with_reducible refine and_o ?_|((with_reducible refine And.intro ?_ ?_);· first|(intro x hx;subst hx;rfl)|(intro x;refine And.intro ?_ ?_<;>(intros;subst_vars;rfl)))|apply tTT
       all_goals try (exfalso;simp only[lens] at *;omega)
       all_goals exact⟨((((nextL (sets.length:Int) l).1,(nextL (sets.length:Int) l).2)),A.tail,out++[s]),(by(refine covers_mk0 rfl rfl ?_ ?_ ?_ ?_<;>simp (disch:=(refine Om.mk ?_;omega)) only[go_sem]<;>(try omega));all_goals first|(rw[List.map_append];rfl)|(rw[List.map_append];exact⟨rfl,rfl⟩)|(rw[List.map_append];exact⟨rfl,rfl,rfl⟩)|trace_state),⟨⟨hnx.1,by first|omega|(simp only[lens];omega)⟩,fun h=>⟨⟨(hnx.2.1 h).1,fun m hm=>hA1 m (List.mem_of_mem_tail hm)⟩,by have e:=(hnx.2.1 h).2;rw[e] at hcc;exact hcc.symm⟩,fun h=>by have:=hnx.2.2 h;dsimp only;rw[this] at hcc;exact hcc.symm⟩,nx_meas hnx⟩
 ·obtain rfl:i=syms.length:=by omega
  have e0:evY rs (syms.drop syms.length) sets.length=[]:=by rw[List.drop_length];rfl
  rw[e0] at hc
  obtain rfl:ANS=(out,true):=hc.symm
  have hst:=hst.2
  by_cases he:out.length=sets.length
  ·have hR:=hst.1 rfl he
   subst hR
   repeat' first|exact h.elim|(exfalso;simp only[lens] at *;omega)|refine sw_n ?_|refine sw_go 0 kp89 fun K hK=>?_|refine fun (K:KT) (hK:KOk S 0 _ _ _ K)=>?_|refine runL_g ?_|refine sw_retg0 ?_|refine sw_retg ?_|(refine hK.n0 ?_;clear hK K)|refine runG_fk (fun h=>?_) fun h=>?_|refine sw_condg rfl (fun h=>?_) fun h=>?_|refine hK.skp rfl rfl ?_|refine sw_exit rfl ?_|refine sw_loopEnd ?_|(refine hK.fork rfl rfl rfl ?_ ?_<;>intro h<;>try simp (disch:=(refine Om.mk ?_;omega)) only[go_sem] at h)|with_reducible refine and_o ?_|((with_reducible refine And.intro ?_ ?_);· first|(intro x hx;subst hx;rfl)|(intro x;refine And.intro ?_ ?_<;>(intros;subst_vars;rfl)))|apply tTT
  ·have hR:=hst.2 rfl he
   have hlt:sets.length<out.length:=by
    have h1:=congrArg List.length hpre
    rw[List.length_append] at h1
    dsimp only at h1
    omega
   repeat' first|exact h.elim|(exfalso;simp only[lens] at *;omega)|refine sw_n ?_|refine sw_go 0 kp89 fun K hK=>?_|refine fun (K:KT) (hK:KOk S 0 _ _ _ K)=>?_|refine runL_g ?_|refine sw_retg0 ?_|refine sw_retg ?_|(refine hK.n0 ?_;clear hK K)|refine runG_fk (fun h=>?_) fun h=>?_|refine sw_condg rfl (fun h=>?_) fun h=>?_|refine hK.skp rfl rfl ?_|refine sw_exit rfl ?_|refine sw_loopEnd ?_|(refine hK.fork rfl rfl rfl ?_ ?_<;>intro h<;>try simp (disch:=(refine Om.mk ?_;omega)) only[go_sem] at h)|with_reducible refine and_o ?_|((with_reducible refine And.intro ?_ ?_);· first|(intro x hx;subst hx;rfl)|(intro x;refine And.intro ?_ ?_<;>(intros;subst_vars;rfl)))|apply tTT
   all_goals exact⟨(k,out),(by(refine covers_mk0 rfl rfl ?_ ?_ ?_ ?_<;>simp (disch:=(refine Om.mk ?_;omega)) only[go_sem]<;>(try omega));all_goals first|rfl|exact⟨rfl,rfl⟩|(simp;done)|trace_state),⟨⟨ho,by dsimp only;omega⟩,hR⟩,Nat.lt_succ_self k⟩
end
section
attribute [local irreducible] SW runL runQ runG runQG FC Ret1 RetN toF redoL
theorem cmpL_neg:∀a b:List Int,cmpL a b<0↔lexB a b=true
 | [],[]=>by simp[cmpL,lexB]
 | [],_::_=>by simp[cmpL,lexB]
 | _::_,[]=>by simp[cmpL,lexB]
 | x::r,y::s=>by
  have ih:=cmpL_neg r s
  simp only[cmpL,lexB]
  by_cases h:x=y
  ·subst h
   have e:cmpI x x=0:=by simp[cmpI]
   rw[if_neg (by simp[e]),if_pos rfl];exact ih
  ·rw[if_neg h]
   unfold cmpI
   by_cases h2:x<y
   ·simp[h2]
   ·have h3:y<x:=by omega
    simp[h2,h3]
def cmpTm (a b:List Int):Int:=if a.length=b.length then cmpL a b else (a.length:Int)-b.length
theorem cmpT_neg (a b:List Int):cmpTm a b<0↔lessT a b=true:=by
 unfold cmpTm lessT
 split
 ·exact cmpL_neg a b
 ·simp only[decide_eq_true_eq];omega
theorem cmpT_ord:(∀x,¬cmpTm x x<0)∧(∀x y z,cmpTm x y<0→cmpTm y z<0→cmpTm x z<0)∧(∀x y z,¬cmpTm x y<0→¬cmpTm y z<0→¬cmpTm x z<0):=by
 refine⟨fun x=>?_,fun x y z=>?_,fun x y z=>?_⟩
 ·rw[cmpT_neg,lessT_irr];simp
 ·rw[cmpT_neg,cmpT_neg,cmpT_neg];exact lessT_trans x y z
 ·rw[cmpT_neg,cmpT_neg,cmpT_neg]
  simp only[Bool.not_eq_true]
  exact lessT_ntrans x y z
theorem srtM_of {xs ys:List (List Int)} (hp:ys.Perm xs) (h:ys.Pairwise fun a b=>¬cmpTm b a<0):ys=srtM xs:=by
 refine srt_uniq (h.imp fun {a b} h=>?_) (srtM_ok xs).2 (hp.trans (srtM_ok xs).1.symm)
 rw[cmpT_neg] at h
 simpa using h
def kp149:List (Nat×List Nat):=[(0,[0,1]),(1,[0,1,9]),(2,[4]),(3,[4])]
attribute [go_sem] kp149 Tryz.results149 Tryz.ntmps149
theorem compareTerms_fc (tk tk':Tk) (a b:List Int):FC S 149 [] [] [] [.sl tk (a.map (.int .i64)),.sl tk' (b.map (.int .i64))] (.int .i64 (cmpTm a b)) [] []:=by
 refine fcb Tryz.func149 fun B=>?_
 refine sw_bndg 0 fun hb0=>?_
 refine sw_bndg 1 fun hb1=>?_
 repeat' first|exact h.elim|refine sw_n ?_|refine sw_go 0 kp149 fun K hK=>?_|refine fun (K:KT) (hK:KOk S 0 _ _ _ K)=>?_|refine runL_g ?_|refine sw_retg0 ?_|refine sw_retg ?_|(refine hK.n0 ?_;clear hK K)|refine sw_condg rfl (fun h=>?_) fun h=>?_|refine sw_loopEnd ?_|refine hK.c1 rfl rfl rfl (compare_fc _ _ _ _) ?_|with_reducible refine and_o ?_|apply tTT
 ·unfold cmpTm;rw[if_neg (by omega)]
 ·unfold cmpTm;rw[if_pos (by omega)]
end
end Go.Proofs.YtkfkdgginfpdnaaGreatDoor
