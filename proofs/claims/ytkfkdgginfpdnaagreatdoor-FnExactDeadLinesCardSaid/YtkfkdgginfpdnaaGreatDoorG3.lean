/-
  A20p, A04, A05g, A05h, A05i, A05j, A05k, A05l, ACl, A20v, A05q, A05m, A05n, A06, A06s, one behind the other.
-/
import Derived.Test.YtkfkdgginfpdnaaGreatDoorG2
import Derived.Test.YtkfkdgginfpdnaaGreatDoorG1
import Derived.Test.YtkfkdgginfpdnaaGreatDoorLgK5
import Derived.Test.YtkfkdgginfpdnaaGreatDoorLgK4
import Derived.Test.YtkfkdgginfpdnaaGreatDoorLgK7
import Derived.Test.YtkfkdgginfpdnaaGreatDoorSet
namespace Go.Proofs.YtkfkdgginfpdnaaGreatDoor
open Go Go.Lg
set_option linter.unusedSimpArgs false
set_option linter.unusedVariables false
set_option maxHeartbeats 4000000
section
def G0:Bnd:=List.replicate 24 []
def codeI (s:List Int) (n:Int):Int:=if 0≤n then n else -1-(s.idxOf n:Int)
def seenS:List Int→List Int→List Int
 | s,[]=>s
 | s,n::l=>if 0≤n∨n∈s then seenS s l else seenS (s++[n]) l
def renL:List Int→List (List Int)→List (List Int)
 | _,[]=>[]
 | s,t::r=>t.map (codeI (seenS s t))::renL (seenS s t) r
theorem seenS_pre:∀(t s:List Int),∃r,seenS s t=s++r
 | [],s=>⟨[],by simp[seenS]⟩
 | n::l,s=>by
  simp only[seenS]
  split
  ·exact seenS_pre l s
  ·obtain⟨r,h⟩:=seenS_pre l (s++[n])
   exact⟨n::r,by rw[h];simp⟩
theorem seenS_mem:∀(t s:List Int),∀n∈t,n<0→n∈seenS s t
 | [],_,n,hn,_=>by cases hn
 | m::l,s,n,hn,h0=>by
  simp only[seenS]
  rcases List.mem_cons.1 hn with rfl|hn
  ·split
   ·rename_i h
    obtain⟨r,e⟩:=seenS_pre l s
    rw[e];exact List.mem_append_left _ (h.resolve_left (by omega))
   ·obtain⟨r,e⟩:=seenS_pre l (s++[n])
    rw[e];simp
  ·split
   ·exact seenS_mem l s n hn h0
   ·exact seenS_mem l _ n hn h0
theorem codeI_mono {s r:List Int} {n:Int} (h:0≤n∨n∈s):codeI (s++r) n=codeI s n:=by
 unfold codeI
 split
 ·rfl
 ·rw[List.idxOf_append,if_pos (h.resolve_left (by omega))]
theorem code_all {s t r:List Int}:t.map (codeI (seenS s t++r))=t.map (codeI (seenS s t)):=List.map_congr_left fun n hn=>codeI_mono (by
 by_cases h:0≤n
 ·exact .inl h
 ·exact .inr (seenS_mem t s n hn (by omega)))
theorem renL_two (a b:List Int):renL [] [a,b]=[a.map (codeI (seenS (seenS [] a) b)),b.map (codeI (seenS (seenS [] a) b))]:=by
 obtain⟨r,h⟩:=seenS_pre b (seenS [] a)
 simp only[renL]
 rw[h,code_all]
theorem idxOf_map {f:Int→Int} {n:Int}:∀ {s:List Int},(∀m∈s,f m=f n→m=n)→(s.map f).idxOf (f n)=s.idxOf n
 | [],_=>rfl
 | m::s,h=>by
  rw[List.map_cons,List.idxOf_cons,List.idxOf_cons]
  by_cases e:m=n
  ·subst e;simp
  ·have:f m≠f n:=fun e2=>e (h m List.mem_cons_self e2)
   have ih:=idxOf_map (f:=f) (n:=n) (s:=s) fun k hk=>h k (List.mem_cons_of_mem _ hk)
   rw[ih,beq_eq_false_iff_ne.2 this,beq_eq_false_iff_ne.2 e]
theorem seenS_map {f:Int→Int} {X:List Int} (hs:∀n∈X,0≤f n↔0≤n) (hi:∀n∈X,∀m∈X,f n=f m→n=m):∀(t s:List Int),(∀n∈t,n∈X)→(∀n∈s,n∈X)→seenS (s.map f) (t.map f)=(seenS s t).map f
 | [],s,_,_=>rfl
 | n::l,s,ht,hsx=>by
  have hn:=ht n List.mem_cons_self
  have ih:=fun s' hs'=>seenS_map hs hi l s' (fun m hm=>ht m (List.mem_cons_of_mem _ hm)) hs'
  have hmem:f n∈s.map f↔n∈s:=⟨fun h=>by
   obtain⟨m,hm,e⟩:=List.mem_map.1 h
   rw[←hi m (hsx m hm) n hn e];exact hm,fun h=>List.mem_map_of_mem h⟩
  simp only[List.map_cons,seenS,hs n hn,hmem]
  split
  ·exact ih s hsx
  ·have:=ih (s++[n]) (fun m hm=>by
    rcases List.mem_append.1 hm with hm|hm
    ·exact hsx m hm
    ·rw[List.mem_singleton.1 hm];exact hn)
   rw[List.map_append] at this
   exact this
theorem codeI_map {f:Int→Int} {X:List Int} (hs:∀n∈X,0≤f n↔0≤n) (hi:∀n∈X,∀m∈X,f n=f m→n=m) (hf:∀n∈X,0≤n→f n=n) {s:List Int} (hsx:∀n∈s,n∈X) {n:Int} (hn:n∈X):codeI (s.map f) (f n)=codeI s n:=by
 unfold codeI
 by_cases h:0≤n
 ·rw[if_pos ((hs n hn).2 h),if_pos h,hf n hn h]
 ·rw[if_neg (fun e=>h ((hs n hn).1 e)),if_neg h,idxOf_map fun m hm e=>hi m (hsx m hm) n hn e]
theorem seenS_sub:∀(t s:List Int),∀n∈seenS s t,n∈s∨(n∈t∧n<0)
 | [],s,n,h=>.inl h
 | m::l,s,n,h=>by
  simp only[seenS] at h
  split at h
  ·rcases seenS_sub l s n h with h|⟨h,h0⟩
   ·exact .inl h
   ·exact .inr ⟨List.mem_cons_of_mem _ h,h0⟩
  ·rename_i hc
   rcases seenS_sub l _ n h with h|⟨h,h0⟩
   ·rcases List.mem_append.1 h with h|h
    ·exact .inl h
    ·rw[List.mem_singleton.1 h]
     exact .inr ⟨List.mem_cons_self,by omega⟩
   ·exact .inr ⟨List.mem_cons_of_mem _ h,h0⟩
theorem renL_map {f:Int→Int} (a b:List Int) (hs:∀n∈a++b,0≤f n↔0≤n) (hi:∀n∈a++b,∀m∈a++b,f n=f m→n=m) (hf:∀n∈a++b,0≤n→f n=n):renL [] [a.map f,b.map f]=renL [] [a,b]:=by
 have ha:∀n∈a,n∈a++b:=fun n h=>List.mem_append_left _ h
 have hb:∀n∈b,n∈a++b:=fun n h=>List.mem_append_right _ h
 have e1:=seenS_map hs hi a [] ha (by simp)
 have h1:∀n∈seenS [] a,n∈a++b:=fun n h=>by
  rcases seenS_sub a [] n h with h|h
  ·cases h
  ·exact ha n h.1
 have e2:=seenS_map hs hi b _ hb h1
 have h2:∀n∈seenS (seenS [] a) b,n∈a++b:=fun n h=>by
  rcases seenS_sub b _ n h with h|h
  ·exact h1 n h
  ·exact hb n h.1
 simp only[List.map_nil] at e1
 rw[renL_two,renL_two,e1,e2]
 simp only[List.map_map,List.cons.injEq,and_true]
 exact⟨List.map_congr_left fun n hn=>codeI_map hs hi hf h2 (ha n hn),List.map_congr_left fun n hn=>codeI_map hs hi hf h2 (hb n hn)⟩
end
section
attribute [local irreducible] SW runL runQ runG runQG FC Ret1
def tkN (u:List Int):Tk:=if u=[] then .nil else .any
def optD (u:List Int):D:=.sl (tkN u) (u.map (.int .i64))
attribute [go_sem] optD
theorem nilY_tkN (u:List Int) (K:D→Prop):nilY .eql (tkN u) (u.map (.int .i64)) K=K (.bool (tst (u=[]))):=by
 unfold tkN
 by_cases h:u=[]
 ·subst h;simp[nilY,tst]
 ·rw[if_neg h,tst_false h]
  simp[nilY,h]
theorem take_full {α:Type} (xs:List α) (n:Nat) (h:Om (xs.length≤n)):xs.take n=xs:=List.take_of_length_le h.out
theorem putC_full (cs new:List D) (h:Om (cs.length=new.length)):putC cs 0 new=new:=by
 have h:=h.out
 unfold putC
 split
 ·match cs,h with
  | [c],_=>rfl
 ·unfold putCells
  rw[List.take_zero,List.nil_append,Nat.zero_add,←h,List.drop_length,List.append_nil]
theorem idsL_opt (g:List (List Int)):D.idsL (g.map optD)=[]:=by
 induction g with
 | nil=>rfl
 | cons u g ih=>simp[D.idsL,optD,D.ids];exact ih
theorem tksL_opt (g:List (List Int)):D.tksL (g.map optD)=[]:=by
 induction g with
 | nil=>rfl
 | cons u g ih =>
  simp only[List.map_cons,D.tksL,ih,optD,tkN]
  split<;>rfl
theorem all_opt (g:List (List Int)):(g.map optD).all D.one=true:=by
 rw[List.all_eq_true]
 intro d hd
 obtain⟨u,_,rfl⟩:=List.mem_map.1 hd
 rfl
attribute [local go_sem] idsL_opt tksL_opt nilY_tkN take_full all_opt linM_len
theorem putC_opt (g:List (List Int)) (h:Om (g.length=24)):putC [D.sl .nil [],D.sl .nil [],D.sl .nil [],D.sl .nil [],D.sl .nil [],D.sl .nil [],D.sl .nil [],D.sl .nil [],D.sl .nil [],D.sl .nil [],D.sl .nil [],D.sl .nil [],D.sl .nil [],D.sl .nil [],D.sl .nil [],D.sl .nil [],D.sl .nil [],D.sl .nil [],D.sl .nil [],D.sl .nil [],D.sl .nil [],D.sl .nil [],D.sl .nil [],D.sl .nil []] 0 (g.map optD)=g.map optD:=putC_full _ _ ⟨by rw[List.length_map,h.out];rfl⟩
attribute [local go_sem] putC_opt
theorem flat_intsD (g:List (List Int)):flat (g.map IntsD)=g.map IntsD:=by
 induction g with
 | nil=>rfl
 | cons u g ih=>simp[flat] at ih ⊢;simp[D.cells,IntsD];exact ih
theorem flatMap_intsD (g:List (List Int)):List.flatMap D.cells (g.map IntsD)=g.map IntsD:=flat_intsD g
attribute [local go_sem] flatMap_intsD
theorem argsS_len (rs t:List Int) (a:Nat):(argsS rs t a).length=(arS rs (t.getD a default)).toNat:=begS_length _ _ _ _
theorem argsS_get (rs t:List Int) (a j:Nat) (h:j<(arS rs (t.getD a default)).toNat):(argsS rs t a).getD j default=nthB rs t (a+1) j:=begS_get _ _ _ _ _ h
end
section
attribute [local irreducible] SW runL runQ runG runQG FC Ret1 RetN toF redoL
attribute [local go_sem] List.filter_cons
end
section
attribute [local irreducible] SW runL runQ runG runQG FC Ret1 RetN toF redoL
attribute [local go_sem] List.filter_cons
end
section
attribute [local irreducible] SW runL runQ runG runQG FC Ret1 RetN toF redoL
attribute [local go_sem] List.filter_cons
end
section
attribute [local irreducible] SW runL runQ runG runQG FC Ret1 RetN toF redoL
attribute [local go_sem] List.filter_cons
end
section
end
section
attribute [local irreducible] SW runL runQ runG runQG FC Ret1 RetN toF redoL
end
section
def kp107:List (Nat×List Nat):=[(0,[0]),(1,[0,4]),(2,[2]),(3,[2])]
attribute [go_sem] kp107 Tryz.results107 Tryz.ntmps107
end
section
attribute [local irreducible] SW runL runQ runG runQG FC Ret1
theorem cloneOwn_fc (tk:Tk) (xs:List Int) (hl:xs.length≤17592186044416):FC S 107 [] [] [] [.sl tk (xs.map (.int .i64))] (.sl (.own 0 2 1) (xs.map (.int .i64))) [] [0]:=by
 refine FC.args (args':=[.sl .any (xs.map (.int .i64))]) ?_ (by simp only[go_sem])
 refine fcb1 Tryz.func107 fun B=>?_
 refine sw_bndg 0 fun hb0=>?_
 refine sw_nilcase 0 rfl (fun hx=>?_) ?_<;>simp only[go_sem]
 ·have hx:xs=[]:=by simpa using hx
  subst hx
  repeat' first|exact h.elim|(refine sw_tok 2 5000 2 1 rfl (.inl rfl) rfl ?_;simp only[go_sem])|refine sw_n ?_|refine sw_go 0 kp107 fun K hK=>?_|refine fun (K:KT) (hK:KOk S 0 _ _ _ K)=>?_|refine runL_g ?_|refine sw_retg0 ?_|refine sw_retg ?_|(refine hK.n0 ?_;clear hK K)|refine sw_condg rfl (fun h=>?_) fun h=>?_|with_reducible refine and_o ?_|((with_reducible refine And.intro ?_ ?_);· first|(intro x hx;subst hx;rfl)|(intro x;refine And.intro ?_ ?_<;>(intros;subst_vars;rfl)))|apply tTT
  exact ret1_own rfl (by simp)
 ·repeat' first|exact h.elim|refine sw_n ?_|refine sw_go 0 kp107 fun K hK=>?_|refine fun (K:KT) (hK:KOk S 0 _ _ _ K)=>?_|refine runL_g ?_|refine sw_retg0 ?_|refine sw_retg ?_|(refine hK.n0 ?_;clear hK K)|refine sw_condg rfl (fun h=>?_) fun h=>?_|with_reducible refine and_o ?_|((with_reducible refine And.intro ?_ ?_);· first|(intro x hx;subst hx;rfl)|(intro x;refine And.intro ?_ ?_<;>(intros;subst_vars;rfl)))|apply tTT
  exact ret1_own rfl (by simp)
theorem pu_ints (f:Nat→Bool) (ys:List Int):(ys.map (D.int .i64)).map (D.pu1 f)=ys.map (.int .i64):=by
 rw[List.map_map];rfl
theorem tksL_ints (ys:List Int):D.tksL (ys.map (D.int .i64))=[]:=by
 induction ys with
 | nil=>rfl
 | cons y r ih=>simp only[List.map_cons,D.tksL,ih];rfl
theorem idsL_ints (ys:List Int):D.idsL (ys.map (D.int .i64))=[]:=by
 induction ys with
 | nil=>rfl
 | cons y r ih=>simp only[List.map_cons,D.idsL,ih];rfl
attribute [local go_sem] pu_ints tksL_ints idsL_ints
theorem code_new {s:List Int} {x:Int} (h0:x<0) (h:x∉s):codeI (s++[x]) x=-1-(s.length:Int):=by
 unfold codeI
 rw[if_neg (by omega),List.idxOf_append,if_neg h]
 simp
theorem code_old {s:List Int} {x:Int} (h0:x<0):codeI s x=-1-(s.idxOf x:Int):=by
 unfold codeI
 rw[if_neg (by omega)]
def seenT (ts:List (List Int)) (j:Nat):List Int:=(ts.take j).foldl seenS []
theorem renL_len:∀(ts:List (List Int)) (s:List Int),(renL s ts).length=ts.length
 | [],_=>rfl
 | t::ts,s=>by simp[renL,renL_len ts]
theorem seenT_succ (ts:List (List Int)) (j:Nat) (h:j<ts.length):seenT ts (j+1)=seenS (seenT ts j) (ts.getD j default):=by
 unfold seenT
 rw[List.take_succ_eq_append_getElem h,List.foldl_append]
 simp[List.getD,List.getElem?_eq_getElem h]
theorem seenS_snoc:∀(l s:List Int) (n:Int),seenS s (l++[n])=if 0≤n∨n∈seenS s l then seenS s l else seenS s l++[n]
 | [],s,n=>rfl
 | m::l,s,n=>by
  simp only[List.cons_append,seenS]
  split
  ·exact seenS_snoc l s n
  ·exact seenS_snoc l (s++[m]) n
def mixS (s t:List Int) (i:Nat):List Int:=(t.take i).map (codeI (seenS s (t.take i)))++t.drop i
theorem mixS_len (s t:List Int) (i:Nat) (h:i≤t.length):(mixS s t i).length=t.length:=by simp[mixS];omega
theorem mixS_split (s t:List Int) (i:Nat) (h:i<t.length):mixS s t i=(t.take i).map (codeI (seenS s (t.take i)))++t.getD i default::t.drop (i+1):=by
 unfold mixS
 rw[drop_cons h]
theorem mixS_get (s t:List Int) (i:Nat) (h:i<t.length):(mixS s t i).getD i default=t.getD i default:=by
 rw[mixS_split s t i h]
 have:((t.take i).map (codeI (seenS s (t.take i)))).length=i:=by simp;omega
 have h2:=getD_app (q:=(t.take i).map (codeI (seenS s (t.take i)))) (x:=t.getD i default) (s:=t.drop (i+1))
 rwa [this] at h2
theorem mixS_all (s t:List Int) (i:Nat) (h:t.length≤i):mixS s t i=t.map (codeI (seenS s t))∧seenS s (t.take i)=seenS s t:=by
 unfold mixS
 rw[List.take_of_length_le h,List.drop_of_length_le h,List.append_nil]
 exact⟨rfl,rfl⟩
theorem seen_take (s t:List Int) (i:Nat) (h:i<t.length):seenS s (t.take (i+1))=if 0≤t.getD i default∨t.getD i default∈seenS s (t.take i) then seenS s (t.take i) else seenS s (t.take i)++[t.getD i default]:=by
 have e:t.take (i+1)=t.take i++[t.getD i default]:=by
  rw[List.take_succ_eq_append_getElem h];simp[List.getD,List.getElem?_eq_getElem h]
 rw[e,seenS_snoc]
theorem mixS_succ (s t:List Int) (i:Nat) (h:i<t.length):mixS s t (i+1)=(t.take i).map (codeI (seenS s (t.take i)))++codeI (seenS s (t.take (i+1))) (t.getD i default)::t.drop (i+1):=by
 have e:t.take (i+1)=t.take i++[t.getD i default]:=by
  rw[List.take_succ_eq_append_getElem h];simp[List.getD,List.getElem?_eq_getElem h]
 have hpre:∃r,seenS s (t.take (i+1))=seenS s (t.take i)++r:=by
  rw[seen_take s t i h]
  split
  ·exact⟨[],by simp⟩
  ·exact⟨_,rfl⟩
 obtain⟨r,hr⟩:=hpre
 have e2:(t.take (i+1)).map (codeI (seenS s (t.take (i+1))))=(t.take i).map (codeI (seenS s (t.take i)))++[codeI (seenS s (t.take (i+1))) (t.getD i default)]:=by
  conv=>lhs;arg 2;rw[e]
  rw[List.map_append]
  congr 1
  rw[hr];exact code_all
 unfold mixS
 rw[e2,List.append_assoc];rfl
theorem mixS_stay (s t:List Int) (i:Nat) (h:i<t.length) (h0:0≤t.getD i default):mixS s t (i+1)=mixS s t i:=by
 rw[mixS_succ s t i h,mixS_split s t i h]
 rw[show codeI (seenS s (t.take (i+1))) (t.getD i default)=t.getD i default from if_pos h0]
theorem len_app_set (a:List Int) (k:Nat) (b:List Int) {x y:Int} (h:a.length=k):(a++x::b).set k y=a++y::b:=by
 subst h
 induction a with
 | nil=>rfl
 | cons c a ih=>simp[ih]
theorem mixS_set (s t:List Int) (i:Nat) (h:i<t.length):(mixS s t i).set i (codeI (seenS s (t.take (i+1))) (t.getD i default))=mixS s t (i+1):=by
 rw[mixS_succ s t i h,mixS_split s t i h,len_app_set _ _ _ (by simp;omega)]
theorem fidx_idx (n:Int):∀xs:List Int,(n∈xs→fidx (fun x=>x=n) xs=(xs.idxOf n:Int))∧(n∉xs→fidx (fun x=>x=n) xs=-1):=fun xs=>by
 constructor
 ·intro h
  have hlt:=List.idxOf_lt_length_of_mem h
  have hget:xs.getD (xs.idxOf n) default=n:=by simp[List.getD,List.getElem?_eq_getElem hlt]
  refine fidx_at (p:=fun x=>x=n) (fun j hj e=>?_) hlt hget
  have hjl:j<xs.length:=by omega
  have:xs[j]=n:=by rw[←e];simp[List.getD,List.getElem?_eq_getElem hjl]
  have:=List.not_of_lt_findIdx (p:=(·==n)) (xs:=xs) (i:=j) hj
  simp_all
 ·intro h
  exact fidx_none (p:=fun x=>x=n) fun j hj e=>h (e ▸ getD_mem xs j hj)
theorem seenS_len:∀(t s:List Int),(seenS s t).length≤s.length+t.length
 | [],s=>by simp[seenS]
 | n::l,s=>by
  simp only[seenS]
  split
  ·have:=seenS_len l s;simp only[List.length_cons];omega
  ·have:=seenS_len l (s++[n]);simp only[List.length_append,List.length_cons,List.length_nil] at this ⊢;omega
theorem seenT_len (ts:List (List Int)) (h:∀t∈ts,t.length≤60):∀j,j≤ts.length→(seenT ts j).length≤60*j
 | 0,_=>by simp[seenT]
 | j+1,hj=>by
  have ih:=seenT_len ts h j (by omega)
  have h1:=seenS_len (ts.getD j default) (seenT ts j)
  have h2:=h _ (getD_mem ts j (by omega))
  rw[seenT_succ ts j (by omega)]
  omega
def kp161:List (Nat×List Nat):=[(0,[0]),(1,[0,3]),(2,[0,3,4]),(3,[3,4,11,12,13]),(4,[3,4,11,12,13,14]),(5,[3,4,6,11,12,13]),(6,[3,4,7,11,12,13]),(7,[3,4,7,11,12,13,19,20,21]),(8,[3,4,7,11,12,13,19,20,21,22]),(9,[3,4,7,8,9,11,12,13,19,20,21]),(10,[3,4,7,8,9,11,12,13,19,20,21,27]),(11,[3,4,7,8,9,10,11,12,13,19,20,21]),(12,[3,4,7,8,9,10,11,12,13,19,20,21,32]),(13,[3,4,7,8,9,10,11,12,13,19,20,21]),(14,[3,4,7,8,10,11,12,13,19,20,21]),(15,[3,4,7,11,12,13,19,20,21]),(16,[3,4,7,11,12,13,19,20,21]),(17,[3,4,11,12,13]),(18,[3,4,11,12,13]),(19,[2])]
attribute [go_sem] kp161 Tryz.results161 Tryz.ntmps161
end
section
theorem sw_freezeLab1 {B:Base} {R:LS→Prop} {k:List VItem} {L:LS} (rid t s:Nat) (l:List Nat) {id n:Nat} {cs:List D} (xs:List D) {ops:Array Oper} {dr:Bool} (ht:Lg.look L.env t=some (.ms id n)) (hb:Lg.look L.boxes id=some cs) (hx:cs=flat xs) (hn:n=xs.length)
  (hu:∀x∈xs,x.cells.length=s) (hk:∀d∈cs,d.memOk=true) (hl:l≠[]) (hfix:id∉L.fix) (hh:SW S B R (.code (.region rid ops dr)::k) {L.forget id with env:=setA (L.forget id).env t (.sl (.lab l) xs)}):SW S B R (.code (.region rid ops dr)::k) L:=fun G a w hs=>by
 obtain⟨G',h'⟩:=freezeLab_sim hs ht hb hx hn hu hk hl hfix
 exact hh G' a w h'
theorem len_le_rngN:∀(n:Nat) (r:List Int),r.Nodup→(∀x∈r,x<0∧-(n:Int)≤x)→r.length≤n
 | 0,r,_,h=>by
  cases r with
  | nil=>exact Nat.le_refl _
  | cons x r=>have:=h x List.mem_cons_self;omega
 | n+1,r,hd,h=>by
  have h1:=len_le_rngN n (r.erase (-(n:Int)-1)) (hd.erase _) (fun x hx=>by
   have hx':=List.mem_of_mem_erase hx
   have hne:x≠(-(n:Int)-1):=fun e=>by
    subst e
    exact(List.Nodup.not_mem_erase hd) hx
   have:=h x hx'
   omega)
  rw[List.length_erase] at h1
  split at h1<;>omega
theorem seenS_nodup:∀(t s:List Int),s.Nodup→(seenS s t).Nodup
 | [],s,h=>h
 | n::l,s,h=>by
  simp only[seenS]
  split
  ·exact seenS_nodup l s h
  ·rename_i hn
   refine seenS_nodup l _ (List.nodup_append.2 ⟨h,by simp,fun a ha b hb e=>?_⟩)
   simp only[List.mem_singleton] at hb
   subst hb;subst e
   exact hn (.inr ha)
theorem seen0_neg (t:List Int):∀n∈seenS [] t,n∈t∧n<0:=fun n h=>(seenS_sub t [] n h).resolve_left (by simp)
theorem seen0_len {t:List Int} (h:∀n∈t,-24≤n):(seenS [] t).length≤24:=len_le_rngN 24 _ (seenS_nodup t [] (by simp)) fun x hx=>by
 have:=seen0_neg t x hx
 have:=h x this.1
 omega
theorem fl_map {rs:List Int} {f:Int→Int} {k:Nat} {t:List Int} (h:Fl rs k t):(∀n∈t,arS rs (f n)=arS rs n)→Fl rs k (t.map f):=by
 induction h with
 | nil=>exact fun _=>.nil
 | @cons n k l h0 hr ih =>
  intro hf
  have e:=hf n List.mem_cons_self
  exact .cons (by rw[e];exact h0) (by rw[e];exact ih fun m hm=>hf m (List.mem_cons_of_mem _ hm))
def ren0 (t:List Int):List Int:=t.map (codeI (seenS [] t))
theorem ren0_ok {rs t:List Int} (h:TermOkP rs t):TermOkP rs (ren0 t):=by
 have hl:=seen0_len h.ge
 refine fl_termOk h.1 (fl_map (termOk_fl h) fun n hn=>?_) (by unfold ren0;rw[List.length_map];exact h.2.1.2)
 unfold codeI
 split
 ·rfl
 ·rename_i h0
  have:=List.idxOf_lt_length_of_mem (seenS_mem t [] n hn (by omega))
  rw[arS_var ⟨h.ge n hn,by omega⟩,arS_var ⟨by omega,by omega⟩]
def byK (s:List Int) (x:Int) (k:Nat):Int:=if x∈s.take k then -1-(s.idxOf x:Int) else x
theorem byK_hit {s:List Int} (hs:s.Nodup) {x:Int} {k:Nat} (hk:k<s.length) (e:s.getD k default=x):byK s x (k+1)=-1-(k:Int):=by
 have hx:s[k]=x:=by rw[←e];simp[List.getD,hk]
 unfold byK
 rw[if_pos (by rw[List.take_succ_eq_append_getElem hk,hx];simp)]
 have:s.idxOf x=k:=by
  rw[←hx]
  have h1:=List.idxOf_lt_length_of_mem (List.getElem_mem hk)
  have h2:s[s.idxOf s[k]]=s[k]:=List.getElem_idxOf h1
  exact(List.getElem_inj hs).1 h2
 rw[this]
theorem ite_prop_congr {α:Type} {p q:Prop} [Decidable p] [Decidable q] (h:p↔q) {a b:α}:(if p then a else b)=if q then a else b:=by
 by_cases hp:p
 ·rw[if_pos hp,if_pos (h.1 hp)]
 ·rw[if_neg hp,if_neg fun hq=>hp (h.2 hq)]
theorem byK_miss {s:List Int} {x:Int} {k:Nat} (hk:k<s.length) (e:¬s.getD k default=x):byK s x (k+1)=byK s x k:=by
 have hx:¬x=s[k]:=fun h=>e (by rw[h];simp[List.getD,hk])
 have e2:x∈s.take (k+1)↔x∈s.take k:=by
  rw[List.take_succ_eq_append_getElem hk,List.mem_append,List.mem_singleton]
  exact⟨fun h=>h.resolve_right hx,.inl⟩
 unfold byK
 rw[ite_prop_congr e2]
theorem byK_zero (s:List Int) (x:Int):byK s x 0=x:=by simp[byK]
theorem byK_all {s:List Int} {x:Int} {k:Nat} (hk:s.length≤k) (hx:x<0) (h:x∈s):byK s x k=codeI s x:=by
 unfold byK codeI
 rw[List.take_of_length_le hk,if_pos h,if_neg (by omega)]
theorem renL_get:∀(ts:List (List Int)) (s:List Int) (j:Nat),j<ts.length→(renL s ts).getD j default=(ts.getD j default).map (codeI (seenS ((ts.take j).foldl seenS s) (ts.getD j default)))
 | [],_,_,h=>by simp at h
 | t::ts,s,0,_=>by simp[renL]
 | t::ts,s,j+1,h=>by
  have:=renL_get ts (seenS s t) j (by simpa using h)
  simpa[renL] using this
end
section
attribute [local irreducible] SW runL runQ runG runQG FC Ret1 RetN toF redoL
def kp155:List (Nat×List Nat):=[(0,[0]),(1,[0,3]),(2,[0,3,4]),(3,[0,3,4,9]),(5,[0,3,4,25]),(6,[0,3,4]),(4,[0,3,4]),(7,[2])]
attribute [go_sem] kp155 Tryz.results155 Tryz.ntmps155
theorem l2Order_fc (t:List Int) (ht:t.length≤1000):FC S 155 [] [] [] [.sl .any (t.map (.int .i64))] (.sl .any ((seenS [] t).map (.int .i64))) [] []:=by
 refine fcb Tryz.func155 fun B=>?_
 refine sw_bndg 0 fun hb0=>?_
 repeat' first|exact h.elim|refine sw_n ?_|refine sw_go 0 kp155 fun K hK=>?_|refine fun (K:KT) (hK:KOk S 0 _ _ _ K)=>?_|refine runL_g ?_|refine sw_retg0 ?_|refine sw_retg ?_|(refine hK.n0 ?_;clear hK K)|refine runG_fk (fun h=>?_) fun h=>?_|refine sw_condg rfl (fun h=>?_) fun h=>?_|refine hK.skp rfl rfl ?_|refine sw_exit rfl ?_|refine sw_loopEnd ?_|(refine hK.fork rfl rfl rfl ?_ ?_<;>intro h<;>try simp (disch:=(refine Om.mk ?_;omega)) only[go_sem] at h)|with_reducible refine and_o ?_|((with_reducible refine And.intro ?_ ?_);· first|(intro x hx;subst hx;rfl)|(intro x;refine And.intro ?_ ?_<;>(intros;subst_vars;rfl)))|apply tTT
 refine sw_tok 3 33000 2 1 rfl (.inr rfl) rfl ?_
 simp only[go_sem]
 refine sw_loopT (ι:=Nat) (fun i=>[(4,.int .i64 i),(3,.sl (.own 33000 2 1) ((seenS [] (t.take i)).map (.int .i64)))]) (fun _=>[]) (fun _=>[33000]) (fun i=>i≤t.length) (fun i=>t.length-i) 0 (by(refine covers_mk0 rfl rfl ?_ ?_ ?_ ?_<;>simp (disch:=(refine Om.mk ?_;omega)) only[go_sem]<;>(try omega));all_goals first|rfl|(simp[seenS];done)) (by omega) (fun i hi=>?_)
 simp only[go_sem]
 have hsl:=seenS_len (t.take i) []
 rw[List.length_take,List.length_nil] at hsl
 have hst:=seen_take [] t i
 generalize hz:seenS [] (t.take i)=zs at *
 repeat' first|exact h.elim|refine sw_n ?_|refine sw_go 0 kp155 fun K hK=>?_|refine fun (K:KT) (hK:KOk S 0 _ _ _ K)=>?_|refine runL_g ?_|refine sw_retg0 ?_|refine sw_retg ?_|(refine hK.n0 ?_;clear hK K)|refine runG_fk (fun h=>?_) fun h=>?_|refine sw_condg rfl (fun h=>?_) fun h=>?_|refine hK.skp rfl rfl ?_|refine sw_exit rfl ?_|refine sw_loopEnd ?_|refine hK.c1 rfl rfl rfl (l1Has_fc _ zs (t.getD i default)) ?_|(refine hK.fork rfl rfl rfl ?_ ?_<;>intro h<;>try simp (disch:=(refine Om.mk ?_;omega)) only[go_sem] at h)|with_reducible refine and_o ?_|((with_reducible refine And.intro ?_ ?_);· first|(intro x hx;subst hx;rfl)|(intro x;refine And.intro ?_ ?_<;>(intros;subst_vars;rfl)))|apply tTT
 ·exact⟨i+1,(by rw[hst (by omega),if_neg (by rintro (h1|h1);omega;exact h h1)];(refine covers_mk0 rfl rfl ?_ ?_ ?_ ?_<;>simp (disch:=(refine Om.mk ?_;omega)) only[go_sem]<;>(try omega));all_goals first|rfl|exact⟨rfl,by omega⟩|(simp;done)),by omega,by omega⟩
 ·exact⟨i+1,(by rw[hst (by omega),if_pos (.inr h)];(refine covers_mk0 rfl rfl ?_ ?_ ?_ ?_<;>simp (disch:=(refine Om.mk ?_;omega)) only[go_sem]<;>(try omega));all_goals first|rfl|exact⟨rfl,by omega⟩|(simp;done)),by omega,by omega⟩
 ·exact⟨i+1,(by rw[hst (by omega),if_pos (.inl (by assumption))];(refine covers_mk0 rfl rfl ?_ ?_ ?_ ?_<;>simp (disch:=(refine Om.mk ?_;omega)) only[go_sem]<;>(try omega));all_goals first|rfl|exact⟨rfl,by omega⟩|(simp;done)),by omega,by omega⟩
 ·rw[←hz,List.take_of_length_le (by omega)]
def kp154:List (Nat×List Nat):=[(0,[0,1]),(1,[0,1,5]),(2,[0,1,5,6]),(3,[0,1,5,6,13]),(5,[0,1,5,6,7]),(6,[0,1,5,6,7,8]),(7,[0,1,5,6,7,8,30]),(9,[0,1,5,6,7,8,41]),(10,[0,1,5,6,7,8]),(8,[0,1,5,6,7,8]),(11,[0,1,5,6]),(4,[0,1,5,6]),(12,[4])]
attribute [go_sem] kp154 Tryz.results154 Tryz.ntmps154
theorem l2By_fc (s t:List Int) (hs:s.Nodup) (hst:∀n∈t,n<0→n∈s) (h1:s.length≤1000) (h2:t.length≤1000) (hlo:∀n∈t,-1000≤n):FC S 154 [] [] [] [.sl .any (s.map (.int .i64)),.sl .any (t.map (.int .i64))] (.sl .any ((t.map (codeI s)).map (.int .i64))) [] []:=by
 refine fcb Tryz.func154 fun B=>?_
 refine sw_bndg 0 fun hb0=>?_
 refine sw_bndg 1 fun hb1=>?_
 repeat' first|exact h.elim|refine sw_n ?_|refine sw_go 0 kp154 fun K hK=>?_|refine fun (K:KT) (hK:KOk S 0 _ _ _ K)=>?_|refine sw_goD kp154 (by kernel_rfl) fun K hK=>?_|refine runL_g ?_|refine runQ_g ?_|refine sw_retg0 ?_|refine sw_retg ?_|(refine hK.n0 ?_;clear hK K)|refine runG_fk (fun h=>?_) fun h=>?_|refine runQG_fk (fun h=>?_) fun h=>?_|refine sw_condg rfl (fun h=>?_) fun h=>?_|refine hK.skp rfl rfl ?_|refine sw_exit rfl ?_|refine sw_loopEnd ?_|(refine hK.fork rfl rfl rfl ?_ ?_<;>intro h<;>try simp (disch:=(refine Om.mk ?_;omega)) only[go_sem] at h)|with_reducible refine and_o ?_|((with_reducible refine And.intro ?_ ?_);· first|(intro x hx;subst hx;rfl)|(intro x;refine And.intro ?_ ?_<;>(intros;subst_vars;rfl)))|apply tTT
 refine sw_tok 5 48000 2 1 rfl (.inr rfl) rfl ?_
 simp only[go_sem]
 refine sw_loopT (ι:=Nat) (fun i=>[(6,.int .i64 i),(5,.sl (.own 48000 2 1) (((t.take i).map (codeI s)).map (.int .i64)))]) (fun _=>[]) (fun _=>[48000]) (fun i=>i≤t.length) (fun i=>t.length-i) 0 (by(refine covers_mk0 rfl rfl ?_ ?_ ?_ ?_<;>simp (disch:=(refine Om.mk ?_;omega)) only[go_sem]<;>(try omega));all_goals first|rfl|(simp;done)) (by omega) (fun i hi=>?_)
 simp only[go_sem]
 have hll:((t.take i).map (codeI s)).length≤1000:=by rw[List.length_map,List.length_take];omega
 have hnx:i<t.length→(t.take (i+1)).map (codeI s)=(t.take i).map (codeI s)++[codeI s (t.getD i default)]:=fun h=>by
  rw[List.take_succ_eq_append_getElem h,List.map_append];congr 1;simp[List.getD,h]
 have hend:t.length≤i→(t.take i).map (codeI s)=t.map (codeI s):=fun h=>by rw[List.take_of_length_le h]
 have hin:i<t.length→t.getD i default<0→t.getD i default∈s:=fun h=>hst _ (getD_mem t i h)
 generalize hz:(t.take i).map (codeI s)=zs at *
 repeat' first|exact h.elim|refine sw_n ?_|refine sw_go 0 kp154 fun K hK=>?_|refine fun (K:KT) (hK:KOk S 0 _ _ _ K)=>?_|refine sw_goD kp154 (by kernel_rfl) fun K hK=>?_|refine runL_g ?_|refine runQ_g ?_|refine sw_retg0 ?_|refine sw_retg ?_|(refine hK.n0 ?_;clear hK K)|refine runG_fk (fun h=>?_) fun h=>?_|refine runQG_fk (fun h=>?_) fun h=>?_|refine sw_condg rfl (fun h=>?_) fun h=>?_|refine hK.skp rfl rfl ?_|refine sw_exit rfl ?_|refine sw_loopEnd ?_|(refine hK.fork rfl rfl rfl ?_ ?_<;>intro h<;>try simp (disch:=(refine Om.mk ?_;omega)) only[go_sem] at h)|with_reducible refine and_o ?_|((with_reducible refine And.intro ?_ ?_);· first|(intro x hx;subst hx;rfl)|(intro x;refine And.intro ?_ ?_<;>(intros;subst_vars;rfl)))|apply tTT
 ·refine sw_loopT (ι:=Nat) (fun k=>[(8,.int .i64 k),(7,.int .i64 (byK s (t.getD i default) k))]) (fun _=>[]) (fun _=>[48000]) (fun k=>k≤s.length∧(0≤t.getD i default→k=0)) (fun k=>s.length-k) 0 (by(refine covers_mk0 rfl rfl ?_ ?_ ?_ ?_<;>simp (disch:=(refine Om.mk ?_;omega)) only[go_sem]<;>(try omega));all_goals first|rfl|(simp[byK_zero];done)) ⟨by omega,fun _=>rfl⟩ (fun k hk=>?_)
  simp only[go_sem]
  obtain⟨hk1,hk2⟩:=hk
  repeat' first|exact h.elim|refine sw_n ?_|refine sw_go 0 kp154 fun K hK=>?_|refine fun (K:KT) (hK:KOk S 0 _ _ _ K)=>?_|refine sw_goD kp154 (by kernel_rfl) fun K hK=>?_|refine runL_g ?_|refine runQ_g ?_|refine sw_retg0 ?_|refine sw_retg ?_|(refine hK.n0 ?_;clear hK K)|refine runG_fk (fun h=>?_) fun h=>?_|refine runQG_fk (fun h=>?_) fun h=>?_|refine sw_condg rfl (fun h=>?_) fun h=>?_|refine hK.skp rfl rfl ?_|refine sw_exit rfl ?_|refine sw_loopEnd ?_|(refine hK.fork rfl rfl rfl ?_ ?_<;>intro h<;>try simp (disch:=(refine Om.mk ?_;omega)) only[go_sem] at h)|with_reducible refine and_o ?_|((with_reducible refine And.intro ?_ ?_);· first|(intro x hx;subst hx;rfl)|(intro x;refine And.intro ?_ ?_<;>(intros;subst_vars;rfl)))|apply tTT
  ·exact⟨k+1,(by rw[byK_hit hs (by omega) h];(refine covers_mk0 rfl rfl ?_ ?_ ?_ ?_<;>simp (disch:=(refine Om.mk ?_;omega)) only[go_sem]<;>(try omega));all_goals first|rfl|exact⟨rfl,by omega⟩|(simp;done)|omega),⟨by omega,fun _=>by omega⟩,by omega⟩
  ·exact⟨k+1,(by rw[byK_miss (by omega) h];(refine covers_mk0 rfl rfl ?_ ?_ ?_ ?_<;>simp (disch:=(refine Om.mk ?_;omega)) only[go_sem]<;>(try omega));all_goals first|rfl|exact⟨rfl,by omega⟩|(simp;done)|omega),⟨by omega,fun _=>by omega⟩,by omega⟩
  ·have e:byK s (t.getD i default) k=codeI s (t.getD i default):=by
    rw[hk2 (by omega),byK_zero,codeI,if_pos (by omega)]
   exact⟨i+1,(by rw[hnx (by omega),e];(refine covers_mk0 rfl rfl ?_ ?_ ?_ ?_<;>simp (disch:=(refine Om.mk ?_;omega)) only[go_sem]<;>(try omega));all_goals first|rfl|exact⟨rfl,by omega⟩|(simp;done)),by omega,by omega⟩
  ·have e:byK s (t.getD i default) k=codeI s (t.getD i default):=by
    rcases Int.lt_or_le (t.getD i default) 0 with h0|h0
    ·exact byK_all (by omega) h0 (hin (by omega) h0)
    ·rw[hk2 h0,byK_zero,codeI,if_pos h0]
   exact⟨i+1,(by rw[hnx (by omega),e];(refine covers_mk0 rfl rfl ?_ ?_ ?_ ?_<;>simp (disch:=(refine Om.mk ?_;omega)) only[go_sem]<;>(try omega));all_goals first|rfl|exact⟨rfl,by omega⟩|(simp;done)),by omega,by omega⟩
 ·rw[hend (by omega)]
def kp116:List (Nat×List Nat):=[(0,[0]),(1,[2])]
attribute [go_sem] kp116 Tryz.results116 Tryz.ntmps116
theorem l2Renamed_fc (rs t:List Int) (ht:TermOkP rs t):FC S 116 [] [] [] [.sl .any (t.map (.int .i64))] (.sl .any ((ren0 t).map (.int .i64))) [] []:=by
 have h1:=ht.2.1
 have h2:=seen0_len ht.ge
 have h3:=seenS_nodup t [] (by simp)
 have h4:=seenS_mem t []
 refine fcb Tryz.func116 fun B=>?_
 refine sw_bndg 0 fun hb0=>?_
 repeat' first|refine sw_n ?_|refine sw_go 0 kp116 fun K hK=>?_|refine fun (K:KT) (hK:KOk S 0 _ _ _ K)=>?_|refine runL_g ?_|refine sw_retg0 ?_|refine sw_retg ?_|(refine hK.n0 ?_;clear hK K)|refine sw_loopEnd ?_|refine hK.c1 rfl rfl rfl (l2Order_fc t (by omega)) ?_|refine hK.c1 rfl rfl rfl (l2By_fc (seenS [] t) t h3 h4 (by omega) (by omega) (fun n hn=>by have:=ht.ge n hn;omega)) ?_|with_reducible refine and_o ?_|apply tTT
 rfl
end
section
attribute [local irreducible] SW runL runQ runG runQG FC Ret1 RetN toF redoL
attribute [local go_sem] pu_ints tksL_ints idsL_ints
theorem renumberL_fc (q:Nat→List Nat) (hq:∀j,q j≠[]) (tk:Tk) (ts:List (List Int)) (hn:ts.length≤100) (ht:∀t∈ts,1≤t.length∧t.length≤60):FC S 161 [] [] [] [.sl tk (ts.map IntsD)] (.sl .any (mapR (fun j y=>Int64SL (q j) y) (renL [] ts))) [] []:=by
 have hsl:=seenT_len ts fun t h=>(ht t h).2
 have hrl:=renL_len ts []
 refine FC.args (args':=[.sl .any (ts.map IntsD)]) ?_ (by simp only[go_sem])
 refine fcb Tryz.func161 fun B=>?_
 refine sw_bndg 0 fun hb0=>?_
 repeat' first|exact h.elim|refine sw_n ?_|refine sw_go 0 kp161 fun K hK=>?_|refine fun (K:KT) (hK:KOk S 0 _ _ _ K)=>?_|refine runL_g ?_|refine sw_retg0 ?_|refine sw_retg ?_|(refine hK.n0 ?_;clear hK K)|refine sw_condg rfl (fun h=>?_) fun h=>?_|refine sw_exit rfl ?_|refine sw_loopEnd ?_|with_reducible refine and_o ?_|((with_reducible refine And.intro ?_ ?_);· first|(intro x hx;subst hx;rfl)|exact upR_mem fun _ _=>rfl|exact mapR_mem fun _ _=>rfl|(intro x;refine And.intro ?_ ?_<;>(intros;subst_vars;rfl)))|apply tTT
 refine sw_tok 3 39000 2 1 rfl (.inl rfl) rfl ?_
 simp only[go_sem]
 refine sw_tok 4 49000 22 1 rfl (.inl rfl) rfl ?_
 simp only[go_sem]
 refine sw_loopT (ι:=Nat) (fun j=>[(13,.int .i64 j),(3,.sl (.own 39000 2 1) ((seenT ts j).map (.int .i64))),(4,.sl (.own 49000 22 1) (upR (fun j y=>D.sl (.lab (q j)) (List.map (.int .i64) y)) (renL [] ts) j))]) (fun _=>[]) (fun _=>[49000,39000]) (fun j=>j≤ts.length) (fun j=>ts.length-j) 0 cvB (by omega) (fun j hj=>?_)
 simp only[go_sem]
 have hsj:=hsl j hj
 rcases Nat.lt_or_ge j ts.length with hjl|hjl
 ·have htj:=ht _ (getD_mem ts j hjl)
  have hrs:(renL [] ts).getD j default=(ts.getD j default).map (codeI (seenS (seenT ts j) (ts.getD j default))):=renL_get ts [] j hjl
  have hss:=seenT_succ ts j hjl
  generalize hs0:seenT ts j=s at hsj hrs hss
  have hne:ts.getD j default≠[]:=fun e=>by rw[e] at htj;simp at htj
  have hll:=upR_length (fun j y=>D.sl (.lab (q j)) (List.map (.int .i64) y)) (renL [] ts) j
  have hus:=upR_succ (fun j y=>D.sl (.lab (q j)) (List.map (.int .i64) y)) (renL [] ts) j
  rw[hrs] at hus
  repeat' first|exact h.elim|refine sw_n ?_|refine sw_go 0 kp161 fun K hK=>?_|refine fun (K:KT) (hK:KOk S 0 _ _ _ K)=>?_|refine runL_g ?_|refine sw_retg0 ?_|refine sw_retg ?_|(refine hK.n0 ?_;clear hK K)|refine sw_condg rfl (fun h=>?_) fun h=>?_|refine sw_exit rfl ?_|refine sw_loopEnd ?_|refine hK.cT rfl rfl rfl (cloneOwn_fc .any (ts.getD j default) (by omega)) ?_|with_reducible refine and_o ?_|((with_reducible refine And.intro ?_ ?_);· first|(intro x hx;subst hx;rfl)|exact upR_mem fun _ _=>rfl|exact mapR_mem fun _ _=>rfl|(intro x;refine And.intro ?_ ?_<;>(intros;subst_vars;rfl)))|apply tTT
  ·refine sw_loopT (ι:=Nat) (fun i=>[(21,.int .i64 i),(3,.sl (.own 39000 2 1) ((seenS s ((ts.getD j default).take i)).map (.int .i64)))]) (fun i=>[(18,(mixS s (ts.getD j default) i).map (.int .i64))]) (fun _=>[39000,49000]) (fun i=>i≤(ts.getD j default).length) (fun i=>(ts.getD j default).length-i) 0 (by(refine covers_mk0 rfl rfl ?_ ?_ ?_ ?_<;>simp (disch:=(refine Om.mk ?_;omega)) only[go_sem]<;>(try omega));all_goals first|exact⟨rfl,rfl⟩|simp[mixS]) (by omega) (fun i hi=>?_)
   simp only[go_sem]
   have hml:=mixS_len s (ts.getD j default) i hi
   have hmg:=mixS_get s (ts.getD j default) i
   have hms:=mixS_stay s (ts.getD j default) i
   have hmt:=mixS_set s (ts.getD j default) i
   have hst:=seen_take s (ts.getD j default) i
   have hsn:=seenS_len ((ts.getD j default).take i) s
   have htk:((ts.getD j default).take i).length≤60:=by simp;omega
   have hfx:=fidx_idx ((mixS s (ts.getD j default) i).getD i default) (seenS s ((ts.getD j default).take i))
   have hfr:-1≤fidx (fun x=>x=(mixS s (ts.getD j default) i).getD i default) (seenS s ((ts.getD j default).take i))∧fidx (fun x=>x=(mixS s (ts.getD j default) i).getD i default) (seenS s ((ts.getD j default).take i))≤10000:=by
    by_cases hm:(mixS s (ts.getD j default) i).getD i default∈seenS s ((ts.getD j default).take i)
    ·have:=List.idxOf_lt_length_of_mem hm
     rw[hfx.1 hm];omega
    ·rw[hfx.2 hm];omega
   repeat' first|exact h.elim|(refine sw_freezeLab1 17 7 1 (q j) ((mixS s (ts.getD j default) i).map (.int .i64)) rfl rfl (flat_ints _).symm (by rw[List.length_map,hml]) (cells_one fun _=>rfl) (memOk_ints _) (hq j) (by simp) ?_;simp only[go_sem])|refine sw_n ?_|refine sw_go 0 kp161 fun K hK=>?_|refine fun (K:KT) (hK:KOk S 0 _ _ _ K)=>?_|refine runL_g ?_|refine sw_retg0 ?_|refine sw_retg ?_|(refine hK.n0 ?_;clear hK K)|refine sw_condg rfl (fun h=>?_) fun h=>?_|refine sw_exit rfl ?_|refine sw_loopEnd ?_|refine hK.c1 rfl rfl rfl (index_fc _ _ _) ?_|with_reducible refine and_o ?_|((with_reducible refine And.intro ?_ ?_);· first|(intro x hx;subst hx;rfl)|exact upR_mem fun _ _=>rfl|exact mapR_mem fun _ _=>rfl|(intro x;refine And.intro ?_ ?_<;>(intros;subst_vars;rfl)))|apply tTT
   ·rw[hmg (by omega)] at h
    refine⟨i+1,(by(refine covers_mk0 rfl rfl ?_ ?_ ?_ ?_<;>simp (disch:=(refine Om.mk ?_;omega)) only[go_sem]<;>(try omega));all_goals first|(rw[hst (by omega),if_pos (.inl h)];exact⟨rfl,by omega⟩)|rw[hms (by omega) h]),by omega,by omega⟩
   ·rw[hmg (by omega)] at *
    have hnm:(ts.getD j default).getD i default∉seenS s ((ts.getD j default).take i):=fun hm=>by rw[hfx.1 hm] at h;omega
    have hst:=hst (by omega)
    rw[if_neg (by rintro (h1|h1);omega;exact hnm h1)] at hst
    have hmt:=hmt (by omega)
    rw[hst,code_new (by assumption) hnm] at hmt
    refine⟨i+1,(by(refine covers_mk0 rfl rfl ?_ ?_ ?_ ?_<;>simp (disch:=(refine Om.mk ?_;omega)) only[go_sem]<;>(try omega));all_goals first|(rw[hst];exact⟨rfl,by omega⟩)|(rw[←hmt])|(simp;done)),by omega,by omega⟩
   ·rw[hmg (by omega)] at *
    have hm:(ts.getD j default).getD i default∈seenS s ((ts.getD j default).take i):=Classical.byContradiction fun hn=>by rw[hfx.2 hn] at h;omega
    have hst:=hst (by omega)
    rw[if_pos (.inr hm)] at hst
    have hmt:=hmt (by omega)
    rw[hst,code_old (by assumption),←hfx.1 hm] at hmt
    refine⟨i+1,(by(refine covers_mk0 rfl rfl ?_ ?_ ?_ ?_<;>simp (disch:=(refine Om.mk ?_;omega)) only[go_sem]<;>(try omega));all_goals first|(rw[hst];exact⟨rfl,by omega⟩)|(rw[←hmt])|(simp;done)),by omega,by omega⟩
   ·obtain⟨e1,e2⟩:=mixS_all s (ts.getD j default) i (by omega)
    refine⟨j+1,(by(refine covers_mk0 rfl rfl ?_ ?_ ?_ ?_<;>simp (disch:=(refine Om.mk ?_;omega)) only[go_sem]<;>(try omega));all_goals first|(rw[e1,e2,hus,hss];exact⟨rfl,rfl,by omega⟩)|(simp;done)),by omega,by omega⟩
  ·exfalso;omega
 ·repeat' first|exact h.elim|refine sw_n ?_|refine sw_go 0 kp161 fun K hK=>?_|refine fun (K:KT) (hK:KOk S 0 _ _ _ K)=>?_|refine runL_g ?_|refine sw_retg0 ?_|refine sw_retg ?_|(refine hK.n0 ?_;clear hK K)|refine sw_condg rfl (fun h=>?_) fun h=>?_|refine sw_exit rfl ?_|refine sw_loopEnd ?_|with_reducible refine and_o ?_|((with_reducible refine And.intro ?_ ?_);· first|(intro x hx;subst hx;rfl)|exact upR_mem fun _ _=>rfl|exact mapR_mem fun _ _=>rfl|(intro x;refine And.intro ?_ ?_<;>(intros;subst_vars;rfl)))|apply tTT
  ·exfalso;omega
  ·rw[show j=(renL [] ts).length by omega];rfl
def kp143:List (Nat×List Nat):=[(0,[0]),(1,[2])]
attribute [go_sem] kp143 Tryz.results143 Tryz.ntmps143
theorem renamedL_fc (p:List Nat) (hp:p≠[]) (tk:Tk) (t:List Int) (ht:1≤t.length∧t.length≤60):FC S 143 [] [] [] [.sl tk (t.map (.int .i64))] (Int64SL p (ren0 t)) [] []:=by
 have c:FC S 161 [] [] [] [.sl .full [IntsD t]] (.sl .any [Int64SL p (ren0 t)]) [] []:=renumberL_fc (fun _=>p) (fun _=>hp) .full [t] (by simp) (fun u hu=>by rw[List.mem_singleton.1 hu];exact ht)
 refine FC.args (args':=[.sl .any (t.map (.int .i64))]) ?_ (by simp only[go_sem])
 refine fcb Tryz.func143 fun B=>?_
 repeat' first|refine sw_n ?_|refine sw_go 0 kp143 fun K hK=>?_|refine fun (K:KT) (hK:KOk S 0 _ _ _ K)=>?_|refine runL_g ?_|refine sw_retg0 ?_|refine sw_retg ?_|(refine hK.n0 ?_;clear hK K)|refine sw_loopEnd ?_|refine hK.c1 rfl rfl rfl (c) ?_|with_reducible refine and_o ?_|((with_reducible refine And.intro ?_ ?_);· first|(intro x hx;subst hx;rfl)|exact upR_mem fun _ _=>rfl|exact mapR_mem fun _ _=>rfl|(intro x;refine And.intro ?_ ?_<;>(intros;subst_vars;rfl)))|apply tTT
end
section
attribute [local irreducible] SW runL runQ runG runQG FC
def LinP (t:List Int):Prop:=∀j<t.length,t.getD j default<0→t.getD j default∉t.take j
def LinW (t:List Int):Prop:=t.Pairwise fun a b=>b<0→a≠b
theorem linP_w (t:List Int):LinP t↔LinW t:=by
 unfold LinP LinW
 rw[List.pairwise_iff_getElem]
 constructor
 ·intro h i j hi hj hij hneg e
  have h1:=h j hj (by simpa[List.getD,List.getElem?_eq_getElem hj] using hneg)
  apply h1
  have h2:t.getD j default=t[j]:=by simp[List.getD,List.getElem?_eq_getElem hj]
  rw[h2,←e]
  exact List.mem_take_iff_getElem.2 ⟨i,by omega,rfl⟩
 ·intro h j hj hneg hm
  have h2:t.getD j default=t[j]:=by simp[List.getD,List.getElem?_eq_getElem hj]
  rw[h2] at hneg hm
  obtain⟨i,hi,e⟩:=List.mem_take_iff_getElem.1 hm
  exact h i j (by omega) hj (by omega) hneg e
theorem lin_count:∀t:List Int,(∀x∈t,x<0→t.count x≤1)↔LinW t
 | []=>by simp[LinW]
 | y::t=>by
  have ih:=lin_count t
  unfold LinW at *
  rw[List.pairwise_cons,←ih]
  constructor
  ·intro h
   refine⟨fun b hb hneg e=>?_,fun x hx hneg=>?_⟩
   ·subst e
    have h1:=h y (by simp) hneg
    have h2:=List.count_pos_iff.2 hb
    rw[List.count_cons_self] at h1
    omega
   ·have h1:=h x (by simp[hx]) hneg
    have:=List.count_le_count_cons (a:=x) (b:=y) (l:=t)
    omega
  ·rintro⟨h1,h2⟩ x hx hneg
   by_cases e:y=x
   ·subst e
    have:y∉t:=fun hm=>h1 y hm hneg rfl
    rw[List.count_cons_self,List.count_eq_zero.2 this];omega
   ·have hx':x∈t:=by
     rcases List.mem_cons.1 hx with rfl|hx
     ·exact absurd rfl e
     ·exact hx
    rw[List.count_cons_of_ne (fun h=>e h)]
    exact h2 x hx' hneg
def RuleOkP (rs l r:List Int):Prop:=(TermOkP rs l∧TermOkP rs r∧0≤l.getD 0 default)∧∀j<r.length,r.getD j default<0→r.getD j default∈l
def kp128:List (Nat×List Nat):=[(0,[0,1]),(1,[0,1,5]),(2,[0,1,5,6]),(3,[0,1,5,6,10]),(5,[0,1,5,6,18]),(6,[0,1,5,6]),(4,[0,1,5,6]),(7,[4])]
attribute [go_sem] kp128 Tryz.results128 Tryz.ntmps128
theorem l1Count_fc (tk:Tk) (xs:List Int) (n:Int):FC S 128 [] [] [] [.sl tk (xs.map (.int .i64)),.int .i64 n] (.int .i64 (xs.count n)) [] []:=by
 refine fcb Tryz.func128 fun B=>?_
 refine sw_bndg 0 fun hb0=>?_
 repeat' first|exact h.elim|refine sw_n ?_|refine sw_go 0 kp128 fun K hK=>?_|refine fun (K:KT) (hK:KOk S 0 _ _ _ K)=>?_|refine runL_g ?_|refine sw_retg0 ?_|refine sw_retg ?_|(refine hK.n0 ?_;clear hK K)|refine sw_condg rfl (fun h=>?_) fun h=>?_|refine sw_exit rfl ?_|refine sw_loopEnd ?_|with_reducible refine and_o ?_|apply tTT
 refine sw_loopU (ι:=Nat) (fun i=>[(6,.int .i64 i),(5,.int .i64 ((xs.take i).count n))]) (fun _=>[]) (fun i=>i≤xs.length∧(True)) (fun i=>xs.length-i) 0 (by(refine covers_mk0 rfl rfl ?_ ?_ ?_ ?_<;>simp (disch:=(refine Om.mk ?_;omega)) only[go_sem]<;>(try omega));exact⟨by simp,rfl⟩) ⟨by omega,?_⟩ (fun i ⟨hi,hj⟩=>?_)
 rotate_left
 simp only[go_sem]
 have hc:=List.count_le_length (a:=n) (l:=xs.take i)
 have hl:(xs.take i).length≤i:=by simp;omega
 have hs:i<xs.length→xs.take (i+1)=xs.take i++[xs.getD i default]:=fun h=>by
  rw[List.take_succ_eq_append_getElem h];simp[List.getD,List.getElem?_eq_getElem h]
 repeat' first|exact h.elim|refine sw_n ?_|refine sw_go 0 kp128 fun K hK=>?_|refine fun (K:KT) (hK:KOk S 0 _ _ _ K)=>?_|refine runL_g ?_|refine sw_retg0 ?_|refine sw_retg ?_|(refine hK.n0 ?_;clear hK K)|refine sw_condg rfl (fun h=>?_) fun h=>?_|refine sw_exit rfl ?_|refine sw_loopEnd ?_|with_reducible refine and_o ?_|apply tTT
 ·refine⟨i+1,(by(refine covers_mk0 rfl rfl ?_ ?_ ?_ ?_<;>simp (disch:=(refine Om.mk ?_;omega)) only[go_sem]<;>(try omega));rw[hs (by omega),List.count_append,h];simp),by omega,by omega⟩
 ·refine⟨i+1,(by(refine covers_mk0 rfl rfl ?_ ?_ ?_ ?_<;>simp (disch:=(refine Om.mk ?_;omega)) only[go_sem]<;>(try omega));rw[hs (by omega),List.count_append,List.count_eq_zero.2 (fun e=>h (List.mem_singleton.1 e).symm)];simp),by omega,by omega⟩
 ·rw[List.take_of_length_le (by omega)]
 all_goals trivial
def kp76:List (Nat×List Nat):=[(0,[0]),(1,[0,3]),(2,[0,3,7]),(4,[0,3,23]),(5,[2]),(3,[0,3]),(6,[2])]
attribute [go_sem] kp76 Tryz.results76 Tryz.ntmps76
theorem l2Linear_fc (tk:Tk) (t:List Int):FC S 76 [] [] [] [.sl tk (t.map (.int .i64))] (.bool (tst (LinP t))) [] []:=by
 have hh:LinP t↔∀j<t.length,t.getD j default<0→(t.count (t.getD j default):Int)≤1:=by
  rw[linP_w,←lin_count]
  constructor
  ·intro h j hj hneg
   have:=h _ (getD_mem t j hj) hneg
   omega
  ·intro h
   have:=(forall_getD (P:=fun x=>x<0→(t.count x:Int)≤1)).1 h
   intro x hx hneg
   have:=this x hx hneg
   omega
 rw[tst_congr hh]
 refine fcb Tryz.func76 fun B=>?_
 refine sw_bndg 0 fun hb0=>?_
 repeat' first|exact h.elim|refine sw_n ?_|refine sw_go 0 kp76 fun K hK=>?_|refine fun (K:KT) (hK:KOk S 0 _ _ _ K)=>?_|refine runL_g ?_|refine sw_retg0 ?_|refine sw_retg ?_|(refine hK.n0 ?_;clear hK K)|refine runG_fk (fun h=>?_) fun h=>?_|refine sw_condg rfl (fun h=>?_) fun h=>?_|refine hK.skp rfl rfl ?_|refine sw_exit rfl ?_|refine sw_loopEnd ?_|(refine hK.fork rfl rfl rfl ?_ ?_<;>intro h<;>try simp (disch:=(refine Om.mk ?_;omega)) only[go_sem] at h)|with_reducible refine and_o ?_|apply tTT
 refine sw_loopU (ι:=Nat) (fun i=>[(3,.int .i64 i)]) (fun _=>[]) (fun i=>i≤t.length∧(∀j<i,t.getD j default<0→(t.count (t.getD j default):Int)≤1)) (fun i=>t.length-i) 0 cvA ⟨by omega,?_⟩ (fun i ⟨hi,hj⟩=>?_)
 rotate_left
 simp only[go_sem]
 repeat' first|exact h.elim|refine sw_n ?_|refine sw_go 0 kp76 fun K hK=>?_|refine fun (K:KT) (hK:KOk S 0 _ _ _ K)=>?_|refine runL_g ?_|refine sw_retg0 ?_|refine sw_retg ?_|(refine hK.n0 ?_;clear hK K)|refine runG_fk (fun h=>?_) fun h=>?_|refine sw_condg rfl (fun h=>?_) fun h=>?_|refine hK.skp rfl rfl ?_|refine sw_exit rfl ?_|refine sw_loopEnd ?_|refine hK.c1 rfl rfl rfl (l1Count_fc _ _ _) ?_|(refine hK.fork rfl rfl rfl ?_ ?_<;>intro h<;>try simp (disch:=(refine Om.mk ?_;omega)) only[go_sem] at h)|with_reducible refine and_o ?_|apply tTT
 ·intro h2;have:=h2 i (by omega) (by assumption);omega
 ·exact⟨i+1,by(refine covers_mk0 rfl rfl ?_ ?_ ?_ ?_<;>simp (disch:=(refine Om.mk ?_;omega)) only[go_sem]<;>(try omega)),⟨by omega,upto_succ hj fun _=>h⟩,by omega⟩
 ·exact⟨i+1,by(refine covers_mk0 rfl rfl ?_ ?_ ?_ ?_<;>simp (disch:=(refine Om.mk ?_;omega)) only[go_sem]<;>(try omega)),⟨by omega,upto_succ hj fun h0=>by omega⟩,by omega⟩
 ·intro j hj';exact hj j (by omega)
 ·intro j hj';omega
def kp38:List (Nat×List Nat):=[(0,[1,2]),(1,[4])]
attribute [go_sem] kp38 Tryz.results38 Tryz.ntmps38
theorem specLinearIn_fc (tk tk':Tk) (rs t:List Int):FC S 38 [] [] [] [.agg [.sl tk (rs.map (.int .i64))],.sl tk' (t.map (.int .i64))] (.bool (tst (TermOkP rs t∧LinP t))) [] []:=by
 refine fcb Tryz.func38 fun B=>?_
 repeat' first|exact h.elim|refine sw_n ?_|refine sw_go 0 kp38 fun K hK=>?_|refine fun (K:KT) (hK:KOk S 0 _ _ _ K)=>?_|refine runL_g ?_|refine sw_retg0 ?_|refine sw_retg ?_|(refine hK.n0 ?_;clear hK K)|refine runG_fk (fun h=>?_) fun h=>?_|refine hK.skp rfl rfl ?_|refine sw_loopEnd ?_|refine hK.c1 rfl rfl rfl (specTermOk_fc _ _ _ _) ?_|refine hK.c1 rfl rfl rfl (l2Linear_fc _ _) ?_|(refine hK.fork rfl rfl rfl ?_ ?_<;>intro h<;>try simp (disch:=(refine Om.mk ?_;omega)) only[go_sem] at h)|with_reducible refine and_o ?_|apply tTT
 ·exact⟨fun h'=>⟨by assumption,h'⟩,fun h'=>h'.2⟩
 ·rintro⟨h1,_⟩;contradiction
def kp80:List (Nat×List Nat):=[(0,[0]),(1,[0,5,6,7]),(2,[0,5,6,7,8]),(3,[0,3,4,5,6,7]),(4,[0,5,6,7,20]),(5,[2]),(6,[0,5,6,7]),(7,[2])]
attribute [go_sem] kp80 Tryz.results80 Tryz.ntmps80
theorem linear_fc (tk:Tk) (t:List Int):FC S 80 [] [] [] [.sl tk (t.map (.int .i64))] (.bool (tst (LinP t))) [] []:=by
 refine fcb Tryz.func80 fun B=>?_
 refine sw_bndg 0 fun hb0=>?_
 repeat' first|exact h.elim|refine sw_n ?_|refine sw_go 0 kp80 fun K hK=>?_|refine fun (K:KT) (hK:KOk S 0 _ _ _ K)=>?_|refine runL_g ?_|refine sw_retg0 ?_|refine sw_retg ?_|(refine hK.n0 ?_;clear hK K)|refine runG_fk (fun h=>?_) fun h=>?_|refine sw_condg rfl (fun h=>?_) fun h=>?_|refine hK.skp rfl rfl ?_|refine sw_exit rfl ?_|refine sw_loopEnd ?_|(refine hK.fork rfl rfl rfl ?_ ?_<;>intro h<;>try simp (disch:=(refine Om.mk ?_;omega)) only[go_sem] at h)|with_reducible refine and_o ?_|apply tTT
 refine sw_loopU (ι:=Nat) (fun i=>[(7,.int .i64 i)]) (fun _=>[]) (fun i=>i≤t.length∧(∀j<i,t.getD j default<0→t.getD j default∉t.take j)) (fun i=>t.length-i) 0 cvA ⟨by omega,?_⟩ (fun i ⟨hi,hj⟩=>?_)
 rotate_left
 simp only[go_sem]
 repeat' first|exact h.elim|refine sw_n ?_|refine sw_go 0 kp80 fun K hK=>?_|refine fun (K:KT) (hK:KOk S 0 _ _ _ K)=>?_|refine runL_g ?_|refine sw_retg0 ?_|refine sw_retg ?_|(refine hK.n0 ?_;clear hK K)|refine runG_fk (fun h=>?_) fun h=>?_|refine sw_condg rfl (fun h=>?_) fun h=>?_|refine hK.skp rfl rfl ?_|refine sw_exit rfl ?_|refine sw_loopEnd ?_|refine hK.c1 rfl rfl rfl (contains_fc _ _ _) ?_|(refine hK.fork rfl rfl rfl ?_ ?_<;>intro h<;>try simp (disch:=(refine Om.mk ?_;omega)) only[go_sem] at h)|with_reducible refine and_o ?_|apply tTT
 ·intro h2;exact absurd h (h2 i (by omega) (by assumption))
 ·exact⟨i+1,by(refine covers_mk0 rfl rfl ?_ ?_ ?_ ?_<;>simp (disch:=(refine Om.mk ?_;omega)) only[go_sem]<;>(try omega)),⟨by omega,upto_succ hj fun _=>h⟩,by omega⟩
 ·exact⟨i+1,by(refine covers_mk0 rfl rfl ?_ ?_ ?_ ?_<;>simp (disch:=(refine Om.mk ?_;omega)) only[go_sem]<;>(try omega)),⟨by omega,upto_succ hj fun h0=>by omega⟩,by omega⟩
 ·intro j hj';exact hj j (by omega)
 ·intro j hj';omega
def kp119:List (Nat×List Nat):=[(0,[2,3]),(1,[3,24]),(2,[4]),(3,[3,5]),(4,[3,5,29]),(6,[3,5,48]),(7,[4]),(5,[3,5]),(8,[4])]
attribute [go_sem] kp119 Tryz.results119 Tryz.ntmps119
theorem specRuleOk_fc (tk tk1 tk2:Tk) (rs l r:List Int):FC S 119 [] [] [] [.agg [.sl tk (rs.map (.int .i64))],.agg [.sl tk1 (l.map (.int .i64)),.sl tk2 (r.map (.int .i64))]] (.bool (tst (RuleOkP rs l r))) [] []:=by
 have hl1:TermOkP rs l→1≤l.length:=fun h=>h.2.1.1
 unfold RuleOkP
 refine fcb Tryz.func119 fun B=>?_
 refine sw_bnd_aggg 0 0 fun hb0_0=>?_
 refine sw_bnd_aggg 1 0 fun hb1_0=>?_
 refine sw_bnd_aggg 1 1 fun hb1_1=>?_
 repeat' first|exact h.elim|refine sw_n ?_|refine sw_go 0 kp119 fun K hK=>?_|refine runL_g ?_|refine sw_retg0 ?_|(refine hK.n0 ?_;clear hK K)|refine runG_fk (fun h=>?_) fun h=>?_|refine sw_condg rfl (fun h=>?_) fun h=>?_|refine hK.skp rfl rfl ?_|refine hK.c1 rfl rfl rfl (specTermOk_fc _ _ _ _) ?_|apply tTT
 ·rintro⟨⟨h1,_⟩,_⟩;contradiction
 ·rintro⟨⟨_,h1,_⟩,_⟩;contradiction
 have hl2:=hl1 (by assumption)
 simp (disch:=(refine Om.mk ?_;omega)) only[go_sem]
 repeat' first|exact h.elim|refine sw_n ?_|refine sw_go 0 kp119 fun K hK=>?_|refine runL_g ?_|refine sw_retg0 ?_|(refine hK.n0 ?_;clear hK K)|refine sw_condg rfl (fun h=>?_) fun h=>?_|with_reducible refine and_o ?_|apply tTT
 ·rintro⟨⟨_,_,h1⟩,_⟩;omega
 refine sw_loopU (ι:=Nat) (fun i=>[(5,.int .i64 i)]) (fun _=>[]) (fun i=>i≤r.length∧(∀j<i,r.getD j default<0→r.getD j default∈l)) (fun i=>r.length-i) 0 cvA ⟨by omega,?_⟩ (fun i ⟨hi,hj⟩=>?_)
 rotate_left
 simp only[go_sem]
 repeat' first|exact h.elim|refine sw_n ?_|refine sw_go 0 kp119 fun K hK=>?_|refine sw_goD kp119 (by kernel_rfl) fun K hK=>?_|refine runL_g ?_|refine runQ_g ?_|refine sw_retg0 ?_|(refine hK.n0 ?_;clear hK K)|refine runQG_fk (fun h=>?_) fun h=>?_|refine sw_condg rfl (fun h=>?_) fun h=>?_|refine hK.skp rfl rfl ?_|refine sw_exit rfl ?_|refine sw_loopEnd ?_|refine hK.c1 rfl rfl rfl (l1Has_fc _ _ _) ?_|with_reducible refine and_o ?_|apply tTT
 ·rintro⟨_,h2⟩;exact absurd (h2 i (by omega) (by assumption)) h
 ·exact⟨i+1,by(refine covers_mk0 rfl rfl ?_ ?_ ?_ ?_<;>simp (disch:=(refine Om.mk ?_;omega)) only[go_sem]<;>(try omega)),⟨by omega,upto_succ hj fun _=>h⟩,by omega⟩
 ·exact⟨i+1,by(refine covers_mk0 rfl rfl ?_ ?_ ?_ ?_<;>simp (disch:=(refine Om.mk ?_;omega)) only[go_sem]<;>(try omega)),⟨by omega,upto_succ hj fun h0=>by omega⟩,by omega⟩
 ·exact⟨⟨by assumption,by assumption,by omega⟩,fun j hj'=>hj j (by omega)⟩
 ·intro j hj';omega
def kp124:List (Nat×List Nat):=[(0,[2,3]),(1,[3,25]),(2,[4]),(3,[3,27,28,29]),(4,[3,27,28,29,30]),(5,[3,6,27,28,29]),(6,[3,27,28,29,41]),(7,[4]),(8,[3,27,28,29]),(9,[4])]
attribute [go_sem] kp124 Tryz.results124 Tryz.ntmps124
theorem implRuleOk_fc (tk tk1 tk2:Tk) (rs l r:List Int):FC S 124 [] [] [] [.agg [.sl tk (rs.map (.int .i64))],.agg [.sl tk1 (l.map (.int .i64)),.sl tk2 (r.map (.int .i64))]] (.bool (tst (RuleOkP rs l r))) [] []:=by
 have hl1:TermOkP rs l→1≤l.length:=fun h=>h.2.1.1
 unfold RuleOkP
 refine fcb Tryz.func124 fun B=>?_
 refine sw_bnd_aggg 0 0 fun hb0_0=>?_
 refine sw_bnd_aggg 1 0 fun hb1_0=>?_
 refine sw_bnd_aggg 1 1 fun hb1_1=>?_
 repeat' first|exact h.elim|refine sw_n ?_|refine sw_go 0 kp124 fun K hK=>?_|refine runL_g ?_|refine sw_retg0 ?_|(refine hK.n0 ?_;clear hK K)|refine runG_fk (fun h=>?_) fun h=>?_|refine sw_condg rfl (fun h=>?_) fun h=>?_|refine hK.skp rfl rfl ?_|refine hK.c1 rfl rfl rfl (implTermOk_fc _ _ _ _) ?_|apply tTT
 ·rintro⟨⟨h1,_⟩,_⟩;contradiction
 ·rintro⟨⟨_,h1,_⟩,_⟩;contradiction
 have hl2:=hl1 (by assumption)
 simp (disch:=(refine Om.mk ?_;omega)) only[go_sem]
 repeat' first|exact h.elim|refine sw_n ?_|refine sw_go 0 kp124 fun K hK=>?_|refine runL_g ?_|refine sw_retg0 ?_|(refine hK.n0 ?_;clear hK K)|refine sw_condg rfl (fun h=>?_) fun h=>?_|with_reducible refine and_o ?_|apply tTT
 ·rintro⟨⟨_,_,h1⟩,_⟩;omega
 refine sw_loopU (ι:=Nat) (fun i=>[(29,.int .i64 i)]) (fun _=>[]) (fun i=>i≤r.length∧(∀j<i,r.getD j default<0→r.getD j default∈l)) (fun i=>r.length-i) 0 cvA ⟨by omega,?_⟩ (fun i ⟨hi,hj⟩=>?_)
 rotate_left
 simp only[go_sem]
 repeat' first|exact h.elim|refine sw_n ?_|refine sw_go 0 kp124 fun K hK=>?_|refine runL_g ?_|refine sw_retg0 ?_|(refine hK.n0 ?_;clear hK K)|refine runG_fk (fun h=>?_) fun h=>?_|refine sw_condg rfl (fun h=>?_) fun h=>?_|refine hK.skp rfl rfl ?_|refine sw_exit rfl ?_|refine sw_loopEnd ?_|refine hK.c1 rfl rfl rfl (contains_fc _ _ _) ?_|with_reducible refine and_o ?_|apply tTT
 ·rintro⟨_,h2⟩;exact absurd (h2 i (by omega) (by assumption)) h
 ·exact⟨i+1,by(refine covers_mk0 rfl rfl ?_ ?_ ?_ ?_<;>simp (disch:=(refine Om.mk ?_;omega)) only[go_sem]<;>(try omega)),⟨by omega,upto_succ hj fun _=>h⟩,by omega⟩
 ·exact⟨i+1,by(refine covers_mk0 rfl rfl ?_ ?_ ?_ ?_<;>simp (disch:=(refine Om.mk ?_;omega)) only[go_sem]<;>(try omega)),⟨by omega,upto_succ hj fun h0=>by omega⟩,by omega⟩
 ·exact⟨⟨by assumption,by assumption,by omega⟩,fun j hj'=>hj j (by omega)⟩
 ·intro j hj';omega
attribute [go_sem] upR_length mapR_length mapR_getDm
attribute [go_sem] Tryz.results65 Tryz.ntmps65
attribute [go_sem] Tryz.results70 Tryz.ntmps70
end
end Go.Proofs.YtkfkdgginfpdnaaGreatDoor
