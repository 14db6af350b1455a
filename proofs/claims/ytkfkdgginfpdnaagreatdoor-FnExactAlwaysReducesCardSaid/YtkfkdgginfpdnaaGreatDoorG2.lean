/-
  A28p, A28q, A20, A28, LTy, A28m, A04p, A20p, A04, A05g, A05h, A05i, A05j, A05k, A05l, ACl, A20v, A05q, A05m, one behind the other.
-/
import Derived.Test.YtkfkdgginfpdnaaGreatDoorG1
import Derived.Test.YtkfkdgginfpdnaaGreatDoorSet
import Derived.Test.YtkfkdgginfpdnaaGreatDoorG0
import Derived.Test.YtkfkdgginfpdnaaGreatDoorLgK7
import Derived.Test.YtkfkdgginfpdnaaGreatDoorLgK8
import Derived.Test.YtkfkdgginfpdnaaGreatDoorLgK5
import Derived.Test.YtkfkdgginfpdnaaGreatDoorLgK4
namespace Go.Proofs.YtkfkdgginfpdnaaGreatDoor
open Go Go.Lg
set_option linter.unusedSimpArgs false
set_option linter.unusedVariables false
set_option maxHeartbeats 4000000
section
def lexB:List Int→List Int→Bool
 | a::r,b::s=>if a=b then lexB r s else decide (a<b)
 | [],_::_=>true
 | _,[]=>false
theorem lexB_irr:∀a:List Int,lexB a a=false
 | []=>rfl
 | a::r=>by simp[lexB,lexB_irr r]
theorem lexB_tri:∀a b:List Int,lexB a b=true∨a=b∨lexB b a=true
 | [],[]=>.inr (.inl rfl)
 | [],b::s=>.inl rfl
 | a::r,[]=>.inr (.inr rfl)
 | a::r,b::s=>by
  by_cases h:a=b
  ·subst h
   rcases lexB_tri r s with h|h|h
   ·exact .inl (by simp[lexB,h])
   ·exact .inr (.inl (by rw[h]))
   ·exact .inr (.inr (by simp[lexB,h]))
  ·by_cases h2:a<b
   ·exact .inl (by simp[lexB,h,h2])
   ·exact .inr (.inr (by simp[lexB,Ne.symm h];omega))
theorem lexB_trans:∀a b c:List Int,lexB a b=true→lexB b c=true→lexB a c=true
 | [],[],_,h,_=>by simp[lexB] at h
 | a::r,[],_,h,_=>by simp[lexB] at h
 | _,b::s,[],_,h=>by simp[lexB] at h
 | [],b::s,c::q,_,_=>rfl
 | a::r,b::s,c::q,h1,h2=>by
  simp only[lexB] at h1 h2 ⊢
  split at h1<;>split at h2
  ·rename_i e1 e2
   subst e1;subst e2
   simp[lexB_trans r s q h1 h2]
  ·rename_i e1 e2
   subst e1
   rw[if_neg e2];exact h2
  ·rename_i e1 e2
   subst e2
   rw[if_neg e1];exact h1
  ·simp only[decide_eq_true_eq] at h1 h2
   rw[if_neg (by omega)]
   simp only[decide_eq_true_eq];omega
def lessT (a b:List Int):Bool:=if a.length=b.length then lexB a b else decide (a.length<b.length)
theorem lessT_irr (a:List Int):lessT a a=false:=by simp[lessT,lexB_irr]
theorem lessT_tri (a b:List Int):lessT a b=true∨a=b∨lessT b a=true:=by
 unfold lessT
 by_cases h:a.length=b.length
 ·rw[if_pos h,if_pos h.symm];exact lexB_tri a b
 ·rw[if_neg h,if_neg (Ne.symm h)]
  simp only[decide_eq_true_eq]
  omega
theorem lessT_trans (a b c:List Int) (h1:lessT a b=true) (h2:lessT b c=true):lessT a c=true:=by
 unfold lessT at *
 split at h1<;>split at h2
 ·rw[if_pos (by omega)];exact lexB_trans a b c h1 h2
 ·simp only[decide_eq_true_eq] at h2
  rw[if_neg (by omega)];simp only[decide_eq_true_eq];omega
 ·simp only[decide_eq_true_eq] at h1
  rw[if_neg (by omega)];simp only[decide_eq_true_eq];omega
 ·simp only[decide_eq_true_eq] at h1 h2
  rw[if_neg (by omega)];simp only[decide_eq_true_eq];omega
theorem lessT_asym {a b:List Int} (h:lessT a b=true):lessT b a=false:=by
 cases h2:lessT b a with
 | false=>rfl
 | true=>have:=lessT_trans a b a h h2;rw[lessT_irr] at this;cases this
theorem lessT_anti {a b:List Int} (h1:lessT a b=false) (h2:lessT b a=false):a=b:=by
 rcases lessT_tri a b with h|h|h
 ·rw[h1] at h;cases h
 ·exact h
 ·rw[h2] at h;cases h
theorem lessT_ntrans (a b c:List Int) (h1:lessT a b=false) (h2:lessT b c=false):lessT a c=false:=by
 cases h:lessT a c with
 | false=>rfl
 | true =>
  rcases lessT_tri a b with h3|h3|h3
  ·rw[h1] at h3;cases h3
  ·rw[h3] at h;rw[h2] at h;cases h
  ·have:=lessT_trans b a c h3 h
   rw[h2] at this;cases this
def SrtP (xs:List (List Int)):Prop:=xs.Pairwise (fun a b=>lessT b a=false)
theorem srt_uniq {xs ys:List (List Int)} (h1:SrtP xs) (h2:SrtP ys) (hp:xs.Perm ys):xs=ys :=
 List.Perm.eq_of_pairwise (le:=fun a b=>lessT b a=false) (fun a b _ _ h h'=>lessT_anti h' h) h1 h2 hp
def insK (xs:List (List Int)) (t:List Int):Nat→Nat
 | 0=>0
 | k+1=>if lessT t (xs.getD k default)=true then insK xs t k else k+1
theorem insK_le (xs:List (List Int)) (t:List Int):∀k,insK xs t k≤k
 | 0=>Nat.le_refl _
 | k+1=>by have:=insK_le xs t k;unfold insK;split<;>omega
def insT (xs:List (List Int)) (t:List Int):List (List Int):=xs.take (insK xs t xs.length)++t::xs.drop (insK xs t xs.length)
theorem insT_perm (xs:List (List Int)) (t:List Int):(insT xs t).Perm (t::xs):=by
 unfold insT
 refine List.perm_middle.trans ?_
 rw[List.take_append_drop]
theorem insK_lt (xs:List (List Int)) (t:List Int):∀k j,insK xs t k≤j→j<k→lessT t (xs.getD j default)=true
 | 0,j,_,h=>by omega
 | k+1,j,h1,h2=>by
  unfold insK at h1
  split at h1
  ·rename_i h
   by_cases e:j=k
   ·rw[e];exact h
   ·exact insK_lt xs t k j h1 (by omega)
  ·omega
theorem insK_ge (xs:List (List Int)) (t:List Int):∀k,insK xs t k=0∨lessT t (xs.getD (insK xs t k-1) default)=false
 | 0=>.inl rfl
 | k+1=>by
  unfold insK
  split
  ·exact insK_ge xs t k
  ·rename_i h
   right
   simpa using h
theorem insT_srt {xs:List (List Int)} (h:SrtP xs) (t:List Int):SrtP (insT xs t):=by
 have hle:=insK_le xs t xs.length
 have hlt:=insK_lt xs t xs.length
 have hge:=insK_ge xs t xs.length
 unfold insT
 generalize insK xs t xs.length=k at *
 have hsp:SrtP (xs.take k++xs.drop k):=by rw[List.take_append_drop];exact h
 unfold SrtP at *
 rw[List.pairwise_append] at hsp
 obtain⟨s1,s2,s3⟩:=hsp
 have hg:∀j (hj:j<xs.length),xs.getD j default=xs[j]:=fun j hj=>by simp[List.getD,List.getElem?_eq_getElem hj]
 rw[List.pairwise_append,List.pairwise_cons]
 have hd:∀b∈xs.drop k,lessT t b=true:=fun b hb=>by
  obtain⟨j,hj,rfl⟩:=List.getElem_of_mem hb
  rw[List.length_drop] at hj
  rw[List.getElem_drop,←hg (k+j) (by omega)]
  exact hlt (k+j) (by omega) (by omega)
 refine⟨s1,⟨fun b hb=>lessT_asym (hd b hb),s2⟩,fun a ha b hb=>?_⟩
 rcases List.mem_cons.1 hb with rfl|hb
 ·-- a stands at a place below k
  obtain⟨j,hj,rfl⟩:=List.getElem_of_mem ha
  rw[List.length_take] at hj
  rw[List.getElem_take]
  rcases hge with e|e
  ·omega
  ·have hk1:k-1<xs.length:=by omega
   rw[hg _ hk1] at e
   by_cases ej:j=k-1
   ·subst ej;exact e
   ·have:=(List.pairwise_iff_getElem.1 h) j (k-1) (by omega) hk1 (by omega)
    exact lessT_ntrans _ _ _ e this
 ·exact s3 a ha b hb
def srtM (xs:List (List Int)):List (List Int):=xs.foldl insT []
theorem srtM_snoc (xs:List (List Int)) (t:List Int):srtM (xs++[t])=insT (srtM xs) t:=by simp[srtM,List.foldl_append]
theorem srtM_ok (xs:List (List Int)):(srtM xs).Perm xs∧SrtP (srtM xs):=by
 have:∀n (xs:List (List Int)),xs.length=n→(srtM xs).Perm xs∧SrtP (srtM xs):=fun n=>by
  induction n with
  | zero =>
   intro xs h
   obtain rfl:=List.length_eq_zero_iff.1 h
   exact⟨.nil,.nil⟩
  | succ n ih =>
   intro xs h
   have hne:xs≠[]:=by rintro rfl;simp at h
   have e:=(List.dropLast_concat_getLast hne).symm
   rw[e]
   obtain⟨h1,h2⟩:=ih xs.dropLast (by simp[h])
   rw[srtM_snoc]
   refine⟨(insT_perm _ _).trans ?_,insT_srt h2 _⟩
   refine(List.Perm.cons _ h1).trans ?_
   exact(List.perm_append_singleton _ _).symm
 exact this _ xs rfl
theorem srtM_len (xs:List (List Int)):(srtM xs).length=xs.length:=(srtM_ok xs).1.length_eq
theorem take_snocQ {α:Type} [Inhabited α] (xs:List α) (i:Nat) (h:i<xs.length):xs.take (i+1)=xs.take i++[xs.getD i default]:=by
 rw[List.take_add_one,List.getElem?_eq_getElem h]
 simp[List.getD,List.getElem?_eq_getElem h]
end
section
attribute [local irreducible] SW runL runQ runG runQG FC Ret1
end
section
attribute [local irreducible] SW runL runQ runG runQG FC Ret1 RetN toF redoL
theorem lexB_at:∀(a b:List Int) (i:Nat),(∀j<i,a.getD j default=b.getD j default)→i<a.length→i<b.length→a.getD i default≠b.getD i default→lexB a b=decide (a.getD i default<b.getD i default)
 | [],_,_,_,h,_,_=>by simp at h
 | _::_,[],_,_,_,h,_=>by simp at h
 | x::r,y::s,0,_,_,_,h=>by
  simp only[List.getD_cons_zero] at h ⊢
  simp only[lexB];rw[if_neg h]
 | x::r,y::s,i+1,h,h1,h2,h3=>by
  have h0:=h 0 (by omega)
  simp only[List.getD_cons_zero] at h0
  simp only[List.getD_cons_succ] at h3 ⊢
  simp only[lexB];rw[if_pos h0]
  exact lexB_at r s i (fun j hj=>by have:=h (j+1) (by omega);simpa only[List.getD_cons_succ] using this) (by simpa using h1) (by simpa using h2) h3
theorem lex_eq {a b:List Int} (hl:a.length=b.length) (h:∀j<a.length,a.getD j default=b.getD j default):a=b :=
 List.ext_getElem hl fun j h1 h2=>by
  have:=h j h1
  simpa[List.getD,List.getElem?_eq_getElem h1,List.getElem?_eq_getElem h2] using this
def kp93:List (Nat×List Nat):=[(0,[0,1]),(1,[0,1,10]),(2,[4]),(3,[0,1,5]),(4,[0,1,5,19]),(6,[0,1,5,30]),(7,[4]),(5,[0,1,5]),(8,[4])]
attribute [go_sem] kp93 Tryz.results93 Tryz.ntmps93
theorem lessTerm_fc (tk tk':Tk) (a b:List Int):FC S 93 [] [] [] [.sl tk (a.map (.int .i64)),.sl tk' (b.map (.int .i64))] (.bool (lessT a b)) [] []:=by
 refine fcb Tryz.func93 fun B=>?_
 refine sw_bndg 0 fun hb0=>?_
 refine sw_bndg 1 fun hb1=>?_
 repeat' first|exact h.elim|refine sw_n ?_|refine sw_go 0 kp93 fun K hK=>?_|refine fun (K:KT) (hK:KOk S 0 _ _ _ K)=>?_|refine sw_goD kp93 (by kernel_rfl) fun K hK=>?_|refine runL_g ?_|refine runQ_g ?_|refine sw_retg0 ?_|refine sw_retg ?_|(refine hK.n0 ?_;clear hK K)|refine sw_condg rfl (fun h=>?_) fun h=>?_|refine sw_exit rfl ?_|refine sw_loopEnd ?_|with_reducible refine and_o ?_|apply tTT
 ·unfold lessT;rw[if_neg (by omega)];simp
 refine sw_loopU (ι:=Nat) (fun i=>[(5,.int .i64 i)]) (fun _=>[]) (fun i=>i≤a.length∧(∀j<i,a.getD j default=b.getD j default)) (fun i=>a.length-i) 0 cvA ⟨by omega,?_⟩ (fun i ⟨hi,hj⟩=>?_)
 rotate_left
 simp only[go_sem]
 repeat' first|exact h.elim|refine sw_n ?_|refine sw_go 0 kp93 fun K hK=>?_|refine fun (K:KT) (hK:KOk S 0 _ _ _ K)=>?_|refine sw_goD kp93 (by kernel_rfl) fun K hK=>?_|refine runL_g ?_|refine runQ_g ?_|refine sw_retg0 ?_|refine sw_retg ?_|(refine hK.n0 ?_;clear hK K)|refine sw_condg rfl (fun h=>?_) fun h=>?_|refine sw_exit rfl ?_|refine sw_loopEnd ?_|with_reducible refine and_o ?_|apply tTT
 ·unfold lessT;rw[if_pos (by omega),lexB_at a b i hj (by omega) (by omega) h]
 ·exact⟨i+1,cvA,⟨by omega,upto_succ hj h⟩,by omega⟩
 ·rw[lex_eq (by omega) (fun j h2=>hj j (by omega)),lessT_irr]
 ·intro j h2;omega
def kp118:List (Nat×List Nat):=[(0,[0,1]),(1,[0,1,5]),(2,[0,1,5,19]),(3,[0,1,5]),(4,[0,1,5,6]),(5,[0,5,6]),(6,[4])]
attribute [go_sem] kp118 Tryz.results118 Tryz.ntmps118
theorem l28Insert_fc (tk:Tk) (xs:List (List Int)) (t:List Int) (hn:xs.length≤3000):FC S 118 [] [] [] [.sl tk (xs.map IntsD),.sl .any (t.map (.int .i64))] (.sl .any ((insT xs t).map IntsD)) [] []:=by
 refine FC.args (args':=[.sl .any (xs.map IntsD),.sl .any (t.map (.int .i64))]) ?_ (by simp only[go_sem])
 refine fcb Tryz.func118 fun B=>?_
 refine sw_bndg 0 fun hb0=>?_
 repeat' first|exact h.elim|refine sw_n ?_|refine sw_go 0 kp118 fun K hK=>?_|refine fun (K:KT) (hK:KOk S 0 _ _ _ K)=>?_|refine runL_g ?_|refine sw_retg0 ?_|refine sw_retg ?_|(refine hK.n0 ?_;clear hK K)|refine runG_fk (fun h=>?_) fun h=>?_|refine sw_condg rfl (fun h=>?_) fun h=>?_|refine hK.skp rfl rfl ?_|refine sw_exit rfl ?_|refine sw_loopEnd ?_|(refine hK.fork rfl rfl rfl ?_ ?_<;>intro h<;>try simp (disch:=(refine Om.mk ?_;omega)) only[go_sem] at h)|with_reducible refine and_o ?_|((with_reducible refine And.intro ?_ ?_);· first|(intro x hx;subst hx;rfl)|(intro x;refine And.intro ?_ ?_<;>(intros;subst_vars;rfl)))|apply tTT
 refine sw_loopU (ι:=Nat) (fun p=>[(5,.int .i64 p)]) (fun p=>[]) (fun p=>p≤xs.length∧insK xs t xs.length=insK xs t p) (fun p=>p) xs.length (by(refine covers_mk0 rfl rfl ?_ ?_ ?_ ?_<;>simp (disch:=(refine Om.mk ?_;omega)) only[go_sem]<;>(try omega));skip) ?_ (fun p hp=>?_)
 rotate_left
 simp only[go_sem]
 obtain⟨hp1,hp2⟩:=hp
 have hk:p=0∨lessT t (xs.getD (p-1) default)=false→insT xs t=xs.take p++t::xs.drop p:=fun h=>by
  have e:insK xs t p=p:=by
   cases p with
   | zero=>rfl
   | succ q =>
    have h1:=h.resolve_left (by omega)
    rw[Nat.add_sub_cancel] at h1
    unfold insK;rw[if_neg (by rw[h1];simp)]
  unfold insT;rw[hp2,e]
 have hk2:0<p→lessT t (xs.getD (p-1) default)=true→insK xs t p=insK xs t (p-1):=fun h0 h=>by
  obtain⟨q,rfl⟩:∃q,p=q+1:=⟨p-1,by omega⟩
  rw[Nat.add_sub_cancel] at h ⊢
  rw[insK,if_pos h]
 repeat' first|exact h.elim|refine sw_n ?_|refine sw_go 0 kp118 fun K hK=>?_|refine fun (K:KT) (hK:KOk S 0 _ _ _ K)=>?_|refine runL_g ?_|refine sw_retg0 ?_|refine sw_retg ?_|(refine hK.n0 ?_;clear hK K)|refine runG_fk (fun h=>?_) fun h=>?_|refine sw_condg rfl (fun h=>?_) fun h=>?_|refine hK.skp rfl rfl ?_|refine sw_exit rfl ?_|refine sw_loopEnd ?_|refine hK.c1 rfl rfl rfl (lessTerm_fc _ _ _ _) ?_|(refine hK.fork rfl rfl rfl ?_ ?_<;>intro h<;>try simp (disch:=(refine Om.mk ?_;omega)) only[go_sem] at h)|with_reducible refine and_o ?_|((with_reducible refine And.intro ?_ ?_);· first|(intro x hx;subst hx;rfl)|(intro x;refine And.intro ?_ ?_<;>(intros;subst_vars;rfl)))|apply tTT
 ·exact⟨p-1,cvA,⟨by omega,hp2.trans (hk2 (by omega) h)⟩,by omega⟩
 ·rw[hk (.inr h)];first|rfl|(simp;done)|(simp;rfl)
 ·rw[hk (.inl (by omega))];first|rfl|(simp;done)|(simp;rfl)
 ·rfl
end
section
attribute [local irreducible] SW runL runQ runG runQG FC Ret Ret1
def Int64SL (p:List Nat) (xs:List Int):D:=.sl (.lab p) (xs.map (.int .i64))
attribute [go_sem] Int64SL
theorem le_Int64SL (p:List Nat) (xs:List Int):D.le (Int64SL p xs) (.sl .any (xs.map (.int .i64))):=.any
def Int64SSL (p:List Nat) (xs:List (List Int)):D:=.sl (.lab p) (mapR (fun i y=>Int64SL (p++[i]++[0]) y) xs)
attribute [go_sem] Int64SSL
theorem le_Int64SSL (p:List Nat) (xs:List (List Int)):D.le (Int64SSL p xs) (.sl .any (xs.map IntsD)):=le_mapR xs fun j x=>⟨le_Int64SL _ _,trivial⟩
def TransL (p:List Nat) (x:TransT):D:=.agg [.int .i64 x.sym,Int64SL (p++[1]) x.args,.int .i64 x.to]
attribute [go_sem] TransL
theorem le_TransLc (p:List Nat) (x:TransT):leL (TransL p x).cells (TransD x).cells:=⟨.refl _,le_Int64SL _ _,.refl _,trivial⟩
def TransSL (p:List Nat) (xs:List TransT):D:=.sl (.lab p) (mapR (fun i y=>TransL (p++[i]) y) xs)
attribute [go_sem] TransSL
theorem le_TransSL (p:List Nat) (xs:List TransT):D.le (TransSL p xs) (.sl .any (xs.map TransD)):=le_mapR xs fun j x=>le_TransLc _ _
def AutoL (p:List Nat) (x:AutoT):D:=.agg [.int .i64 x.states,TransSL (p++[1]) x.rules,Int64SL (p++[2]) x.final]
attribute [go_sem] AutoL
theorem le_AutoLc (p:List Nat) (x:AutoT):leL (AutoL p x).cells (AutoD x).cells:=⟨.refl _,le_TransSL _ _,le_Int64SL _ _,trivial⟩
theorem le_AutoL (p:List Nat) (x:AutoT):D.le (AutoL p x) (AutoD x):=by unfold AutoL AutoD;rw[le_agg];exact le_AutoLc p x
end
section
attribute [local irreducible] SW runL runQ runG runQG FC Ret1 RetN toF redoL
def lbs (N:Nat) (F:List Int→List Int) (ps:List (List Int)) (i:Nat):List (Tk×List Int):=(List.range i).map fun j=>(.lab [N,j],F (ps.getD j default))
theorem lbs_len (N:Nat) (F:List Int→List Int) (ps:List (List Int)) (i:Nat):(lbs N F ps i).length=i:=by simp[lbs]
theorem lbs_snd (N:Nat) (F:List Int→List Int) (ps:List (List Int)):(lbs N F ps ps.length).map (·.2)=ps.map F:=by
 refine List.ext_getElem (by simp[lbs]) fun j h1 h2=>?_
 have hj:j<ps.length:=by simpa using h2
 simp[lbs,List.getElem?_eq_getElem hj]
def labOf:Tk→List Nat
 | .lab l=>l
 | _=>[]
def posOf (l:List Nat):List (List Nat)→Nat
 | []=>0
 | x::r=>if x=l then 0 else posOf l r+1
theorem posOf_at:∀(ls:List (List Nat)),ls.Nodup→∀(j:Nat) (h:j<ls.length),posOf ls[j] ls=j
 | x::r,hn,0,_=>by simp[posOf]
 | x::r,hn,j+1,h=>by
  have h1:=List.nodup_cons.1 hn
  have hj:j<r.length:=by simpa using h
  have hne:x≠r[j]:=fun e=>h1.1 (e ▸ List.getElem_mem hj)
  simp only[List.getElem_cons_succ,posOf,if_neg hne]
  rw[posOf_at r h1.2 j hj]
def relF (N:Nat) (p:List Nat) (ls:List (List Nat)) (l:List Nat):List Nat:=if l.head?=some N then p++[posOf l ls]++[0] else l
theorem relF_ne {N:Nat} {p:List Nat} {ls:List (List Nat)}:∀l,l≠[]→relF N p ls l≠[]:=fun l h=>by
 unfold relF
 split
 ·simp
 ·exact h
theorem relF_off {N:Nat} {p:List Nat} {ls:List (List Nat)}:∀l,(∀r,l≠N::r)→relF N p ls l=l:=fun l h=>by
 unfold relF
 rw[if_neg]
 intro e
 cases l with
 | nil=>cases e
 | cons a r=>exact h r (by rw[List.head?_cons,Option.some.injEq] at e;rw[e])
theorem rlL_ints (f:List Nat→List Nat) (xs:List Int):D.rlL f (xs.map (.int .i64))=xs.map (.int .i64):=by
 rw[rlL_map,List.map_map];rfl
theorem relab_srt {N:Nat} {p:List Nat} {F:List Int→List Int} {ps:List (List Int)} {n:Nat} {qs:List (Tk×List Int)} (h:qs.Perm (lbs N F ps n)) :
  D.rlL (relF N p (qs.map fun q=>labOf q.1)) (qs.map intsT)=mapR (fun i y=>Int64SL (p++[i]++[0]) y) (qs.map (·.2)):=by
 have hnd:(qs.map fun q=>labOf q.1).Nodup:=by
  refine(h.map _).nodup_iff.2 ?_
  simp only[lbs,List.map_map]
  have:((fun q:Tk×List Int=>labOf q.1)∘fun j=>(Tk.lab [N,j],F (ps.getD j default)))=fun j=>[N,j]:=rfl
  rw[this]
  exact List.Pairwise.map _ (fun a b hab e=>hab (by simpa using e)) (List.nodup_range (n:=n))
 have hlab:∀q∈qs,∃l,q.1=.lab l∧l.head?=some N:=fun q hq=>by
  have:=h.mem_iff.1 hq
  simp only[lbs,List.mem_map] at this
  obtain⟨j,_,rfl⟩:=this
  exact⟨_,rfl,rfl⟩
 rw[rlL_map,List.map_map]
 refine List.ext_getElem (by rw[List.length_map,mapR_length,List.length_map]) fun j h1 h2=>?_
 have hj:j<qs.length:=by simpa using h1
 obtain⟨l,hl,hN⟩:=hlab _ (List.getElem_mem hj)
 have hpos:=posOf_at _ hnd j (by simpa using hj)
 simp only[List.getElem_map] at hpos
 have e1:labOf qs[j].1=l:=by rw[hl];rfl
 rw[e1] at hpos
 have e2:intsT qs[j]=.sl (.lab l) (qs[j].2.map (.int .i64)):=by
  unfold intsT;rw[hl]
 have e3:relF N p (qs.map fun q=>labOf q.1) l=p++[j]++[0]:=by
  unfold relF;rw[if_pos hN,hpos]
 rw[List.getElem_map]
 show D.rl _ (intsT qs[j])=_
 rw[e2]
 show D.sl (.lab (relF N p (qs.map fun q=>labOf q.1) l)) (D.rlL _ _)=_
 rw[rlL_ints,e3]
 simp[mapR,Int64SL,List.getElem?_eq_getElem hj]
end
section
abbrev Bnd:=List (List Int)
def vx (n:Int):Nat:=(-1-n).toNat
def linM (rs t:List Int):List Int→Nat→Bnd→Bnd×Bool
 | [],_,g=>(g,true)
 | n::p,a,g=>if t.length≤a then (g,false) else if 0≤n then (if t.getD a default=n then linM rs t p (a+1) g else (g,false))
   else if g.getD (vx n) default=[] then linM rs t p (a+(subS rs t a).length) (g.set (vx n) (subS rs t a))
   else if g.getD (vx n) default=subS rs t a then linM rs t p (a+(subS rs t a).length) g else (g,false)
theorem linM_len (rs t:List Int):∀(p:List Int) (a:Nat) (g:Bnd),(linM rs t p a g).1.length=g.length
 | [],_,_=>rfl
 | n::p,a,g=>by
  have h1:=linM_len rs t p (a+1) g
  have h2:=linM_len rs t p (a+(subS rs t a).length) (g.set (vx n) (subS rs t a))
  have h3:=linM_len rs t p (a+(subS rs t a).length) g
  rw[List.length_set] at h2
  simp only[linM]
  split
  ·rfl
  ·split
   ·split
    ·exact h1
    ·rfl
   ·split
    ·exact h2
    ·split
     ·exact h3
     ·rfl
theorem getD_app {q:List Int} {x:Int} {s:List Int}:(q++x::s).getD q.length default=x:=by simp[List.getD]
def G0:Bnd:=List.replicate 24 []
def codeI (s:List Int) (n:Int):Int:=if 0≤n then n else -1-(s.idxOf n:Int)
def seenS:List Int→List Int→List Int
 | s,[]=>s
 | s,n::l=>if 0≤n∨n∈s then seenS s l else seenS (s++[n]) l
def renL:List Int→List (List Int)→List (List Int)
 | _,[]=>[]
 | s,t::r=>t.map (codeI (seenS s t))::renL (seenS s t) r
theorem seenS_pre:∀(t s:List Int),∃r,seenS s t=s++r
 | [],s=>⟨[],by simp[seenS]⟩
 | n::l,s=>by
  simp only[seenS]
  split
  ·exact seenS_pre l s
  ·obtain⟨r,h⟩:=seenS_pre l (s++[n])
   exact⟨n::r,by rw[h];simp⟩
theorem seenS_mem:∀(t s:List Int),∀n∈t,n<0→n∈seenS s t
 | [],_,n,hn,_=>by cases hn
 | m::l,s,n,hn,h0=>by
  simp only[seenS]
  rcases List.mem_cons.1 hn with rfl|hn
  ·split
   ·rename_i h
    obtain⟨r,e⟩:=seenS_pre l s
    rw[e];exact List.mem_append_left _ (h.resolve_left (by omega))
   ·obtain⟨r,e⟩:=seenS_pre l (s++[n])
    rw[e];simp
  ·split
   ·exact seenS_mem l s n hn h0
   ·exact seenS_mem l _ n hn h0
theorem codeI_mono {s r:List Int} {n:Int} (h:0≤n∨n∈s):codeI (s++r) n=codeI s n:=by
 unfold codeI
 split
 ·rfl
 ·rw[List.idxOf_append,if_pos (h.resolve_left (by omega))]
theorem code_all {s t r:List Int}:t.map (codeI (seenS s t++r))=t.map (codeI (seenS s t)):=List.map_congr_left fun n hn=>codeI_mono (by
 by_cases h:0≤n
 ·exact .inl h
 ·exact .inr (seenS_mem t s n hn (by omega)))
theorem renL_two (a b:List Int):renL [] [a,b]=[a.map (codeI (seenS (seenS [] a) b)),b.map (codeI (seenS (seenS [] a) b))]:=by
 obtain⟨r,h⟩:=seenS_pre b (seenS [] a)
 simp only[renL]
 rw[h,code_all]
theorem idxOf_map {f:Int→Int} {n:Int}:∀ {s:List Int},(∀m∈s,f m=f n→m=n)→(s.map f).idxOf (f n)=s.idxOf n
 | [],_=>rfl
 | m::s,h=>by
  rw[List.map_cons,List.idxOf_cons,List.idxOf_cons]
  by_cases e:m=n
  ·subst e;simp
  ·have:f m≠f n:=fun e2=>e (h m List.mem_cons_self e2)
   have ih:=idxOf_map (f:=f) (n:=n) (s:=s) fun k hk=>h k (List.mem_cons_of_mem _ hk)
   rw[ih,beq_eq_false_iff_ne.2 this,beq_eq_false_iff_ne.2 e]
theorem seenS_map {f:Int→Int} {X:List Int} (hs:∀n∈X,0≤f n↔0≤n) (hi:∀n∈X,∀m∈X,f n=f m→n=m):∀(t s:List Int),(∀n∈t,n∈X)→(∀n∈s,n∈X)→seenS (s.map f) (t.map f)=(seenS s t).map f
 | [],s,_,_=>rfl
 | n::l,s,ht,hsx=>by
  have hn:=ht n List.mem_cons_self
  have ih:=fun s' hs'=>seenS_map hs hi l s' (fun m hm=>ht m (List.mem_cons_of_mem _ hm)) hs'
  have hmem:f n∈s.map f↔n∈s:=⟨fun h=>by
   obtain⟨m,hm,e⟩:=List.mem_map.1 h
   rw[←hi m (hsx m hm) n hn e];exact hm,fun h=>List.mem_map_of_mem h⟩
  simp only[List.map_cons,seenS,hs n hn,hmem]
  split
  ·exact ih s hsx
  ·have:=ih (s++[n]) (fun m hm=>by
    rcases List.mem_append.1 hm with hm|hm
    ·exact hsx m hm
    ·rw[List.mem_singleton.1 hm];exact hn)
   rw[List.map_append] at this
   exact this
theorem codeI_map {f:Int→Int} {X:List Int} (hs:∀n∈X,0≤f n↔0≤n) (hi:∀n∈X,∀m∈X,f n=f m→n=m) (hf:∀n∈X,0≤n→f n=n) {s:List Int} (hsx:∀n∈s,n∈X) {n:Int} (hn:n∈X):codeI (s.map f) (f n)=codeI s n:=by
 unfold codeI
 by_cases h:0≤n
 ·rw[if_pos ((hs n hn).2 h),if_pos h,hf n hn h]
 ·rw[if_neg (fun e=>h ((hs n hn).1 e)),if_neg h,idxOf_map fun m hm e=>hi m (hsx m hm) n hn e]
theorem seenS_sub:∀(t s:List Int),∀n∈seenS s t,n∈s∨(n∈t∧n<0)
 | [],s,n,h=>.inl h
 | m::l,s,n,h=>by
  simp only[seenS] at h
  split at h
  ·rcases seenS_sub l s n h with h|⟨h,h0⟩
   ·exact .inl h
   ·exact .inr ⟨List.mem_cons_of_mem _ h,h0⟩
  ·rename_i hc
   rcases seenS_sub l _ n h with h|⟨h,h0⟩
   ·rcases List.mem_append.1 h with h|h
    ·exact .inl h
    ·rw[List.mem_singleton.1 h]
     exact .inr ⟨List.mem_cons_self,by omega⟩
   ·exact .inr ⟨List.mem_cons_of_mem _ h,h0⟩
theorem renL_map {f:Int→Int} (a b:List Int) (hs:∀n∈a++b,0≤f n↔0≤n) (hi:∀n∈a++b,∀m∈a++b,f n=f m→n=m) (hf:∀n∈a++b,0≤n→f n=n):renL [] [a.map f,b.map f]=renL [] [a,b]:=by
 have ha:∀n∈a,n∈a++b:=fun n h=>List.mem_append_left _ h
 have hb:∀n∈b,n∈a++b:=fun n h=>List.mem_append_right _ h
 have e1:=seenS_map hs hi a [] ha (by simp)
 have h1:∀n∈seenS [] a,n∈a++b:=fun n h=>by
  rcases seenS_sub a [] n h with h|h
  ·cases h
  ·exact ha n h.1
 have e2:=seenS_map hs hi b _ hb h1
 have h2:∀n∈seenS (seenS [] a) b,n∈a++b:=fun n h=>by
  rcases seenS_sub b _ n h with h|h
  ·exact h1 n h
  ·exact hb n h.1
 simp only[List.map_nil] at e1
 rw[renL_two,renL_two,e1,e2]
 simp only[List.map_map,List.cons.injEq,and_true]
 exact⟨List.map_congr_left fun n hn=>codeI_map hs hi hf h2 (ha n hn),List.map_congr_left fun n hn=>codeI_map hs hi hf h2 (hb n hn)⟩
end
section
attribute [local irreducible] SW runL runQ runG runQG FC Ret1
def tkN (u:List Int):Tk:=if u=[] then .nil else .any
def optD (u:List Int):D:=.sl (tkN u) (u.map (.int .i64))
attribute [go_sem] optD
theorem nilY_tkN (u:List Int) (K:D→Prop):nilY .eql (tkN u) (u.map (.int .i64)) K=K (.bool (tst (u=[]))):=by
 unfold tkN
 by_cases h:u=[]
 ·subst h;simp[nilY,tst]
 ·rw[if_neg h,tst_false h]
  simp[nilY,h]
theorem take_full {α:Type} (xs:List α) (n:Nat) (h:Om (xs.length≤n)):xs.take n=xs:=List.take_of_length_le h.out
theorem putC_full (cs new:List D) (h:Om (cs.length=new.length)):putC cs 0 new=new:=by
 have h:=h.out
 unfold putC
 split
 ·match cs,h with
  | [c],_=>rfl
 ·unfold putCells
  rw[List.take_zero,List.nil_append,Nat.zero_add,←h,List.drop_length,List.append_nil]
theorem idsL_opt (g:List (List Int)):D.idsL (g.map optD)=[]:=by
 induction g with
 | nil=>rfl
 | cons u g ih=>simp[D.idsL,optD,D.ids];exact ih
theorem tksL_opt (g:List (List Int)):D.tksL (g.map optD)=[]:=by
 induction g with
 | nil=>rfl
 | cons u g ih =>
  simp only[List.map_cons,D.tksL,ih,optD,tkN]
  split<;>rfl
theorem all_opt (g:List (List Int)):(g.map optD).all D.one=true:=by
 rw[List.all_eq_true]
 intro d hd
 obtain⟨u,_,rfl⟩:=List.mem_map.1 hd
 rfl
attribute [local go_sem] idsL_opt tksL_opt nilY_tkN take_full all_opt linM_len
theorem putC_opt (g:List (List Int)) (h:Om (g.length=24)):putC [D.sl .nil [],D.sl .nil [],D.sl .nil [],D.sl .nil [],D.sl .nil [],D.sl .nil [],D.sl .nil [],D.sl .nil [],D.sl .nil [],D.sl .nil [],D.sl .nil [],D.sl .nil [],D.sl .nil [],D.sl .nil [],D.sl .nil [],D.sl .nil [],D.sl .nil [],D.sl .nil [],D.sl .nil [],D.sl .nil [],D.sl .nil [],D.sl .nil [],D.sl .nil [],D.sl .nil []] 0 (g.map optD)=g.map optD:=putC_full _ _ ⟨by rw[List.length_map,h.out];rfl⟩
attribute [local go_sem] putC_opt
theorem flat_intsD (g:List (List Int)):flat (g.map IntsD)=g.map IntsD:=by
 induction g with
 | nil=>rfl
 | cons u g ih=>simp[flat] at ih ⊢;simp[D.cells,IntsD];exact ih
theorem flatMap_intsD (g:List (List Int)):List.flatMap D.cells (g.map IntsD)=g.map IntsD:=flat_intsD g
attribute [local go_sem] flatMap_intsD
theorem argsS_len (rs t:List Int) (a:Nat):(argsS rs t a).length=(arS rs (t.getD a default)).toNat:=begS_length _ _ _ _
theorem argsS_get (rs t:List Int) (a j:Nat) (h:j<(arS rs (t.getD a default)).toNat):(argsS rs t a).getD j default=nthB rs t (a+1) j:=begS_get _ _ _ _ _ h
end
section
attribute [local irreducible] SW runL runQ runG runQG FC Ret1 RetN toF redoL
attribute [local go_sem] List.filter_cons
end
section
attribute [local irreducible] SW runL runQ runG runQG FC Ret1 RetN toF redoL
attribute [local go_sem] List.filter_cons
end
section
attribute [local irreducible] SW runL runQ runG runQG FC Ret1 RetN toF redoL
attribute [local go_sem] List.filter_cons
end
section
attribute [local irreducible] SW runL runQ runG runQG FC Ret1 RetN toF redoL
attribute [local go_sem] List.filter_cons
end
section
end
section
attribute [local irreducible] SW runL runQ runG runQG FC Ret1 RetN toF redoL
end
section
def kp107:List (Nat×List Nat):=[(0,[0]),(1,[0,4]),(2,[2]),(3,[2])]
attribute [go_sem] kp107 Tryz.results107 Tryz.ntmps107
end
section
attribute [local irreducible] SW runL runQ runG runQG FC Ret1
theorem cloneOwn_fc (tk:Tk) (xs:List Int) (hl:xs.length≤17592186044416):FC S 107 [] [] [] [.sl tk (xs.map (.int .i64))] (.sl (.own 0 2 1) (xs.map (.int .i64))) [] [0]:=by
 refine FC.args (args':=[.sl .any (xs.map (.int .i64))]) ?_ (by simp only[go_sem])
 refine fcb1 Tryz.func107 fun B=>?_
 refine sw_bndg 0 fun hb0=>?_
 refine sw_nilcase 0 rfl (fun hx=>?_) ?_<;>simp only[go_sem]
 ·have hx:xs=[]:=by simpa using hx
  subst hx
  repeat' first|exact h.elim|(refine sw_tok 2 5000 2 1 rfl (.inl rfl) rfl ?_;simp only[go_sem])|refine sw_n ?_|refine sw_go 0 kp107 fun K hK=>?_|refine fun (K:KT) (hK:KOk S 0 _ _ _ K)=>?_|refine runL_g ?_|refine sw_retg0 ?_|refine sw_retg ?_|(refine hK.n0 ?_;clear hK K)|refine sw_condg rfl (fun h=>?_) fun h=>?_|with_reducible refine and_o ?_|((with_reducible refine And.intro ?_ ?_);· first|(intro x hx;subst hx;rfl)|(intro x;refine And.intro ?_ ?_<;>(intros;subst_vars;rfl)))|apply tTT
  exact ret1_own rfl (by simp)
 ·repeat' first|exact h.elim|refine sw_n ?_|refine sw_go 0 kp107 fun K hK=>?_|refine fun (K:KT) (hK:KOk S 0 _ _ _ K)=>?_|refine runL_g ?_|refine sw_retg0 ?_|refine sw_retg ?_|(refine hK.n0 ?_;clear hK K)|refine sw_condg rfl (fun h=>?_) fun h=>?_|with_reducible refine and_o ?_|((with_reducible refine And.intro ?_ ?_);· first|(intro x hx;subst hx;rfl)|(intro x;refine And.intro ?_ ?_<;>(intros;subst_vars;rfl)))|apply tTT
  exact ret1_own rfl (by simp)
theorem pu_ints (f:Nat→Bool) (ys:List Int):(ys.map (D.int .i64)).map (D.pu1 f)=ys.map (.int .i64):=by
 rw[List.map_map];rfl
theorem tksL_ints (ys:List Int):D.tksL (ys.map (D.int .i64))=[]:=by
 induction ys with
 | nil=>rfl
 | cons y r ih=>simp only[List.map_cons,D.tksL,ih];rfl
theorem idsL_ints (ys:List Int):D.idsL (ys.map (D.int .i64))=[]:=by
 induction ys with
 | nil=>rfl
 | cons y r ih=>simp only[List.map_cons,D.idsL,ih];rfl
attribute [local go_sem] pu_ints tksL_ints idsL_ints
theorem code_new {s:List Int} {x:Int} (h0:x<0) (h:x∉s):codeI (s++[x]) x=-1-(s.length:Int):=by
 unfold codeI
 rw[if_neg (by omega),List.idxOf_append,if_neg h]
 simp
theorem code_old {s:List Int} {x:Int} (h0:x<0):codeI s x=-1-(s.idxOf x:Int):=by
 unfold codeI
 rw[if_neg (by omega)]
def seenT (ts:List (List Int)) (j:Nat):List Int:=(ts.take j).foldl seenS []
theorem renL_len:∀(ts:List (List Int)) (s:List Int),(renL s ts).length=ts.length
 | [],_=>rfl
 | t::ts,s=>by simp[renL,renL_len ts]
theorem seenT_succ (ts:List (List Int)) (j:Nat) (h:j<ts.length):seenT ts (j+1)=seenS (seenT ts j) (ts.getD j default):=by
 unfold seenT
 rw[List.take_succ_eq_append_getElem h,List.foldl_append]
 simp[List.getD,List.getElem?_eq_getElem h]
theorem seenS_snoc:∀(l s:List Int) (n:Int),seenS s (l++[n])=if 0≤n∨n∈seenS s l then seenS s l else seenS s l++[n]
 | [],s,n=>rfl
 | m::l,s,n=>by
  simp only[List.cons_append,seenS]
  split
  ·exact seenS_snoc l s n
  ·exact seenS_snoc l (s++[m]) n
def mixS (s t:List Int) (i:Nat):List Int:=(t.take i).map (codeI (seenS s (t.take i)))++t.drop i
theorem mixS_len (s t:List Int) (i:Nat) (h:i≤t.length):(mixS s t i).length=t.length:=by simp[mixS];omega
theorem mixS_split (s t:List Int) (i:Nat) (h:i<t.length):mixS s t i=(t.take i).map (codeI (seenS s (t.take i)))++t.getD i default::t.drop (i+1):=by
 unfold mixS
 rw[drop_cons h]
theorem mixS_get (s t:List Int) (i:Nat) (h:i<t.length):(mixS s t i).getD i default=t.getD i default:=by
 rw[mixS_split s t i h]
 have:((t.take i).map (codeI (seenS s (t.take i)))).length=i:=by simp;omega
 have h2:=getD_app (q:=(t.take i).map (codeI (seenS s (t.take i)))) (x:=t.getD i default) (s:=t.drop (i+1))
 rwa [this] at h2
theorem mixS_all (s t:List Int) (i:Nat) (h:t.length≤i):mixS s t i=t.map (codeI (seenS s t))∧seenS s (t.take i)=seenS s t:=by
 unfold mixS
 rw[List.take_of_length_le h,List.drop_of_length_le h,List.append_nil]
 exact⟨rfl,rfl⟩
theorem seen_take (s t:List Int) (i:Nat) (h:i<t.length):seenS s (t.take (i+1))=if 0≤t.getD i default∨t.getD i default∈seenS s (t.take i) then seenS s (t.take i) else seenS s (t.take i)++[t.getD i default]:=by
 have e:t.take (i+1)=t.take i++[t.getD i default]:=by
  rw[List.take_succ_eq_append_getElem h];simp[List.getD,List.getElem?_eq_getElem h]
 rw[e,seenS_snoc]
theorem mixS_succ (s t:List Int) (i:Nat) (h:i<t.length):mixS s t (i+1)=(t.take i).map (codeI (seenS s (t.take i)))++codeI (seenS s (t.take (i+1))) (t.getD i default)::t.drop (i+1):=by
 have e:t.take (i+1)=t.take i++[t.getD i default]:=by
  rw[List.take_succ_eq_append_getElem h];simp[List.getD,List.getElem?_eq_getElem h]
 have hpre:∃r,seenS s (t.take (i+1))=seenS s (t.take i)++r:=by
  rw[seen_take s t i h]
  split
  ·exact⟨[],by simp⟩
  ·exact⟨_,rfl⟩
 obtain⟨r,hr⟩:=hpre
 have e2:(t.take (i+1)).map (codeI (seenS s (t.take (i+1))))=(t.take i).map (codeI (seenS s (t.take i)))++[codeI (seenS s (t.take (i+1))) (t.getD i default)]:=by
  conv=>lhs;arg 2;rw[e]
  rw[List.map_append]
  congr 1
  rw[hr];exact code_all
 unfold mixS
 rw[e2,List.append_assoc];rfl
theorem mixS_stay (s t:List Int) (i:Nat) (h:i<t.length) (h0:0≤t.getD i default):mixS s t (i+1)=mixS s t i:=by
 rw[mixS_succ s t i h,mixS_split s t i h]
 rw[show codeI (seenS s (t.take (i+1))) (t.getD i default)=t.getD i default from if_pos h0]
theorem len_app_set (a:List Int) (k:Nat) (b:List Int) {x y:Int} (h:a.length=k):(a++x::b).set k y=a++y::b:=by
 subst h
 induction a with
 | nil=>rfl
 | cons c a ih=>simp[ih]
theorem mixS_set (s t:List Int) (i:Nat) (h:i<t.length):(mixS s t i).set i (codeI (seenS s (t.take (i+1))) (t.getD i default))=mixS s t (i+1):=by
 rw[mixS_succ s t i h,mixS_split s t i h,len_app_set _ _ _ (by simp;omega)]
theorem fidx_idx (n:Int):∀xs:List Int,(n∈xs→fidx (fun x=>x=n) xs=(xs.idxOf n:Int))∧(n∉xs→fidx (fun x=>x=n) xs=-1):=fun xs=>by
 constructor
 ·intro h
  have hlt:=List.idxOf_lt_length_of_mem h
  have hget:xs.getD (xs.idxOf n) default=n:=by simp[List.getD,List.getElem?_eq_getElem hlt]
  refine fidx_at (p:=fun x=>x=n) (fun j hj e=>?_) hlt hget
  have hjl:j<xs.length:=by omega
  have:xs[j]=n:=by rw[←e];simp[List.getD,List.getElem?_eq_getElem hjl]
  have:=List.not_of_lt_findIdx (p:=(·==n)) (xs:=xs) (i:=j) hj
  simp_all
 ·intro h
  exact fidx_none (p:=fun x=>x=n) fun j hj e=>h (e ▸ getD_mem xs j hj)
theorem seenS_len:∀(t s:List Int),(seenS s t).length≤s.length+t.length
 | [],s=>by simp[seenS]
 | n::l,s=>by
  simp only[seenS]
  split
  ·have:=seenS_len l s;simp only[List.length_cons];omega
  ·have:=seenS_len l (s++[n]);simp only[List.length_append,List.length_cons,List.length_nil] at this ⊢;omega
theorem seenT_len (ts:List (List Int)) (h:∀t∈ts,t.length≤60):∀j,j≤ts.length→(seenT ts j).length≤60*j
 | 0,_=>by simp[seenT]
 | j+1,hj=>by
  have ih:=seenT_len ts h j (by omega)
  have h1:=seenS_len (ts.getD j default) (seenT ts j)
  have h2:=h _ (getD_mem ts j (by omega))
  rw[seenT_succ ts j (by omega)]
  omega
def kp161:List (Nat×List Nat):=[(0,[0]),(1,[0,3]),(2,[0,3,4]),(3,[3,4,11,12,13]),(4,[3,4,11,12,13,14]),(5,[3,4,6,11,12,13]),(6,[3,4,7,11,12,13]),(7,[3,4,7,11,12,13,19,20,21]),(8,[3,4,7,11,12,13,19,20,21,22]),(9,[3,4,7,8,9,11,12,13,19,20,21]),(10,[3,4,7,8,9,11,12,13,19,20,21,27]),(11,[3,4,7,8,9,10,11,12,13,19,20,21]),(12,[3,4,7,8,9,10,11,12,13,19,20,21,32]),(13,[3,4,7,8,9,10,11,12,13,19,20,21]),(14,[3,4,7,8,10,11,12,13,19,20,21]),(15,[3,4,7,11,12,13,19,20,21]),(16,[3,4,7,11,12,13,19,20,21]),(17,[3,4,11,12,13]),(18,[3,4,11,12,13]),(19,[2])]
attribute [go_sem] kp161 Tryz.results161 Tryz.ntmps161
end
section
theorem sw_freezeLab1 {B:Base} {R:LS→Prop} {k:List VItem} {L:LS} (rid t s:Nat) (l:List Nat) {id n:Nat} {cs:List D} (xs:List D) {ops:Array Oper} {dr:Bool} (ht:Lg.look L.env t=some (.ms id n)) (hb:Lg.look L.boxes id=some cs) (hx:cs=flat xs) (hn:n=xs.length)
  (hu:∀x∈xs,x.cells.length=s) (hk:∀d∈cs,d.memOk=true) (hl:l≠[]) (hfix:id∉L.fix) (hh:SW S B R (.code (.region rid ops dr)::k) {L.forget id with env:=setA (L.forget id).env t (.sl (.lab l) xs)}):SW S B R (.code (.region rid ops dr)::k) L:=fun G a w hs=>by
 obtain⟨G',h'⟩:=freezeLab_sim hs ht hb hx hn hu hk hl hfix
 exact hh G' a w h'
theorem len_le_rngN:∀(n:Nat) (r:List Int),r.Nodup→(∀x∈r,x<0∧-(n:Int)≤x)→r.length≤n
 | 0,r,_,h=>by
  cases r with
  | nil=>exact Nat.le_refl _
  | cons x r=>have:=h x List.mem_cons_self;omega
 | n+1,r,hd,h=>by
  have h1:=len_le_rngN n (r.erase (-(n:Int)-1)) (hd.erase _) (fun x hx=>by
   have hx':=List.mem_of_mem_erase hx
   have hne:x≠(-(n:Int)-1):=fun e=>by
    subst e
    exact(List.Nodup.not_mem_erase hd) hx
   have:=h x hx'
   omega)
  rw[List.length_erase] at h1
  split at h1<;>omega
theorem seenS_nodup:∀(t s:List Int),s.Nodup→(seenS s t).Nodup
 | [],s,h=>h
 | n::l,s,h=>by
  simp only[seenS]
  split
  ·exact seenS_nodup l s h
  ·rename_i hn
   refine seenS_nodup l _ (List.nodup_append.2 ⟨h,by simp,fun a ha b hb e=>?_⟩)
   simp only[List.mem_singleton] at hb
   subst hb;subst e
   exact hn (.inr ha)
theorem seen0_neg (t:List Int):∀n∈seenS [] t,n∈t∧n<0:=fun n h=>(seenS_sub t [] n h).resolve_left (by simp)
theorem seen0_len {t:List Int} (h:∀n∈t,-24≤n):(seenS [] t).length≤24:=len_le_rngN 24 _ (seenS_nodup t [] (by simp)) fun x hx=>by
 have:=seen0_neg t x hx
 have:=h x this.1
 omega
theorem fl_map {rs:List Int} {f:Int→Int} {k:Nat} {t:List Int} (h:Fl rs k t):(∀n∈t,arS rs (f n)=arS rs n)→Fl rs k (t.map f):=by
 induction h with
 | nil=>exact fun _=>.nil
 | @cons n k l h0 hr ih =>
  intro hf
  have e:=hf n List.mem_cons_self
  exact .cons (by rw[e];exact h0) (by rw[e];exact ih fun m hm=>hf m (List.mem_cons_of_mem _ hm))
def ren0 (t:List Int):List Int:=t.map (codeI (seenS [] t))
theorem ren0_ok {rs t:List Int} (h:TermOkP rs t):TermOkP rs (ren0 t):=by
 have hl:=seen0_len h.ge
 refine fl_termOk h.1 (fl_map (termOk_fl h) fun n hn=>?_) (by unfold ren0;rw[List.length_map];exact h.2.1.2)
 unfold codeI
 split
 ·rfl
 ·rename_i h0
  have:=List.idxOf_lt_length_of_mem (seenS_mem t [] n hn (by omega))
  rw[arS_var ⟨h.ge n hn,by omega⟩,arS_var ⟨by omega,by omega⟩]
def byK (s:List Int) (x:Int) (k:Nat):Int:=if x∈s.take k then -1-(s.idxOf x:Int) else x
theorem byK_hit {s:List Int} (hs:s.Nodup) {x:Int} {k:Nat} (hk:k<s.length) (e:s.getD k default=x):byK s x (k+1)=-1-(k:Int):=by
 have hx:s[k]=x:=by rw[←e];simp[List.getD,hk]
 unfold byK
 rw[if_pos (by rw[List.take_succ_eq_append_getElem hk,hx];simp)]
 have:s.idxOf x=k:=by
  rw[←hx]
  have h1:=List.idxOf_lt_length_of_mem (List.getElem_mem hk)
  have h2:s[s.idxOf s[k]]=s[k]:=List.getElem_idxOf h1
  exact(List.getElem_inj hs).1 h2
 rw[this]
theorem ite_prop_congr {α:Type} {p q:Prop} [Decidable p] [Decidable q] (h:p↔q) {a b:α}:(if p then a else b)=if q then a else b:=by
 by_cases hp:p
 ·rw[if_pos hp,if_pos (h.1 hp)]
 ·rw[if_neg hp,if_neg fun hq=>hp (h.2 hq)]
theorem byK_miss {s:List Int} {x:Int} {k:Nat} (hk:k<s.length) (e:¬s.getD k default=x):byK s x (k+1)=byK s x k:=by
 have hx:¬x=s[k]:=fun h=>e (by rw[h];simp[List.getD,hk])
 have e2:x∈s.take (k+1)↔x∈s.take k:=by
  rw[List.take_succ_eq_append_getElem hk,List.mem_append,List.mem_singleton]
  exact⟨fun h=>h.resolve_right hx,.inl⟩
 unfold byK
 rw[ite_prop_congr e2]
theorem byK_zero (s:List Int) (x:Int):byK s x 0=x:=by simp[byK]
theorem byK_all {s:List Int} {x:Int} {k:Nat} (hk:s.length≤k) (hx:x<0) (h:x∈s):byK s x k=codeI s x:=by
 unfold byK codeI
 rw[List.take_of_length_le hk,if_pos h,if_neg (by omega)]
theorem renL_get:∀(ts:List (List Int)) (s:List Int) (j:Nat),j<ts.length→(renL s ts).getD j default=(ts.getD j default).map (codeI (seenS ((ts.take j).foldl seenS s) (ts.getD j default)))
 | [],_,_,h=>by simp at h
 | t::ts,s,0,_=>by simp[renL]
 | t::ts,s,j+1,h=>by
  have:=renL_get ts (seenS s t) j (by simpa using h)
  simpa[renL] using this
end
section
attribute [local irreducible] SW runL runQ runG runQG FC Ret1 RetN toF redoL
def kp155:List (Nat×List Nat):=[(0,[0]),(1,[0,3]),(2,[0,3,4]),(3,[0,3,4,9]),(5,[0,3,4,25]),(6,[0,3,4]),(4,[0,3,4]),(7,[2])]
attribute [go_sem] kp155 Tryz.results155 Tryz.ntmps155
theorem l2Order_fc (t:List Int) (ht:t.length≤1000):FC S 155 [] [] [] [.sl .any (t.map (.int .i64))] (.sl .any ((seenS [] t).map (.int .i64))) [] []:=by
 refine fcb Tryz.func155 fun B=>?_
 refine sw_bndg 0 fun hb0=>?_
 repeat' first|exact h.elim|refine sw_n ?_|refine sw_go 0 kp155 fun K hK=>?_|refine fun (K:KT) (hK:KOk S 0 _ _ _ K)=>?_|refine runL_g ?_|refine sw_retg0 ?_|refine sw_retg ?_|(refine hK.n0 ?_;clear hK K)|refine runG_fk (fun h=>?_) fun h=>?_|refine sw_condg rfl (fun h=>?_) fun h=>?_|refine hK.skp rfl rfl ?_|refine sw_exit rfl ?_|refine sw_loopEnd ?_|(refine hK.fork rfl rfl rfl ?_ ?_<;>intro h<;>try simp (disch:=(refine Om.mk ?_;omega)) only[go_sem] at h)|with_reducible refine and_o ?_|((with_reducible refine And.intro ?_ ?_);· first|(intro x hx;subst hx;rfl)|(intro x;refine And.intro ?_ ?_<;>(intros;subst_vars;rfl)))|apply tTT
 refine sw_tok 3 33000 2 1 rfl (.inr rfl) rfl ?_
 simp only[go_sem]
 refine sw_loopT (ι:=Nat) (fun i=>[(4,.int .i64 i),(3,.sl (.own 33000 2 1) ((seenS [] (t.take i)).map (.int .i64)))]) (fun _=>[]) (fun _=>[33000]) (fun i=>i≤t.length) (fun i=>t.length-i) 0 (by(refine covers_mk0 rfl rfl ?_ ?_ ?_ ?_<;>simp (disch:=(refine Om.mk ?_;omega)) only[go_sem]<;>(try omega));all_goals first|rfl|(simp[seenS];done)) (by omega) (fun i hi=>?_)
 simp only[go_sem]
 have hsl:=seenS_len (t.take i) []
 rw[List.length_take,List.length_nil] at hsl
 have hst:=seen_take [] t i
 generalize hz:seenS [] (t.take i)=zs at *
 repeat' first|exact h.elim|refine sw_n ?_|refine sw_go 0 kp155 fun K hK=>?_|refine fun (K:KT) (hK:KOk S 0 _ _ _ K)=>?_|refine runL_g ?_|refine sw_retg0 ?_|refine sw_retg ?_|(refine hK.n0 ?_;clear hK K)|refine runG_fk (fun h=>?_) fun h=>?_|refine sw_condg rfl (fun h=>?_) fun h=>?_|refine hK.skp rfl rfl ?_|refine sw_exit rfl ?_|refine sw_loopEnd ?_|refine hK.c1 rfl rfl rfl (l1Has_fc _ zs (t.getD i default)) ?_|(refine hK.fork rfl rfl rfl ?_ ?_<;>intro h<;>try simp (disch:=(refine Om.mk ?_;omega)) only[go_sem] at h)|with_reducible refine and_o ?_|((with_reducible refine And.intro ?_ ?_);· first|(intro x hx;subst hx;rfl)|(intro x;refine And.intro ?_ ?_<;>(intros;subst_vars;rfl)))|apply tTT
 ·exact⟨i+1,(by rw[hst (by omega),if_neg (by rintro (h1|h1);omega;exact h h1)];(refine covers_mk0 rfl rfl ?_ ?_ ?_ ?_<;>simp (disch:=(refine Om.mk ?_;omega)) only[go_sem]<;>(try omega));all_goals first|rfl|exact⟨rfl,by omega⟩|(simp;done)),by omega,by omega⟩
 ·exact⟨i+1,(by rw[hst (by omega),if_pos (.inr h)];(refine covers_mk0 rfl rfl ?_ ?_ ?_ ?_<;>simp (disch:=(refine Om.mk ?_;omega)) only[go_sem]<;>(try omega));all_goals first|rfl|exact⟨rfl,by omega⟩|(simp;done)),by omega,by omega⟩
 ·exact⟨i+1,(by rw[hst (by omega),if_pos (.inl (by assumption))];(refine covers_mk0 rfl rfl ?_ ?_ ?_ ?_<;>simp (disch:=(refine Om.mk ?_;omega)) only[go_sem]<;>(try omega));all_goals first|rfl|exact⟨rfl,by omega⟩|(simp;done)),by omega,by omega⟩
 ·rw[←hz,List.take_of_length_le (by omega)]
def kp154:List (Nat×List Nat):=[(0,[0,1]),(1,[0,1,5]),(2,[0,1,5,6]),(3,[0,1,5,6,13]),(5,[0,1,5,6,7]),(6,[0,1,5,6,7,8]),(7,[0,1,5,6,7,8,30]),(9,[0,1,5,6,7,8,41]),(10,[0,1,5,6,7,8]),(8,[0,1,5,6,7,8]),(11,[0,1,5,6]),(4,[0,1,5,6]),(12,[4])]
attribute [go_sem] kp154 Tryz.results154 Tryz.ntmps154
theorem l2By_fc (s t:List Int) (hs:s.Nodup) (hst:∀n∈t,n<0→n∈s) (h1:s.length≤1000) (h2:t.length≤1000) (hlo:∀n∈t,-1000≤n):FC S 154 [] [] [] [.sl .any (s.map (.int .i64)),.sl .any (t.map (.int .i64))] (.sl .any ((t.map (codeI s)).map (.int .i64))) [] []:=by
 refine fcb Tryz.func154 fun B=>?_
 refine sw_bndg 0 fun hb0=>?_
 refine sw_bndg 1 fun hb1=>?_
 repeat' first|exact h.elim|refine sw_n ?_|refine sw_go 0 kp154 fun K hK=>?_|refine fun (K:KT) (hK:KOk S 0 _ _ _ K)=>?_|refine sw_goD kp154 (by kernel_rfl) fun K hK=>?_|refine runL_g ?_|refine runQ_g ?_|refine sw_retg0 ?_|refine sw_retg ?_|(refine hK.n0 ?_;clear hK K)|refine runG_fk (fun h=>?_) fun h=>?_|refine runQG_fk (fun h=>?_) fun h=>?_|refine sw_condg rfl (fun h=>?_) fun h=>?_|refine hK.skp rfl rfl ?_|refine sw_exit rfl ?_|refine sw_loopEnd ?_|(refine hK.fork rfl rfl rfl ?_ ?_<;>intro h<;>try simp (disch:=(refine Om.mk ?_;omega)) only[go_sem] at h)|with_reducible refine and_o ?_|((with_reducible refine And.intro ?_ ?_);· first|(intro x hx;subst hx;rfl)|(intro x;refine And.intro ?_ ?_<;>(intros;subst_vars;rfl)))|apply tTT
 refine sw_tok 5 48000 2 1 rfl (.inr rfl) rfl ?_
 simp only[go_sem]
 refine sw_loopT (ι:=Nat) (fun i=>[(6,.int .i64 i),(5,.sl (.own 48000 2 1) (((t.take i).map (codeI s)).map (.int .i64)))]) (fun _=>[]) (fun _=>[48000]) (fun i=>i≤t.length) (fun i=>t.length-i) 0 (by(refine covers_mk0 rfl rfl ?_ ?_ ?_ ?_<;>simp (disch:=(refine Om.mk ?_;omega)) only[go_sem]<;>(try omega));all_goals first|rfl|(simp;done)) (by omega) (fun i hi=>?_)
 simp only[go_sem]
 have hll:((t.take i).map (codeI s)).length≤1000:=by rw[List.length_map,List.length_take];omega
 have hnx:i<t.length→(t.take (i+1)).map (codeI s)=(t.take i).map (codeI s)++[codeI s (t.getD i default)]:=fun h=>by
  rw[List.take_succ_eq_append_getElem h,List.map_append];congr 1;simp[List.getD,h]
 have hend:t.length≤i→(t.take i).map (codeI s)=t.map (codeI s):=fun h=>by rw[List.take_of_length_le h]
 have hin:i<t.length→t.getD i default<0→t.getD i default∈s:=fun h=>hst _ (getD_mem t i h)
 generalize hz:(t.take i).map (codeI s)=zs at *
 repeat' first|exact h.elim|refine sw_n ?_|refine sw_go 0 kp154 fun K hK=>?_|refine fun (K:KT) (hK:KOk S 0 _ _ _ K)=>?_|refine sw_goD kp154 (by kernel_rfl) fun K hK=>?_|refine runL_g ?_|refine runQ_g ?_|refine sw_retg0 ?_|refine sw_retg ?_|(refine hK.n0 ?_;clear hK K)|refine runG_fk (fun h=>?_) fun h=>?_|refine runQG_fk (fun h=>?_) fun h=>?_|refine sw_condg rfl (fun h=>?_) fun h=>?_|refine hK.skp rfl rfl ?_|refine sw_exit rfl ?_|refine sw_loopEnd ?_|(refine hK.fork rfl rfl rfl ?_ ?_<;>intro h<;>try simp (disch:=(refine Om.mk ?_;omega)) only[go_sem] at h)|with_reducible refine and_o ?_|((with_reducible refine And.intro ?_ ?_);· first|(intro x hx;subst hx;rfl)|(intro x;refine And.intro ?_ ?_<;>(intros;subst_vars;rfl)))|apply tTT
 ·refine sw_loopT (ι:=Nat) (fun k=>[(8,.int .i64 k),(7,.int .i64 (byK s (t.getD i default) k))]) (fun _=>[]) (fun _=>[48000]) (fun k=>k≤s.length∧(0≤t.getD i default→k=0)) (fun k=>s.length-k) 0 (by(refine covers_mk0 rfl rfl ?_ ?_ ?_ ?_<;>simp (disch:=(refine Om.mk ?_;omega)) only[go_sem]<;>(try omega));all_goals first|rfl|(simp[byK_zero];done)) ⟨by omega,fun _=>rfl⟩ (fun k hk=>?_)
  simp only[go_sem]
  obtain⟨hk1,hk2⟩:=hk
  repeat' first|exact h.elim|refine sw_n ?_|refine sw_go 0 kp154 fun K hK=>?_|refine fun (K:KT) (hK:KOk S 0 _ _ _ K)=>?_|refine sw_goD kp154 (by kernel_rfl) fun K hK=>?_|refine runL_g ?_|refine runQ_g ?_|refine sw_retg0 ?_|refine sw_retg ?_|(refine hK.n0 ?_;clear hK K)|refine runG_fk (fun h=>?_) fun h=>?_|refine runQG_fk (fun h=>?_) fun h=>?_|refine sw_condg rfl (fun h=>?_) fun h=>?_|refine hK.skp rfl rfl ?_|refine sw_exit rfl ?_|refine sw_loopEnd ?_|(refine hK.fork rfl rfl rfl ?_ ?_<;>intro h<;>try simp (disch:=(refine Om.mk ?_;omega)) only[go_sem] at h)|with_reducible refine and_o ?_|((with_reducible refine And.intro ?_ ?_);· first|(intro x hx;subst hx;rfl)|(intro x;refine And.intro ?_ ?_<;>(intros;subst_vars;rfl)))|apply tTT
  ·exact⟨k+1,(by rw[byK_hit hs (by omega) h];(refine covers_mk0 rfl rfl ?_ ?_ ?_ ?_<;>simp (disch:=(refine Om.mk ?_;omega)) only[go_sem]<;>(try omega));all_goals first|rfl|exact⟨rfl,by omega⟩|(simp;done)|omega),⟨by omega,fun _=>by omega⟩,by omega⟩
  ·exact⟨k+1,(by rw[byK_miss (by omega) h];(refine covers_mk0 rfl rfl ?_ ?_ ?_ ?_<;>simp (disch:=(refine Om.mk ?_;omega)) only[go_sem]<;>(try omega));all_goals first|rfl|exact⟨rfl,by omega⟩|(simp;done)|omega),⟨by omega,fun _=>by omega⟩,by omega⟩
  ·have e:byK s (t.getD i default) k=codeI s (t.getD i default):=by
    rw[hk2 (by omega),byK_zero,codeI,if_pos (by omega)]
   exact⟨i+1,(by rw[hnx (by omega),e];(refine covers_mk0 rfl rfl ?_ ?_ ?_ ?_<;>simp (disch:=(refine Om.mk ?_;omega)) only[go_sem]<;>(try omega));all_goals first|rfl|exact⟨rfl,by omega⟩|(simp;done)),by omega,by omega⟩
  ·have e:byK s (t.getD i default) k=codeI s (t.getD i default):=by
    rcases Int.lt_or_le (t.getD i default) 0 with h0|h0
    ·exact byK_all (by omega) h0 (hin (by omega) h0)
    ·rw[hk2 h0,byK_zero,codeI,if_pos h0]
   exact⟨i+1,(by rw[hnx (by omega),e];(refine covers_mk0 rfl rfl ?_ ?_ ?_ ?_<;>simp (disch:=(refine Om.mk ?_;omega)) only[go_sem]<;>(try omega));all_goals first|rfl|exact⟨rfl,by omega⟩|(simp;done)),by omega,by omega⟩
 ·rw[hend (by omega)]
def kp116:List (Nat×List Nat):=[(0,[0]),(1,[2])]
attribute [go_sem] kp116 Tryz.results116 Tryz.ntmps116
theorem l2Renamed_fc (rs t:List Int) (ht:TermOkP rs t):FC S 116 [] [] [] [.sl .any (t.map (.int .i64))] (.sl .any ((ren0 t).map (.int .i64))) [] []:=by
 have h1:=ht.2.1
 have h2:=seen0_len ht.ge
 have h3:=seenS_nodup t [] (by simp)
 have h4:=seenS_mem t []
 refine fcb Tryz.func116 fun B=>?_
 refine sw_bndg 0 fun hb0=>?_
 repeat' first|refine sw_n ?_|refine sw_go 0 kp116 fun K hK=>?_|refine fun (K:KT) (hK:KOk S 0 _ _ _ K)=>?_|refine runL_g ?_|refine sw_retg0 ?_|refine sw_retg ?_|(refine hK.n0 ?_;clear hK K)|refine sw_loopEnd ?_|refine hK.c1 rfl rfl rfl (l2Order_fc t (by omega)) ?_|refine hK.c1 rfl rfl rfl (l2By_fc (seenS [] t) t h3 h4 (by omega) (by omega) (fun n hn=>by have:=ht.ge n hn;omega)) ?_|with_reducible refine and_o ?_|apply tTT
 rfl
end
end Go.Proofs.YtkfkdgginfpdnaaGreatDoor
