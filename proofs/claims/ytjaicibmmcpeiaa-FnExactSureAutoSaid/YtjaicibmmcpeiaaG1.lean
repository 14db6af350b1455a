/-
  A23c, A23d, A23e, A01b, A23w, A03t, A02c, A03, A05p, A15p, ACl, A06, LTy, A06s, A06e, A01s, A06f, A17p, K1p, S1p, one behind the other.
-/
import Derived.Test.YtjaicibmmcpeiaaSet
import Derived.Test.YtjaicibmmcpeiaaG0
import Derived.Test.YtjaicibmmcpeiaaLgK6
import Derived.Test.YtjaicibmmcpeiaaLgK4
import Derived.Test.YtjaicibmmcpeiaaLgK7
namespace Go.Proofs.Ytjaicibmmcpeiaa
open Go Go.Lg
set_option linter.unusedSimpArgs false
set_option linter.unusedVariables false
set_option maxHeartbeats 4000000
section
attribute [local irreducible] SW runL runQ runG runQG FC Ret1
def kp48:List (Nat×List Nat):=[(0,[2,3]),(1,[2,3,27]),(2,[4]),(3,[2,3,29,30,31]),(4,[2,3,29,30,31,32]),(5,[2,3,5,6,29,30,31]),(6,[2,3,5,6,29,30,31,73]),(7,[4]),(8,[2,3,29,30,31,79]),(9,[4]),(10,[2,3,29,30,31]),(11,[3,82,83,84]),(12,[3,82,83,84,85]),(13,[3,7,8,82,83,84]),(14,[3,82,83,84,100]),(15,[4]),(16,[3,82,83,84]),(17,[4])]
attribute [go_sem] kp48 Try.results48 Try.ntmps48
theorem implAutoOk_fc (tk:Tk) (rs:List Int) (a:AutoT):FC S 48 [] [] [] [.agg [.sl tk (rs.map (.int .i64))],AutoD a] (.bool (tst (AutoOkP rs a))) [] []:=by
 refine fcb Try.func48 fun B=>?_
 refine sw_bnd_aggg 0 0 fun hb0_0=>?_
 refine sw_bnd_aggg 1 1 fun hb1_1=>?_
 refine sw_bnd_aggg 1 2 fun hb1_2=>?_
 repeat' first|exact h.elim|refine sw_n ?_|refine sw_go 0 kp48 fun K hK=>?_|refine fun (K:KT) (hK:KOk S 0 _ _ _ K)=>?_|refine sw_goD kp48 (by kernel_rfl) fun K hK=>?_|refine runL_g ?_|refine runQ_g ?_|refine sw_retg0 ?_|refine sw_retg ?_|(refine hK.n0 ?_;clear hK K)|refine runG_fk (fun h=>?_) fun h=>?_|refine runQG_fk (fun h=>?_) fun h=>?_|refine sw_condg rfl (fun h=>?_) fun h=>?_|refine hK.skp rfl rfl ?_|refine sw_exit rfl ?_|refine sw_loopEnd ?_|refine hK.c1 rfl rfl rfl (implSigOk_fc _ _) ?_|(refine hK.fork rfl rfl rfl ?_ ?_<;>intro h<;>try simp (disch:=(refine Om.mk ?_;omega)) only[go_sem] at h)|with_reducible refine and_o ?_|((with_reducible refine And.intro ?_ ?_);· first|(intro x hx;subst hx;rfl)|(intro x;refine And.intro ?_ ?_<;>(intros;subst_vars;rfl)))|apply tTT
 ·rintro⟨⟨h1,_⟩,_⟩;contradiction
 ·rintro⟨⟨_,h1,_⟩,_⟩;omega
 ·rintro⟨⟨_,h1,_⟩,_⟩;omega
 ·rintro⟨⟨_,_,h1,_⟩,_⟩;omega
 refine sw_loopU (ι:=Nat) (fun i=>[(31,.int .i64 i)]) (fun _=>[]) (fun i=>i≤a.rules.length∧(∀j<i,TransOkP rs a.states (a.rules.getD j default)∧∀k<j,¬a.rules.getD k default=a.rules.getD j default)) (fun i=>a.rules.length-i) 0 cvA ⟨by omega,?_⟩ (fun i ⟨hi,hj⟩=>?_)
 rotate_left
 simp only[go_sem]
 repeat' first|exact h.elim|refine sw_n ?_|refine sw_go 0 kp48 fun K hK=>?_|refine fun (K:KT) (hK:KOk S 0 _ _ _ K)=>?_|refine sw_goD kp48 (by kernel_rfl) fun K hK=>?_|refine runL_g ?_|refine runQ_g ?_|refine sw_retg0 ?_|refine sw_retg ?_|(refine hK.n0 ?_;clear hK K)|refine runG_fk (fun h=>?_) fun h=>?_|refine runQG_fk (fun h=>?_) fun h=>?_|refine sw_condg rfl (fun h=>?_) fun h=>?_|refine hK.skp rfl rfl ?_|refine sw_exit rfl ?_|refine sw_loopEnd ?_|refine hK.cR rfl rfl rfl (containsFuncTrans_fc _ (a.rules.take i) (fun s=>a.rules.getD i default=s) _ _ [(6,[.int .i64 (a.rules.getD i default).sym,.sl .any ((a.rules.getD i default).args.map (.int .i64)),.int .i64 (a.rules.getD i default).to])] (by simp[Lg.look]) (fun s _=>autoOk1_fc _ s)) ?_|refine hK.c1 rfl rfl rfl (statesOk_fc _ a (a.rules.getD i default).args) ?_|refine hK.c1 rfl rfl rfl (statesOk_fc _ a [(a.rules.getD i default).to]) ?_|refine hK.c1 rfl rfl rfl (statesOk_fc _ a a.final) ?_|(refine hK.fork rfl rfl rfl ?_ ?_<;>intro h<;>try simp (disch:=(refine Om.mk ?_;omega)) only[go_sem] at h)|with_reducible refine and_o ?_|((with_reducible refine And.intro ?_ ?_);· first|(intro x hx;subst hx;rfl)|(intro x;refine And.intro ?_ ?_<;>(intros;subst_vars;rfl)))|apply tTT
 ·rintro⟨_,h2⟩;have:=(h2 i (by omega)).1.1;omega
 ·rintro⟨_,h2⟩;have:=(h2 i (by omega)).1.1;omega
 ·rintro⟨_,h2⟩;exact absurd (h2 i (by omega)).1.2.1 (by assumption)
 ·rintro⟨_,h2⟩;exact absurd (h2 i (by omega)).1.2.2.2 (by assumption)
 ·rintro⟨_,h2⟩
  refine absurd ?_ h
  intro j hj'
  obtain rfl:j=0:=by simp at hj';omega
  exact(h2 i (by omega)).1.2.2.1
 ·rintro⟨_,h2⟩
  obtain⟨k,hk,e⟩:=(take_exists hi).1 h
  exact(h2 i (by omega)).2 k hk e.symm
 ·have hto:InP a.states [(a.rules.getD i default).to]:=by assumption
  have ht:=hto 0 (by simp)
  simp only[List.getD_cons_zero] at ht
  exact⟨i+1,by(refine covers_mk0 rfl rfl ?_ ?_ ?_ ?_<;>simp (disch:=(refine Om.mk ?_;omega)) only[go_sem]<;>(try omega)),⟨by omega,upto_succ hj ⟨⟨⟨by assumption,by omega⟩,by assumption,ht,by assumption⟩,fun k hk e=>h ((take_exists hi).2 ⟨k,hk,e.symm⟩)⟩⟩,by omega⟩
 ·have hr:=hj
  have hri:=hi
  refine sw_loopU (ι:=Nat) (fun i=>[(84,.int .i64 i)]) (fun _=>[]) (fun i=>i≤a.final.length∧(∀j<i,0<j→a.final.getD (j-1) default<a.final.getD j default)) (fun i=>a.final.length-i) 0 cvA ⟨by omega,?_⟩ (fun i ⟨hi,hj⟩=>?_)
  rotate_left
  simp only[go_sem]
  repeat' first|exact h.elim|refine sw_n ?_|refine sw_go 0 kp48 fun K hK=>?_|refine fun (K:KT) (hK:KOk S 0 _ _ _ K)=>?_|refine sw_goD kp48 (by kernel_rfl) fun K hK=>?_|refine runL_g ?_|refine runQ_g ?_|refine sw_retg0 ?_|refine sw_retg ?_|(refine hK.n0 ?_;clear hK K)|refine runG_fk (fun h=>?_) fun h=>?_|refine runQG_fk (fun h=>?_) fun h=>?_|refine sw_condg rfl (fun h=>?_) fun h=>?_|refine hK.skp rfl rfl ?_|refine sw_exit rfl ?_|refine sw_loopEnd ?_|refine hK.c1 rfl rfl rfl (statesOk_fc _ a a.final) ?_|(refine hK.fork rfl rfl rfl ?_ ?_<;>intro h<;>try simp (disch:=(refine Om.mk ?_;omega)) only[go_sem] at h)|with_reducible refine and_o ?_|((with_reducible refine And.intro ?_ ?_);· first|(intro x hx;subst hx;rfl)|(intro x;refine And.intro ?_ ?_<;>(intros;subst_vars;rfl)))|apply tTT
  ·rintro⟨⟨_,_,_,h2⟩,_⟩
   have:=(h2 i (by omega)).2 (by omega);omega
  ·exact⟨i+1,by(refine covers_mk0 rfl rfl ?_ ?_ ?_ ?_<;>simp (disch:=(refine Om.mk ?_;omega)) only[go_sem]<;>(try omega)),⟨by omega,upto_succ hj fun _=>h⟩,by omega⟩
  ·exact⟨i+1,by(refine covers_mk0 rfl rfl ?_ ?_ ?_ ?_<;>simp (disch:=(refine Om.mk ?_;omega)) only[go_sem]<;>(try omega)),⟨by omega,upto_succ hj fun _=>by omega⟩,by omega⟩
  ·constructor
   ·intro hin
    exact⟨⟨by assumption,⟨by assumption,by assumption⟩,by omega,fun j hj'=>⟨hin j hj',hj j (by omega)⟩⟩,fun j hj'=>hr j (by omega)⟩
   ·rintro⟨⟨_,_,_,h2⟩,_⟩ j hj'
    exact(h2 j hj').1
  ·intro j hj';omega
 ·intro j hj';omega
end
section
end
section
attribute [local irreducible] SW runL runQ runG runQG FC
def intoL:List Int→Int→List Int
 | [],n=>[n]
 | x::r,n=>if x<n then x::intoL r n else if x=n then x::r else n::x::r
theorem mem_intoL (m:Int):∀(xs:List Int) (n:Int),m∈intoL xs n↔m∈xs∨m=n
 | [],n=>by simp[intoL]
 | x::r,n=>by
  simp only[intoL]
  split
  ·simp only[List.mem_cons,mem_intoL m r n,or_assoc]
  ·split
   ·rename_i h;subst h
    simp only[List.mem_cons]
    exact⟨.inl,fun h=>h.elim id .inl⟩
   ·simp only[List.mem_cons]
    exact⟨fun h=>h.elim .inr .inl,fun h=>h.elim .inr .inl⟩
theorem intoL_at (n:Int):∀(xs:List Int) (k:Nat),k≤xs.length→(∀j<k,xs.getD j default<n)→intoL xs n=xs.take k++intoL (xs.drop k) n
 | xs,0,_,_=>by simp
 | x::r,k+1,hk,h=>by
  have h0:=h 0 (by omega)
  simp only[List.getD_cons_zero] at h0
  rw[intoL,if_pos h0,intoL_at n r k (by simpa using hk) (fun j hj=>by simpa using h (j+1) (by omega))]
  simp
 | [],k+1,hk,_=>by simp at hk
theorem drop_cons {α:Type} [Inhabited α] {xs:List α} {k:Nat} (h:k<xs.length):xs.drop k=xs.getD k default::xs.drop (k+1):=by
 rw[List.drop_eq_getElem_cons h];simp[List.getD,List.getElem?_eq_getElem h]
def kp88:List (Nat×List Nat):=[(0,[0,1]),(1,[0,1,5]),(2,[0,1,5,9]),(4,[0,1,5,17]),(5,[4]),(3,[0,1,5]),(6,[4])]
attribute [go_sem] kp88 Try.results88 Try.ntmps88
theorem l1Has_fc (tk:Tk) (xs:List Int) (n:Int):FC S 88 [] [] [] [.sl tk (xs.map (.int .i64)),.int .i64 n] (.bool (tst (n∈xs))) [] []:=by
 refine fcb Try.func88 fun B=>?_
 refine sw_bndg 0 fun hb0=>?_
 repeat' first|refine sw_n ?_|refine sw_go 0 kp88 fun K hK=>?_|refine runL_g ?_|(refine hK.n0 ?_;clear hK K)|apply tTT
 refine sw_loopU (ι:=Nat) (fun i=>[(5,.int .i64 i)]) (fun _=>[]) (fun i=>i≤xs.length∧(∀j<i,¬xs.getD j default=n)) (fun i=>xs.length-i) 0 cvA ⟨by omega,?_⟩ (fun i ⟨hi,hj⟩=>?_)
 rotate_left
 simp only[go_sem]
 repeat' first|exact h.elim|refine sw_n ?_|refine sw_go 0 kp88 fun K hK=>?_|refine runL_g ?_|refine sw_retg0 ?_|(refine hK.n0 ?_;clear hK K)|refine sw_condg rfl (fun h=>?_) fun h=>?_|refine sw_exit rfl ?_|refine sw_loopEnd ?_|with_reducible refine and_o ?_|apply tTT
 ·rw[←h];exact getD_mem _ _ (by omega)
 ·exact⟨i+1,by(refine covers_mk0 rfl rfl ?_ ?_ ?_ ?_<;>simp (disch:=(refine Om.mk ?_;omega)) only[go_sem]<;>(try omega)),⟨by omega,upto_succ hj h⟩,by omega⟩
 ·intro hm
  exact(forall_getD (P:=fun x=>¬x=n)).1 (fun j hj'=>hj j (by omega)) n hm rfl
 ·intro j hj';omega
attribute [go_sem] Try.results108 Try.ntmps108
attribute [go_sem] Try.results77 Try.ntmps77
def kp45:List (Nat×List Nat):=[(0,[0]),(1,[2])]
attribute [go_sem] kp45 Try.results45 Try.ntmps45
theorem l1Copy_fc (tk:Tk) (xs:List Int) (hl:xs.length≤17592186044416):FC S 45 [] [] [] [.sl tk (xs.map (.int .i64))] (.sl (.own 0 2 1) (xs.map (.int .i64))) [] [0]:=by
 refine FC.args (args':=[.sl .any (xs.map (.int .i64))]) ?_ (by simp only[go_sem])
 refine fcb1 Try.func45 fun B=>?_
 refine sw_bndg 0 fun hb0=>?_
 repeat' first|refine sw_n ?_|refine sw_go 0 kp45 fun K hK=>?_|refine runL_g ?_|refine sw_retg ?_|(refine hK.n0 ?_;clear hK K)|with_reducible refine and_o ?_|apply tTT
 exact ret1_own rfl (by simp)
def kp89:List (Nat×List Nat):=[(0,[0,1]),(1,[0,1,5]),(2,[0,1,5,18]),(3,[0,1,5]),(4,[0,1,5,32]),(5,[4]),(6,[0,5,6]),(7,[4])]
attribute [go_sem] kp89 Try.results89 Try.ntmps89
theorem l1Into_fc (tk:Tk) (xs:List Int) (n:Int) (hl:xs.length≤1099511627776):FC S 89 [] [] [] [.sl tk (xs.map (.int .i64)),.int .i64 n] (.sl .any ((intoL xs n).map (.int .i64))) [] []:=by
 refine FC.args (args':=[.sl .any (xs.map (.int .i64)),.int .i64 n]) ?_ (by simp only[go_sem])
 refine fcb Try.func89 fun B=>?_
 refine sw_bndg 0 fun hb0=>?_
 repeat' first|refine sw_n ?_|refine sw_go 0 kp89 fun K hK=>?_|refine runL_g ?_|(refine hK.n0 ?_;clear hK K)|apply tTT
 refine sw_loopU (ι:=Nat) (fun i=>[(5,.int .i64 i)]) (fun _=>[]) (fun i=>i≤xs.length∧(∀j<i,xs.getD j default<n)) (fun i=>xs.length-i) 0 cvA ⟨by omega,?_⟩ (fun i ⟨hi,hj⟩=>?_)
 rotate_left
 simp only[go_sem]
 have key:=intoL_at n xs i hi hj
 have hd:i<xs.length→xs.drop i=_:=drop_cons
 have hlt:(xs.take i).length≤1099511627776:=by simp;omega
 repeat' first|exact h.elim|refine sw_n ?_|refine sw_go 0 kp89 fun K hK=>?_|refine runL_g ?_|refine sw_retg0 ?_|(refine hK.n0 ?_;clear hK K)|refine runG_fk (fun h=>?_) fun h=>?_|refine sw_condg rfl (fun h=>?_) fun h=>?_|refine sw_exit rfl ?_|refine sw_loopEnd ?_|refine hK.cB rfl rfl rfl (l1Copy_fc .any (xs.take i) (by omega)) ?_|with_reducible refine and_o ?_|((with_reducible refine And.intro ?_ ?_);· first|(intro x hx;subst hx;rfl)|(intro x;refine And.intro ?_ ?_<;>(intros;subst_vars;rfl)))|apply tTT
 ·exact⟨i+1,by(refine covers_mk0 rfl rfl ?_ ?_ ?_ ?_<;>simp (disch:=(refine Om.mk ?_;omega)) only[go_sem]<;>(try omega)),⟨by omega,upto_succ hj h⟩,by omega⟩
 all_goals first
  | (intro j hj';omega)
  | (rw[key,hd (by omega),intoL,if_neg (by omega),if_pos (by assumption),←hd (by omega),List.take_append_drop])
  | (rw[key,hd (by omega),intoL,if_neg (by omega),if_neg (by assumption),List.append_assoc];rfl)
  | (rw[key,show xs.drop i=[] from List.drop_of_length_le (by omega),intoL,List.append_nil])
end
section
attribute [local irreducible] SW runL runQ runG runQG FC Ret1
def numR (s:Nat):List Int→Nat
 | []=>0
 | x::r=>x.toNat+s*numR s r
def nextR (n:Int):List Int→List Int×Bool
 | []=>([],false)
 | x::r=>if x+1<n then ((x+1)::r,true) else (0::(nextR n r).1,(nextR n r).2)
def nextL (n:Int) (xs:List Int):List Int×Bool:=((nextR n xs.reverse).1.reverse,(nextR n xs.reverse).2)
def ValidL (s:Nat) (l:List Int):Prop:=∀x∈l,0≤x∧x<s
theorem nextR_ok {s:Nat} (hs:1≤s):∀ {l:List Int},ValidL s l→ValidL s (nextR s l).1∧(nextR s l).1.length=l.length∧((nextR s l).2=true→numR s (nextR s l).1=numR s l+1)∧((nextR s l).2=false→numR s l+1=s^l.length)
 | [],_=>⟨fun x hx=>(by cases hx),rfl,fun h=>(by cases h),fun _=>(by simp[numR])⟩
 | x::r,h=>by
  have h1:=h x List.mem_cons_self
  have hr:ValidL s r:=fun y hy=>h y (List.mem_cons_of_mem _ hy)
  obtain⟨i1,i2,i3,i4⟩:=nextR_ok hs (l:=r) hr
  simp only[nextR]
  split
  ·rename_i hc
   refine⟨fun y hy=>?_,rfl,fun _=>?_,fun h=>(by cases h)⟩
   ·rcases List.mem_cons.1 hy with rfl|hy
    ·omega
    ·exact hr y hy
   ·simp only[numR];omega
  ·rename_i hc
   refine⟨fun y hy=>?_,by simp[i2],fun hf=>?_,fun hf=>?_⟩
   ·rcases List.mem_cons.1 hy with rfl|hy
    ·omega
    ·exact i1 y hy
   ·simp only[numR,i3 hf,Nat.mul_add];omega
   ·have:=i4 hf
    simp only[numR,List.length_cons,Nat.pow_succ,←this]
    rw[Nat.mul_comm (numR s r+1) s,Nat.mul_add];omega
def stepL (xs:List Int) (k:Nat):List Int:=xs.take k++List.replicate (xs.length-k) 0
theorem stepL_len (xs:List Int) (k:Nat) (h:k≤xs.length):(stepL xs k).length=xs.length:=by simp[stepL];omega
theorem stepL_split (xs:List Int) (k:Nat) (h:k<xs.length):stepL xs (k+1)=xs.take k++xs.getD k default::List.replicate (xs.length-(k+1)) 0:=by
 unfold stepL
 rw[List.take_succ_eq_append_getElem h,List.append_assoc]
 simp[List.getD,List.getElem?_eq_getElem h]
theorem set_split (a b:List Int) (x y:Int):(a++x::b).set a.length y=a++y::b:=by
 induction a with
 | nil=>rfl
 | cons c a ih=>simp[ih]
theorem set_len_app (a:List Int) (k:Nat) (b:List Int) {x y:Int} (h:a.length=k):(a++x::b).set k y=a++y::b:=by subst h;exact set_split a b x y
theorem stepL_set (xs:List Int) (k:Nat) (h:k<xs.length) (v:Int):(stepL xs (k+1)).set k v=xs.take k++v::List.replicate (xs.length-(k+1)) 0:=by
 rw[stepL_split xs k h]
 have hs:=set_split (xs.take k) (List.replicate (xs.length-(k+1)) 0) (xs.getD k default) v
 rwa [show (xs.take k).length=k by simp;omega] at hs
theorem stepL_get (xs:List Int) (k:Nat) (h:k<xs.length):(stepL xs (k+1)).getD k default=xs.getD k default:=by
 rw[stepL_split xs k h]
 have:(xs.take k).length=k:=by simp;omega
 simp[List.getD,List.getElem?_append,this]
theorem take_rev (xs:List Int) (k:Nat) (h:k<xs.length):(xs.take (k+1)).reverse=xs.getD k default::(xs.take k).reverse:=by
 rw[List.take_succ_eq_append_getElem h]
 simp[List.getD,List.getElem?_eq_getElem h]
def NextInv (n:Int) (xs:List Int) (k:Nat):Prop:=nextR n xs.reverse=(List.replicate (xs.length-k) 0++(nextR n (xs.take k).reverse).1,(nextR n (xs.take k).reverse).2)
theorem nextInv_start (n:Int) (xs:List Int):NextInv n xs xs.length:=by simp[NextInv]
theorem nextInv_yes {n:Int} {xs:List Int} {k:Nat} (hk:k<xs.length) (h:NextInv n xs (k+1)) (hx:xs.getD k default+1<n):nextL n xs=(xs.take k++(xs.getD k default+1)::List.replicate (xs.length-(k+1)) 0,true):=by
 unfold NextInv at h
 rw[take_rev xs k hk] at h
 simp only[nextR,if_pos hx] at h
 unfold nextL
 rw[h]
 simp
theorem nextInv_no {n:Int} {xs:List Int} {k:Nat} (hk:k<xs.length) (h:NextInv n xs (k+1)) (hx:¬xs.getD k default+1<n):NextInv n xs k:=by
 unfold NextInv at h ⊢
 rw[take_rev xs k hk] at h
 simp only[nextR,if_neg hx] at h
 rw[h,show xs.length-k=(xs.length-(k+1))+1 by omega,List.replicate_succ']
 simp
theorem nextInv_end {n:Int} {xs:List Int} (h:NextInv n xs 0):nextL n xs=(stepL xs 0,false):=by
 unfold NextInv at h
 unfold nextL
 rw[h]
 simp[nextR,stepL]
def kp41:List (Nat×List Nat):=[(0,[0,1]),(1,[1,6]),(2,[1,6,7]),(3,[1,6,7,14]),(5,[1,6,7]),(6,[1,6,7,30]),(7,[4,5]),(8,[1,6,7]),(4,[1,6,7]),(9,[4,5])]
attribute [go_sem] kp41 Try.results41 Try.ntmps41
theorem nextList0_fc (tk:Tk) (n:Int):FC S 41 [] [] [] [.sl tk ([].map (.int .i64)),.int .i64 n] (.tup [.sl .any ([].map (.int .i64)),.bool false]) [] []:=by
 refine FC.args (args':=[.sl .any ([].map (.int .i64)),.int .i64 n]) ?_ (by simp only[go_sem])
 refine fcb Try.func41 fun B=>?_
 refine sw_bndg 0 fun hb0=>?_
 repeat' first|exact h.elim|refine sw_n ?_|refine sw_go 0 kp41 fun K hK=>?_|refine fun (K:KT) (hK:KOk S 0 _ _ _ K)=>?_|refine runL_g ?_|refine sw_retg0 ?_|refine sw_retg ?_|(refine hK.n0 ?_;clear hK K)|refine sw_condg rfl (fun h=>?_) fun h=>?_|refine sw_exit rfl ?_|refine sw_loopEnd ?_|refine hK.cB rfl rfl rfl (l1Copy_fc .any [] (by simp)) ?_|with_reducible refine and_o ?_|apply tTT
 refine sw_loopU (ι:=Nat) (fun p=>[(7,.int .i64 (-1))]) (fun p=>[]) (fun p=>True) (fun p=>p) 0 cvA ?_ (fun p hp=>?_)
 rotate_left
 simp only[go_sem]
 repeat' first|exact h.elim|refine sw_n ?_|refine sw_go 0 kp41 fun K hK=>?_|refine fun (K:KT) (hK:KOk S 0 _ _ _ K)=>?_|refine runL_g ?_|refine sw_retg0 ?_|refine sw_retg ?_|(refine hK.n0 ?_;clear hK K)|refine sw_condg rfl (fun h=>?_) fun h=>?_|refine sw_exit rfl ?_|refine sw_loopEnd ?_|with_reducible refine and_o ?_|apply tTT
 ·exfalso;omega
 all_goals trivial
theorem nextList1_fc (tk:Tk) (xs:List Int) (n:Int) (hne:xs≠[]) (hl:xs.length≤100) (hx:∀x∈xs,0≤x∧x≤1000):FC S 41 [] [] [] [.sl tk (xs.map (.int .i64)),.int .i64 n] (.tup [.sl .any ((nextL n xs).1.map (.int .i64)),.bool (nextL n xs).2]) [] []:=by
 refine FC.args (args':=[.sl .any (xs.map (.int .i64)),.int .i64 n]) ?_ (by simp only[go_sem])
 refine fcb Try.func41 fun B=>?_
 refine sw_bndg 0 fun hb0=>?_
 repeat' first|exact h.elim|refine sw_n ?_|refine sw_go 0 kp41 fun K hK=>?_|refine fun (K:KT) (hK:KOk S 0 _ _ _ K)=>?_|refine runL_g ?_|refine sw_retg0 ?_|refine sw_retg ?_|(refine hK.n0 ?_;clear hK K)|refine sw_condg rfl (fun h=>?_) fun h=>?_|refine sw_exit rfl ?_|refine sw_loopEnd ?_|refine hK.cT rfl rfl rfl (l1Copy_fc .any xs (by omega)) ?_|with_reducible refine and_o ?_|apply tTT
 refine sw_loopU (ι:=Nat) (fun p=>[(7,.int .i64 (p-1:Int))]) (fun p=>[(9,(stepL xs p).map (.int .i64))]) (fun p=>p≤xs.length∧NextInv n xs p) (fun p=>p) xs.length (by(refine covers_mk0 rfl rfl ?_ ?_ ?_ ?_<;>simp (disch:=(refine Om.mk ?_;omega)) only[go_sem]<;>(try omega));simp[stepL]) ?_ (fun p hp=>?_)
 rotate_left
 simp only[go_sem]
 obtain⟨hp1,hp2⟩:=hp
 have hlen:=stepL_len xs p hp1
 cases p with
 | zero =>
  have hz:=nextInv_end hp2
  rw[hz]
  repeat' first|exact h.elim|(refine sw_freezeAt 9 6 1 .any ((stepL xs 0).map (.int .i64)) rfl rfl (flat_ints _).symm (by simp[hlen]) (cells_one fun _=>rfl) (memOk_ints _) (.inl rfl) ?_;simp only[go_sem])|refine sw_n ?_|refine sw_go 0 kp41 fun K hK=>?_|refine fun (K:KT) (hK:KOk S 0 _ _ _ K)=>?_|refine runL_g ?_|refine sw_retg0 ?_|refine sw_retg ?_|(refine hK.n0 ?_;clear hK K)|refine sw_condg rfl (fun h=>?_) fun h=>?_|refine sw_exit rfl ?_|refine sw_loopEnd ?_|with_reducible refine and_o ?_|apply tTT
  ·exfalso;omega
  ·exfalso;omega
 | succ k =>
  have hk:k<xs.length:=by omega
  have hg:=stepL_get xs k hk
  have hxk:=hx _ (getD_mem xs k hk)
  have hset:=stepL_set xs k hk
  have hlt:k<(stepL xs (k+1)).length:=by omega
  have hi:((k+1:Nat):Int)-1=(k:Int):=by omega
  have hl2:((stepL xs (k+1)).set k ((stepL xs (k+1)).getD k default+1)).length=xs.length:=by rw[List.length_set];exact hlen
  rw[hi]
  repeat' first|exact h.elim|(refine sw_freezeAt 7 6 1 .any (((stepL xs (k+1)).set k ((stepL xs (k+1)).getD k default+1)).map (.int .i64)) rfl rfl (flat_ints _).symm (by simp[hlen]) (cells_one fun _=>rfl) (memOk_ints _) (.inl rfl) ?_;simp only[go_sem])|refine sw_n ?_|refine sw_go 0 kp41 fun K hK=>?_|refine fun (K:KT) (hK:KOk S 0 _ _ _ K)=>?_|refine runL_g ?_|refine sw_retg0 ?_|refine sw_retg ?_|(refine hK.n0 ?_;clear hK K)|refine sw_condg rfl (fun h=>?_) fun h=>?_|refine sw_exit rfl ?_|refine sw_loopEnd ?_|with_reducible refine and_o ?_|apply tTT
  ·rw[hg] at h ⊢
   rw[nextInv_yes hk hp2 h,hset]
   exact⟨rfl,rfl⟩
  ·rw[hg] at h
   refine⟨k,(by(refine covers_mk0 rfl rfl ?_ ?_ ?_ ?_<;>simp (disch:=(refine Om.mk ?_;omega)) only[go_sem]<;>(try omega));rw[hset,set_len_app _ _ _ (by simp;omega)];unfold stepL;rw[show xs.length-k=(xs.length-(k+1))+1 by omega,List.replicate_succ]),⟨by omega,nextInv_no hk hp2 (by omega)⟩,by omega⟩
 ·exact⟨Nat.le_refl _,nextInv_start n xs⟩
theorem nextList_fc (tk:Tk) (xs:List Int) (n:Int) (hl:xs.length≤100) (hx:∀x∈xs,0≤x∧x≤1000):FC S 41 [] [] [] [.sl tk (xs.map (.int .i64)),.int .i64 n] (.tup [.sl .any ((nextL n xs).1.map (.int .i64)),.bool (nextL n xs).2]) [] []:=by
 by_cases h:xs=[]
 ·subst h;exact nextList0_fc tk n
 ·exact nextList1_fc tk xs n h hl hx
end
section
end
section
attribute [local irreducible] SW runL runQ runG runQG FC LopsW
end
section
attribute [local irreducible] SW runL runQ runG runQG FC Ret1
attribute [go_sem] Try.results171 Try.ntmps171
attribute [go_sem] Try.results160 Try.ntmps160
end
section
def SameHd (a b:List Int):Prop:=a.getD 0 default=b.getD 0 default∧0≤a.getD 0 default
instance (a b:List Int):Decidable (SameHd a b):=inferInstanceAs (Decidable (_∧_))
def kp119:List (Nat×List Nat):=[(0,[0]),(1,[0,4]),(2,[2]),(3,[2])]
attribute [go_sem] kp119 Try.results119 Try.ntmps119
end
section
attribute [local irreducible] SW runL runQ runG runQG FC
attribute [go_sem] Try.results103 Try.ntmps103
attribute [go_sem] Try.results106 Try.ntmps106
end
section
attribute [local irreducible] SW runL runQ runG runQG FC Ret Ret1
def shInt64S:Sh:=.slc (.cell .nil)
def Int64SL (p:List Nat) (xs:List Int):D:=.sl (.lab p) (xs.map (.int .i64))
attribute [go_sem] Int64SL
def mcInt64S (xs:List Int):Nat:=xs.length
theorem le_Int64SL (p:List Nat) (xs:List Int):D.le (Int64SL p xs) (.sl .any (xs.map (.int .i64))):=.any
theorem mcle_Int64S (xs:List Int):mcInt64S xs≤4*cntInt64S xs:=by unfold mcInt64S cntInt64S;omega
theorem lt_Int64S (p:List Nat) (xs:List Int):LT shInt64S p (Int64SL p xs) (mcInt64S xs):=LT_ints p xs
def fsSig:Fs:=(.sub shInt64S .nil)
def SigL (p:List Nat) (x:List Int):D:=.agg [Int64SL (p++[0]) x]
attribute [go_sem] SigL
theorem le_SigLc (p:List Nat) (x:List Int):leL (SigL p x).cells (SigD x).cells:=⟨le_Int64SL _ _,trivial⟩
theorem le_SigL (p:List Nat) (x:List Int):D.le (SigL p x) (SigD x):=by unfold SigL SigD;rw[le_agg];exact le_SigLc p x
def mcSig (x:List Int):Nat:=(mcInt64S x+0)
theorem mcle_Sig (x:List Int):mcSig x≤4*cntSig x:=by have:=mcle_Int64S x;unfold mcSig cntSig;(try simp only[cntSig,cntInt64S,cntWalk,cntSubst] at *);omega
def SigH (k:Int) (x:List Int):List D:=[HD shInt64S (k) (mcInt64S x)]
attribute [go_sem] SigH
theorem ta_Sig (i:Nat) (k:Int) (x:List Int):TA fsSig [i] 0 k (SigL [i] x).cells (SigH k x) (mcSig x):=by unfold TA;exact⟨_,_,_,_,_,rfl,rfl,rfl,lt_Int64S _ _,by unfold TA;exact⟨rfl,rfl,rfl⟩⟩
def TransL (p:List Nat) (x:TransT):D:=.agg [.int .i64 x.sym,Int64SL (p++[1]) x.args,.int .i64 x.to]
attribute [go_sem] TransL
theorem le_TransLc (p:List Nat) (x:TransT):leL (TransL p x).cells (TransD x).cells:=⟨.refl _,le_Int64SL _ _,.refl _,trivial⟩
theorem le_TransL (p:List Nat) (x:TransT):D.le (TransL p x) (TransD x):=by unfold TransL TransD;rw[le_agg];exact le_TransLc p x
def shTransS:Sh:=.slc (.cell (.sub shInt64S (.cell .nil)))
def TransSL (p:List Nat) (xs:List TransT):D:=.sl (.lab p) (mapR (fun i y=>TransL (p++[i]) y) xs)
attribute [go_sem] TransSL
theorem le_TransSL (p:List Nat) (xs:List TransT):D.le (TransSL p xs) (.sl .any (xs.map TransD)):=le_mapR xs fun j x=>le_TransLc _ _
def mcTransS (xs:List TransT):Nat:=(xs.map fun x=>((mcInt64S x.args+(0+1))+1)).sum
theorem mcle_TransS (xs:List TransT):mcTransS xs≤4*cntTransS xs:=by unfold mcTransS cntTransS;exact sum_le4 (fun x=>by have:=mcle_Int64S x.args;(try simp only[cntTrans,cntInt64S,cntSig,cntSubst] at *);omega) xs
theorem lt_TransS (p:List Nat) (xs:List TransT):LT shTransS p (TransSL p xs) (mcTransS xs):=LT_mapR xs fun j x=>by unfold LF;exact⟨_,_,_,rfl,rfl,by unfold LF;exact⟨_,_,_,_,rfl,rfl,lt_Int64S _ _,by unfold LF;exact⟨_,_,_,rfl,rfl,by unfold LF;exact⟨rfl,rfl⟩⟩⟩⟩
def fsAuto:Fs:=(.skip (.sub shTransS (.sub shInt64S .nil)))
def AutoL (p:List Nat) (x:AutoT):D:=.agg [.int .i64 x.states,TransSL (p++[1]) x.rules,Int64SL (p++[2]) x.final]
attribute [go_sem] AutoL
theorem le_AutoLc (p:List Nat) (x:AutoT):leL (AutoL p x).cells (AutoD x).cells:=⟨.refl _,le_TransSL _ _,le_Int64SL _ _,trivial⟩
theorem le_AutoL (p:List Nat) (x:AutoT):D.le (AutoL p x) (AutoD x):=by unfold AutoL AutoD;rw[le_agg];exact le_AutoLc p x
def mcAuto (x:AutoT):Nat:=(mcTransS x.rules+(mcInt64S x.final+0))
theorem mcle_Auto (x:AutoT):mcAuto x≤4*cntAuto x:=by have:=mcle_TransS x.rules;have:=mcle_Int64S x.final;unfold mcAuto cntAuto;(try simp only[cntSig,cntInt64S,cntWalk,cntSubst] at *);omega
def AutoH (k:Int) (x:AutoT):List D:=[.int .i64 x.states,HD shTransS (k) (mcTransS x.rules),HD shInt64S (k+(mcTransS x.rules:Nat)) (mcInt64S x.final)]
attribute [go_sem] AutoH
theorem ta_Auto (i:Nat) (k:Int) (x:AutoT):TA fsAuto [i] 0 k (AutoL [i] x).cells (AutoH k x) (mcAuto x):=by unfold TA;exact⟨_,_,_,rfl,rfl,rfl,by unfold TA;exact⟨_,_,_,_,_,rfl,rfl,rfl,lt_TransS _ _,by unfold TA;exact⟨_,_,_,_,_,rfl,rfl,rfl,lt_Int64S _ _,by unfold TA;exact⟨rfl,rfl,rfl⟩⟩⟩⟩
theorem hf_Auto (k:Int) (x:AutoT):HF fsAuto k (AutoH k x) (mcAuto x):=by unfold HF;exact⟨_,_,rfl,by unfold HF;exact⟨_,_,_,rfl,rfl,by unfold HF;exact⟨_,_,_,rfl,rfl,by unfold HF;exact⟨rfl,rfl⟩⟩⟩⟩
end
section
attribute [local irreducible] SW runL runQ runG runQG FC
attribute [go_sem] upR_length mapR_length mapR_getDm
attribute [go_sem] Try.results63 Try.ntmps63
attribute [go_sem] Try.results67 Try.ntmps67
theorem l1CopyQ_fc (tk:Tk) (xs:List Int) (hl:xs.length≤17592186044416):FC S 45 [] [] [] [.sl tk (xs.map (.int .i64))] (.sl .any (xs.map (.int .i64))) [] [] :=
 (l1Copy_fc tk xs hl).weak .any (by simp) (by simp)
end
section
def SortP (l:List Int):Prop:=l.Pairwise (· < ·)
theorem sort_intoL (n:Int):∀xs:List Int,SortP xs→SortP (intoL xs n)
 | [],_=>by simp[SortP,intoL]
 | x::r,h=>by
  obtain⟨h1,h2⟩:=List.pairwise_cons.1 h
  unfold intoL
  split
  ·rename_i hlt
   refine List.pairwise_cons.2 ⟨fun y hy=>?_,sort_intoL n r h2⟩
   rcases (mem_intoL y r n).1 hy with hy|rfl
   ·exact h1 y hy
   ·exact hlt
  ·split
   ·exact h
   ·rename_i h3 h4
    refine List.pairwise_cons.2 ⟨fun y hy=>?_,h⟩
    rcases List.mem_cons.1 hy with rfl|hy
    ·omega
    ·have:=h1 y hy;omega
theorem sort_ext:∀ {a b:List Int},SortP a→SortP b→(∀x,x∈a↔x∈b)→a=b
 | [],[],_,_,_=>rfl
 | [],y::b,_,_,h=>by have:=(h y).2 List.mem_cons_self;cases this
 | x::a,[],_,_,h=>by have:=(h x).1 List.mem_cons_self;cases this
 | x::a,y::b,ha,hb,h=>by
  obtain⟨a1,a2⟩:=List.pairwise_cons.1 ha
  obtain⟨b1,b2⟩:=List.pairwise_cons.1 hb
  have hxy:x=y:=by
   rcases List.mem_cons.1 ((h x).1 List.mem_cons_self) with e|e
   ·exact e
   ·rcases List.mem_cons.1 ((h y).2 List.mem_cons_self) with e'|e'
    ·exact e'.symm
    ·have:=a1 y e';have:=b1 x e;omega
  subst hxy
  congr 1
  refine sort_ext a2 b2 fun z=>?_
  constructor
  ·intro hz
   rcases List.mem_cons.1 ((h z).1 (List.mem_cons_of_mem _ hz)) with e|e
   ·have:=a1 z hz;omega
   ·exact e
  ·intro hz
   rcases List.mem_cons.1 ((h z).2 (List.mem_cons_of_mem _ hz)) with e|e
   ·have:=b1 z hz;omega
   ·exact e
end
section
attribute [local irreducible] SW runL runQ runG runQG FC Ret1
end
section
def nxtD:List (Int×Int)→List Int→List Int×Bool
 | b::bs,x::xs=>if (nxtD bs xs).2=true then (x::(nxtD bs xs).1,true) else if x<b.2 then ((x+1)::(nxtD bs xs).1,true) else (b.1::(nxtD bs xs).1,false)
 | _,_=>([],false)
def blkD (A:List (List Int)) (v:Int):Nat→List (List Int)
 | 0=>A.map (v::·)
 | n+1=>A.map (v::·)++blkD A (v+1) n
def allD:List (Int×Int)→List (List Int)
 | []=>[[]]
 | b::bs=>blkD (allD bs) b.1 (b.2-b.1).toNat
def lowD (bs:List (Int×Int)):List Int:=bs.map (·.1)
def DigP:List (Int×Int)→List Int→Prop
 | [],[]=>True
 | b::bs,x::xs=>(b.1≤x∧x≤b.2)∧DigP bs xs
 | _,_=>False
def SeqD (bs:List (Int×Int)):List (List Int)→Prop
 | []=>True
 | [x]=>nxtD bs x=(lowD bs,false)
 | x::y::r=>nxtD bs x=(y,true)∧SeqD bs (y::r)
theorem nxtD_cons (b:Int×Int) (bs:List (Int×Int)) (x:Int) (xs:List Int):nxtD (b::bs) (x::xs)=if (nxtD bs xs).2=true then (x::(nxtD bs xs).1,true) else if x<b.2 then ((x+1)::(nxtD bs xs).1,true) else (b.1::(nxtD bs xs).1,false):=rfl
theorem digP_len:∀ {bs:List (Int×Int)} {xs:List Int},DigP bs xs→xs.length=bs.length
 | [],[],_=>rfl
 | _::_,_::_,h=>by simp[digP_len h.2]
 | [],_::_,h=>h.elim
 | _::_,[],h=>h.elim
theorem digP_at:∀ {bs:List (Int×Int)} {xs:List Int},DigP bs xs→∀i<bs.length,(bs.getD i default).1≤xs.getD i default∧xs.getD i default≤(bs.getD i default).2
 | [],[],_,i,hi=>absurd hi (Nat.not_lt_zero _)
 | _::_,_::_,h,0,_=>h.1
 | _::bs,_::_,h,i+1,hi=>digP_at (bs:=bs) h.2 i (by simpa using hi)
 | [],_::_,h,_,_=>h.elim
 | _::_,[],h,_,_=>h.elim
theorem blk_ne {A:List (List Int)} (hA:A≠[]) (v:Int):∀n,∃r,blkD A v n=(v::A.head hA)::r
 | 0=>by
  cases A with
  | nil=>exact absurd rfl hA
  | cons a r=>exact⟨r.map (v::·),rfl⟩
 | n+1=>by
  cases A with
  | nil=>exact absurd rfl hA
  | cons a r=>exact⟨r.map (v::·)++blkD (a::r) (v+1) n,rfl⟩
theorem seq_blk {b:Int×Int} {bs:List (Int×Int)} (v:Int) {R:List (List Int)} (hR:SeqD (b::bs) R) (h:(R=[]∧v=b.2)∨(v<b.2∧∃r,R=((v+1)::lowD bs)::r)):∀ {A:List (List Int)},A≠[]→SeqD bs A→SeqD (b::bs) (A.map (v::·)++R)
 | [],hA,_=>absurd rfl hA
 | [x],_,hs=>by
  have hs:nxtD bs x=(lowD bs,false):=hs
  rcases h with⟨rfl,hv⟩|⟨hv,r,rfl⟩
  ·show nxtD (b::bs) (v::x)=_
   rw[nxtD_cons,hs,if_neg (by simp),if_neg (by omega)];rfl
  ·refine⟨?_,hR⟩
   rw[nxtD_cons,hs,if_neg (by simp),if_pos hv]
 | x::y::r,_,hs=>by
  refine⟨?_,seq_blk v hR h (A:=y::r) (by simp) hs.2⟩
  rw[nxtD_cons,hs.1,if_pos rfl]
theorem seq_blks {b:Int×Int} {bs:List (Int×Int)} {A:List (List Int)} (hA:A≠[]) (hs:SeqD bs A) (hl:A.head hA=lowD bs):∀(n:Nat) (v:Int),v+n=b.2→SeqD (b::bs) (blkD A v n)
 | 0,v,h=>by
  have:=seq_blk (b:=b) v (R:=[]) trivial (.inl ⟨rfl,by omega⟩) hA hs
  rwa [List.append_nil] at this
 | n+1,v,h=>by
  have ih:=seq_blks (b:=b) hA hs hl n (v+1) (by omega)
  obtain⟨r,hr⟩:=blk_ne hA (v+1) n
  exact seq_blk (b:=b) v ih (.inr ⟨by omega,r,by rw[hr,hl]⟩) hA hs
theorem allD_seq:∀ {bs:List (Int×Int)},(∀b∈bs,b.1≤b.2)→SeqD bs (allD bs)∧∃r,allD bs=lowD bs::r
 | [],_=>⟨rfl,[],rfl⟩
 | b::bs,h=>by
  obtain⟨ih,r,hr⟩:=allD_seq (bs:=bs) fun c hc=>h c (List.mem_cons_of_mem _ hc)
  have hb:=h b List.mem_cons_self
  have hA:allD bs≠[]:=by rw[hr];simp
  have hl:(allD bs).head hA=lowD bs:=by simp[hr]
  refine⟨seq_blks hA ih hl _ _ (by omega),?_⟩
  obtain⟨r',hr'⟩:=blk_ne hA b.1 (b.2-b.1).toNat
  exact⟨r',by rw[allD,hr',hl];rfl⟩
theorem blk_dig {b:Int×Int} {bs:List (Int×Int)} {A:List (List Int)} (hA:∀x∈A,DigP bs x):∀(n:Nat) (v:Int),b.1≤v→v+n≤b.2→∀x∈blkD A v n,DigP (b::bs) x
 | 0,v,h1,h2,x,hx=>by
  obtain⟨y,hy,rfl⟩:=List.mem_map.1 hx
  exact⟨⟨h1,by omega⟩,hA y hy⟩
 | n+1,v,h1,h2,x,hx=>by
  rcases List.mem_append.1 hx with hx|hx
  ·obtain⟨y,hy,rfl⟩:=List.mem_map.1 hx
   exact⟨⟨h1,by omega⟩,hA y hy⟩
  ·exact blk_dig hA n (v+1) (by omega) (by omega) x hx
theorem allD_dig:∀ {bs:List (Int×Int)},(∀b∈bs,b.1≤b.2)→∀x∈allD bs,DigP bs x
 | [],_,x,hx=>by rw[List.mem_singleton.1 hx];trivial
 | b::bs,h,x,hx=>by
  have hb:=h b List.mem_cons_self
  exact blk_dig (allD_dig fun c hc=>h c (List.mem_cons_of_mem _ hc)) _ _ (by omega) (by omega) x hx
theorem lowD_len (bs:List (Int×Int)):(lowD bs).length=bs.length:=by simp[lowD]
theorem nxtD_end:∀ {bs:List (Int×Int)} {xs:List Int},xs.length=bs.length→(nxtD bs xs).1.length=bs.length∧((nxtD bs xs).2=false→(nxtD bs xs).1=lowD bs)
 | [],[],_=>⟨rfl,fun _=>rfl⟩
 | b::bs,x::xs,h=>by
  have ih:=nxtD_end (bs:=bs) (xs:=xs) (by simpa using h)
  rw[nxtD_cons]
  split
  ·exact⟨by simp[ih.1],fun h=>by cases h⟩
  ·rename_i h1
   have h1:(nxtD bs xs).2=false:=by simpa using h1
   split
   ·exact⟨by simp[ih.1],fun h=>by cases h⟩
   ·exact⟨by simp[ih.1],fun _=>by simp[lowD,ih.2 h1]⟩
 | [],_::_,h=>by simp at h
 | _::_,[],h=>by simp at h
def stD (bs:List (Int×Int)) (xs:List Int) (p:Nat):List Int:=xs.take p++lowD (bs.drop p)
def NxInv (bs:List (Int×Int)) (xs:List Int) (p:Nat):Prop:=(nxtD (bs.drop p) (xs.drop p)).2=false
theorem stD_len {bs:List (Int×Int)} {xs:List Int} (h:xs.length=bs.length) {p:Nat} (hp:p≤xs.length):(stD bs xs p).length=xs.length:=by simp[stD,lowD];omega
theorem stD_all {bs:List (Int×Int)} {xs:List Int} (h:xs.length=bs.length):stD bs xs xs.length=xs:=by
 unfold stD
 rw[List.take_length,h,List.drop_length]
 simp[lowD]
theorem nx_start {bs:List (Int×Int)} {xs:List Int} (h:xs.length=bs.length):NxInv bs xs xs.length:=by
 unfold NxInv
 rw[List.drop_length,h,List.drop_length];rfl
theorem nx_up:∀ {k:Nat} {bs:List (Int×Int)} {xs:List Int} {r:List Int},xs.length=bs.length→k≤xs.length→nxtD (bs.drop k) (xs.drop k)=(r,true)→nxtD bs xs=(xs.take k++r,true)
 | 0,bs,xs,r,_,_,h=>by simpa using h
 | k+1,b::bs,x::xs,r,h,hk,hn=>by
  have ih:=nx_up (k:=k) (bs:=bs) (xs:=xs) (r:=r) (by simpa using h) (by simpa using hk) (by simpa using hn)
  rw[nxtD_cons,ih,if_pos rfl];simp
 | _+1,_,[],_,_,hk,_=>by simp at hk
 | _+1,[],_::_,_,h,_,_=>by simp at h
theorem drop_getD {α:Type} [Inhabited α] (xs:List α) (k:Nat) (h:k<xs.length):xs.drop k=xs.getD k default::xs.drop (k+1):=by
 rw[List.drop_eq_getElem_cons h];simp[List.getD,List.getElem?_eq_getElem h]
theorem take_getD {α:Type} [Inhabited α] (xs:List α) (k:Nat) (h:k<xs.length):xs.take (k+1)=xs.take k++[xs.getD k default]:=by
 rw[List.take_succ_eq_append_getElem h];simp[List.getD,List.getElem?_eq_getElem h]
theorem stD_split {bs:List (Int×Int)} {xs:List Int} (h:xs.length=bs.length) {k:Nat} (hk:k<xs.length):stD bs xs (k+1)=xs.take k++xs.getD k default::lowD (bs.drop (k+1)):=by
 unfold stD;rw[take_getD xs k hk,List.append_assoc];rfl
theorem stD_get {bs:List (Int×Int)} {xs:List Int} (h:xs.length=bs.length) {k:Nat} (hk:k<xs.length):(stD bs xs (k+1)).getD k default=xs.getD k default:=by
 rw[stD_split h hk]
 have:(xs.take k).length=k:=by simp;omega
 simp[List.getD,List.getElem?_append,this]
theorem stD_set {bs:List (Int×Int)} {xs:List Int} (h:xs.length=bs.length) {k:Nat} (hk:k<xs.length) (v:Int):(stD bs xs (k+1)).set k v=xs.take k++v::lowD (bs.drop (k+1)):=by
 rw[stD_split h hk]
 have:(xs.take k).length=k:=by simp;omega
 rw[List.set_append_right _ _ (by omega),this,Nat.sub_self,List.set_cons_zero]
theorem nx_yes {bs:List (Int×Int)} {xs:List Int} (h:xs.length=bs.length) {k:Nat} (hk:k<xs.length) (hn:NxInv bs xs (k+1)) (hx:xs.getD k default<(bs.getD k default).2):nxtD bs xs=((stD bs xs (k+1)).set k (xs.getD k default+1),true):=by
 have hl:(xs.drop (k+1)).length=(bs.drop (k+1)).length:=by simp;omega
 have he:=(nxtD_end hl).2 hn
 rw[stD_set h hk]
 refine nx_up h (by omega) ?_
 rw[drop_getD xs k hk,drop_getD bs k (by omega),nxtD_cons,if_neg (by rw[hn];simp),if_pos hx,he]
theorem nx_no {bs:List (Int×Int)} {xs:List Int} (h:xs.length=bs.length) {k:Nat} (hk:k<xs.length) (hn:NxInv bs xs (k+1)) (hx:¬xs.getD k default<(bs.getD k default).2):NxInv bs xs k∧(stD bs xs (k+1)).set k (bs.getD k default).1=stD bs xs k:=by
 refine⟨?_,?_⟩
 ·unfold NxInv
  rw[drop_getD xs k hk,drop_getD bs k (by omega),nxtD_cons,if_neg (by rw[hn];simp),if_neg hx]
 ·rw[stD_set h hk]
  unfold stD
  rw[drop_getD bs k (by omega)];rfl
theorem nx_end {bs:List (Int×Int)} {xs:List Int} (h:xs.length=bs.length) (hn:NxInv bs xs 0):nxtD bs xs=(stD bs xs 0,false):=by
 have hn:(nxtD bs xs).2=false:=by simpa[NxInv] using hn
 have he:=(nxtD_end h).2 hn
 refine Prod.ext ?_ hn
 rw[he];simp[stD]
end
section
attribute [local irreducible] SW runL runQ runG runQG FC Ret1 RetN toF redoL
theorem nextR_app (n:Int) (x:Int):∀ys:List Int,nextR n (ys++[x])=if (nextR n ys).2=true then ((nextR n ys).1++[x],true) else if x+1<n then ((nextR n ys).1++[x+1],true) else ((nextR n ys).1++[0],false)
 | []=>by simp[nextR]
 | y::r=>by
  have ih:=nextR_app n x r
  simp only[List.cons_append,nextR]
  by_cases hy:y+1<n
  ·simp[hy]
  ·simp only[if_neg hy,ih]
   split
   ·rfl
   ·split<;>rfl
theorem nextR_len (n:Int):∀ys:List Int,(nextR n ys).1.length=ys.length
 | []=>rfl
 | y::r=>by
  simp only[nextR]
  split
  ·rfl
  ·simp[nextR_len n r]
theorem next_nxt (n:Int):∀xs:List Int,nextL n xs=nxtD (List.replicate xs.length (0,n-1)) xs
 | []=>by simp[nextL,nextR,nxtD]
 | x::r=>by
  have ih:=next_nxt n r
  rw[List.length_cons,List.replicate_succ,nxtD_cons,←ih]
  unfold nextL
  rw[List.reverse_cons,nextR_app]
  by_cases h:(nextR n r.reverse).2=true
  ·simp[h]
  ·by_cases hx:x+1<n
   ·simp[h,hx,show x<n-1 by omega]
   ·simp[h,hx,show ¬x<n-1 by omega]
def digs (n k:Nat):List (List Int):=allD (List.replicate k (0,(n:Int)-1))
theorem digs_ok {n k:Nat} (h:0<n∨k=0):SeqD (List.replicate k (0,(n:Int)-1)) (digs n k)∧∃r,digs n k=List.replicate k 0::r:=by
 have hb:∀b∈List.replicate k ((0:Int),(n:Int)-1),b.1≤b.2:=fun b hb=>by
  obtain⟨h1,rfl⟩:=List.mem_replicate.1 hb
  simp only
  omega
 obtain⟨h1,r,h2⟩:=allD_seq hb
 refine⟨h1,r,?_⟩
 have:lowD (List.replicate k ((0:Int),(n:Int)-1))=List.replicate k 0:=by simp[lowD]
 rw[←this];exact h2
theorem digs_dig {n k:Nat} (h:0<n∨k=0):∀l∈digs n k,l.length=k∧∀x∈l,0≤x∧x<n:=fun l hl=>by
 have hb:∀b∈List.replicate k ((0:Int),(n:Int)-1),b.1≤b.2:=fun b hb=>by
  obtain⟨h1,rfl⟩:=List.mem_replicate.1 hb
  simp only
  omega
 have h1:=allD_dig hb l hl
 have h2:=digP_len h1
 rw[List.length_replicate] at h2
 refine⟨h2,fun x hx=>?_⟩
 obtain⟨i,hi,rfl⟩:=List.getElem_of_mem hx
 have h3:=digP_at h1 i (by rw[List.length_replicate];omega)
 rw[List.getD_eq_getElem?_getD,List.getElem?_replicate,if_pos (by omega),List.getD_eq_getElem?_getD,List.getElem?_eq_getElem hi] at h3
 simp only[Option.getD_some] at h3
 omega
theorem digs_next {n k:Nat} {l:List Int} {A:List (List Int)} (hl:l.length=k) (hs:SeqD (List.replicate k (0,(n:Int)-1)) (l::A)):(A=[]∧(nextL n l).2=false)∨∃m A',A=m::A'∧nextL n l=(m,true):=by
 rw[next_nxt,hl]
 cases A with
 | nil=>exact .inl ⟨rfl,by rw[hs]⟩
 | cons m A'=>exact .inr ⟨m,A',rfl,hs.1⟩
section
variable (I:Nat→List (List Int)→Option (List Int)) (sets:List (List Int))
def lstS (l:List Int):List (List Int):=l.map fun q=>sets.getD q.toNat default
def evL (rs:List Int) (n:Nat):List (Nat×List Int):=(List.range rs.length).flatMap fun f=>if n=0∧0<rs.getD f default then [] else (digs n (rs.getD f default).toNat).map fun l=>(f,l)
def addQ (out:List (List Int)) (s:List Int):List (List Int):=if s∈out then out else out++[s]
def stepO (out:List (List Int)) (e:Nat×List Int):List (List Int):=match I e.1 (lstS sets e.2) with
 | none=>out
 | some s=>addQ out s
def capF:List (Nat×List Int)→List (List Int)→List (List Int)×Bool
 | [],out=>(out,true)
 | e::es,out=>if 16<(stepO I sets out e).length then (stepO I sets out e,false) else capF es (stepO I sets out e)
def trE (e:Nat×List Int) (k:Nat):TransT:=⟨(e.1:Int),e.2,(k:Int)⟩
def capR (M:Nat):List (Nat×List Int)→List (List Int)→List TransT→List (List Int)×List TransT×Bool
 | [],out,rules=>(out,rules,true)
 | e::es,out,rules=>match I e.1 (lstS sets e.2) with
  | none=>capR M es out rules
  | some s=>if 16<(addQ out s).length∨M<(rules++[trE e ((addQ out s).idxOf s)]).length then ([],[],false) else capR M es (addQ out s) (rules++[trE e ((addQ out s).idxOf s)])
def trS:List (Nat×List Int)→List TransT
 | []=>[]
 | e::es=>match I e.1 (lstS sets e.2) with
  | none=>trS es
  | some s=>trE e (sets.idxOf s)::trS es
end
variable {I:Nat→List (List Int)→Option (List Int)} {sets:List (List Int)}
theorem addQ_pre (out:List (List Int)) (s:List Int):∃r,addQ out s=out++r:=by
 unfold addQ
 split
 ·exact⟨[],by simp⟩
 ·exact⟨[s],rfl⟩
theorem addQ_mem (out:List (List Int)) (s:List Int):s∈addQ out s:=by
 unfold addQ
 split
 ·assumption
 ·simp
theorem stepO_pre (out:List (List Int)) (e:Nat×List Int):∃r,stepO I sets out e=out++r:=by
 unfold stepO
 split
 ·exact⟨[],by simp⟩
 ·exact addQ_pre _ _
theorem capF_pre:∀(E:List (Nat×List Int)) (out:List (List Int)),∃r,(capF I sets E out).1=out++r
 | [],out=>⟨[],by simp[capF]⟩
 | e::es,out=>by
  obtain⟨r,h⟩:=stepO_pre (I:=I) (sets:=sets) out e
  unfold capF
  split
  ·exact⟨r,h⟩
  ·obtain⟨r',h'⟩:=capF_pre es (stepO I sets out e)
   exact⟨r++r',by rw[h',h,List.append_assoc]⟩
theorem capF_len:∀(E:List (Nat×List Int)) (out:List (List Int)),out.length≤16→(capF I sets E out).2=true→(capF I sets E out).1.length≤16
 | [],out,h,_=>h
 | e::es,out,h,h2=>by
  unfold capF at h2 ⊢
  split at h2
  ·cases h2
  ·rename_i hn
   rw[if_neg hn]
   exact capF_len es _ (by omega) h2
theorem capR_yes {M:Nat}:∀(E:List (Nat×List Int)) (out:List (List Int)) (rules:List TransT),out.length≤16→(capR I sets M E out rules).2.2=true→(capF I sets E out).2=true∧(capR I sets M E out rules).1=(capF I sets E out).1
 | [],out,rules,_,_=>⟨rfl,rfl⟩
 | e::es,out,rules,h0,h=>by
  unfold capR at h ⊢
  unfold capF stepO
  cases hI:I e.1 (lstS sets e.2) with
  | none =>
   rw[hI] at h
   simp only at h ⊢
   rw[if_neg (by omega)]
   exact capR_yes es out rules h0 h
  | some s =>
   rw[hI] at h
   simp only at h ⊢
   split at h
   ·cases h
   ·rename_i hn
    rw[if_neg hn,if_neg (fun h1=>hn (.inl h1))]
    exact capR_yes es _ _ (by have:=not_or.1 hn;omega) h
theorem capR_no {M:Nat}:∀(E:List (Nat×List Int)) (out:List (List Int)) (rules:List TransT),out.length≤16→(capR I sets M E out rules).2.2=false→capR I sets M E out rules=([],[],false)∧((capF I sets E out).2=false∨M<rules.length+(trS I sets E).length)
 | [],out,rules,_,h=>by cases h
 | e::es,out,rules,h0,h=>by
  unfold capR at h ⊢
  unfold capF stepO trS
  cases hI:I e.1 (lstS sets e.2) with
  | none =>
   rw[hI] at h
   simp only at h ⊢
   rw[if_neg (by omega)]
   exact capR_no es out rules h0 h
  | some s =>
   rw[hI] at h
   simp only at h ⊢
   split at h
   ·rename_i hn
    rw[if_pos hn]
    refine⟨rfl,?_⟩
    rcases hn with h1|h1
    ·exact .inl (by rw[if_pos h1])
    ·refine .inr ?_
     rw[List.length_append,List.length_singleton] at h1
     rw[List.length_cons]
     omega
   ·rename_i hn
    rw[if_neg hn,if_neg (fun h1=>hn (.inl h1))]
    obtain⟨h1,h2⟩:=capR_no es _ _ (by have:=not_or.1 hn;omega) h
    refine⟨h1,h2.imp id fun h3=>?_⟩
    rw[List.length_append,List.length_singleton] at h3
    rw[List.length_cons]
    omega
theorem capR_rules {M:Nat} (h0:sets.length≤16):∀(E:List (Nat×List Int)) (rules:List TransT),(capR I sets M E sets rules).2.2=true→(capF I sets E sets).1.length=sets.length→(capR I sets M E sets rules).2.1=rules++trS I sets E
 | [],rules,_,_=>by simp[capR,trS]
 | e::es,rules,h,hl=>by
  unfold capR at h ⊢
  unfold capF stepO at hl
  unfold trS
  cases hI:I e.1 (lstS sets e.2) with
  | none =>
   rw[hI] at h hl
   simp only at h hl ⊢
   rw[if_neg (by omega)] at hl
   exact capR_rules h0 es rules h hl
  | some s =>
   rw[hI] at h hl
   simp only at h hl ⊢
   split at h
   ·cases h
   ·rename_i hn
    rw[if_neg hn]
    rw[if_neg (fun h1=>hn (.inl h1))] at hl
    have he:addQ sets s=sets:=by
     obtain⟨r,hr⟩:=capF_pre (I:=I) (sets:=sets) es (addQ sets s)
     obtain⟨r',hr'⟩:=addQ_pre sets s
     rw[hr,hr',List.length_append,List.length_append] at hl
     have:r'=[]:=List.length_eq_zero_iff.1 (by omega)
     rw[hr',this,List.append_nil]
    rw[he] at h hl hn ⊢
    rw[capR_rules h0 es _ h hl,List.append_assoc]
    rfl
theorem capR_cap {M:Nat}:∀(E:List (Nat×List Int)) (out:List (List Int)) (rules:List TransT),rules.length≤M→(capR I sets M E out rules).2.2=true→(capR I sets M E out rules).2.1.length≤M
 | [],out,rules,h,_=>h
 | e::es,out,rules,h0,h=>by
  unfold capR at h ⊢
  cases hI:I e.1 (lstS sets e.2) with
  | none =>
   rw[hI] at h
   simp only at h ⊢
   exact capR_cap es out rules h0 h
  | some s =>
   rw[hI] at h
   simp only at h ⊢
   split at h
   ·cases h
   ·rename_i hn
    rw[if_neg hn]
    exact capR_cap es _ _ (by have:=(not_or.1 hn).2;omega) h
theorem trS_len (hI:∀f a,(I f a).isSome=true):∀E:List (Nat×List Int),(trS I sets E).length=E.length
 | []=>rfl
 | e::es=>by
  have h:=hI e.1 (lstS sets e.2)
  unfold trS
  cases hx:I e.1 (lstS sets e.2) with
  | none=>rw[hx] at h;cases h
  | some s=>simp only[List.length_cons,trS_len hI es]
theorem blk_len (A:List (List Int)):∀(n:Nat) (v:Int),(blkD A v n).length=(n+1)*A.length
 | 0,v=>by simp[blkD]
 | n+1,v=>by
  rw[blkD,List.length_append,List.length_map,blk_len A n]
  rw[Nat.add_mul (n+1) 1,Nat.one_mul,Nat.add_comm]
theorem digs_len {n:Nat} (h:0<n):∀k,(digs n k).length=n^k
 | 0=>rfl
 | k+1=>by
  unfold digs
  rw[List.replicate_succ,allD,blk_len]
  have ih:=digs_len h k
  unfold digs at ih
  rw[ih,Nat.pow_succ,Nat.mul_comm]
  congr 1
  omega
theorem evF_len {n k:Nat} {f:Nat} {c:Int} (hk:k=c.toNat) (hc:0≤c):(if n=0∧0<c then [] else (digs n k).map fun l=>(f,l)).length=n^k:=by
 by_cases h:n=0∧0<c
 ·rw[if_pos h,h.1]
  obtain⟨j,rfl⟩:∃j,k=j+1:=⟨k-1,by omega⟩
  simp
 ·rw[if_neg h,List.length_map]
  rcases Nat.eq_zero_or_pos n with h0|h0
  ·have:k=0:=by have:=h;simp only[h0,true_and] at this;omega
   subst this;rfl
  ·exact digs_len h0 k
theorem sum_le_of {α:Type} {f g:α→Nat}:∀ {l:List α},(∀x∈l,f x≤g x)→(l.map f).sum≤(l.map g).sum
 | [],_=>Nat.le_refl _
 | x::r,h=>by
  have h1:=h x List.mem_cons_self
  have:=sum_le_of (l:=r) fun y hy=>h y (List.mem_cons_of_mem _ hy)
  simp only[List.map_cons,List.sum_cons]
  omega
theorem evL_mono {rs:List Int} (hrs:∀f<rs.length,0≤rs.getD f default) {m n:Nat} (h:m≤n):(evL rs m).length≤(evL rs n).length:=by
 unfold evL
 rw[List.length_flatMap,List.length_flatMap]
 refine sum_le_of fun f hf=>?_
 have hf:=List.mem_range.1 hf
 rw[evF_len rfl (hrs f hf),evF_len rfl (hrs f hf)]
 exact Nat.pow_le_pow_left h _
def iterS (I:Nat→List (List Int)→Option (List Int)) (rs:List Int):Nat→List (List Int)→Option (List (List Int))
 | 0,_=>none
 | k+1,sets=>if (capF I sets (evL rs sets.length) sets).2=true then (if (capF I sets (evL rs sets.length) sets).1.length=sets.length then some sets else iterS I rs k (capF I sets (evL rs sets.length) sets).1) else none
def iterR (I:Nat→List (List Int)→Option (List Int)) (M:Nat) (rs:List Int):Nat→List (List Int)→Option (List (List Int)×List TransT)
 | 0,_=>none
 | k+1,sets=>if (capR I sets M (evL rs sets.length) sets []).2.2=true then (if (capR I sets M (evL rs sets.length) sets []).1=[] then none else if sets.length<(capR I sets M (evL rs sets.length) sets []).1.length then iterR I M rs k (capR I sets M (evL rs sets.length) sets []).1 else some (sets,(capR I sets M (evL rs sets.length) sets []).2.1)) else none
theorem iterS_le {rs:List Int}:∀ {k:Nat} {sets s:List (List Int)},iterS I rs k sets=some s→sets.length≤s.length
 | 0,_,_,h=>by cases h
 | k+1,sets,s,h=>by
  unfold iterS at h
  split at h
  ·split at h
   ·cases h;exact Nat.le_refl _
   ·obtain⟨r,hr⟩:=capF_pre (I:=I) (sets:=sets) (evL rs sets.length) sets
    have:=iterS_le h
    rw[hr,List.length_append] at this
    omega
  ·cases h
theorem iter_eq (hI:∀f a,(I f a).isSome=true) {rs:List Int} (hrs:∀f<rs.length,0≤rs.getD f default) {M:Nat}:∀(k:Nat) (sets:List (List Int)),sets.length≤16→iterR I M rs k sets=match iterS I rs k sets with
  | none=>none
  | some s=>if s=[]∨M<(evL rs s.length).length then none else some (s,trS I s (evL rs s.length))
 | 0,_,_=>rfl
 | k+1,sets,h16=>by
  obtain⟨r,hr⟩:=capF_pre (I:=I) (sets:=sets) (evL rs sets.length) sets
  unfold iterR iterS
  cases hR:(capR I sets M (evL rs sets.length) sets []).2.2 with
  | true =>
   obtain⟨h1,h2⟩:=capR_yes _ _ _ h16 hR
   have hcap:=capR_cap _ _ _ (Nat.zero_le _) hR
   rw[if_pos rfl,h1,if_pos rfl,h2]
   by_cases hn:(capF I sets (evL rs sets.length) sets).1=[]
   ·rw[if_pos hn]
    have hs:sets=[]:=by
     have:=hr.symm.trans hn
     exact(List.append_eq_nil_iff.1 this).1
    rw[if_pos (by rw[hn,hs])]
    simp[hs]
   ·rw[if_neg hn]
    by_cases hl:(capF I sets (evL rs sets.length) sets).1.length=sets.length
    ·rw[if_neg (by omega),if_pos hl]
     have hs:sets≠[]:=fun e=>hn (List.length_eq_zero_iff.1 (by rw[hl,e];rfl))
     have hru:=capR_rules h16 _ _ hR hl
     rw[List.nil_append] at hru
     have hlen:=trS_len (sets:=sets) hI (evL rs sets.length)
     rw[hru] at hcap ⊢
     rw[hlen] at hcap
     simp only
     rw[if_neg (fun h=>h.elim hs (by omega))]
    ·have hle:sets.length≤(capF I sets (evL rs sets.length) sets).1.length:=by rw[hr,List.length_append];omega
     rw[if_pos (by omega),if_neg hl]
     exact iter_eq hI hrs k _ (capF_len _ _ h16 h1)
  | false =>
   rw[if_neg (by simp)]
   obtain⟨_,h2⟩:=capR_no _ _ _ h16 hR
   rcases h2 with h2|h2
   ·rw[h2,if_neg (by simp)]
   ·rw[trS_len hI,List.length_nil,Nat.zero_add] at h2
    have key:∀ {s},iterS I rs (k+1) sets=some s→M<(evL rs s.length).length:=fun {s} hs=>Nat.lt_of_lt_of_le h2 (evL_mono hrs (iterS_le hs))
    unfold iterS at key
    split
    ·rfl
    ·rename_i s hs
     rw[if_pos (.inr (key hs))]
end
end Go.Proofs.Ytjaicibmmcpeiaa
