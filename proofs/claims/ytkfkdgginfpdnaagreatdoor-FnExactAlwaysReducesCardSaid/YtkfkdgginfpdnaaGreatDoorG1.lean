/-
  A01b, A23w, K1d, S1p, N0p, A03t, A02c, A03, A05p, one behind the other.
-/
import Derived.Test.YtkfkdgginfpdnaaGreatDoorSet
import Derived.Test.YtkfkdgginfpdnaaGreatDoorG0
import Derived.Test.YtkfkdgginfpdnaaGreatDoorLgK6
import Derived.Test.YtkfkdgginfpdnaaGreatDoorLgK4
import Derived.Test.YtkfkdgginfpdnaaGreatDoorLgK7
namespace Go.Proofs.YtkfkdgginfpdnaaGreatDoor
open Go Go.Lg
set_option linter.unusedSimpArgs false
set_option linter.unusedVariables false
set_option maxHeartbeats 4000000
section
attribute [local irreducible] SW runL runQ runG runQG FC
def intoL:List Int→Int→List Int
 | [],n=>[n]
 | x::r,n=>if x<n then x::intoL r n else if x=n then x::r else n::x::r
theorem mem_intoL (m:Int):∀(xs:List Int) (n:Int),m∈intoL xs n↔m∈xs∨m=n
 | [],n=>by simp[intoL]
 | x::r,n=>by
  simp only[intoL]
  split
  ·simp only[List.mem_cons,mem_intoL m r n,or_assoc]
  ·split
   ·rename_i h;subst h
    simp only[List.mem_cons]
    exact⟨.inl,fun h=>h.elim id .inl⟩
   ·simp only[List.mem_cons]
    exact⟨fun h=>h.elim .inr .inl,fun h=>h.elim .inr .inl⟩
theorem intoL_at (n:Int):∀(xs:List Int) (k:Nat),k≤xs.length→(∀j<k,xs.getD j default<n)→intoL xs n=xs.take k++intoL (xs.drop k) n
 | xs,0,_,_=>by simp
 | x::r,k+1,hk,h=>by
  have h0:=h 0 (by omega)
  simp only[List.getD_cons_zero] at h0
  rw[intoL,if_pos h0,intoL_at n r k (by simpa using hk) (fun j hj=>by simpa using h (j+1) (by omega))]
  simp
 | [],k+1,hk,_=>by simp at hk
theorem drop_cons {α:Type} [Inhabited α] {xs:List α} {k:Nat} (h:k<xs.length):xs.drop k=xs.getD k default::xs.drop (k+1):=by
 rw[List.drop_eq_getElem_cons h];simp[List.getD,List.getElem?_eq_getElem h]
def kp28:List (Nat×List Nat):=[(0,[0,1]),(1,[0,1,5]),(2,[0,1,5,9]),(4,[0,1,5,17]),(5,[4]),(3,[0,1,5]),(6,[4])]
attribute [go_sem] kp28 Tryz.results28 Tryz.ntmps28
theorem l1Has_fc (tk:Tk) (xs:List Int) (n:Int):FC S 28 [] [] [] [.sl tk (xs.map (.int .i64)),.int .i64 n] (.bool (tst (n∈xs))) [] []:=by
 refine fcb Tryz.func28 fun B=>?_
 refine sw_bndg 0 fun hb0=>?_
 repeat' first|refine sw_n ?_|refine sw_go 0 kp28 fun K hK=>?_|refine runL_g ?_|(refine hK.n0 ?_;clear hK K)|apply tTT
 refine sw_loopU (ι:=Nat) (fun i=>[(5,.int .i64 i)]) (fun _=>[]) (fun i=>i≤xs.length∧(∀j<i,¬xs.getD j default=n)) (fun i=>xs.length-i) 0 cvA ⟨by omega,?_⟩ (fun i ⟨hi,hj⟩=>?_)
 rotate_left
 simp only[go_sem]
 repeat' first|exact h.elim|refine sw_n ?_|refine sw_go 0 kp28 fun K hK=>?_|refine runL_g ?_|refine sw_retg0 ?_|(refine hK.n0 ?_;clear hK K)|refine sw_condg rfl (fun h=>?_) fun h=>?_|refine sw_exit rfl ?_|refine sw_loopEnd ?_|with_reducible refine and_o ?_|apply tTT
 ·rw[←h];exact getD_mem _ _ (by omega)
 ·exact⟨i+1,by(refine covers_mk0 rfl rfl ?_ ?_ ?_ ?_<;>simp (disch:=(refine Om.mk ?_;omega)) only[go_sem]<;>(try omega)),⟨by omega,upto_succ hj h⟩,by omega⟩
 ·intro hm
  exact(forall_getD (P:=fun x=>¬x=n)).1 (fun j hj'=>hj j (by omega)) n hm rfl
 ·intro j hj';omega
def kp157:List (Nat×List Nat):=[(0,[0,1]),(1,[0,1,7,8]),(2,[0,1,7,8,9]),(3,[0,1,5,7,8]),(4,[0,1,5,7,8,16]),(5,[4]),(6,[0,1,7,8]),(7,[4])]
attribute [go_sem] kp157 Tryz.results157 Tryz.ntmps157
theorem index_fc (tk:Tk) (xs:List Int) (n:Int):FC S 157 [] [] [] [.sl tk (xs.map (.int .i64)),.int .i64 n] (.int .i64 (fidx (fun x=>x=n) xs)) [] []:=by
 refine fcb Tryz.func157 fun B=>?_
 refine sw_bndg 0 fun hb0=>?_
 repeat' first|refine sw_n ?_|refine sw_go 0 kp157 fun K hK=>?_|refine runL_g ?_|(refine hK.n0 ?_;clear hK K)|apply tTT
 refine sw_loopU (ι:=Nat) (fun i=>[(8,.int .i64 i)]) (fun _=>[]) (fun i=>i≤xs.length∧(∀j<i,¬xs.getD j default=n)) (fun i=>xs.length-i) 0 cvA ⟨by omega,?_⟩ (fun i ⟨hi,hj⟩=>?_)
 rotate_left
 simp only[go_sem]
 repeat' first|exact h.elim|refine sw_n ?_|refine sw_go 0 kp157 fun K hK=>?_|refine runL_g ?_|refine sw_retg0 ?_|(refine hK.n0 ?_;clear hK K)|refine sw_condg rfl (fun h=>?_) fun h=>?_|refine sw_exit rfl ?_|refine sw_loopEnd ?_|with_reducible refine and_o ?_|apply tTT
 ·exact(fidx_at (p:=fun x=>x=n) hj (by omega) h.symm).symm
 ·exact⟨i+1,by(refine covers_mk0 rfl rfl ?_ ?_ ?_ ?_<;>simp (disch:=(refine Om.mk ?_;omega)) only[go_sem]<;>(try omega)),⟨by omega,upto_succ hj fun e=>h e.symm⟩,by omega⟩
 ·exact(fidx_none (p:=fun x=>x=n) fun j hj'=>hj j (by omega)).symm
 ·intro j hj';omega
def kp132:List (Nat×List Nat):=[(0,[0,1]),(1,[4])]
attribute [go_sem] kp132 Tryz.results132 Tryz.ntmps132
theorem contains_fc (tk:Tk) (xs:List Int) (n:Int):FC S 132 [] [] [] [.sl tk (xs.map (.int .i64)),.int .i64 n] (.bool (tst (n∈xs))) [] []:=by
 refine fcb Tryz.func132 fun B=>?_
 repeat' first|refine sw_n ?_|refine sw_go 0 kp132 fun K hK=>?_|refine runL_g ?_|refine sw_retg0 ?_|(refine hK.n0 ?_;clear hK K)|refine hK.c1 rfl rfl rfl (index_fc _ _ _) ?_|apply tTT
 rw[fidx_ge (p:=fun x=>x=n)]
 exact⟨fun⟨x,hx,e⟩=>e ▸ hx,fun h=>⟨n,h,rfl⟩⟩
def kp94:List (Nat×List Nat):=[(0,[0]),(1,[2])]
attribute [go_sem] kp94 Tryz.results94 Tryz.ntmps94
theorem l1Copy_fc (tk:Tk) (xs:List Int) (hl:xs.length≤17592186044416):FC S 94 [] [] [] [.sl tk (xs.map (.int .i64))] (.sl (.own 0 2 1) (xs.map (.int .i64))) [] [0]:=by
 refine FC.args (args':=[.sl .any (xs.map (.int .i64))]) ?_ (by simp only[go_sem])
 refine fcb1 Tryz.func94 fun B=>?_
 refine sw_bndg 0 fun hb0=>?_
 repeat' first|refine sw_n ?_|refine sw_go 0 kp94 fun K hK=>?_|refine runL_g ?_|refine sw_retg ?_|(refine hK.n0 ?_;clear hK K)|with_reducible refine and_o ?_|apply tTT
 exact ret1_own rfl (by simp)
def kp120:List (Nat×List Nat):=[(0,[0,1]),(1,[0,1,5]),(2,[0,1,5,18]),(3,[0,1,5]),(4,[0,1,5,32]),(5,[4]),(6,[0,5,6]),(7,[4])]
attribute [go_sem] kp120 Tryz.results120 Tryz.ntmps120
theorem l1Into_fc (tk:Tk) (xs:List Int) (n:Int) (hl:xs.length≤1099511627776):FC S 120 [] [] [] [.sl tk (xs.map (.int .i64)),.int .i64 n] (.sl .any ((intoL xs n).map (.int .i64))) [] []:=by
 refine FC.args (args':=[.sl .any (xs.map (.int .i64)),.int .i64 n]) ?_ (by simp only[go_sem])
 refine fcb Tryz.func120 fun B=>?_
 refine sw_bndg 0 fun hb0=>?_
 repeat' first|refine sw_n ?_|refine sw_go 0 kp120 fun K hK=>?_|refine runL_g ?_|(refine hK.n0 ?_;clear hK K)|apply tTT
 refine sw_loopU (ι:=Nat) (fun i=>[(5,.int .i64 i)]) (fun _=>[]) (fun i=>i≤xs.length∧(∀j<i,xs.getD j default<n)) (fun i=>xs.length-i) 0 cvA ⟨by omega,?_⟩ (fun i ⟨hi,hj⟩=>?_)
 rotate_left
 simp only[go_sem]
 have key:=intoL_at n xs i hi hj
 have hd:i<xs.length→xs.drop i=_:=drop_cons
 have hlt:(xs.take i).length≤1099511627776:=by simp;omega
 repeat' first|exact h.elim|refine sw_n ?_|refine sw_go 0 kp120 fun K hK=>?_|refine runL_g ?_|refine sw_retg0 ?_|(refine hK.n0 ?_;clear hK K)|refine runG_fk (fun h=>?_) fun h=>?_|refine sw_condg rfl (fun h=>?_) fun h=>?_|refine sw_exit rfl ?_|refine sw_loopEnd ?_|refine hK.cB rfl rfl rfl (l1Copy_fc .any (xs.take i) (by omega)) ?_|with_reducible refine and_o ?_|((with_reducible refine And.intro ?_ ?_);· first|(intro x hx;subst hx;rfl)|(intro x;refine And.intro ?_ ?_<;>(intros;subst_vars;rfl)))|apply tTT
 ·exact⟨i+1,by(refine covers_mk0 rfl rfl ?_ ?_ ?_ ?_<;>simp (disch:=(refine Om.mk ?_;omega)) only[go_sem]<;>(try omega)),⟨by omega,upto_succ hj h⟩,by omega⟩
 all_goals first
  | (intro j hj';omega)
  | (rw[key,hd (by omega),intoL,if_neg (by omega),if_pos (by assumption),←hd (by omega),List.take_append_drop])
  | (rw[key,hd (by omega),intoL,if_neg (by omega),if_neg (by assumption),List.append_assoc];rfl)
  | (rw[key,show xs.drop i=[] from List.drop_of_length_le (by omega),intoL,List.append_nil])
end
section
attribute [local irreducible] SW runL runQ runG runQG FC Ret1
def numR (s:Nat):List Int→Nat
 | []=>0
 | x::r=>x.toNat+s*numR s r
def nextR (n:Int):List Int→List Int×Bool
 | []=>([],false)
 | x::r=>if x+1<n then ((x+1)::r,true) else (0::(nextR n r).1,(nextR n r).2)
def nextL (n:Int) (xs:List Int):List Int×Bool:=((nextR n xs.reverse).1.reverse,(nextR n xs.reverse).2)
def ValidL (s:Nat) (l:List Int):Prop:=∀x∈l,0≤x∧x<s
theorem nextR_ok {s:Nat} (hs:1≤s):∀ {l:List Int},ValidL s l→ValidL s (nextR s l).1∧(nextR s l).1.length=l.length∧((nextR s l).2=true→numR s (nextR s l).1=numR s l+1)∧((nextR s l).2=false→numR s l+1=s^l.length)
 | [],_=>⟨fun x hx=>(by cases hx),rfl,fun h=>(by cases h),fun _=>(by simp[numR])⟩
 | x::r,h=>by
  have h1:=h x List.mem_cons_self
  have hr:ValidL s r:=fun y hy=>h y (List.mem_cons_of_mem _ hy)
  obtain⟨i1,i2,i3,i4⟩:=nextR_ok hs (l:=r) hr
  simp only[nextR]
  split
  ·rename_i hc
   refine⟨fun y hy=>?_,rfl,fun _=>?_,fun h=>(by cases h)⟩
   ·rcases List.mem_cons.1 hy with rfl|hy
    ·omega
    ·exact hr y hy
   ·simp only[numR];omega
  ·rename_i hc
   refine⟨fun y hy=>?_,by simp[i2],fun hf=>?_,fun hf=>?_⟩
   ·rcases List.mem_cons.1 hy with rfl|hy
    ·omega
    ·exact i1 y hy
   ·simp only[numR,i3 hf,Nat.mul_add];omega
   ·have:=i4 hf
    simp only[numR,List.length_cons,Nat.pow_succ,←this]
    rw[Nat.mul_comm (numR s r+1) s,Nat.mul_add];omega
def stepL (xs:List Int) (k:Nat):List Int:=xs.take k++List.replicate (xs.length-k) 0
theorem stepL_len (xs:List Int) (k:Nat) (h:k≤xs.length):(stepL xs k).length=xs.length:=by simp[stepL];omega
theorem stepL_split (xs:List Int) (k:Nat) (h:k<xs.length):stepL xs (k+1)=xs.take k++xs.getD k default::List.replicate (xs.length-(k+1)) 0:=by
 unfold stepL
 rw[List.take_succ_eq_append_getElem h,List.append_assoc]
 simp[List.getD,List.getElem?_eq_getElem h]
theorem set_split (a b:List Int) (x y:Int):(a++x::b).set a.length y=a++y::b:=by
 induction a with
 | nil=>rfl
 | cons c a ih=>simp[ih]
theorem set_len_app (a:List Int) (k:Nat) (b:List Int) {x y:Int} (h:a.length=k):(a++x::b).set k y=a++y::b:=by subst h;exact set_split a b x y
theorem stepL_set (xs:List Int) (k:Nat) (h:k<xs.length) (v:Int):(stepL xs (k+1)).set k v=xs.take k++v::List.replicate (xs.length-(k+1)) 0:=by
 rw[stepL_split xs k h]
 have hs:=set_split (xs.take k) (List.replicate (xs.length-(k+1)) 0) (xs.getD k default) v
 rwa [show (xs.take k).length=k by simp;omega] at hs
theorem stepL_get (xs:List Int) (k:Nat) (h:k<xs.length):(stepL xs (k+1)).getD k default=xs.getD k default:=by
 rw[stepL_split xs k h]
 have:(xs.take k).length=k:=by simp;omega
 simp[List.getD,List.getElem?_append,this]
theorem take_rev (xs:List Int) (k:Nat) (h:k<xs.length):(xs.take (k+1)).reverse=xs.getD k default::(xs.take k).reverse:=by
 rw[List.take_succ_eq_append_getElem h]
 simp[List.getD,List.getElem?_eq_getElem h]
def NextInv (n:Int) (xs:List Int) (k:Nat):Prop:=nextR n xs.reverse=(List.replicate (xs.length-k) 0++(nextR n (xs.take k).reverse).1,(nextR n (xs.take k).reverse).2)
theorem nextInv_start (n:Int) (xs:List Int):NextInv n xs xs.length:=by simp[NextInv]
theorem nextInv_yes {n:Int} {xs:List Int} {k:Nat} (hk:k<xs.length) (h:NextInv n xs (k+1)) (hx:xs.getD k default+1<n):nextL n xs=(xs.take k++(xs.getD k default+1)::List.replicate (xs.length-(k+1)) 0,true):=by
 unfold NextInv at h
 rw[take_rev xs k hk] at h
 simp only[nextR,if_pos hx] at h
 unfold nextL
 rw[h]
 simp
theorem nextInv_no {n:Int} {xs:List Int} {k:Nat} (hk:k<xs.length) (h:NextInv n xs (k+1)) (hx:¬xs.getD k default+1<n):NextInv n xs k:=by
 unfold NextInv at h ⊢
 rw[take_rev xs k hk] at h
 simp only[nextR,if_neg hx] at h
 rw[h,show xs.length-k=(xs.length-(k+1))+1 by omega,List.replicate_succ']
 simp
theorem nextInv_end {n:Int} {xs:List Int} (h:NextInv n xs 0):nextL n xs=(stepL xs 0,false):=by
 unfold NextInv at h
 unfold nextL
 rw[h]
 simp[nextR,stepL]
def kp47:List (Nat×List Nat):=[(0,[0,1]),(1,[1,6]),(2,[1,6,7]),(3,[1,6,7,14]),(5,[1,6,7]),(6,[1,6,7,30]),(7,[4,5]),(8,[1,6,7]),(4,[1,6,7]),(9,[4,5])]
attribute [go_sem] kp47 Tryz.results47 Tryz.ntmps47
theorem nextList0_fc (tk:Tk) (n:Int):FC S 47 [] [] [] [.sl tk ([].map (.int .i64)),.int .i64 n] (.tup [.sl .any ([].map (.int .i64)),.bool false]) [] []:=by
 refine FC.args (args':=[.sl .any ([].map (.int .i64)),.int .i64 n]) ?_ (by simp only[go_sem])
 refine fcb Tryz.func47 fun B=>?_
 refine sw_bndg 0 fun hb0=>?_
 repeat' first|exact h.elim|refine sw_n ?_|refine sw_go 0 kp47 fun K hK=>?_|refine fun (K:KT) (hK:KOk S 0 _ _ _ K)=>?_|refine runL_g ?_|refine sw_retg0 ?_|refine sw_retg ?_|(refine hK.n0 ?_;clear hK K)|refine sw_condg rfl (fun h=>?_) fun h=>?_|refine sw_exit rfl ?_|refine sw_loopEnd ?_|refine hK.cB rfl rfl rfl (l1Copy_fc .any [] (by simp)) ?_|with_reducible refine and_o ?_|apply tTT
 refine sw_loopU (ι:=Nat) (fun p=>[(7,.int .i64 (-1))]) (fun p=>[]) (fun p=>True) (fun p=>p) 0 cvA ?_ (fun p hp=>?_)
 rotate_left
 simp only[go_sem]
 repeat' first|exact h.elim|refine sw_n ?_|refine sw_go 0 kp47 fun K hK=>?_|refine fun (K:KT) (hK:KOk S 0 _ _ _ K)=>?_|refine runL_g ?_|refine sw_retg0 ?_|refine sw_retg ?_|(refine hK.n0 ?_;clear hK K)|refine sw_condg rfl (fun h=>?_) fun h=>?_|refine sw_exit rfl ?_|refine sw_loopEnd ?_|with_reducible refine and_o ?_|apply tTT
 ·exfalso;omega
 all_goals trivial
theorem nextList1_fc (tk:Tk) (xs:List Int) (n:Int) (hne:xs≠[]) (hl:xs.length≤100) (hx:∀x∈xs,0≤x∧x≤1000):FC S 47 [] [] [] [.sl tk (xs.map (.int .i64)),.int .i64 n] (.tup [.sl .any ((nextL n xs).1.map (.int .i64)),.bool (nextL n xs).2]) [] []:=by
 refine FC.args (args':=[.sl .any (xs.map (.int .i64)),.int .i64 n]) ?_ (by simp only[go_sem])
 refine fcb Tryz.func47 fun B=>?_
 refine sw_bndg 0 fun hb0=>?_
 repeat' first|exact h.elim|refine sw_n ?_|refine sw_go 0 kp47 fun K hK=>?_|refine fun (K:KT) (hK:KOk S 0 _ _ _ K)=>?_|refine runL_g ?_|refine sw_retg0 ?_|refine sw_retg ?_|(refine hK.n0 ?_;clear hK K)|refine sw_condg rfl (fun h=>?_) fun h=>?_|refine sw_exit rfl ?_|refine sw_loopEnd ?_|refine hK.cT rfl rfl rfl (l1Copy_fc .any xs (by omega)) ?_|with_reducible refine and_o ?_|apply tTT
 refine sw_loopU (ι:=Nat) (fun p=>[(7,.int .i64 (p-1:Int))]) (fun p=>[(9,(stepL xs p).map (.int .i64))]) (fun p=>p≤xs.length∧NextInv n xs p) (fun p=>p) xs.length (by(refine covers_mk0 rfl rfl ?_ ?_ ?_ ?_<;>simp (disch:=(refine Om.mk ?_;omega)) only[go_sem]<;>(try omega));simp[stepL]) ?_ (fun p hp=>?_)
 rotate_left
 simp only[go_sem]
 obtain⟨hp1,hp2⟩:=hp
 have hlen:=stepL_len xs p hp1
 cases p with
 | zero =>
  have hz:=nextInv_end hp2
  rw[hz]
  repeat' first|exact h.elim|(refine sw_freezeAt 9 6 1 .any ((stepL xs 0).map (.int .i64)) rfl rfl (flat_ints _).symm (by simp[hlen]) (cells_one fun _=>rfl) (memOk_ints _) (.inl rfl) ?_;simp only[go_sem])|refine sw_n ?_|refine sw_go 0 kp47 fun K hK=>?_|refine fun (K:KT) (hK:KOk S 0 _ _ _ K)=>?_|refine runL_g ?_|refine sw_retg0 ?_|refine sw_retg ?_|(refine hK.n0 ?_;clear hK K)|refine sw_condg rfl (fun h=>?_) fun h=>?_|refine sw_exit rfl ?_|refine sw_loopEnd ?_|with_reducible refine and_o ?_|apply tTT
  ·exfalso;omega
  ·exfalso;omega
 | succ k =>
  have hk:k<xs.length:=by omega
  have hg:=stepL_get xs k hk
  have hxk:=hx _ (getD_mem xs k hk)
  have hset:=stepL_set xs k hk
  have hlt:k<(stepL xs (k+1)).length:=by omega
  have hi:((k+1:Nat):Int)-1=(k:Int):=by omega
  have hl2:((stepL xs (k+1)).set k ((stepL xs (k+1)).getD k default+1)).length=xs.length:=by rw[List.length_set];exact hlen
  rw[hi]
  repeat' first|exact h.elim|(refine sw_freezeAt 7 6 1 .any (((stepL xs (k+1)).set k ((stepL xs (k+1)).getD k default+1)).map (.int .i64)) rfl rfl (flat_ints _).symm (by simp[hlen]) (cells_one fun _=>rfl) (memOk_ints _) (.inl rfl) ?_;simp only[go_sem])|refine sw_n ?_|refine sw_go 0 kp47 fun K hK=>?_|refine fun (K:KT) (hK:KOk S 0 _ _ _ K)=>?_|refine runL_g ?_|refine sw_retg0 ?_|refine sw_retg ?_|(refine hK.n0 ?_;clear hK K)|refine sw_condg rfl (fun h=>?_) fun h=>?_|refine sw_exit rfl ?_|refine sw_loopEnd ?_|with_reducible refine and_o ?_|apply tTT
  ·rw[hg] at h ⊢
   rw[nextInv_yes hk hp2 h,hset]
   exact⟨rfl,rfl⟩
  ·rw[hg] at h
   refine⟨k,(by(refine covers_mk0 rfl rfl ?_ ?_ ?_ ?_<;>simp (disch:=(refine Om.mk ?_;omega)) only[go_sem]<;>(try omega));rw[hset,set_len_app _ _ _ (by simp;omega)];unfold stepL;rw[show xs.length-k=(xs.length-(k+1))+1 by omega,List.replicate_succ]),⟨by omega,nextInv_no hk hp2 (by omega)⟩,by omega⟩
 ·exact⟨Nat.le_refl _,nextInv_start n xs⟩
theorem nextList_fc (tk:Tk) (xs:List Int) (n:Int) (hl:xs.length≤100) (hx:∀x∈xs,0≤x∧x≤1000):FC S 47 [] [] [] [.sl tk (xs.map (.int .i64)),.int .i64 n] (.tup [.sl .any ((nextL n xs).1.map (.int .i64)),.bool (nextL n xs).2]) [] []:=by
 by_cases h:xs=[]
 ·subst h;exact nextList0_fc tk n
 ·exact nextList1_fc tk xs n h hl hx
end
section
def nxtD:List (Int×Int)→List Int→List Int×Bool
 | b::bs,x::xs=>if (nxtD bs xs).2=true then (x::(nxtD bs xs).1,true) else if x<b.2 then ((x+1)::(nxtD bs xs).1,true) else (b.1::(nxtD bs xs).1,false)
 | _,_=>([],false)
def blkD (A:List (List Int)) (v:Int):Nat→List (List Int)
 | 0=>A.map (v::·)
 | n+1=>A.map (v::·)++blkD A (v+1) n
def allD:List (Int×Int)→List (List Int)
 | []=>[[]]
 | b::bs=>blkD (allD bs) b.1 (b.2-b.1).toNat
def lowD (bs:List (Int×Int)):List Int:=bs.map (·.1)
def DigP:List (Int×Int)→List Int→Prop
 | [],[]=>True
 | b::bs,x::xs=>(b.1≤x∧x≤b.2)∧DigP bs xs
 | _,_=>False
def SeqD (bs:List (Int×Int)):List (List Int)→Prop
 | []=>True
 | [x]=>nxtD bs x=(lowD bs,false)
 | x::y::r=>nxtD bs x=(y,true)∧SeqD bs (y::r)
theorem nxtD_cons (b:Int×Int) (bs:List (Int×Int)) (x:Int) (xs:List Int):nxtD (b::bs) (x::xs)=if (nxtD bs xs).2=true then (x::(nxtD bs xs).1,true) else if x<b.2 then ((x+1)::(nxtD bs xs).1,true) else (b.1::(nxtD bs xs).1,false):=rfl
theorem digP_len:∀ {bs:List (Int×Int)} {xs:List Int},DigP bs xs→xs.length=bs.length
 | [],[],_=>rfl
 | _::_,_::_,h=>by simp[digP_len h.2]
 | [],_::_,h=>h.elim
 | _::_,[],h=>h.elim
theorem digP_at:∀ {bs:List (Int×Int)} {xs:List Int},DigP bs xs→∀i<bs.length,(bs.getD i default).1≤xs.getD i default∧xs.getD i default≤(bs.getD i default).2
 | [],[],_,i,hi=>absurd hi (Nat.not_lt_zero _)
 | _::_,_::_,h,0,_=>h.1
 | _::bs,_::_,h,i+1,hi=>digP_at (bs:=bs) h.2 i (by simpa using hi)
 | [],_::_,h,_,_=>h.elim
 | _::_,[],h,_,_=>h.elim
theorem blk_ne {A:List (List Int)} (hA:A≠[]) (v:Int):∀n,∃r,blkD A v n=(v::A.head hA)::r
 | 0=>by
  cases A with
  | nil=>exact absurd rfl hA
  | cons a r=>exact⟨r.map (v::·),rfl⟩
 | n+1=>by
  cases A with
  | nil=>exact absurd rfl hA
  | cons a r=>exact⟨r.map (v::·)++blkD (a::r) (v+1) n,rfl⟩
theorem seq_blk {b:Int×Int} {bs:List (Int×Int)} (v:Int) {R:List (List Int)} (hR:SeqD (b::bs) R) (h:(R=[]∧v=b.2)∨(v<b.2∧∃r,R=((v+1)::lowD bs)::r)):∀ {A:List (List Int)},A≠[]→SeqD bs A→SeqD (b::bs) (A.map (v::·)++R)
 | [],hA,_=>absurd rfl hA
 | [x],_,hs=>by
  have hs:nxtD bs x=(lowD bs,false):=hs
  rcases h with⟨rfl,hv⟩|⟨hv,r,rfl⟩
  ·show nxtD (b::bs) (v::x)=_
   rw[nxtD_cons,hs,if_neg (by simp),if_neg (by omega)];rfl
  ·refine⟨?_,hR⟩
   rw[nxtD_cons,hs,if_neg (by simp),if_pos hv]
 | x::y::r,_,hs=>by
  refine⟨?_,seq_blk v hR h (A:=y::r) (by simp) hs.2⟩
  rw[nxtD_cons,hs.1,if_pos rfl]
theorem seq_blks {b:Int×Int} {bs:List (Int×Int)} {A:List (List Int)} (hA:A≠[]) (hs:SeqD bs A) (hl:A.head hA=lowD bs):∀(n:Nat) (v:Int),v+n=b.2→SeqD (b::bs) (blkD A v n)
 | 0,v,h=>by
  have:=seq_blk (b:=b) v (R:=[]) trivial (.inl ⟨rfl,by omega⟩) hA hs
  rwa [List.append_nil] at this
 | n+1,v,h=>by
  have ih:=seq_blks (b:=b) hA hs hl n (v+1) (by omega)
  obtain⟨r,hr⟩:=blk_ne hA (v+1) n
  exact seq_blk (b:=b) v ih (.inr ⟨by omega,r,by rw[hr,hl]⟩) hA hs
theorem allD_seq:∀ {bs:List (Int×Int)},(∀b∈bs,b.1≤b.2)→SeqD bs (allD bs)∧∃r,allD bs=lowD bs::r
 | [],_=>⟨rfl,[],rfl⟩
 | b::bs,h=>by
  obtain⟨ih,r,hr⟩:=allD_seq (bs:=bs) fun c hc=>h c (List.mem_cons_of_mem _ hc)
  have hb:=h b List.mem_cons_self
  have hA:allD bs≠[]:=by rw[hr];simp
  have hl:(allD bs).head hA=lowD bs:=by simp[hr]
  refine⟨seq_blks hA ih hl _ _ (by omega),?_⟩
  obtain⟨r',hr'⟩:=blk_ne hA b.1 (b.2-b.1).toNat
  exact⟨r',by rw[allD,hr',hl];rfl⟩
theorem blk_dig {b:Int×Int} {bs:List (Int×Int)} {A:List (List Int)} (hA:∀x∈A,DigP bs x):∀(n:Nat) (v:Int),b.1≤v→v+n≤b.2→∀x∈blkD A v n,DigP (b::bs) x
 | 0,v,h1,h2,x,hx=>by
  obtain⟨y,hy,rfl⟩:=List.mem_map.1 hx
  exact⟨⟨h1,by omega⟩,hA y hy⟩
 | n+1,v,h1,h2,x,hx=>by
  rcases List.mem_append.1 hx with hx|hx
  ·obtain⟨y,hy,rfl⟩:=List.mem_map.1 hx
   exact⟨⟨h1,by omega⟩,hA y hy⟩
  ·exact blk_dig hA n (v+1) (by omega) (by omega) x hx
theorem allD_dig:∀ {bs:List (Int×Int)},(∀b∈bs,b.1≤b.2)→∀x∈allD bs,DigP bs x
 | [],_,x,hx=>by rw[List.mem_singleton.1 hx];trivial
 | b::bs,h,x,hx=>by
  have hb:=h b List.mem_cons_self
  exact blk_dig (allD_dig fun c hc=>h c (List.mem_cons_of_mem _ hc)) _ _ (by omega) (by omega) x hx
theorem lowD_len (bs:List (Int×Int)):(lowD bs).length=bs.length:=by simp[lowD]
theorem nxtD_end:∀ {bs:List (Int×Int)} {xs:List Int},xs.length=bs.length→(nxtD bs xs).1.length=bs.length∧((nxtD bs xs).2=false→(nxtD bs xs).1=lowD bs)
 | [],[],_=>⟨rfl,fun _=>rfl⟩
 | b::bs,x::xs,h=>by
  have ih:=nxtD_end (bs:=bs) (xs:=xs) (by simpa using h)
  rw[nxtD_cons]
  split
  ·exact⟨by simp[ih.1],fun h=>by cases h⟩
  ·rename_i h1
   have h1:(nxtD bs xs).2=false:=by simpa using h1
   split
   ·exact⟨by simp[ih.1],fun h=>by cases h⟩
   ·exact⟨by simp[ih.1],fun _=>by simp[lowD,ih.2 h1]⟩
 | [],_::_,h=>by simp at h
 | _::_,[],h=>by simp at h
def stD (bs:List (Int×Int)) (xs:List Int) (p:Nat):List Int:=xs.take p++lowD (bs.drop p)
def NxInv (bs:List (Int×Int)) (xs:List Int) (p:Nat):Prop:=(nxtD (bs.drop p) (xs.drop p)).2=false
theorem stD_len {bs:List (Int×Int)} {xs:List Int} (h:xs.length=bs.length) {p:Nat} (hp:p≤xs.length):(stD bs xs p).length=xs.length:=by simp[stD,lowD];omega
theorem stD_all {bs:List (Int×Int)} {xs:List Int} (h:xs.length=bs.length):stD bs xs xs.length=xs:=by
 unfold stD
 rw[List.take_length,h,List.drop_length]
 simp[lowD]
theorem nx_start {bs:List (Int×Int)} {xs:List Int} (h:xs.length=bs.length):NxInv bs xs xs.length:=by
 unfold NxInv
 rw[List.drop_length,h,List.drop_length];rfl
theorem nx_up:∀ {k:Nat} {bs:List (Int×Int)} {xs:List Int} {r:List Int},xs.length=bs.length→k≤xs.length→nxtD (bs.drop k) (xs.drop k)=(r,true)→nxtD bs xs=(xs.take k++r,true)
 | 0,bs,xs,r,_,_,h=>by simpa using h
 | k+1,b::bs,x::xs,r,h,hk,hn=>by
  have ih:=nx_up (k:=k) (bs:=bs) (xs:=xs) (r:=r) (by simpa using h) (by simpa using hk) (by simpa using hn)
  rw[nxtD_cons,ih,if_pos rfl];simp
 | _+1,_,[],_,_,hk,_=>by simp at hk
 | _+1,[],_::_,_,h,_,_=>by simp at h
theorem drop_getD {α:Type} [Inhabited α] (xs:List α) (k:Nat) (h:k<xs.length):xs.drop k=xs.getD k default::xs.drop (k+1):=by
 rw[List.drop_eq_getElem_cons h];simp[List.getD,List.getElem?_eq_getElem h]
theorem take_getD {α:Type} [Inhabited α] (xs:List α) (k:Nat) (h:k<xs.length):xs.take (k+1)=xs.take k++[xs.getD k default]:=by
 rw[List.take_succ_eq_append_getElem h];simp[List.getD,List.getElem?_eq_getElem h]
theorem stD_split {bs:List (Int×Int)} {xs:List Int} (h:xs.length=bs.length) {k:Nat} (hk:k<xs.length):stD bs xs (k+1)=xs.take k++xs.getD k default::lowD (bs.drop (k+1)):=by
 unfold stD;rw[take_getD xs k hk,List.append_assoc];rfl
theorem stD_get {bs:List (Int×Int)} {xs:List Int} (h:xs.length=bs.length) {k:Nat} (hk:k<xs.length):(stD bs xs (k+1)).getD k default=xs.getD k default:=by
 rw[stD_split h hk]
 have:(xs.take k).length=k:=by simp;omega
 simp[List.getD,List.getElem?_append,this]
theorem stD_set {bs:List (Int×Int)} {xs:List Int} (h:xs.length=bs.length) {k:Nat} (hk:k<xs.length) (v:Int):(stD bs xs (k+1)).set k v=xs.take k++v::lowD (bs.drop (k+1)):=by
 rw[stD_split h hk]
 have:(xs.take k).length=k:=by simp;omega
 rw[List.set_append_right _ _ (by omega),this,Nat.sub_self,List.set_cons_zero]
theorem nx_yes {bs:List (Int×Int)} {xs:List Int} (h:xs.length=bs.length) {k:Nat} (hk:k<xs.length) (hn:NxInv bs xs (k+1)) (hx:xs.getD k default<(bs.getD k default).2):nxtD bs xs=((stD bs xs (k+1)).set k (xs.getD k default+1),true):=by
 have hl:(xs.drop (k+1)).length=(bs.drop (k+1)).length:=by simp;omega
 have he:=(nxtD_end hl).2 hn
 rw[stD_set h hk]
 refine nx_up h (by omega) ?_
 rw[drop_getD xs k hk,drop_getD bs k (by omega),nxtD_cons,if_neg (by rw[hn];simp),if_pos hx,he]
theorem nx_no {bs:List (Int×Int)} {xs:List Int} (h:xs.length=bs.length) {k:Nat} (hk:k<xs.length) (hn:NxInv bs xs (k+1)) (hx:¬xs.getD k default<(bs.getD k default).2):NxInv bs xs k∧(stD bs xs (k+1)).set k (bs.getD k default).1=stD bs xs k:=by
 refine⟨?_,?_⟩
 ·unfold NxInv
  rw[drop_getD xs k hk,drop_getD bs k (by omega),nxtD_cons,if_neg (by rw[hn];simp),if_neg hx]
 ·rw[stD_set h hk]
  unfold stD
  rw[drop_getD bs k (by omega)];rfl
theorem nx_end {bs:List (Int×Int)} {xs:List Int} (h:xs.length=bs.length) (hn:NxInv bs xs 0):nxtD bs xs=(stD bs xs 0,false):=by
 have hn:(nxtD bs xs).2=false:=by simpa[NxInv] using hn
 have he:=(nxtD_end h).2 hn
 refine Prod.ext ?_ hn
 rw[he];simp[stD]
end
section
attribute [local irreducible] SW runL runQ runG runQG FC Ret1 RetN toF redoL
theorem nextR_app (n:Int) (x:Int):∀ys:List Int,nextR n (ys++[x])=if (nextR n ys).2=true then ((nextR n ys).1++[x],true) else if x+1<n then ((nextR n ys).1++[x+1],true) else ((nextR n ys).1++[0],false)
 | []=>by simp[nextR]
 | y::r=>by
  have ih:=nextR_app n x r
  simp only[List.cons_append,nextR]
  by_cases hy:y+1<n
  ·simp[hy]
  ·simp only[if_neg hy,ih]
   split
   ·rfl
   ·split<;>rfl
theorem nextR_len (n:Int):∀ys:List Int,(nextR n ys).1.length=ys.length
 | []=>rfl
 | y::r=>by
  simp only[nextR]
  split
  ·rfl
  ·simp[nextR_len n r]
theorem next_nxt (n:Int):∀xs:List Int,nextL n xs=nxtD (List.replicate xs.length (0,n-1)) xs
 | []=>by simp[nextL,nextR,nxtD]
 | x::r=>by
  have ih:=next_nxt n r
  rw[List.length_cons,List.replicate_succ,nxtD_cons,←ih]
  unfold nextL
  rw[List.reverse_cons,nextR_app]
  by_cases h:(nextR n r.reverse).2=true
  ·simp[h]
  ·by_cases hx:x+1<n
   ·simp[h,hx,show x<n-1 by omega]
   ·simp[h,hx,show ¬x<n-1 by omega]
def digs (n k:Nat):List (List Int):=allD (List.replicate k (0,(n:Int)-1))
theorem digs_ok {n k:Nat} (h:0<n∨k=0):SeqD (List.replicate k (0,(n:Int)-1)) (digs n k)∧∃r,digs n k=List.replicate k 0::r:=by
 have hb:∀b∈List.replicate k ((0:Int),(n:Int)-1),b.1≤b.2:=fun b hb=>by
  obtain⟨h1,rfl⟩:=List.mem_replicate.1 hb
  simp only
  omega
 obtain⟨h1,r,h2⟩:=allD_seq hb
 refine⟨h1,r,?_⟩
 have:lowD (List.replicate k ((0:Int),(n:Int)-1))=List.replicate k 0:=by simp[lowD]
 rw[←this];exact h2
theorem digs_dig {n k:Nat} (h:0<n∨k=0):∀l∈digs n k,l.length=k∧∀x∈l,0≤x∧x<n:=fun l hl=>by
 have hb:∀b∈List.replicate k ((0:Int),(n:Int)-1),b.1≤b.2:=fun b hb=>by
  obtain⟨h1,rfl⟩:=List.mem_replicate.1 hb
  simp only
  omega
 have h1:=allD_dig hb l hl
 have h2:=digP_len h1
 rw[List.length_replicate] at h2
 refine⟨h2,fun x hx=>?_⟩
 obtain⟨i,hi,rfl⟩:=List.getElem_of_mem hx
 have h3:=digP_at h1 i (by rw[List.length_replicate];omega)
 rw[List.getD_eq_getElem?_getD,List.getElem?_replicate,if_pos (by omega),List.getD_eq_getElem?_getD,List.getElem?_eq_getElem hi] at h3
 simp only[Option.getD_some] at h3
 omega
theorem digs_next {n k:Nat} {l:List Int} {A:List (List Int)} (hl:l.length=k) (hs:SeqD (List.replicate k (0,(n:Int)-1)) (l::A)):(A=[]∧(nextL n l).2=false)∨∃m A',A=m::A'∧nextL n l=(m,true):=by
 rw[next_nxt,hl]
 cases A with
 | nil=>exact .inl ⟨rfl,by rw[hs]⟩
 | cons m A'=>exact .inr ⟨m,A',rfl,hs.1⟩
section
variable (I:Nat→List (List Int)→Option (List Int)) (sets:List (List Int))
def lstS (l:List Int):List (List Int):=l.map fun q=>sets.getD q.toNat default
def addQ (out:List (List Int)) (s:List Int):List (List Int):=if s∈out then out else out++[s]
def stepO (out:List (List Int)) (e:Nat×List Int):List (List Int):=match I e.1 (lstS sets e.2) with
 | none=>out
 | some s=>addQ out s
def capF:List (Nat×List Int)→List (List Int)→List (List Int)×Bool
 | [],out=>(out,true)
 | e::es,out=>if 16<(stepO I sets out e).length then (stepO I sets out e,false) else capF es (stepO I sets out e)
def trE (e:Nat×List Int) (k:Nat):TransT:=⟨(e.1:Int),e.2,(k:Int)⟩
def trS:List (Nat×List Int)→List TransT
 | []=>[]
 | e::es=>match I e.1 (lstS sets e.2) with
  | none=>trS es
  | some s=>trE e (sets.idxOf s)::trS es
end
variable {I:Nat→List (List Int)→Option (List Int)} {sets:List (List Int)}
theorem addQ_pre (out:List (List Int)) (s:List Int):∃r,addQ out s=out++r:=by
 unfold addQ
 split
 ·exact⟨[],by simp⟩
 ·exact⟨[s],rfl⟩
theorem addQ_mem (out:List (List Int)) (s:List Int):s∈addQ out s:=by
 unfold addQ
 split
 ·assumption
 ·simp
theorem stepO_pre (out:List (List Int)) (e:Nat×List Int):∃r,stepO I sets out e=out++r:=by
 unfold stepO
 split
 ·exact⟨[],by simp⟩
 ·exact addQ_pre _ _
theorem capF_pre:∀(E:List (Nat×List Int)) (out:List (List Int)),∃r,(capF I sets E out).1=out++r
 | [],out=>⟨[],by simp[capF]⟩
 | e::es,out=>by
  obtain⟨r,h⟩:=stepO_pre (I:=I) (sets:=sets) out e
  unfold capF
  split
  ·exact⟨r,h⟩
  ·obtain⟨r',h'⟩:=capF_pre es (stepO I sets out e)
   exact⟨r++r',by rw[h',h,List.append_assoc]⟩
theorem capF_len:∀(E:List (Nat×List Int)) (out:List (List Int)),out.length≤16→(capF I sets E out).2=true→(capF I sets E out).1.length≤16
 | [],out,h,_=>h
 | e::es,out,h,h2=>by
  unfold capF at h2 ⊢
  split at h2
  ·cases h2
  ·rename_i hn
   rw[if_neg hn]
   exact capF_len es _ (by omega) h2
theorem blk_len (A:List (List Int)):∀(n:Nat) (v:Int),(blkD A v n).length=(n+1)*A.length
 | 0,v=>by simp[blkD]
 | n+1,v=>by
  rw[blkD,List.length_append,List.length_map,blk_len A n]
  rw[Nat.add_mul (n+1) 1,Nat.one_mul,Nat.add_comm]
theorem digs_len {n:Nat} (h:0<n):∀k,(digs n k).length=n^k
 | 0=>rfl
 | k+1=>by
  unfold digs
  rw[List.replicate_succ,allD,blk_len]
  have ih:=digs_len h k
  unfold digs at ih
  rw[ih,Nat.pow_succ,Nat.mul_comm]
  congr 1
  omega
end
section
section
variable (I:Nat→List (List Int)→Option (List Int)) (sets:List (List Int))
def capN:List (Nat×List Int)→List (List Int)→List TransT→List (List Int)×List TransT×Bool
 | [],out,rules=>(out,rules,true)
 | e::es,out,rules=>match I e.1 (lstS sets e.2) with
  | none=>capN es out rules
  | some s=>if 16<(addQ out s).length then (addQ out s,[],false) else capN es (addQ out s) (rules++[trE e ((addQ out s).idxOf s)])
end
variable {I:Nat→List (List Int)→Option (List Int)} {sets:List (List Int)}
theorem capN_ok:∀(E:List (Nat×List Int)) (out:List (List Int)) (rules:List TransT),out.length≤16→(capN I sets E out rules).2.2=(capF I sets E out).2∧((capF I sets E out).2=true→(capN I sets E out rules).1=(capF I sets E out).1)
 | [],out,rules,_=>⟨rfl,fun _=>rfl⟩
 | e::es,out,rules,h0=>by
  unfold capN capF stepO
  cases hI:I e.1 (lstS sets e.2) with
  | none =>
   simp only
   rw[if_neg (by omega)]
   exact capN_ok es out rules h0
  | some s =>
   simp only
   by_cases h:16<(addQ out s).length
   ·rw[if_pos h,if_pos h];exact⟨rfl,fun h=>by cases h⟩
   ·rw[if_neg h,if_neg h]
    exact capN_ok es _ _ (by omega)
theorem capN_rules (h0:sets.length≤16):∀(E:List (Nat×List Int)) (rules:List TransT),(capF I sets E sets).2=true→(capF I sets E sets).1.length=sets.length→(capN I sets E sets rules).2.1=rules++trS I sets E
 | [],rules,_,_=>by simp[capN,trS]
 | e::es,rules,h,hl=>by
  unfold capN trS
  unfold capF stepO at h hl
  cases hI:I e.1 (lstS sets e.2) with
  | none =>
   rw[hI] at h hl
   simp only at h hl ⊢
   rw[if_neg (by omega)] at h hl
   exact capN_rules h0 es rules h hl
  | some s =>
   rw[hI] at h hl
   simp only at h hl ⊢
   by_cases hn:16<(addQ sets s).length
   ·rw[if_pos hn] at h;cases h
   ·rw[if_neg hn] at h hl ⊢
    have he:addQ sets s=sets:=by
     obtain⟨r,hr⟩:=capF_pre (I:=I) (sets:=sets) es (addQ sets s)
     obtain⟨r',hr'⟩:=addQ_pre sets s
     rw[hr,hr',List.length_append,List.length_append] at hl
     have:r'=[]:=List.length_eq_zero_iff.1 (by omega)
     rw[hr',this,List.append_nil]
    rw[he] at h hl ⊢
    rw[capN_rules h0 es _ h hl,List.append_assoc]
    rfl
theorem addQ_nodupN {out:List (List Int)} {s:List Int} (h:out.Nodup):(addQ out s).Nodup:=by
 unfold addQ
 split
 ·exact h
 ·rename_i hs
  rw[List.nodup_append]
  exact⟨h,by simp,fun x hx y hy=>by rw[List.mem_singleton.1 hy];exact fun e=>hs (e ▸ hx)⟩
theorem capN_keep {P:List Int→Prop} (hI:∀f l s,I f l=some s→P s):∀(E:List (Nat×List Int)) (out:List (List Int)) (ru:List TransT),(∀s∈out,P s)→out.Nodup→(∀s∈(capN I sets E out ru).1,P s)∧(capN I sets E out ru).1.Nodup
 | [],out,ru,h1,h2=>⟨h1,h2⟩
 | e::es,out,ru,h1,h2=>by
  have key:∀s,I e.1 (lstS sets e.2)=some s→(∀x∈addQ out s,P x)∧(addQ out s).Nodup:=fun s h=>by
   refine⟨fun x hx=>?_,addQ_nodupN h2⟩
   unfold addQ at hx
   split at hx
   ·exact h1 x hx
   ·rcases List.mem_append.1 hx with hx|hx
    ·exact h1 x hx
    ·rw[List.mem_singleton.1 hx];exact hI _ _ _ h
  unfold capN
  cases h:I e.1 (lstS sets e.2) with
  | none=>exact capN_keep hI es out ru h1 h2
  | some s =>
   simp only
   split
   ·exact key s h
   ·exact capN_keep hI es _ _ (key s h).1 (key s h).2
def iterZ (I:Nat→List (List Int)→Option (List Int)) (E:Nat→List (Nat×List Int)):Nat→List (List Int)→List (List Int)×Bool
 | 0,s=>(s,false)
 | k+1,s=>if (capF I s (E s.length) s).2=true then (if (capF I s (E s.length) s).1.length=s.length then (s,true) else iterZ I E k (capF I s (E s.length) s).1) else (s,false)
def iterA (I:Nat→List (List Int)→Option (List Int)) (E:Nat→List (Nat×List Int)):Nat→List (List Int)→List (List Int)×List TransT×Bool
 | 0,s=>(s,[],false)
 | k+1,s=>if (capN I s (E s.length) s []).2.2=true∧(capN I s (E s.length) s []).1.length≠s.length then iterA I E k (capN I s (E s.length) s []).1 else capN I s (E s.length) s []
theorem iterZ_le {E:Nat→List (Nat×List Int)}:∀(k:Nat) (s:List (List Int)),s.length≤16→(iterZ I E k s).1.length≤16
 | 0,s,h=>h
 | k+1,s,h=>by
  unfold iterZ
  split
  ·rename_i h1
   split
   ·exact h
   ·exact iterZ_le k _ (capF_len _ _ h h1)
  ·exact h
theorem iterA_eq {E:Nat→List (Nat×List Int)}:∀(k:Nat) (s:List (List Int)),s.length≤16→(iterA I E k s).2.2=(iterZ I E k s).2∧((iterZ I E k s).2=true→(iterA I E k s).1=(iterZ I E k s).1∧(iterA I E k s).2.1=trS I (iterZ I E k s).1 (E (iterZ I E k s).1.length))
 | 0,s,_=>⟨rfl,fun h=>by cases h⟩
 | k+1,s,h16=>by
  obtain⟨h1,h2⟩:=capN_ok (I:=I) (sets:=s) (E s.length) s [] h16
  unfold iterA iterZ
  rw[h1]
  by_cases hF:(capF I s (E s.length) s).2=true
  ·rw[if_pos hF,h2 hF]
   by_cases hl:(capF I s (E s.length) s).1.length=s.length
   ·rw[if_neg (fun h=>h.2 hl),if_pos hl]
    obtain⟨r,hr⟩:=capF_pre (I:=I) (sets:=s) (E s.length) s
    have he:(capF I s (E s.length) s).1=s:=by
     rw[hr,List.length_append] at hl
     have:r=[]:=List.length_eq_zero_iff.1 (by omega)
     rw[hr,this,List.append_nil]
    refine⟨by rw[h1];exact hF,fun _=>⟨by rw[h2 hF,he],?_⟩⟩
    have:=capN_rules (I:=I) h16 (E s.length) [] hF hl
    simpa using this
   ·rw[if_pos ⟨hF,hl⟩,if_neg hl]
    exact iterA_eq k _ (capF_len _ _ h16 hF)
  ·rw[if_neg hF,if_neg (fun h=>hF h.1)]
   have hf:(capF I s (E s.length) s).2=false:=by simpa using hF
   exact⟨by rw[h1];exact hf,fun h=>by cases h⟩
end
section
inductive Fl (rs:List Int):Nat→List Int→Prop
 | nil:Fl rs 0 []
 | cons {n:Int} {k:Nat} {l:List Int} (h:0≤arS rs n) (r:Fl rs (k+(arS rs n).toNat) l):Fl rs (k+1) (n::l)
theorem Fl.zero {rs l:List Int} (h:Fl rs 0 l):l=[]:=by
 generalize e:(0:Nat)=k at h
 cases h with
 | nil=>rfl
 | cons _ _=>omega
theorem Fl.len {rs l:List Int} {k:Nat} (h:Fl rs k l):k≤l.length:=by
 induction h with
 | nil=>exact Nat.le_refl _
 | cons _ _ ih=>simp only[List.length_cons];omega
theorem Fl.app {rs l:List Int} {j:Nat} (h:Fl rs j l):∀ {k:Nat} {m:List Int},Fl rs k m→Fl rs (j+k) (l++m):=by
 induction h with
 | nil=>intro k m hm;rw[Nat.zero_add];exact hm
 | @cons n i l h r ih =>
  intro k m hm
  have:=ih hm
  rw[show i+1+k=(i+k)+1 by omega]
  exact .cons h (by rw[show i+k+(arS rs n).toNat=i+(arS rs n).toNat+k by omega];exact this)
theorem Fl.split {rs:List Int}:∀(l:List Int) (j k:Nat),Fl rs (j+k) l→∃l1 l2,l=l1++l2∧Fl rs j l1∧Fl rs k l2
 | [],j,k,h=>by
  have:=h.len
  simp only[List.length_nil] at this
  obtain rfl:j=0:=by omega
  obtain rfl:k=0:=by omega
  exact⟨[],[],rfl,.nil,.nil⟩
 | n::l,0,k,h=>⟨[],n::l,rfl,.nil,by rw[Nat.zero_add] at h;exact h⟩
 | n::l,j+1,k,h=>by
  rw[show j+1+k=(j+k)+1 by omega] at h
  cases h with
  | cons h r =>
   rw[show j+k+(arS rs n).toNat=(j+(arS rs n).toNat)+k by omega] at r
   obtain⟨l1,l2,e,h1,h2⟩:=Fl.split l _ _ r
   exact⟨n::l1,l2,by rw[e];rfl,.cons h h1,h2⟩
theorem Fl.scan {rs:List Int} {k:Nat} {l:List Int} (h:Fl rs k l):∀(r:List Int) (i:Nat),1≤k→Go.Proofs.YtkfkdgginfpdnaaGreatDoor.scan rs (l++r) k i=i+l.length:=by
 induction h with
 | nil=>intro r i h0;omega
 | @cons n k l h hr ih =>
  intro r i _
  simp only[List.cons_append,Go.Proofs.YtkfkdgginfpdnaaGreatDoor.scan]
  rw[if_neg (by omega)]
  by_cases e:k+(arS rs n).toNat=0
  ·rw[if_pos (by omega)]
   rw[e] at hr
   rw[hr.zero]
   simp
  ·rw[if_neg (by omega)]
   have:=ih r (i+1) (by omega)
   rw[show ((k+1:Nat):Int)+arS rs n-1=((k+(arS rs n).toNat:Nat):Int) by omega,this]
   simp only[List.length_cons];omega
theorem scan_fl {rs:List Int}:∀(l:List Int) (k i:Nat) (e:Int),1≤k→scan rs l k i=e→0≤e→∃l1 l2,l=l1++l2∧Fl rs k l1∧e=i+l1.length
 | [],k,i,e,_,h,he=>by simp only[scan] at h;omega
 | n::l,k,i,e,hk,h,he=>by
  simp only[scan] at h
  split at h
  ·omega
  ·rename_i h0
   obtain⟨k,rfl⟩:∃q,k=q+1:=⟨k-1,by omega⟩
   split at h
   ·rename_i h1
    obtain⟨rfl,h3⟩:k=0∧arS rs n=0:=by omega
    exact⟨[n],l,rfl,.cons (by omega) (by rw[h3];exact .nil),by simp;omega⟩
   ·rename_i h1
    obtain⟨l1,l2,e1,e2,e3⟩:=scan_fl l (k+(arS rs n).toNat) (i+1) e (by omega) (by rw[←h];congr 1;omega) he
    exact⟨n::l1,l2,by rw[e1];rfl,.cons (by omega) e2,by simp only[List.length_cons];omega⟩
theorem Fl.uniq {rs:List Int} {k:Nat} {l:List Int} (h:Fl rs k l):∀ {m r s:List Int},Fl rs k m→l++r=m++s→l=m∧r=s:=by
 induction h with
 | nil=>intro m r s hm e;rw[hm.zero] at e ⊢;exact⟨rfl,e⟩
 | @cons n k l h hr ih =>
  intro m r s hm e
  cases hm with
  | @cons n' _ m h' hr' =>
   simp only[List.cons_append,List.cons.injEq] at e
   obtain⟨rfl,e⟩:=e
   obtain⟨rfl,rfl⟩:=ih hr' e
   exact⟨rfl,rfl⟩
theorem Fl.pre {rs:List Int} {k:Nat} {l:List Int} (h:Fl rs k l) {m:List Int} (hm:Fl rs k m) {r:List Int} (e:l=m++r):l=m∧r=[]:=by
 have:=Fl.uniq h hm (r:=[]) (s:=r) (by simpa using e)
 exact⟨this.1,this.2.symm⟩
theorem termOk_fl {rs t:List Int} (h:TermOkP rs t):Fl rs 1 t:=by
 obtain⟨_,_,h3⟩:=h
 unfold endS at h3
 rw[List.drop_zero] at h3
 obtain⟨l1,l2,e1,e2,e3⟩:=scan_fl t 1 0 _ (by omega) h3 (by omega)
 have:l2=[]:=by
  have:=congrArg List.length e1
  rw[List.length_append] at this
  exact List.length_eq_zero_iff.1 (by omega)
 rw[e1,this,List.append_nil];exact e2
theorem fl_termOk {rs t:List Int} (hs:SigOkP rs) (h:Fl rs 1 t) (hl:t.length≤60):TermOkP rs t:=by
 refine⟨hs,⟨h.len,hl⟩,?_⟩
 have:=h.scan [] 0 (by omega)
 unfold endS
 rw[List.drop_zero]
 simpa using this
theorem endS_app {rs:List Int} {p u r:List Int} (h:Fl rs 1 u):endS rs (p++(u++r)) p.length=p.length+u.length:=by
 unfold endS
 rw[List.drop_left]
 exact h.scan r p.length (by omega)
theorem Fl.at {rs:List Int}:∀(l:List Int) (k a:Nat),Fl rs k l→a<l.length→∃p u r,l=p++(u++r)∧p.length=a∧Fl rs 1 u
 | [],_,a,_,ha=>absurd ha (Nat.not_lt_zero _)
 | n::l,k,0,h,_=>by
  obtain⟨k,rfl⟩:∃q,k=q+1:=by cases h;exact⟨_,rfl⟩
  obtain⟨l1,l2,e,h1,_⟩:=Fl.split (n::l) 1 k (by rw[Nat.add_comm];exact h)
  exact⟨[],l1,l2,e,rfl,h1⟩
 | n::l,k,a+1,h,ha=>by
  cases h with
  | cons h r =>
   obtain⟨p,u,s,e,hp,hu⟩:=Fl.at l _ a r (by simpa using ha)
   exact⟨n::p,u,s,by rw[e];rfl,by simp[hp],hu⟩
theorem TermOkP.at {rs t:List Int} (h:TermOkP rs t) {a:Nat} (ha:a<t.length):∃p u r,t=p++(u++r)∧p.length=a∧Fl rs 1 u:=Fl.at t 1 a (termOk_fl h) ha
def subS (rs t:List Int) (a:Nat):List Int:=(t.take (endS rs t a).toNat).drop a
theorem subS_app {rs p u r:List Int} (h:Fl rs 1 u):subS rs (p++(u++r)) p.length=u:=by
 unfold subS
 rw[endS_app h,show ((p.length:Int)+u.length).toNat=p.length+u.length by omega,←List.append_assoc,List.take_left' (by simp),List.drop_left]
theorem subS_ok {rs t:List Int} (h:TermOkP rs t) {a:Nat} (ha:a<t.length):TermOkP rs (subS rs t a):=by
 obtain⟨p,u,r,rfl,rfl,hu⟩:=h.at ha
 rw[subS_app hu]
 refine fl_termOk h.1 hu ?_
 have:=h.2.1.2
 simp only[List.length_append] at this
 omega
theorem endS_ge {rs t:List Int} (h:TermOkP rs t) {a:Nat} (ha:a<t.length):a<endS rs t a∧endS rs t a≤t.length:=by
 obtain⟨p,u,r,rfl,rfl,hu⟩:=h.at ha
 rw[endS_app hu]
 have:=hu.len
 simp only[List.length_append]
 omega
def begS (rs t:List Int):Nat→Nat→List Nat
 | 0,_=>[]
 | k+1,a=>a::begS rs t k (endS rs t a).toNat
def argsS (rs t:List Int) (a:Nat):List Nat:=begS rs t (arS rs (t.getD a default)).toNat (a+1)
theorem begS_length (rs t:List Int):∀k a,(begS rs t k a).length=k
 | 0,_=>rfl
 | k+1,a=>by simp[begS,begS_length rs t k]
theorem begS_fl {rs:List Int}:∀(k:Nat) (p l r:List Int),Fl rs k l→∀x∈begS rs (p++(l++r)) k p.length,p.length≤x∧x<(p++l).length
 | 0,_,_,_,_,x,hx=>by cases hx
 | k+1,p,l,r,h,x,hx=>by
  obtain⟨l1,l2,rfl,h1,h2⟩:=Fl.split l 1 k (by rw[Nat.add_comm];exact h)
  have hl:=h1.len
  simp only[begS,List.mem_cons] at hx
  rcases hx with rfl|hx
  ·simp only[List.length_append];omega
  ·rw[List.append_assoc,endS_app h1,show ((p.length:Int)+l1.length).toNat=(p++l1).length by simp;omega,←List.append_assoc p l1 (l2++r)] at hx
   have:=begS_fl k (p++l1) l2 r h2 x hx
   simp only[List.length_append] at this ⊢
   omega
def nthB (rs t:List Int) (a:Nat):Nat→Nat
 | 0=>a
 | j+1=>(endS rs t (nthB rs t a j)).toNat
theorem nthB_shift (rs t:List Int) (a:Nat):∀j,nthB rs t a (j+1)=nthB rs t (endS rs t a).toNat j
 | 0=>rfl
 | j+1=>by
  show (endS rs t (nthB rs t a (j+1))).toNat=_
  rw[nthB_shift rs t a j]
  rfl
theorem begS_snoc (rs t:List Int):∀(k a:Nat),begS rs t (k+1) a=begS rs t k a++[nthB rs t a k]
 | 0,a=>rfl
 | k+1,a=>by
  show a::begS rs t (k+1) (endS rs t a).toNat=_
  rw[begS_snoc rs t k,nthB_shift]
  rfl
theorem begS_get (rs t:List Int):∀(k a j:Nat),j<k→(begS rs t k a).getD j default=nthB rs t a j
 | 0,_,_,h=>absurd h (Nat.not_lt_zero _)
 | k+1,a,0,_=>rfl
 | k+1,a,j+1,h=>by
  rw[nthB_shift,←begS_get rs t k _ j (by omega)]
  rfl
theorem Fl.cut {rs:List Int} (p r:List Int):∀(j:Nat) (k:Nat) (l:List Int),Fl rs k l→j≤k→∃l1 l2,l=l1++l2∧Fl rs j l1∧Fl rs (k-j) l2∧nthB rs (p++(l++r)) p.length j=(p++l1).length
 | 0,k,l,h,_=>⟨[],l,rfl,.nil,by simpa using h,by simp[nthB]⟩
 | j+1,k,l,h,hj=>by
  obtain⟨l1,l2,rfl,h1,h2,h3⟩:=Fl.cut p r j k l h (by omega)
  obtain⟨m1,m2,rfl,h4,h5⟩:=Fl.split l2 1 (k-(j+1)) (by rw[show 1+(k-(j+1))=k-j by omega];exact h2)
  refine⟨l1++m1,m2,by simp,h1.app h4,h5,?_⟩
  have e:p++(l1++(m1++m2)++r)=(p++l1)++(m1++(m2++r)):=by simp
  show (endS rs _ (nthB rs _ _ j)).toNat=_
  rw[h3,e,endS_app h4]
  simp only[List.length_append];omega
theorem args_cut {rs t:List Int} (h:TermOkP rs t) {a:Nat} (ha:a<t.length):∃p l r,t=p++(t.getD a default::l++r)∧p.length=a∧0≤arS rs (t.getD a default)∧Fl rs (arS rs (t.getD a default)).toNat l:=by
 obtain⟨p,u,r,e,rfl,hu⟩:=h.at ha
 cases hu with
 | @cons n k l h0 hr =>
  have hn:t.getD p.length default=n:=by rw[e];simp[List.getD]
  rw[hn]
  exact⟨p,l,r,by rw[e],rfl,h0,by rw[Nat.zero_add] at hr;exact hr⟩
theorem argsS_lt {rs t:List Int} (h:TermOkP rs t) {a:Nat} (ha:a<t.length):∀x∈argsS rs t a,a<x∧x<t.length:=by
 obtain⟨p,l,r,e,rfl,h0,hl⟩:=args_cut h ha
 intro x hx
 unfold argsS at hx
 have e2:t=(p++[t.getD p.length default])++(l++r):=by simpa using e
 have hlen:(p++[t.getD p.length default]).length=p.length+1:=by simp
 have:=begS_fl _ (p++[t.getD p.length default]) l r hl x (by rw[←e2,hlen];exact hx)
 have h3:=congrArg List.length e2
 simp only[List.length_append,List.length_cons,List.length_nil] at this h3
 omega
theorem nthB_lt {rs t:List Int} (h:TermOkP rs t) {a:Nat} (ha:a<t.length) {j:Nat} (hj:j<(arS rs (t.getD a default)).toNat):a<nthB rs t (a+1) j∧nthB rs t (a+1) j<t.length:=by
 rw[←begS_get rs t _ (a+1) j hj]
 exact argsS_lt h ha _ (getD_mem _ _ (by unfold argsS;rw[begS_length];exact hj))
theorem nthB_le {rs t:List Int} (h:TermOkP rs t) {a:Nat} (ha:a<t.length):∀ {j:Nat},j≤(arS rs (t.getD a default)).toNat→a<nthB rs t (a+1) j∧nthB rs t (a+1) j≤t.length
 | 0,_=>by simp only[nthB];omega
 | j+1,hj=>by
  obtain⟨h1,h2⟩:=nthB_lt h ha (show j<_ by omega)
  have:=endS_ge h h2
  simp only[nthB]
  omega
end
section
attribute [local irreducible] SW runL runQ runG runQG FC LopsW
attribute [go_sem] Tryz.results172 Tryz.ntmps172
attribute [go_sem] Tryz.results160 Tryz.ntmps160
end
section
attribute [local irreducible] SW runL runQ runG runQG FC Ret1
def natD (n:Nat):D:=.int .i64 n
attribute [go_sem] natD
theorem arS_low {rs:List Int} {x:Int} (h:0≤arS rs x):-24≤x∧x<rs.length:=by
 unfold arS at h
 split at h
 ·have:0≤(rs.length:Int):=by omega
  omega
 ·split at h
  ·omega
  ·omega
theorem TermOkP.ar {rs t:List Int} (h:TermOkP rs t):∀x∈t,0≤arS rs x:=fun x hx=>by
 have:=h.2.2
 unfold endS at this
 rw[List.drop_zero] at this
 exact scan_all (rs:=rs) t 1 0 (by omega) x hx
theorem TermOkP.low {rs t:List Int} (h:TermOkP rs t) {a:Nat} (ha:a<t.length):(-24≤t.getD a default∧t.getD a default<rs.length)∧0≤arS rs (t.getD a default)∧arS rs (t.getD a default)≤3 :=
 ⟨arS_low (h.ar _ (getD_mem t a ha)),h.ar _ (getD_mem t a ha),(arS_rng h.1 _).2⟩
theorem copyQ_fc (tk:Tk) (xs:List Int) (hl:xs.length≤17592186044416):FC S 94 [] [] [] [.sl tk (xs.map (.int .i64))] (.sl .any (xs.map (.int .i64))) [] [] :=
 (l1Copy_fc tk xs hl).weak .any (by simp) (by simp)
def kp117:List (Nat×List Nat):=[(0,[1,2,3]),(1,[6])]
attribute [go_sem] kp117 Tryz.results117 Tryz.ntmps117
theorem l1Sub_fc (tk tk':Tk) (rs t:List Int) (a:Nat) (hT:TermOkP rs t) (ha:a<t.length):FC S 117 [] [] [] [.agg [.sl tk (rs.map (.int .i64))],.sl tk' (t.map (.int .i64)),.int .i64 a] (.sl .any ((subS rs t a).map (.int .i64))) [] []:=by
 have he:=endS_ge hT ha
 have hl:=hT.2.1.2
 refine fcb Tryz.func117 fun B=>?_
 refine sw_bndg 1 fun hb1=>?_
 repeat' first|refine sw_n ?_|refine sw_go 0 kp117 fun K hK=>?_|refine fun (K:KT) (hK:KOk S 0 _ _ _ K)=>?_|refine runL_g ?_|refine sw_retg0 ?_|refine sw_retg ?_|(refine hK.n0 ?_;clear hK K)|refine sw_loopEnd ?_|refine hK.c1 rfl rfl rfl (l1End_fc _ _ rs t a hT.1 hl (by omega)) ?_|refine hK.c1 rfl rfl rfl (copyQ_fc _ (subS rs t a) (by unfold subS;simp;omega)) ?_|with_reducible refine and_o ?_|apply tTT
def kp77:List (Nat×List Nat):=[(0,[1,2,3]),(1,[1,2,3,7]),(2,[1,2,3,7,8]),(3,[1,3,7,8,9]),(4,[1,3,7,8,9,20]),(6,[1,3,7,8,9]),(7,[1,3,7,8,9]),(5,[1,3,7,8,9]),(8,[6])]
attribute [go_sem] kp77 Tryz.results77 Tryz.ntmps77
theorem l1Args_fc (tk tk':Tk) (rs t:List Int) (a:Nat) (hT:TermOkP rs t) (ha:a<t.length):FC S 77 [] [] [] [.agg [.sl tk (rs.map (.int .i64))],.sl tk' (t.map (.int .i64)),.int .i64 a] (.sl .any ((argsS rs t a).map natD)) [] []:=by
 have hl:=hT.2.1.2
 have hlo:=hT.low ha
 obtain⟨n,hn⟩:∃n:Nat,arS rs (t.getD a default)=n:=⟨(arS rs (t.getD a default)).toNat,by omega⟩
 have hlt:∀j<n,a<nthB rs t (a+1) j∧nthB rs t (a+1) j<t.length:=fun j hj=>nthB_lt hT ha (by omega)
 have hle:∀j≤n,a<nthB rs t (a+1) j∧nthB rs t (a+1) j≤t.length:=fun j hj=>nthB_le hT ha (by omega)
 unfold argsS
 rw[hn,Int.toNat_natCast]
 refine FC.args (args':=[.agg [.sl .any (rs.map (.int .i64))],.sl .any (t.map (.int .i64)),.int .i64 a]) ?_ (by simp only[go_sem])
 refine fcb Tryz.func77 fun B=>?_
 refine sw_bndg 1 fun hb1=>?_
 repeat' first|exact h.elim|refine sw_n ?_|refine sw_go 0 kp77 fun K hK=>?_|refine fun (K:KT) (hK:KOk S 0 _ _ _ K)=>?_|refine sw_goD kp77 (by kernel_rfl) fun K hK=>?_|refine runL_g ?_|refine runQ_g ?_|refine sw_retg0 ?_|refine sw_retg ?_|(refine hK.n0 ?_;clear hK K)|refine sw_condg rfl (fun h=>?_) fun h=>?_|refine sw_exit rfl ?_|refine sw_loopEnd ?_|refine hK.c1 rfl rfl rfl (l1Arity_fc _ rs _) ?_|with_reducible refine and_o ?_|((with_reducible refine And.intro ?_ ?_);· first|(intro x hx;subst hx;rfl)|(intro x;refine And.intro ?_ ?_<;>(intros;subst_vars;rfl)))|apply tTT
 rw[hn]
 refine sw_tok 7 27000 2 1 rfl (.inr rfl) rfl ?_
 simp only[go_sem]
 refine sw_loopT (ι:=Nat) (fun j=>[(9,.int .i64 (n-j:Int)),(8,.int .i64 (nthB rs t (a+1) j)),(7,.sl (.own 27000 2 1) ((begS rs t j (a+1)).map natD))]) (fun _=>[]) (fun _=>[27000]) (fun j=>j≤n) (fun j=>n-j) 0 (by(refine covers_mk0 rfl rfl ?_ ?_ ?_ ?_<;>simp (disch:=(refine Om.mk ?_;omega)) only[go_sem]<;>(try omega));simp[nthB,begS]) (by omega) (fun j hj=>?_)
 simp only[go_sem]
 have hb:=begS_length rs t j (a+1)
 have h3:=hle j hj
 have h4:=hlt j
 have h5:j<n→((endS rs t (nthB rs t (a+1) j)).toNat:Int)=endS rs t (nthB rs t (a+1) j):=fun hj=>by have:=endS_ge hT (h4 hj).2;omega
 repeat' first|exact h.elim|refine sw_n ?_|refine sw_go 0 kp77 fun K hK=>?_|refine fun (K:KT) (hK:KOk S 0 _ _ _ K)=>?_|refine sw_goD kp77 (by kernel_rfl) fun K hK=>?_|refine runL_g ?_|refine runQ_g ?_|refine sw_retg0 ?_|refine sw_retg ?_|(refine hK.n0 ?_;clear hK K)|refine sw_condg rfl (fun h=>?_) fun h=>?_|refine sw_exit rfl ?_|refine sw_loopEnd ?_|refine hK.c1 rfl rfl rfl (l1End_fc _ _ rs t (nthB rs t (a+1) j) hT.1 hl (by omega)) ?_|with_reducible refine and_o ?_|((with_reducible refine And.intro ?_ ?_);· first|(intro x hx;subst hx;rfl)|(intro x;refine And.intro ?_ ?_<;>(intros;subst_vars;rfl)))|apply tTT
 ·refine⟨j+1,(by(refine covers_mk0 rfl rfl ?_ ?_ ?_ ?_<;>simp (disch:=(refine Om.mk ?_;omega)) only[go_sem]<;>(try omega));have:=h5 (by omega);simp only[nthB,begS_snoc,List.map_append,List.map_cons,List.map_nil,natD];exact⟨trivial,this.symm,by omega⟩),by omega,by omega⟩
 ·rw[show j=n by omega]
def kp144:List (Nat×List Nat):=[(0,[1,2,3]),(1,[6])]
attribute [go_sem] kp144 Tryz.results144 Tryz.ntmps144
theorem subAt_fc (tk tk':Tk) (rs t:List Int) (a:Nat) (hT:TermOkP rs t) (ha:a<t.length):FC S 144 [] [] [] [.agg [.sl tk (rs.map (.int .i64))],.sl tk' (t.map (.int .i64)),.int .i64 a] (.sl .any ((subS rs t a).map (.int .i64))) [] []:=by
 have he:=endS_ge hT ha
 have hl:=hT.2.1.2
 refine fcb Tryz.func144 fun B=>?_
 refine sw_bndg 1 fun hb1=>?_
 repeat' first|refine sw_n ?_|refine sw_go 0 kp144 fun K hK=>?_|refine runL_g ?_|refine sw_retg0 ?_|(refine hK.n0 ?_;clear hK K)|refine hK.c1 rfl rfl rfl (endAt_fc _ _ rs t a hT.1 hT.ge hl (by omega)) ?_|with_reducible refine and_o ?_|apply tTT
 rfl
def kp82:List (Nat×List Nat):=[(0,[1,2,3]),(1,[1,2,3,7]),(2,[1,2,3,7,8]),(3,[1,3,7,8,9]),(4,[1,3,7,8,9,19]),(6,[1,3,7,8,9]),(7,[1,3,7,8,9]),(5,[1,3,7,8,9]),(8,[6])]
attribute [go_sem] kp82 Tryz.results82 Tryz.ntmps82
theorem argsAt_fc (tk tk':Tk) (rs t:List Int) (a:Nat) (hT:TermOkP rs t) (ha:a<t.length):FC S 82 [] [] [] [.agg [.sl tk (rs.map (.int .i64))],.sl tk' (t.map (.int .i64)),.int .i64 a] (.sl .any ((argsS rs t a).map natD)) [] []:=by
 have hl:=hT.2.1.2
 have hlo:=hT.low ha
 obtain⟨n,hn⟩:∃n:Nat,arS rs (t.getD a default)=n:=⟨(arS rs (t.getD a default)).toNat,by omega⟩
 have hlt:∀j<n,a<nthB rs t (a+1) j∧nthB rs t (a+1) j<t.length:=fun j hj=>nthB_lt hT ha (by omega)
 have hle:∀j≤n,a<nthB rs t (a+1) j∧nthB rs t (a+1) j≤t.length:=fun j hj=>nthB_le hT ha (by omega)
 unfold argsS
 rw[hn,Int.toNat_natCast]
 refine FC.args (args':=[.agg [.sl .any (rs.map (.int .i64))],.sl .any (t.map (.int .i64)),.int .i64 a]) ?_ (by simp only[go_sem])
 refine fcb Tryz.func82 fun B=>?_
 refine sw_bndg 1 fun hb1=>?_
 repeat' first|refine sw_n ?_|refine sw_go 0 kp82 fun K hK=>?_|refine sw_goD kp82 (by kernel_rfl) fun K hK=>?_|refine runL_g ?_|refine runQ_g ?_|(refine hK.n0 ?_;clear hK K)|refine hK.c1 rfl rfl rfl (arityAt_fc _ rs _ hlo.1) ?_|with_reducible refine and_o ?_|apply tTT
 rw[hn]
 refine sw_tok 7 26000 3 1 rfl (.inl rfl) rfl ?_
 simp only[go_sem]
 refine sw_loopT (ι:=Nat) (fun j=>[(9,.int .i64 (n-j:Int)),(8,.int .i64 (nthB rs t (a+1) j)),(7,.sl (.own 26000 3 1) ((begS rs t j (a+1)).map natD))]) (fun _=>[]) (fun _=>[26000]) (fun j=>j≤n) (fun j=>n-j) 0 (by(refine covers_mk0 rfl rfl ?_ ?_ ?_ ?_<;>simp (disch:=(refine Om.mk ?_;omega)) only[go_sem]<;>(try omega));simp[nthB,begS]) (by omega) (fun j hj=>?_)
 simp only[go_sem]
 have hb:=begS_length rs t j (a+1)
 have h3:=hle j hj
 have h4:=hlt j
 have h5:j<n→((endS rs t (nthB rs t (a+1) j)).toNat:Int)=endS rs t (nthB rs t (a+1) j):=fun hj=>by have:=endS_ge hT (h4 hj).2;omega
 repeat' first|exact h.elim|refine sw_n ?_|refine sw_go 0 kp82 fun K hK=>?_|refine runL_g ?_|refine sw_retg0 ?_|(refine hK.n0 ?_;clear hK K)|refine sw_condg rfl (fun h=>?_) fun h=>?_|refine sw_exit rfl ?_|refine sw_loopEnd ?_|refine hK.c1 rfl rfl rfl (endAt_fc _ _ rs t (nthB rs t (a+1) j) hT.1 hT.ge hl (by omega)) ?_|with_reducible refine and_o ?_|apply tTT
 ·refine⟨j+1,(by(refine covers_mk0 rfl rfl ?_ ?_ ?_ ?_<;>simp (disch:=(refine Om.mk ?_;omega)) only[go_sem]<;>(try omega));have:=h5 (by omega);simp only[nthB,begS_snoc,List.map_append,List.map_cons,List.map_nil,natD];exact⟨trivial,this.symm,by omega⟩),by omega,by omega⟩
 ·rw[show j=n by omega]
end
section
def SameHd (a b:List Int):Prop:=a.getD 0 default=b.getD 0 default∧0≤a.getD 0 default
instance (a b:List Int):Decidable (SameHd a b):=inferInstanceAs (Decidable (_∧_))
theorem sub_sub {rs t:List Int} (h:TermOkP rs t) {i:Nat} (hi:i<t.length):(subS rs t i).getD 0 default=t.getD i default∧∀j<(arS rs (t.getD i default)).toNat,subS rs (subS rs t i) (nthB rs (subS rs t i) 1 j)=subS rs t (nthB rs t (i+1) j):=by
 obtain⟨p,l,r,e,rfl,h0,hl⟩:=args_cut h hi
 have hu:Fl rs 1 (t.getD p.length default::l):=by
  have:Fl rs (0+1) (t.getD p.length default::l):=.cons h0 (by rw[Nat.zero_add];exact hl)
  rwa [Nat.zero_add] at this
 have es:subS rs t p.length=t.getD p.length default::l:=by
  conv=>lhs;rw[e]
  exact subS_app hu
 rw[es]
 refine⟨rfl,fun j hj=>?_⟩
 generalize hx:t.getD p.length default=x at *
 obtain⟨l1,l2,rfl,c1,c2,c3⟩:=Fl.cut [x] [] j _ l hl (by omega)
 obtain⟨d1,d2,d3,d4,d5,d6⟩:=Fl.cut (p++[x]) r j _ (l1++l2) hl (by omega)
 obtain⟨rfl,rfl⟩:=c1.uniq d4 d3
 obtain⟨u,r2,rfl,u1,_⟩:=Fl.split l2 1 (_-(j+1)) (by rw[show 1+((arS rs x).toNat-(j+1))=(arS rs x).toNat-j by omega];exact c2)
 simp only[List.append_nil,List.length_append,List.length_cons,List.length_nil] at c3 d6
 have e1:x::(l1++(u++r2))=([x]++l1)++(u++r2):=by simp
 have e2:t=(p++[x]++l1)++(u++(r2++r)):=by rw[e];simp
 have c3':nthB rs (x::(l1++(u++r2))) 1 j=([x]++l1).length:=by
  have:[x]++(l1++(u++r2))=x::(l1++(u++r2)):=rfl
  rw[this] at c3
  simp at c3 ⊢;omega
 have d6':nthB rs t (p.length+1) j=(p++[x]++l1).length:=by
  have:p++[x]++(l1++(u++r2)++r)=t:=by rw[e];simp
  rw[this] at d6
  simp at d6 ⊢;omega
 rw[c3',d6']
 conv=>lhs;rw[e1]
 conv=>rhs;rw[e2]
 rw[subS_app u1,subS_app u1]
end
end Go.Proofs.YtkfkdgginfpdnaaGreatDoor
