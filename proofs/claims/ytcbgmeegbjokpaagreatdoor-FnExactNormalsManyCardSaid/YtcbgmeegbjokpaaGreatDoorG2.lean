/-
  S1p, N0p, A03t, A02c, A03, A05p, A28p, A28q, A20, A28, LTy, A28m, A04p, A20p, one behind the other.
-/
import Derived.Test.YtcbgmeegbjokpaaGreatDoorG1
import Derived.Test.YtcbgmeegbjokpaaGreatDoorG0
import Derived.Test.YtcbgmeegbjokpaaGreatDoorLgK6
import Derived.Test.YtcbgmeegbjokpaaGreatDoorLgK4
import Derived.Test.YtcbgmeegbjokpaaGreatDoorLgK7
import Derived.Test.YtcbgmeegbjokpaaGreatDoorSet
import Derived.Test.YtcbgmeegbjokpaaGreatDoorLgK8
namespace Go.Proofs.YtcbgmeegbjokpaaGreatDoor
open Go Go.Lg
set_option linter.unusedSimpArgs false
set_option linter.unusedVariables false
set_option maxHeartbeats 4000000
section
attribute [local irreducible] SW runL runQ runG runQG FC Ret1 RetN toF redoL
theorem nextR_app (n:Int) (x:Int):∀ys:List Int,nextR n (ys++[x])=if (nextR n ys).2=true then ((nextR n ys).1++[x],true) else if x+1<n then ((nextR n ys).1++[x+1],true) else ((nextR n ys).1++[0],false)
 | []=>by simp[nextR]
 | y::r=>by
  have ih:=nextR_app n x r
  simp only[List.cons_append,nextR]
  by_cases hy:y+1<n
  ·simp[hy]
  ·simp only[if_neg hy,ih]
   split
   ·rfl
   ·split<;>rfl
theorem nextR_len (n:Int):∀ys:List Int,(nextR n ys).1.length=ys.length
 | []=>rfl
 | y::r=>by
  simp only[nextR]
  split
  ·rfl
  ·simp[nextR_len n r]
theorem next_nxt (n:Int):∀xs:List Int,nextL n xs=nxtD (List.replicate xs.length (0,n-1)) xs
 | []=>by simp[nextL,nextR,nxtD]
 | x::r=>by
  have ih:=next_nxt n r
  rw[List.length_cons,List.replicate_succ,nxtD_cons,←ih]
  unfold nextL
  rw[List.reverse_cons,nextR_app]
  by_cases h:(nextR n r.reverse).2=true
  ·simp[h]
  ·by_cases hx:x+1<n
   ·simp[h,hx,show x<n-1 by omega]
   ·simp[h,hx,show ¬x<n-1 by omega]
def digs (n k:Nat):List (List Int):=allD (List.replicate k (0,(n:Int)-1))
theorem digs_ok {n k:Nat} (h:0<n∨k=0):SeqD (List.replicate k (0,(n:Int)-1)) (digs n k)∧∃r,digs n k=List.replicate k 0::r:=by
 have hb:∀b∈List.replicate k ((0:Int),(n:Int)-1),b.1≤b.2:=fun b hb=>by
  obtain⟨h1,rfl⟩:=List.mem_replicate.1 hb
  simp only
  omega
 obtain⟨h1,r,h2⟩:=allD_seq hb
 refine⟨h1,r,?_⟩
 have:lowD (List.replicate k ((0:Int),(n:Int)-1))=List.replicate k 0:=by simp[lowD]
 rw[←this];exact h2
theorem digs_dig {n k:Nat} (h:0<n∨k=0):∀l∈digs n k,l.length=k∧∀x∈l,0≤x∧x<n:=fun l hl=>by
 have hb:∀b∈List.replicate k ((0:Int),(n:Int)-1),b.1≤b.2:=fun b hb=>by
  obtain⟨h1,rfl⟩:=List.mem_replicate.1 hb
  simp only
  omega
 have h1:=allD_dig hb l hl
 have h2:=digP_len h1
 rw[List.length_replicate] at h2
 refine⟨h2,fun x hx=>?_⟩
 obtain⟨i,hi,rfl⟩:=List.getElem_of_mem hx
 have h3:=digP_at h1 i (by rw[List.length_replicate];omega)
 rw[List.getD_eq_getElem?_getD,List.getElem?_replicate,if_pos (by omega),List.getD_eq_getElem?_getD,List.getElem?_eq_getElem hi] at h3
 simp only[Option.getD_some] at h3
 omega
theorem digs_next {n k:Nat} {l:List Int} {A:List (List Int)} (hl:l.length=k) (hs:SeqD (List.replicate k (0,(n:Int)-1)) (l::A)):(A=[]∧(nextL n l).2=false)∨∃m A',A=m::A'∧nextL n l=(m,true):=by
 rw[next_nxt,hl]
 cases A with
 | nil=>exact .inl ⟨rfl,by rw[hs]⟩
 | cons m A'=>exact .inr ⟨m,A',rfl,hs.1⟩
section
variable (I:Nat→List (List Int)→Option (List Int)) (sets:List (List Int))
def lstS (l:List Int):List (List Int):=l.map fun q=>sets.getD q.toNat default
def addQ (out:List (List Int)) (s:List Int):List (List Int):=if s∈out then out else out++[s]
def stepO (out:List (List Int)) (e:Nat×List Int):List (List Int):=match I e.1 (lstS sets e.2) with
 | none=>out
 | some s=>addQ out s
def capF:List (Nat×List Int)→List (List Int)→List (List Int)×Bool
 | [],out=>(out,true)
 | e::es,out=>if 16<(stepO I sets out e).length then (stepO I sets out e,false) else capF es (stepO I sets out e)
def trE (e:Nat×List Int) (k:Nat):TransT:=⟨(e.1:Int),e.2,(k:Int)⟩
def trS:List (Nat×List Int)→List TransT
 | []=>[]
 | e::es=>match I e.1 (lstS sets e.2) with
  | none=>trS es
  | some s=>trE e (sets.idxOf s)::trS es
end
variable {I:Nat→List (List Int)→Option (List Int)} {sets:List (List Int)}
theorem addQ_pre (out:List (List Int)) (s:List Int):∃r,addQ out s=out++r:=by
 unfold addQ
 split
 ·exact⟨[],by simp⟩
 ·exact⟨[s],rfl⟩
theorem addQ_mem (out:List (List Int)) (s:List Int):s∈addQ out s:=by
 unfold addQ
 split
 ·assumption
 ·simp
theorem stepO_pre (out:List (List Int)) (e:Nat×List Int):∃r,stepO I sets out e=out++r:=by
 unfold stepO
 split
 ·exact⟨[],by simp⟩
 ·exact addQ_pre _ _
theorem capF_pre:∀(E:List (Nat×List Int)) (out:List (List Int)),∃r,(capF I sets E out).1=out++r
 | [],out=>⟨[],by simp[capF]⟩
 | e::es,out=>by
  obtain⟨r,h⟩:=stepO_pre (I:=I) (sets:=sets) out e
  unfold capF
  split
  ·exact⟨r,h⟩
  ·obtain⟨r',h'⟩:=capF_pre es (stepO I sets out e)
   exact⟨r++r',by rw[h',h,List.append_assoc]⟩
theorem capF_len:∀(E:List (Nat×List Int)) (out:List (List Int)),out.length≤16→(capF I sets E out).2=true→(capF I sets E out).1.length≤16
 | [],out,h,_=>h
 | e::es,out,h,h2=>by
  unfold capF at h2 ⊢
  split at h2
  ·cases h2
  ·rename_i hn
   rw[if_neg hn]
   exact capF_len es _ (by omega) h2
theorem blk_len (A:List (List Int)):∀(n:Nat) (v:Int),(blkD A v n).length=(n+1)*A.length
 | 0,v=>by simp[blkD]
 | n+1,v=>by
  rw[blkD,List.length_append,List.length_map,blk_len A n]
  rw[Nat.add_mul (n+1) 1,Nat.one_mul,Nat.add_comm]
theorem digs_len {n:Nat} (h:0<n):∀k,(digs n k).length=n^k
 | 0=>rfl
 | k+1=>by
  unfold digs
  rw[List.replicate_succ,allD,blk_len]
  have ih:=digs_len h k
  unfold digs at ih
  rw[ih,Nat.pow_succ,Nat.mul_comm]
  congr 1
  omega
end
section
section
variable (I:Nat→List (List Int)→Option (List Int)) (sets:List (List Int))
def capN:List (Nat×List Int)→List (List Int)→List TransT→List (List Int)×List TransT×Bool
 | [],out,rules=>(out,rules,true)
 | e::es,out,rules=>match I e.1 (lstS sets e.2) with
  | none=>capN es out rules
  | some s=>if 16<(addQ out s).length then (addQ out s,[],false) else capN es (addQ out s) (rules++[trE e ((addQ out s).idxOf s)])
end
variable {I:Nat→List (List Int)→Option (List Int)} {sets:List (List Int)}
theorem capN_ok:∀(E:List (Nat×List Int)) (out:List (List Int)) (rules:List TransT),out.length≤16→(capN I sets E out rules).2.2=(capF I sets E out).2∧((capF I sets E out).2=true→(capN I sets E out rules).1=(capF I sets E out).1)
 | [],out,rules,_=>⟨rfl,fun _=>rfl⟩
 | e::es,out,rules,h0=>by
  unfold capN capF stepO
  cases hI:I e.1 (lstS sets e.2) with
  | none =>
   simp only
   rw[if_neg (by omega)]
   exact capN_ok es out rules h0
  | some s =>
   simp only
   by_cases h:16<(addQ out s).length
   ·rw[if_pos h,if_pos h];exact⟨rfl,fun h=>by cases h⟩
   ·rw[if_neg h,if_neg h]
    exact capN_ok es _ _ (by omega)
theorem capN_rules (h0:sets.length≤16):∀(E:List (Nat×List Int)) (rules:List TransT),(capF I sets E sets).2=true→(capF I sets E sets).1.length=sets.length→(capN I sets E sets rules).2.1=rules++trS I sets E
 | [],rules,_,_=>by simp[capN,trS]
 | e::es,rules,h,hl=>by
  unfold capN trS
  unfold capF stepO at h hl
  cases hI:I e.1 (lstS sets e.2) with
  | none =>
   rw[hI] at h hl
   simp only at h hl ⊢
   rw[if_neg (by omega)] at h hl
   exact capN_rules h0 es rules h hl
  | some s =>
   rw[hI] at h hl
   simp only at h hl ⊢
   by_cases hn:16<(addQ sets s).length
   ·rw[if_pos hn] at h;cases h
   ·rw[if_neg hn] at h hl ⊢
    have he:addQ sets s=sets:=by
     obtain⟨r,hr⟩:=capF_pre (I:=I) (sets:=sets) es (addQ sets s)
     obtain⟨r',hr'⟩:=addQ_pre sets s
     rw[hr,hr',List.length_append,List.length_append] at hl
     have:r'=[]:=List.length_eq_zero_iff.1 (by omega)
     rw[hr',this,List.append_nil]
    rw[he] at h hl ⊢
    rw[capN_rules h0 es _ h hl,List.append_assoc]
    rfl
theorem addQ_nodupN {out:List (List Int)} {s:List Int} (h:out.Nodup):(addQ out s).Nodup:=by
 unfold addQ
 split
 ·exact h
 ·rename_i hs
  rw[List.nodup_append]
  exact⟨h,by simp,fun x hx y hy=>by rw[List.mem_singleton.1 hy];exact fun e=>hs (e ▸ hx)⟩
theorem capN_keep {P:List Int→Prop} (hI:∀f l s,I f l=some s→P s):∀(E:List (Nat×List Int)) (out:List (List Int)) (ru:List TransT),(∀s∈out,P s)→out.Nodup→(∀s∈(capN I sets E out ru).1,P s)∧(capN I sets E out ru).1.Nodup
 | [],out,ru,h1,h2=>⟨h1,h2⟩
 | e::es,out,ru,h1,h2=>by
  have key:∀s,I e.1 (lstS sets e.2)=some s→(∀x∈addQ out s,P x)∧(addQ out s).Nodup:=fun s h=>by
   refine⟨fun x hx=>?_,addQ_nodupN h2⟩
   unfold addQ at hx
   split at hx
   ·exact h1 x hx
   ·rcases List.mem_append.1 hx with hx|hx
    ·exact h1 x hx
    ·rw[List.mem_singleton.1 hx];exact hI _ _ _ h
  unfold capN
  cases h:I e.1 (lstS sets e.2) with
  | none=>exact capN_keep hI es out ru h1 h2
  | some s =>
   simp only
   split
   ·exact key s h
   ·exact capN_keep hI es _ _ (key s h).1 (key s h).2
def iterZ (I:Nat→List (List Int)→Option (List Int)) (E:Nat→List (Nat×List Int)):Nat→List (List Int)→List (List Int)×Bool
 | 0,s=>(s,false)
 | k+1,s=>if (capF I s (E s.length) s).2=true then (if (capF I s (E s.length) s).1.length=s.length then (s,true) else iterZ I E k (capF I s (E s.length) s).1) else (s,false)
def iterA (I:Nat→List (List Int)→Option (List Int)) (E:Nat→List (Nat×List Int)):Nat→List (List Int)→List (List Int)×List TransT×Bool
 | 0,s=>(s,[],false)
 | k+1,s=>if (capN I s (E s.length) s []).2.2=true∧(capN I s (E s.length) s []).1.length≠s.length then iterA I E k (capN I s (E s.length) s []).1 else capN I s (E s.length) s []
theorem iterZ_le {E:Nat→List (Nat×List Int)}:∀(k:Nat) (s:List (List Int)),s.length≤16→(iterZ I E k s).1.length≤16
 | 0,s,h=>h
 | k+1,s,h=>by
  unfold iterZ
  split
  ·rename_i h1
   split
   ·exact h
   ·exact iterZ_le k _ (capF_len _ _ h h1)
  ·exact h
theorem iterA_eq {E:Nat→List (Nat×List Int)}:∀(k:Nat) (s:List (List Int)),s.length≤16→(iterA I E k s).2.2=(iterZ I E k s).2∧((iterZ I E k s).2=true→(iterA I E k s).1=(iterZ I E k s).1∧(iterA I E k s).2.1=trS I (iterZ I E k s).1 (E (iterZ I E k s).1.length))
 | 0,s,_=>⟨rfl,fun h=>by cases h⟩
 | k+1,s,h16=>by
  obtain⟨h1,h2⟩:=capN_ok (I:=I) (sets:=s) (E s.length) s [] h16
  unfold iterA iterZ
  rw[h1]
  by_cases hF:(capF I s (E s.length) s).2=true
  ·rw[if_pos hF,h2 hF]
   by_cases hl:(capF I s (E s.length) s).1.length=s.length
   ·rw[if_neg (fun h=>h.2 hl),if_pos hl]
    obtain⟨r,hr⟩:=capF_pre (I:=I) (sets:=s) (E s.length) s
    have he:(capF I s (E s.length) s).1=s:=by
     rw[hr,List.length_append] at hl
     have:r=[]:=List.length_eq_zero_iff.1 (by omega)
     rw[hr,this,List.append_nil]
    refine⟨by rw[h1];exact hF,fun _=>⟨by rw[h2 hF,he],?_⟩⟩
    have:=capN_rules (I:=I) h16 (E s.length) [] hF hl
    simpa using this
   ·rw[if_pos ⟨hF,hl⟩,if_neg hl]
    exact iterA_eq k _ (capF_len _ _ h16 hF)
  ·rw[if_neg hF,if_neg (fun h=>hF h.1)]
   have hf:(capF I s (E s.length) s).2=false:=by simpa using hF
   exact⟨by rw[h1];exact hf,fun h=>by cases h⟩
end
section
inductive Fl (rs:List Int):Nat→List Int→Prop
 | nil:Fl rs 0 []
 | cons {n:Int} {k:Nat} {l:List Int} (h:0≤arS rs n) (r:Fl rs (k+(arS rs n).toNat) l):Fl rs (k+1) (n::l)
theorem Fl.zero {rs l:List Int} (h:Fl rs 0 l):l=[]:=by
 generalize e:(0:Nat)=k at h
 cases h with
 | nil=>rfl
 | cons _ _=>omega
theorem Fl.len {rs l:List Int} {k:Nat} (h:Fl rs k l):k≤l.length:=by
 induction h with
 | nil=>exact Nat.le_refl _
 | cons _ _ ih=>simp only[List.length_cons];omega
theorem Fl.app {rs l:List Int} {j:Nat} (h:Fl rs j l):∀ {k:Nat} {m:List Int},Fl rs k m→Fl rs (j+k) (l++m):=by
 induction h with
 | nil=>intro k m hm;rw[Nat.zero_add];exact hm
 | @cons n i l h r ih =>
  intro k m hm
  have:=ih hm
  rw[show i+1+k=(i+k)+1 by omega]
  exact .cons h (by rw[show i+k+(arS rs n).toNat=i+(arS rs n).toNat+k by omega];exact this)
theorem Fl.split {rs:List Int}:∀(l:List Int) (j k:Nat),Fl rs (j+k) l→∃l1 l2,l=l1++l2∧Fl rs j l1∧Fl rs k l2
 | [],j,k,h=>by
  have:=h.len
  simp only[List.length_nil] at this
  obtain rfl:j=0:=by omega
  obtain rfl:k=0:=by omega
  exact⟨[],[],rfl,.nil,.nil⟩
 | n::l,0,k,h=>⟨[],n::l,rfl,.nil,by rw[Nat.zero_add] at h;exact h⟩
 | n::l,j+1,k,h=>by
  rw[show j+1+k=(j+k)+1 by omega] at h
  cases h with
  | cons h r =>
   rw[show j+k+(arS rs n).toNat=(j+(arS rs n).toNat)+k by omega] at r
   obtain⟨l1,l2,e,h1,h2⟩:=Fl.split l _ _ r
   exact⟨n::l1,l2,by rw[e];rfl,.cons h h1,h2⟩
theorem Fl.scan {rs:List Int} {k:Nat} {l:List Int} (h:Fl rs k l):∀(r:List Int) (i:Nat),1≤k→Go.Proofs.YtcbgmeegbjokpaaGreatDoor.scan rs (l++r) k i=i+l.length:=by
 induction h with
 | nil=>intro r i h0;omega
 | @cons n k l h hr ih =>
  intro r i _
  simp only[List.cons_append,Go.Proofs.YtcbgmeegbjokpaaGreatDoor.scan]
  rw[if_neg (by omega)]
  by_cases e:k+(arS rs n).toNat=0
  ·rw[if_pos (by omega)]
   rw[e] at hr
   rw[hr.zero]
   simp
  ·rw[if_neg (by omega)]
   have:=ih r (i+1) (by omega)
   rw[show ((k+1:Nat):Int)+arS rs n-1=((k+(arS rs n).toNat:Nat):Int) by omega,this]
   simp only[List.length_cons];omega
theorem scan_fl {rs:List Int}:∀(l:List Int) (k i:Nat) (e:Int),1≤k→scan rs l k i=e→0≤e→∃l1 l2,l=l1++l2∧Fl rs k l1∧e=i+l1.length
 | [],k,i,e,_,h,he=>by simp only[scan] at h;omega
 | n::l,k,i,e,hk,h,he=>by
  simp only[scan] at h
  split at h
  ·omega
  ·rename_i h0
   obtain⟨k,rfl⟩:∃q,k=q+1:=⟨k-1,by omega⟩
   split at h
   ·rename_i h1
    obtain⟨rfl,h3⟩:k=0∧arS rs n=0:=by omega
    exact⟨[n],l,rfl,.cons (by omega) (by rw[h3];exact .nil),by simp;omega⟩
   ·rename_i h1
    obtain⟨l1,l2,e1,e2,e3⟩:=scan_fl l (k+(arS rs n).toNat) (i+1) e (by omega) (by rw[←h];congr 1;omega) he
    exact⟨n::l1,l2,by rw[e1];rfl,.cons (by omega) e2,by simp only[List.length_cons];omega⟩
theorem Fl.uniq {rs:List Int} {k:Nat} {l:List Int} (h:Fl rs k l):∀ {m r s:List Int},Fl rs k m→l++r=m++s→l=m∧r=s:=by
 induction h with
 | nil=>intro m r s hm e;rw[hm.zero] at e ⊢;exact⟨rfl,e⟩
 | @cons n k l h hr ih =>
  intro m r s hm e
  cases hm with
  | @cons n' _ m h' hr' =>
   simp only[List.cons_append,List.cons.injEq] at e
   obtain⟨rfl,e⟩:=e
   obtain⟨rfl,rfl⟩:=ih hr' e
   exact⟨rfl,rfl⟩
theorem Fl.pre {rs:List Int} {k:Nat} {l:List Int} (h:Fl rs k l) {m:List Int} (hm:Fl rs k m) {r:List Int} (e:l=m++r):l=m∧r=[]:=by
 have:=Fl.uniq h hm (r:=[]) (s:=r) (by simpa using e)
 exact⟨this.1,this.2.symm⟩
theorem termOk_fl {rs t:List Int} (h:TermOkP rs t):Fl rs 1 t:=by
 obtain⟨_,_,h3⟩:=h
 unfold endS at h3
 rw[List.drop_zero] at h3
 obtain⟨l1,l2,e1,e2,e3⟩:=scan_fl t 1 0 _ (by omega) h3 (by omega)
 have:l2=[]:=by
  have:=congrArg List.length e1
  rw[List.length_append] at this
  exact List.length_eq_zero_iff.1 (by omega)
 rw[e1,this,List.append_nil];exact e2
theorem fl_termOk {rs t:List Int} (hs:SigOkP rs) (h:Fl rs 1 t) (hl:t.length≤60):TermOkP rs t:=by
 refine⟨hs,⟨h.len,hl⟩,?_⟩
 have:=h.scan [] 0 (by omega)
 unfold endS
 rw[List.drop_zero]
 simpa using this
theorem endS_app {rs:List Int} {p u r:List Int} (h:Fl rs 1 u):endS rs (p++(u++r)) p.length=p.length+u.length:=by
 unfold endS
 rw[List.drop_left]
 exact h.scan r p.length (by omega)
theorem Fl.at {rs:List Int}:∀(l:List Int) (k a:Nat),Fl rs k l→a<l.length→∃p u r,l=p++(u++r)∧p.length=a∧Fl rs 1 u
 | [],_,a,_,ha=>absurd ha (Nat.not_lt_zero _)
 | n::l,k,0,h,_=>by
  obtain⟨k,rfl⟩:∃q,k=q+1:=by cases h;exact⟨_,rfl⟩
  obtain⟨l1,l2,e,h1,_⟩:=Fl.split (n::l) 1 k (by rw[Nat.add_comm];exact h)
  exact⟨[],l1,l2,e,rfl,h1⟩
 | n::l,k,a+1,h,ha=>by
  cases h with
  | cons h r =>
   obtain⟨p,u,s,e,hp,hu⟩:=Fl.at l _ a r (by simpa using ha)
   exact⟨n::p,u,s,by rw[e];rfl,by simp[hp],hu⟩
theorem TermOkP.at {rs t:List Int} (h:TermOkP rs t) {a:Nat} (ha:a<t.length):∃p u r,t=p++(u++r)∧p.length=a∧Fl rs 1 u:=Fl.at t 1 a (termOk_fl h) ha
def subS (rs t:List Int) (a:Nat):List Int:=(t.take (endS rs t a).toNat).drop a
theorem subS_app {rs p u r:List Int} (h:Fl rs 1 u):subS rs (p++(u++r)) p.length=u:=by
 unfold subS
 rw[endS_app h,show ((p.length:Int)+u.length).toNat=p.length+u.length by omega,←List.append_assoc,List.take_left' (by simp),List.drop_left]
theorem subS_ok {rs t:List Int} (h:TermOkP rs t) {a:Nat} (ha:a<t.length):TermOkP rs (subS rs t a):=by
 obtain⟨p,u,r,rfl,rfl,hu⟩:=h.at ha
 rw[subS_app hu]
 refine fl_termOk h.1 hu ?_
 have:=h.2.1.2
 simp only[List.length_append] at this
 omega
theorem endS_ge {rs t:List Int} (h:TermOkP rs t) {a:Nat} (ha:a<t.length):a<endS rs t a∧endS rs t a≤t.length:=by
 obtain⟨p,u,r,rfl,rfl,hu⟩:=h.at ha
 rw[endS_app hu]
 have:=hu.len
 simp only[List.length_append]
 omega
def begS (rs t:List Int):Nat→Nat→List Nat
 | 0,_=>[]
 | k+1,a=>a::begS rs t k (endS rs t a).toNat
def argsS (rs t:List Int) (a:Nat):List Nat:=begS rs t (arS rs (t.getD a default)).toNat (a+1)
theorem begS_length (rs t:List Int):∀k a,(begS rs t k a).length=k
 | 0,_=>rfl
 | k+1,a=>by simp[begS,begS_length rs t k]
theorem begS_fl {rs:List Int}:∀(k:Nat) (p l r:List Int),Fl rs k l→∀x∈begS rs (p++(l++r)) k p.length,p.length≤x∧x<(p++l).length
 | 0,_,_,_,_,x,hx=>by cases hx
 | k+1,p,l,r,h,x,hx=>by
  obtain⟨l1,l2,rfl,h1,h2⟩:=Fl.split l 1 k (by rw[Nat.add_comm];exact h)
  have hl:=h1.len
  simp only[begS,List.mem_cons] at hx
  rcases hx with rfl|hx
  ·simp only[List.length_append];omega
  ·rw[List.append_assoc,endS_app h1,show ((p.length:Int)+l1.length).toNat=(p++l1).length by simp;omega,←List.append_assoc p l1 (l2++r)] at hx
   have:=begS_fl k (p++l1) l2 r h2 x hx
   simp only[List.length_append] at this ⊢
   omega
def nthB (rs t:List Int) (a:Nat):Nat→Nat
 | 0=>a
 | j+1=>(endS rs t (nthB rs t a j)).toNat
theorem nthB_shift (rs t:List Int) (a:Nat):∀j,nthB rs t a (j+1)=nthB rs t (endS rs t a).toNat j
 | 0=>rfl
 | j+1=>by
  show (endS rs t (nthB rs t a (j+1))).toNat=_
  rw[nthB_shift rs t a j]
  rfl
theorem begS_snoc (rs t:List Int):∀(k a:Nat),begS rs t (k+1) a=begS rs t k a++[nthB rs t a k]
 | 0,a=>rfl
 | k+1,a=>by
  show a::begS rs t (k+1) (endS rs t a).toNat=_
  rw[begS_snoc rs t k,nthB_shift]
  rfl
theorem begS_get (rs t:List Int):∀(k a j:Nat),j<k→(begS rs t k a).getD j default=nthB rs t a j
 | 0,_,_,h=>absurd h (Nat.not_lt_zero _)
 | k+1,a,0,_=>rfl
 | k+1,a,j+1,h=>by
  rw[nthB_shift,←begS_get rs t k _ j (by omega)]
  rfl
theorem Fl.cut {rs:List Int} (p r:List Int):∀(j:Nat) (k:Nat) (l:List Int),Fl rs k l→j≤k→∃l1 l2,l=l1++l2∧Fl rs j l1∧Fl rs (k-j) l2∧nthB rs (p++(l++r)) p.length j=(p++l1).length
 | 0,k,l,h,_=>⟨[],l,rfl,.nil,by simpa using h,by simp[nthB]⟩
 | j+1,k,l,h,hj=>by
  obtain⟨l1,l2,rfl,h1,h2,h3⟩:=Fl.cut p r j k l h (by omega)
  obtain⟨m1,m2,rfl,h4,h5⟩:=Fl.split l2 1 (k-(j+1)) (by rw[show 1+(k-(j+1))=k-j by omega];exact h2)
  refine⟨l1++m1,m2,by simp,h1.app h4,h5,?_⟩
  have e:p++(l1++(m1++m2)++r)=(p++l1)++(m1++(m2++r)):=by simp
  show (endS rs _ (nthB rs _ _ j)).toNat=_
  rw[h3,e,endS_app h4]
  simp only[List.length_append];omega
theorem args_cut {rs t:List Int} (h:TermOkP rs t) {a:Nat} (ha:a<t.length):∃p l r,t=p++(t.getD a default::l++r)∧p.length=a∧0≤arS rs (t.getD a default)∧Fl rs (arS rs (t.getD a default)).toNat l:=by
 obtain⟨p,u,r,e,rfl,hu⟩:=h.at ha
 cases hu with
 | @cons n k l h0 hr =>
  have hn:t.getD p.length default=n:=by rw[e];simp[List.getD]
  rw[hn]
  exact⟨p,l,r,by rw[e],rfl,h0,by rw[Nat.zero_add] at hr;exact hr⟩
theorem argsS_lt {rs t:List Int} (h:TermOkP rs t) {a:Nat} (ha:a<t.length):∀x∈argsS rs t a,a<x∧x<t.length:=by
 obtain⟨p,l,r,e,rfl,h0,hl⟩:=args_cut h ha
 intro x hx
 unfold argsS at hx
 have e2:t=(p++[t.getD p.length default])++(l++r):=by simpa using e
 have hlen:(p++[t.getD p.length default]).length=p.length+1:=by simp
 have:=begS_fl _ (p++[t.getD p.length default]) l r hl x (by rw[←e2,hlen];exact hx)
 have h3:=congrArg List.length e2
 simp only[List.length_append,List.length_cons,List.length_nil] at this h3
 omega
theorem nthB_lt {rs t:List Int} (h:TermOkP rs t) {a:Nat} (ha:a<t.length) {j:Nat} (hj:j<(arS rs (t.getD a default)).toNat):a<nthB rs t (a+1) j∧nthB rs t (a+1) j<t.length:=by
 rw[←begS_get rs t _ (a+1) j hj]
 exact argsS_lt h ha _ (getD_mem _ _ (by unfold argsS;rw[begS_length];exact hj))
theorem nthB_le {rs t:List Int} (h:TermOkP rs t) {a:Nat} (ha:a<t.length):∀ {j:Nat},j≤(arS rs (t.getD a default)).toNat→a<nthB rs t (a+1) j∧nthB rs t (a+1) j≤t.length
 | 0,_=>by simp only[nthB];omega
 | j+1,hj=>by
  obtain⟨h1,h2⟩:=nthB_lt h ha (show j<_ by omega)
  have:=endS_ge h h2
  simp only[nthB]
  omega
end
section
attribute [local irreducible] SW runL runQ runG runQG FC LopsW
end
section
attribute [local irreducible] SW runL runQ runG runQG FC Ret1
def natD (n:Nat):D:=.int .i64 n
attribute [go_sem] natD
theorem arS_low {rs:List Int} {x:Int} (h:0≤arS rs x):-24≤x∧x<rs.length:=by
 unfold arS at h
 split at h
 ·have:0≤(rs.length:Int):=by omega
  omega
 ·split at h
  ·omega
  ·omega
theorem TermOkP.ar {rs t:List Int} (h:TermOkP rs t):∀x∈t,0≤arS rs x:=fun x hx=>by
 have:=h.2.2
 unfold endS at this
 rw[List.drop_zero] at this
 exact scan_all (rs:=rs) t 1 0 (by omega) x hx
theorem TermOkP.low {rs t:List Int} (h:TermOkP rs t) {a:Nat} (ha:a<t.length):(-24≤t.getD a default∧t.getD a default<rs.length)∧0≤arS rs (t.getD a default)∧arS rs (t.getD a default)≤3 :=
 ⟨arS_low (h.ar _ (getD_mem t a ha)),h.ar _ (getD_mem t a ha),(arS_rng h.1 _).2⟩
theorem copyQ_fc (tk:Tk) (xs:List Int) (hl:xs.length≤17592186044416):FC S 59 [] [] [] [.sl tk (xs.map (.int .i64))] (.sl .any (xs.map (.int .i64))) [] [] :=
 (l1Copy_fc tk xs hl).weak .any (by simp) (by simp)
def kp63:List (Nat×List Nat):=[(0,[1,2,3]),(1,[6])]
attribute [go_sem] kp63 Tryz.results63 Tryz.ntmps63
theorem l1Sub_fc (tk tk':Tk) (rs t:List Int) (a:Nat) (hT:TermOkP rs t) (ha:a<t.length):FC S 63 [] [] [] [.agg [.sl tk (rs.map (.int .i64))],.sl tk' (t.map (.int .i64)),.int .i64 a] (.sl .any ((subS rs t a).map (.int .i64))) [] []:=by
 have he:=endS_ge hT ha
 have hl:=hT.2.1.2
 refine fcb Tryz.func63 fun B=>?_
 refine sw_bndg 1 fun hb1=>?_
 repeat' first|refine sw_n ?_|refine sw_go 0 kp63 fun K hK=>?_|refine fun (K:KT) (hK:KOk S 0 _ _ _ K)=>?_|refine runL_g ?_|refine sw_retg0 ?_|refine sw_retg ?_|(refine hK.n0 ?_;clear hK K)|refine sw_loopEnd ?_|refine hK.c1 rfl rfl rfl (l1End_fc _ _ rs t a hT.1 hl (by omega)) ?_|refine hK.c1 rfl rfl rfl (copyQ_fc _ (subS rs t a) (by unfold subS;simp;omega)) ?_|with_reducible refine and_o ?_|apply tTT
def kp111:List (Nat×List Nat):=[(0,[1,2,3]),(1,[1,2,3,7]),(2,[1,2,3,7,8]),(3,[1,3,7,8,9]),(4,[1,3,7,8,9,20]),(6,[1,3,7,8,9]),(7,[1,3,7,8,9]),(5,[1,3,7,8,9]),(8,[6])]
attribute [go_sem] kp111 Tryz.results111 Tryz.ntmps111
theorem l1Args_fc (tk tk':Tk) (rs t:List Int) (a:Nat) (hT:TermOkP rs t) (ha:a<t.length):FC S 111 [] [] [] [.agg [.sl tk (rs.map (.int .i64))],.sl tk' (t.map (.int .i64)),.int .i64 a] (.sl .any ((argsS rs t a).map natD)) [] []:=by
 have hl:=hT.2.1.2
 have hlo:=hT.low ha
 obtain⟨n,hn⟩:∃n:Nat,arS rs (t.getD a default)=n:=⟨(arS rs (t.getD a default)).toNat,by omega⟩
 have hlt:∀j<n,a<nthB rs t (a+1) j∧nthB rs t (a+1) j<t.length:=fun j hj=>nthB_lt hT ha (by omega)
 have hle:∀j≤n,a<nthB rs t (a+1) j∧nthB rs t (a+1) j≤t.length:=fun j hj=>nthB_le hT ha (by omega)
 unfold argsS
 rw[hn,Int.toNat_natCast]
 refine FC.args (args':=[.agg [.sl .any (rs.map (.int .i64))],.sl .any (t.map (.int .i64)),.int .i64 a]) ?_ (by simp only[go_sem])
 refine fcb Tryz.func111 fun B=>?_
 refine sw_bndg 1 fun hb1=>?_
 repeat' first|exact h.elim|refine sw_n ?_|refine sw_go 0 kp111 fun K hK=>?_|refine fun (K:KT) (hK:KOk S 0 _ _ _ K)=>?_|refine sw_goD kp111 (by kernel_rfl) fun K hK=>?_|refine runL_g ?_|refine runQ_g ?_|refine sw_retg0 ?_|refine sw_retg ?_|(refine hK.n0 ?_;clear hK K)|refine sw_condg rfl (fun h=>?_) fun h=>?_|refine sw_exit rfl ?_|refine sw_loopEnd ?_|refine hK.c1 rfl rfl rfl (l1Arity_fc _ rs _) ?_|with_reducible refine and_o ?_|((with_reducible refine And.intro ?_ ?_);· first|(intro x hx;subst hx;rfl)|(intro x;refine And.intro ?_ ?_<;>(intros;subst_vars;rfl)))|apply tTT
 rw[hn]
 refine sw_tok 7 27000 2 1 rfl (.inr rfl) rfl ?_
 simp only[go_sem]
 refine sw_loopT (ι:=Nat) (fun j=>[(9,.int .i64 (n-j:Int)),(8,.int .i64 (nthB rs t (a+1) j)),(7,.sl (.own 27000 2 1) ((begS rs t j (a+1)).map natD))]) (fun _=>[]) (fun _=>[27000]) (fun j=>j≤n) (fun j=>n-j) 0 (by(refine covers_mk0 rfl rfl ?_ ?_ ?_ ?_<;>simp (disch:=(refine Om.mk ?_;omega)) only[go_sem]<;>(try omega));simp[nthB,begS]) (by omega) (fun j hj=>?_)
 simp only[go_sem]
 have hb:=begS_length rs t j (a+1)
 have h3:=hle j hj
 have h4:=hlt j
 have h5:j<n→((endS rs t (nthB rs t (a+1) j)).toNat:Int)=endS rs t (nthB rs t (a+1) j):=fun hj=>by have:=endS_ge hT (h4 hj).2;omega
 repeat' first|exact h.elim|refine sw_n ?_|refine sw_go 0 kp111 fun K hK=>?_|refine fun (K:KT) (hK:KOk S 0 _ _ _ K)=>?_|refine sw_goD kp111 (by kernel_rfl) fun K hK=>?_|refine runL_g ?_|refine runQ_g ?_|refine sw_retg0 ?_|refine sw_retg ?_|(refine hK.n0 ?_;clear hK K)|refine sw_condg rfl (fun h=>?_) fun h=>?_|refine sw_exit rfl ?_|refine sw_loopEnd ?_|refine hK.c1 rfl rfl rfl (l1End_fc _ _ rs t (nthB rs t (a+1) j) hT.1 hl (by omega)) ?_|with_reducible refine and_o ?_|((with_reducible refine And.intro ?_ ?_);· first|(intro x hx;subst hx;rfl)|(intro x;refine And.intro ?_ ?_<;>(intros;subst_vars;rfl)))|apply tTT
 ·refine⟨j+1,(by(refine covers_mk0 rfl rfl ?_ ?_ ?_ ?_<;>simp (disch:=(refine Om.mk ?_;omega)) only[go_sem]<;>(try omega));have:=h5 (by omega);simp only[nthB,begS_snoc,List.map_append,List.map_cons,List.map_nil,natD];exact⟨trivial,this.symm,by omega⟩),by omega,by omega⟩
 ·rw[show j=n by omega]
def kp95:List (Nat×List Nat):=[(0,[1,2,3]),(1,[6])]
attribute [go_sem] kp95 Tryz.results95 Tryz.ntmps95
theorem subAt_fc (tk tk':Tk) (rs t:List Int) (a:Nat) (hT:TermOkP rs t) (ha:a<t.length):FC S 95 [] [] [] [.agg [.sl tk (rs.map (.int .i64))],.sl tk' (t.map (.int .i64)),.int .i64 a] (.sl .any ((subS rs t a).map (.int .i64))) [] []:=by
 have he:=endS_ge hT ha
 have hl:=hT.2.1.2
 refine fcb Tryz.func95 fun B=>?_
 refine sw_bndg 1 fun hb1=>?_
 repeat' first|refine sw_n ?_|refine sw_go 0 kp95 fun K hK=>?_|refine runL_g ?_|refine sw_retg0 ?_|(refine hK.n0 ?_;clear hK K)|refine hK.c1 rfl rfl rfl (endAt_fc _ _ rs t a hT.1 hT.ge hl (by omega)) ?_|with_reducible refine and_o ?_|apply tTT
 rfl
def kp119:List (Nat×List Nat):=[(0,[1,2,3]),(1,[1,2,3,7]),(2,[1,2,3,7,8]),(3,[1,3,7,8,9]),(4,[1,3,7,8,9,19]),(6,[1,3,7,8,9]),(7,[1,3,7,8,9]),(5,[1,3,7,8,9]),(8,[6])]
attribute [go_sem] kp119 Tryz.results119 Tryz.ntmps119
theorem argsAt_fc (tk tk':Tk) (rs t:List Int) (a:Nat) (hT:TermOkP rs t) (ha:a<t.length):FC S 119 [] [] [] [.agg [.sl tk (rs.map (.int .i64))],.sl tk' (t.map (.int .i64)),.int .i64 a] (.sl .any ((argsS rs t a).map natD)) [] []:=by
 have hl:=hT.2.1.2
 have hlo:=hT.low ha
 obtain⟨n,hn⟩:∃n:Nat,arS rs (t.getD a default)=n:=⟨(arS rs (t.getD a default)).toNat,by omega⟩
 have hlt:∀j<n,a<nthB rs t (a+1) j∧nthB rs t (a+1) j<t.length:=fun j hj=>nthB_lt hT ha (by omega)
 have hle:∀j≤n,a<nthB rs t (a+1) j∧nthB rs t (a+1) j≤t.length:=fun j hj=>nthB_le hT ha (by omega)
 unfold argsS
 rw[hn,Int.toNat_natCast]
 refine FC.args (args':=[.agg [.sl .any (rs.map (.int .i64))],.sl .any (t.map (.int .i64)),.int .i64 a]) ?_ (by simp only[go_sem])
 refine fcb Tryz.func119 fun B=>?_
 refine sw_bndg 1 fun hb1=>?_
 repeat' first|refine sw_n ?_|refine sw_go 0 kp119 fun K hK=>?_|refine sw_goD kp119 (by kernel_rfl) fun K hK=>?_|refine runL_g ?_|refine runQ_g ?_|(refine hK.n0 ?_;clear hK K)|refine hK.c1 rfl rfl rfl (arityAt_fc _ rs _ hlo.1) ?_|with_reducible refine and_o ?_|apply tTT
 rw[hn]
 refine sw_tok 7 26000 3 1 rfl (.inl rfl) rfl ?_
 simp only[go_sem]
 refine sw_loopT (ι:=Nat) (fun j=>[(9,.int .i64 (n-j:Int)),(8,.int .i64 (nthB rs t (a+1) j)),(7,.sl (.own 26000 3 1) ((begS rs t j (a+1)).map natD))]) (fun _=>[]) (fun _=>[26000]) (fun j=>j≤n) (fun j=>n-j) 0 (by(refine covers_mk0 rfl rfl ?_ ?_ ?_ ?_<;>simp (disch:=(refine Om.mk ?_;omega)) only[go_sem]<;>(try omega));simp[nthB,begS]) (by omega) (fun j hj=>?_)
 simp only[go_sem]
 have hb:=begS_length rs t j (a+1)
 have h3:=hle j hj
 have h4:=hlt j
 have h5:j<n→((endS rs t (nthB rs t (a+1) j)).toNat:Int)=endS rs t (nthB rs t (a+1) j):=fun hj=>by have:=endS_ge hT (h4 hj).2;omega
 repeat' first|exact h.elim|refine sw_n ?_|refine sw_go 0 kp119 fun K hK=>?_|refine runL_g ?_|refine sw_retg0 ?_|(refine hK.n0 ?_;clear hK K)|refine sw_condg rfl (fun h=>?_) fun h=>?_|refine sw_exit rfl ?_|refine sw_loopEnd ?_|refine hK.c1 rfl rfl rfl (endAt_fc _ _ rs t (nthB rs t (a+1) j) hT.1 hT.ge hl (by omega)) ?_|with_reducible refine and_o ?_|apply tTT
 ·refine⟨j+1,(by(refine covers_mk0 rfl rfl ?_ ?_ ?_ ?_<;>simp (disch:=(refine Om.mk ?_;omega)) only[go_sem]<;>(try omega));have:=h5 (by omega);simp only[nthB,begS_snoc,List.map_append,List.map_cons,List.map_nil,natD];exact⟨trivial,this.symm,by omega⟩),by omega,by omega⟩
 ·rw[show j=n by omega]
end
section
def SameHd (a b:List Int):Prop:=a.getD 0 default=b.getD 0 default∧0≤a.getD 0 default
instance (a b:List Int):Decidable (SameHd a b):=inferInstanceAs (Decidable (_∧_))
theorem sub_sub {rs t:List Int} (h:TermOkP rs t) {i:Nat} (hi:i<t.length):(subS rs t i).getD 0 default=t.getD i default∧∀j<(arS rs (t.getD i default)).toNat,subS rs (subS rs t i) (nthB rs (subS rs t i) 1 j)=subS rs t (nthB rs t (i+1) j):=by
 obtain⟨p,l,r,e,rfl,h0,hl⟩:=args_cut h hi
 have hu:Fl rs 1 (t.getD p.length default::l):=by
  have:Fl rs (0+1) (t.getD p.length default::l):=.cons h0 (by rw[Nat.zero_add];exact hl)
  rwa [Nat.zero_add] at this
 have es:subS rs t p.length=t.getD p.length default::l:=by
  conv=>lhs;rw[e]
  exact subS_app hu
 rw[es]
 refine⟨rfl,fun j hj=>?_⟩
 generalize hx:t.getD p.length default=x at *
 obtain⟨l1,l2,rfl,c1,c2,c3⟩:=Fl.cut [x] [] j _ l hl (by omega)
 obtain⟨d1,d2,d3,d4,d5,d6⟩:=Fl.cut (p++[x]) r j _ (l1++l2) hl (by omega)
 obtain⟨rfl,rfl⟩:=c1.uniq d4 d3
 obtain⟨u,r2,rfl,u1,_⟩:=Fl.split l2 1 (_-(j+1)) (by rw[show 1+((arS rs x).toNat-(j+1))=(arS rs x).toNat-j by omega];exact c2)
 simp only[List.append_nil,List.length_append,List.length_cons,List.length_nil] at c3 d6
 have e1:x::(l1++(u++r2))=([x]++l1)++(u++r2):=by simp
 have e2:t=(p++[x]++l1)++(u++(r2++r)):=by rw[e];simp
 have c3':nthB rs (x::(l1++(u++r2))) 1 j=([x]++l1).length:=by
  have:[x]++(l1++(u++r2))=x::(l1++(u++r2)):=rfl
  rw[this] at c3
  simp at c3 ⊢;omega
 have d6':nthB rs t (p.length+1) j=(p++[x]++l1).length:=by
  have:p++[x]++(l1++(u++r2)++r)=t:=by rw[e];simp
  rw[this] at d6
  simp at d6 ⊢;omega
 rw[c3',d6']
 conv=>lhs;rw[e1]
 conv=>rhs;rw[e2]
 rw[subS_app u1,subS_app u1]
def lexB:List Int→List Int→Bool
 | a::r,b::s=>if a=b then lexB r s else decide (a<b)
 | [],_::_=>true
 | _,[]=>false
theorem lexB_irr:∀a:List Int,lexB a a=false
 | []=>rfl
 | a::r=>by simp[lexB,lexB_irr r]
theorem lexB_tri:∀a b:List Int,lexB a b=true∨a=b∨lexB b a=true
 | [],[]=>.inr (.inl rfl)
 | [],b::s=>.inl rfl
 | a::r,[]=>.inr (.inr rfl)
 | a::r,b::s=>by
  by_cases h:a=b
  ·subst h
   rcases lexB_tri r s with h|h|h
   ·exact .inl (by simp[lexB,h])
   ·exact .inr (.inl (by rw[h]))
   ·exact .inr (.inr (by simp[lexB,h]))
  ·by_cases h2:a<b
   ·exact .inl (by simp[lexB,h,h2])
   ·exact .inr (.inr (by simp[lexB,Ne.symm h];omega))
theorem lexB_trans:∀a b c:List Int,lexB a b=true→lexB b c=true→lexB a c=true
 | [],[],_,h,_=>by simp[lexB] at h
 | a::r,[],_,h,_=>by simp[lexB] at h
 | _,b::s,[],_,h=>by simp[lexB] at h
 | [],b::s,c::q,_,_=>rfl
 | a::r,b::s,c::q,h1,h2=>by
  simp only[lexB] at h1 h2 ⊢
  split at h1<;>split at h2
  ·rename_i e1 e2
   subst e1;subst e2
   simp[lexB_trans r s q h1 h2]
  ·rename_i e1 e2
   subst e1
   rw[if_neg e2];exact h2
  ·rename_i e1 e2
   subst e2
   rw[if_neg e1];exact h1
  ·simp only[decide_eq_true_eq] at h1 h2
   rw[if_neg (by omega)]
   simp only[decide_eq_true_eq];omega
def lessT (a b:List Int):Bool:=if a.length=b.length then lexB a b else decide (a.length<b.length)
theorem lessT_irr (a:List Int):lessT a a=false:=by simp[lessT,lexB_irr]
theorem lessT_tri (a b:List Int):lessT a b=true∨a=b∨lessT b a=true:=by
 unfold lessT
 by_cases h:a.length=b.length
 ·rw[if_pos h,if_pos h.symm];exact lexB_tri a b
 ·rw[if_neg h,if_neg (Ne.symm h)]
  simp only[decide_eq_true_eq]
  omega
theorem lessT_trans (a b c:List Int) (h1:lessT a b=true) (h2:lessT b c=true):lessT a c=true:=by
 unfold lessT at *
 split at h1<;>split at h2
 ·rw[if_pos (by omega)];exact lexB_trans a b c h1 h2
 ·simp only[decide_eq_true_eq] at h2
  rw[if_neg (by omega)];simp only[decide_eq_true_eq];omega
 ·simp only[decide_eq_true_eq] at h1
  rw[if_neg (by omega)];simp only[decide_eq_true_eq];omega
 ·simp only[decide_eq_true_eq] at h1 h2
  rw[if_neg (by omega)];simp only[decide_eq_true_eq];omega
theorem lessT_asym {a b:List Int} (h:lessT a b=true):lessT b a=false:=by
 cases h2:lessT b a with
 | false=>rfl
 | true=>have:=lessT_trans a b a h h2;rw[lessT_irr] at this;cases this
theorem lessT_anti {a b:List Int} (h1:lessT a b=false) (h2:lessT b a=false):a=b:=by
 rcases lessT_tri a b with h|h|h
 ·rw[h1] at h;cases h
 ·exact h
 ·rw[h2] at h;cases h
theorem lessT_ntrans (a b c:List Int) (h1:lessT a b=false) (h2:lessT b c=false):lessT a c=false:=by
 cases h:lessT a c with
 | false=>rfl
 | true =>
  rcases lessT_tri a b with h3|h3|h3
  ·rw[h1] at h3;cases h3
  ·rw[h3] at h;rw[h2] at h;cases h
  ·have:=lessT_trans b a c h3 h
   rw[h2] at this;cases this
def SrtP (xs:List (List Int)):Prop:=xs.Pairwise (fun a b=>lessT b a=false)
theorem srt_uniq {xs ys:List (List Int)} (h1:SrtP xs) (h2:SrtP ys) (hp:xs.Perm ys):xs=ys :=
 List.Perm.eq_of_pairwise (le:=fun a b=>lessT b a=false) (fun a b _ _ h h'=>lessT_anti h' h) h1 h2 hp
def insK (xs:List (List Int)) (t:List Int):Nat→Nat
 | 0=>0
 | k+1=>if lessT t (xs.getD k default)=true then insK xs t k else k+1
theorem insK_le (xs:List (List Int)) (t:List Int):∀k,insK xs t k≤k
 | 0=>Nat.le_refl _
 | k+1=>by have:=insK_le xs t k;unfold insK;split<;>omega
def insT (xs:List (List Int)) (t:List Int):List (List Int):=xs.take (insK xs t xs.length)++t::xs.drop (insK xs t xs.length)
theorem insT_perm (xs:List (List Int)) (t:List Int):(insT xs t).Perm (t::xs):=by
 unfold insT
 refine List.perm_middle.trans ?_
 rw[List.take_append_drop]
theorem insK_lt (xs:List (List Int)) (t:List Int):∀k j,insK xs t k≤j→j<k→lessT t (xs.getD j default)=true
 | 0,j,_,h=>by omega
 | k+1,j,h1,h2=>by
  unfold insK at h1
  split at h1
  ·rename_i h
   by_cases e:j=k
   ·rw[e];exact h
   ·exact insK_lt xs t k j h1 (by omega)
  ·omega
theorem insK_ge (xs:List (List Int)) (t:List Int):∀k,insK xs t k=0∨lessT t (xs.getD (insK xs t k-1) default)=false
 | 0=>.inl rfl
 | k+1=>by
  unfold insK
  split
  ·exact insK_ge xs t k
  ·rename_i h
   right
   simpa using h
theorem insT_srt {xs:List (List Int)} (h:SrtP xs) (t:List Int):SrtP (insT xs t):=by
 have hle:=insK_le xs t xs.length
 have hlt:=insK_lt xs t xs.length
 have hge:=insK_ge xs t xs.length
 unfold insT
 generalize insK xs t xs.length=k at *
 have hsp:SrtP (xs.take k++xs.drop k):=by rw[List.take_append_drop];exact h
 unfold SrtP at *
 rw[List.pairwise_append] at hsp
 obtain⟨s1,s2,s3⟩:=hsp
 have hg:∀j (hj:j<xs.length),xs.getD j default=xs[j]:=fun j hj=>by simp[List.getD,List.getElem?_eq_getElem hj]
 rw[List.pairwise_append,List.pairwise_cons]
 have hd:∀b∈xs.drop k,lessT t b=true:=fun b hb=>by
  obtain⟨j,hj,rfl⟩:=List.getElem_of_mem hb
  rw[List.length_drop] at hj
  rw[List.getElem_drop,←hg (k+j) (by omega)]
  exact hlt (k+j) (by omega) (by omega)
 refine⟨s1,⟨fun b hb=>lessT_asym (hd b hb),s2⟩,fun a ha b hb=>?_⟩
 rcases List.mem_cons.1 hb with rfl|hb
 ·-- a stands at a place below k
  obtain⟨j,hj,rfl⟩:=List.getElem_of_mem ha
  rw[List.length_take] at hj
  rw[List.getElem_take]
  rcases hge with e|e
  ·omega
  ·have hk1:k-1<xs.length:=by omega
   rw[hg _ hk1] at e
   by_cases ej:j=k-1
   ·subst ej;exact e
   ·have:=(List.pairwise_iff_getElem.1 h) j (k-1) (by omega) hk1 (by omega)
    exact lessT_ntrans _ _ _ e this
 ·exact s3 a ha b hb
def srtM (xs:List (List Int)):List (List Int):=xs.foldl insT []
theorem srtM_snoc (xs:List (List Int)) (t:List Int):srtM (xs++[t])=insT (srtM xs) t:=by simp[srtM,List.foldl_append]
theorem srtM_ok (xs:List (List Int)):(srtM xs).Perm xs∧SrtP (srtM xs):=by
 have:∀n (xs:List (List Int)),xs.length=n→(srtM xs).Perm xs∧SrtP (srtM xs):=fun n=>by
  induction n with
  | zero =>
   intro xs h
   obtain rfl:=List.length_eq_zero_iff.1 h
   exact⟨.nil,.nil⟩
  | succ n ih =>
   intro xs h
   have hne:xs≠[]:=by rintro rfl;simp at h
   have e:=(List.dropLast_concat_getLast hne).symm
   rw[e]
   obtain⟨h1,h2⟩:=ih xs.dropLast (by simp[h])
   rw[srtM_snoc]
   refine⟨(insT_perm _ _).trans ?_,insT_srt h2 _⟩
   refine(List.Perm.cons _ h1).trans ?_
   exact(List.perm_append_singleton _ _).symm
 exact this _ xs rfl
theorem srtM_len (xs:List (List Int)):(srtM xs).length=xs.length:=(srtM_ok xs).1.length_eq
theorem take_snocQ {α:Type} [Inhabited α] (xs:List α) (i:Nat) (h:i<xs.length):xs.take (i+1)=xs.take i++[xs.getD i default]:=by
 rw[List.take_add_one,List.getElem?_eq_getElem h]
 simp[List.getD,List.getElem?_eq_getElem h]
end
section
attribute [local irreducible] SW runL runQ runG runQG FC Ret1
end
section
attribute [local irreducible] SW runL runQ runG runQG FC Ret1 RetN toF redoL
theorem lexB_at:∀(a b:List Int) (i:Nat),(∀j<i,a.getD j default=b.getD j default)→i<a.length→i<b.length→a.getD i default≠b.getD i default→lexB a b=decide (a.getD i default<b.getD i default)
 | [],_,_,_,h,_,_=>by simp at h
 | _::_,[],_,_,_,h,_=>by simp at h
 | x::r,y::s,0,_,_,_,h=>by
  simp only[List.getD_cons_zero] at h ⊢
  simp only[lexB];rw[if_neg h]
 | x::r,y::s,i+1,h,h1,h2,h3=>by
  have h0:=h 0 (by omega)
  simp only[List.getD_cons_zero] at h0
  simp only[List.getD_cons_succ] at h3 ⊢
  simp only[lexB];rw[if_pos h0]
  exact lexB_at r s i (fun j hj=>by have:=h (j+1) (by omega);simpa only[List.getD_cons_succ] using this) (by simpa using h1) (by simpa using h2) h3
theorem lex_eq {a b:List Int} (hl:a.length=b.length) (h:∀j<a.length,a.getD j default=b.getD j default):a=b :=
 List.ext_getElem hl fun j h1 h2=>by
  have:=h j h1
  simpa[List.getD,List.getElem?_eq_getElem h1,List.getElem?_eq_getElem h2] using this
def kp89:List (Nat×List Nat):=[(0,[0,1]),(1,[0,1,10]),(2,[4]),(3,[0,1,5]),(4,[0,1,5,19]),(6,[0,1,5,30]),(7,[4]),(5,[0,1,5]),(8,[4])]
attribute [go_sem] kp89 Tryz.results89 Tryz.ntmps89
theorem lessTerm_fc (tk tk':Tk) (a b:List Int):FC S 89 [] [] [] [.sl tk (a.map (.int .i64)),.sl tk' (b.map (.int .i64))] (.bool (lessT a b)) [] []:=by
 refine fcb Tryz.func89 fun B=>?_
 refine sw_bndg 0 fun hb0=>?_
 refine sw_bndg 1 fun hb1=>?_
 repeat' first|exact h.elim|refine sw_n ?_|refine sw_go 0 kp89 fun K hK=>?_|refine fun (K:KT) (hK:KOk S 0 _ _ _ K)=>?_|refine sw_goD kp89 (by kernel_rfl) fun K hK=>?_|refine runL_g ?_|refine runQ_g ?_|refine sw_retg0 ?_|refine sw_retg ?_|(refine hK.n0 ?_;clear hK K)|refine sw_condg rfl (fun h=>?_) fun h=>?_|refine sw_exit rfl ?_|refine sw_loopEnd ?_|with_reducible refine and_o ?_|apply tTT
 ·unfold lessT;rw[if_neg (by omega)];simp
 refine sw_loopU (ι:=Nat) (fun i=>[(5,.int .i64 i)]) (fun _=>[]) (fun i=>i≤a.length∧(∀j<i,a.getD j default=b.getD j default)) (fun i=>a.length-i) 0 cvA ⟨by omega,?_⟩ (fun i ⟨hi,hj⟩=>?_)
 rotate_left
 simp only[go_sem]
 repeat' first|exact h.elim|refine sw_n ?_|refine sw_go 0 kp89 fun K hK=>?_|refine fun (K:KT) (hK:KOk S 0 _ _ _ K)=>?_|refine sw_goD kp89 (by kernel_rfl) fun K hK=>?_|refine runL_g ?_|refine runQ_g ?_|refine sw_retg0 ?_|refine sw_retg ?_|(refine hK.n0 ?_;clear hK K)|refine sw_condg rfl (fun h=>?_) fun h=>?_|refine sw_exit rfl ?_|refine sw_loopEnd ?_|with_reducible refine and_o ?_|apply tTT
 ·unfold lessT;rw[if_pos (by omega),lexB_at a b i hj (by omega) (by omega) h]
 ·exact⟨i+1,cvA,⟨by omega,upto_succ hj h⟩,by omega⟩
 ·rw[lex_eq (by omega) (fun j h2=>hj j (by omega)),lessT_irr]
 ·intro j h2;omega
def kp64:List (Nat×List Nat):=[(0,[0,1]),(1,[0,1,5]),(2,[0,1,5,19]),(3,[0,1,5]),(4,[0,1,5,6]),(5,[0,5,6]),(6,[4])]
attribute [go_sem] kp64 Tryz.results64 Tryz.ntmps64
theorem l28Insert_fc (tk:Tk) (xs:List (List Int)) (t:List Int) (hn:xs.length≤3000):FC S 64 [] [] [] [.sl tk (xs.map IntsD),.sl .any (t.map (.int .i64))] (.sl .any ((insT xs t).map IntsD)) [] []:=by
 refine FC.args (args':=[.sl .any (xs.map IntsD),.sl .any (t.map (.int .i64))]) ?_ (by simp only[go_sem])
 refine fcb Tryz.func64 fun B=>?_
 refine sw_bndg 0 fun hb0=>?_
 repeat' first|exact h.elim|refine sw_n ?_|refine sw_go 0 kp64 fun K hK=>?_|refine fun (K:KT) (hK:KOk S 0 _ _ _ K)=>?_|refine runL_g ?_|refine sw_retg0 ?_|refine sw_retg ?_|(refine hK.n0 ?_;clear hK K)|refine runG_fk (fun h=>?_) fun h=>?_|refine sw_condg rfl (fun h=>?_) fun h=>?_|refine hK.skp rfl rfl ?_|refine sw_exit rfl ?_|refine sw_loopEnd ?_|(refine hK.fork rfl rfl rfl ?_ ?_<;>intro h<;>try simp (disch:=(refine Om.mk ?_;omega)) only[go_sem] at h)|with_reducible refine and_o ?_|((with_reducible refine And.intro ?_ ?_);· first|(intro x hx;subst hx;rfl)|(intro x;refine And.intro ?_ ?_<;>(intros;subst_vars;rfl)))|apply tTT
 refine sw_loopU (ι:=Nat) (fun p=>[(5,.int .i64 p)]) (fun p=>[]) (fun p=>p≤xs.length∧insK xs t xs.length=insK xs t p) (fun p=>p) xs.length (by(refine covers_mk0 rfl rfl ?_ ?_ ?_ ?_<;>simp (disch:=(refine Om.mk ?_;omega)) only[go_sem]<;>(try omega));skip) ?_ (fun p hp=>?_)
 rotate_left
 simp only[go_sem]
 obtain⟨hp1,hp2⟩:=hp
 have hk:p=0∨lessT t (xs.getD (p-1) default)=false→insT xs t=xs.take p++t::xs.drop p:=fun h=>by
  have e:insK xs t p=p:=by
   cases p with
   | zero=>rfl
   | succ q =>
    have h1:=h.resolve_left (by omega)
    rw[Nat.add_sub_cancel] at h1
    unfold insK;rw[if_neg (by rw[h1];simp)]
  unfold insT;rw[hp2,e]
 have hk2:0<p→lessT t (xs.getD (p-1) default)=true→insK xs t p=insK xs t (p-1):=fun h0 h=>by
  obtain⟨q,rfl⟩:∃q,p=q+1:=⟨p-1,by omega⟩
  rw[Nat.add_sub_cancel] at h ⊢
  rw[insK,if_pos h]
 repeat' first|exact h.elim|refine sw_n ?_|refine sw_go 0 kp64 fun K hK=>?_|refine fun (K:KT) (hK:KOk S 0 _ _ _ K)=>?_|refine runL_g ?_|refine sw_retg0 ?_|refine sw_retg ?_|(refine hK.n0 ?_;clear hK K)|refine runG_fk (fun h=>?_) fun h=>?_|refine sw_condg rfl (fun h=>?_) fun h=>?_|refine hK.skp rfl rfl ?_|refine sw_exit rfl ?_|refine sw_loopEnd ?_|refine hK.c1 rfl rfl rfl (lessTerm_fc _ _ _ _) ?_|(refine hK.fork rfl rfl rfl ?_ ?_<;>intro h<;>try simp (disch:=(refine Om.mk ?_;omega)) only[go_sem] at h)|with_reducible refine and_o ?_|((with_reducible refine And.intro ?_ ?_);· first|(intro x hx;subst hx;rfl)|(intro x;refine And.intro ?_ ?_<;>(intros;subst_vars;rfl)))|apply tTT
 ·exact⟨p-1,cvA,⟨by omega,hp2.trans (hk2 (by omega) h)⟩,by omega⟩
 ·rw[hk (.inr h)];first|rfl|(simp;done)|(simp;rfl)
 ·rw[hk (.inl (by omega))];first|rfl|(simp;done)|(simp;rfl)
 ·rfl
end
section
attribute [local irreducible] SW runL runQ runG runQG FC Ret Ret1
def Int64SL (p:List Nat) (xs:List Int):D:=.sl (.lab p) (xs.map (.int .i64))
attribute [go_sem] Int64SL
theorem le_Int64SL (p:List Nat) (xs:List Int):D.le (Int64SL p xs) (.sl .any (xs.map (.int .i64))):=.any
def Int64SSL (p:List Nat) (xs:List (List Int)):D:=.sl (.lab p) (mapR (fun i y=>Int64SL (p++[i]++[0]) y) xs)
attribute [go_sem] Int64SSL
theorem le_Int64SSL (p:List Nat) (xs:List (List Int)):D.le (Int64SSL p xs) (.sl .any (xs.map IntsD)):=le_mapR xs fun j x=>⟨le_Int64SL _ _,trivial⟩
def TransL (p:List Nat) (x:TransT):D:=.agg [.int .i64 x.sym,Int64SL (p++[1]) x.args,.int .i64 x.to]
attribute [go_sem] TransL
theorem le_TransLc (p:List Nat) (x:TransT):leL (TransL p x).cells (TransD x).cells:=⟨.refl _,le_Int64SL _ _,.refl _,trivial⟩
def TransSL (p:List Nat) (xs:List TransT):D:=.sl (.lab p) (mapR (fun i y=>TransL (p++[i]) y) xs)
attribute [go_sem] TransSL
theorem le_TransSL (p:List Nat) (xs:List TransT):D.le (TransSL p xs) (.sl .any (xs.map TransD)):=le_mapR xs fun j x=>le_TransLc _ _
def AutoL (p:List Nat) (x:AutoT):D:=.agg [.int .i64 x.states,TransSL (p++[1]) x.rules,Int64SL (p++[2]) x.final]
attribute [go_sem] AutoL
theorem le_AutoLc (p:List Nat) (x:AutoT):leL (AutoL p x).cells (AutoD x).cells:=⟨.refl _,le_TransSL _ _,le_Int64SL _ _,trivial⟩
theorem le_AutoL (p:List Nat) (x:AutoT):D.le (AutoL p x) (AutoD x):=by unfold AutoL AutoD;rw[le_agg];exact le_AutoLc p x
end
section
attribute [local irreducible] SW runL runQ runG runQG FC Ret1 RetN toF redoL
def lbs (N:Nat) (F:List Int→List Int) (ps:List (List Int)) (i:Nat):List (Tk×List Int):=(List.range i).map fun j=>(.lab [N,j],F (ps.getD j default))
theorem lbs_len (N:Nat) (F:List Int→List Int) (ps:List (List Int)) (i:Nat):(lbs N F ps i).length=i:=by simp[lbs]
theorem lbs_snd (N:Nat) (F:List Int→List Int) (ps:List (List Int)):(lbs N F ps ps.length).map (·.2)=ps.map F:=by
 refine List.ext_getElem (by simp[lbs]) fun j h1 h2=>?_
 have hj:j<ps.length:=by simpa using h2
 simp[lbs,List.getElem?_eq_getElem hj]
def labOf:Tk→List Nat
 | .lab l=>l
 | _=>[]
def posOf (l:List Nat):List (List Nat)→Nat
 | []=>0
 | x::r=>if x=l then 0 else posOf l r+1
theorem posOf_at:∀(ls:List (List Nat)),ls.Nodup→∀(j:Nat) (h:j<ls.length),posOf ls[j] ls=j
 | x::r,hn,0,_=>by simp[posOf]
 | x::r,hn,j+1,h=>by
  have h1:=List.nodup_cons.1 hn
  have hj:j<r.length:=by simpa using h
  have hne:x≠r[j]:=fun e=>h1.1 (e ▸ List.getElem_mem hj)
  simp only[List.getElem_cons_succ,posOf,if_neg hne]
  rw[posOf_at r h1.2 j hj]
def relF (N:Nat) (p:List Nat) (ls:List (List Nat)) (l:List Nat):List Nat:=if l.head?=some N then p++[posOf l ls]++[0] else l
theorem relF_ne {N:Nat} {p:List Nat} {ls:List (List Nat)}:∀l,l≠[]→relF N p ls l≠[]:=fun l h=>by
 unfold relF
 split
 ·simp
 ·exact h
theorem relF_off {N:Nat} {p:List Nat} {ls:List (List Nat)}:∀l,(∀r,l≠N::r)→relF N p ls l=l:=fun l h=>by
 unfold relF
 rw[if_neg]
 intro e
 cases l with
 | nil=>cases e
 | cons a r=>exact h r (by rw[List.head?_cons,Option.some.injEq] at e;rw[e])
theorem rlL_ints (f:List Nat→List Nat) (xs:List Int):D.rlL f (xs.map (.int .i64))=xs.map (.int .i64):=by
 rw[rlL_map,List.map_map];rfl
theorem relab_srt {N:Nat} {p:List Nat} {F:List Int→List Int} {ps:List (List Int)} {n:Nat} {qs:List (Tk×List Int)} (h:qs.Perm (lbs N F ps n)) :
  D.rlL (relF N p (qs.map fun q=>labOf q.1)) (qs.map intsT)=mapR (fun i y=>Int64SL (p++[i]++[0]) y) (qs.map (·.2)):=by
 have hnd:(qs.map fun q=>labOf q.1).Nodup:=by
  refine(h.map _).nodup_iff.2 ?_
  simp only[lbs,List.map_map]
  have:((fun q:Tk×List Int=>labOf q.1)∘fun j=>(Tk.lab [N,j],F (ps.getD j default)))=fun j=>[N,j]:=rfl
  rw[this]
  exact List.Pairwise.map _ (fun a b hab e=>hab (by simpa using e)) (List.nodup_range (n:=n))
 have hlab:∀q∈qs,∃l,q.1=.lab l∧l.head?=some N:=fun q hq=>by
  have:=h.mem_iff.1 hq
  simp only[lbs,List.mem_map] at this
  obtain⟨j,_,rfl⟩:=this
  exact⟨_,rfl,rfl⟩
 rw[rlL_map,List.map_map]
 refine List.ext_getElem (by rw[List.length_map,mapR_length,List.length_map]) fun j h1 h2=>?_
 have hj:j<qs.length:=by simpa using h1
 obtain⟨l,hl,hN⟩:=hlab _ (List.getElem_mem hj)
 have hpos:=posOf_at _ hnd j (by simpa using hj)
 simp only[List.getElem_map] at hpos
 have e1:labOf qs[j].1=l:=by rw[hl];rfl
 rw[e1] at hpos
 have e2:intsT qs[j]=.sl (.lab l) (qs[j].2.map (.int .i64)):=by
  unfold intsT;rw[hl]
 have e3:relF N p (qs.map fun q=>labOf q.1) l=p++[j]++[0]:=by
  unfold relF;rw[if_pos hN,hpos]
 rw[List.getElem_map]
 show D.rl _ (intsT qs[j])=_
 rw[e2]
 show D.sl (.lab (relF N p (qs.map fun q=>labOf q.1) l)) (D.rlL _ _)=_
 rw[rlL_ints,e3]
 simp[mapR,Int64SL,List.getElem?_eq_getElem hj]
end
section
abbrev Bnd:=List (List Int)
def vx (n:Int):Nat:=(-1-n).toNat
def linM (rs t:List Int):List Int→Nat→Bnd→Bnd×Bool
 | [],_,g=>(g,true)
 | n::p,a,g=>if t.length≤a then (g,false) else if 0≤n then (if t.getD a default=n then linM rs t p (a+1) g else (g,false))
   else if g.getD (vx n) default=[] then linM rs t p (a+(subS rs t a).length) (g.set (vx n) (subS rs t a))
   else if g.getD (vx n) default=subS rs t a then linM rs t p (a+(subS rs t a).length) g else (g,false)
theorem linM_len (rs t:List Int):∀(p:List Int) (a:Nat) (g:Bnd),(linM rs t p a g).1.length=g.length
 | [],_,_=>rfl
 | n::p,a,g=>by
  have h1:=linM_len rs t p (a+1) g
  have h2:=linM_len rs t p (a+(subS rs t a).length) (g.set (vx n) (subS rs t a))
  have h3:=linM_len rs t p (a+(subS rs t a).length) g
  rw[List.length_set] at h2
  simp only[linM]
  split
  ·rfl
  ·split
   ·split
    ·exact h1
    ·rfl
   ·split
    ·exact h2
    ·split
     ·exact h3
     ·rfl
theorem getD_app {q:List Int} {x:Int} {s:List Int}:(q++x::s).getD q.length default=x:=by simp[List.getD]
def G0:Bnd:=List.replicate 24 []
def codeI (s:List Int) (n:Int):Int:=if 0≤n then n else -1-(s.idxOf n:Int)
def seenS:List Int→List Int→List Int
 | s,[]=>s
 | s,n::l=>if 0≤n∨n∈s then seenS s l else seenS (s++[n]) l
def renL:List Int→List (List Int)→List (List Int)
 | _,[]=>[]
 | s,t::r=>t.map (codeI (seenS s t))::renL (seenS s t) r
theorem seenS_pre:∀(t s:List Int),∃r,seenS s t=s++r
 | [],s=>⟨[],by simp[seenS]⟩
 | n::l,s=>by
  simp only[seenS]
  split
  ·exact seenS_pre l s
  ·obtain⟨r,h⟩:=seenS_pre l (s++[n])
   exact⟨n::r,by rw[h];simp⟩
theorem seenS_mem:∀(t s:List Int),∀n∈t,n<0→n∈seenS s t
 | [],_,n,hn,_=>by cases hn
 | m::l,s,n,hn,h0=>by
  simp only[seenS]
  rcases List.mem_cons.1 hn with rfl|hn
  ·split
   ·rename_i h
    obtain⟨r,e⟩:=seenS_pre l s
    rw[e];exact List.mem_append_left _ (h.resolve_left (by omega))
   ·obtain⟨r,e⟩:=seenS_pre l (s++[n])
    rw[e];simp
  ·split
   ·exact seenS_mem l s n hn h0
   ·exact seenS_mem l _ n hn h0
theorem codeI_mono {s r:List Int} {n:Int} (h:0≤n∨n∈s):codeI (s++r) n=codeI s n:=by
 unfold codeI
 split
 ·rfl
 ·rw[List.idxOf_append,if_pos (h.resolve_left (by omega))]
theorem code_all {s t r:List Int}:t.map (codeI (seenS s t++r))=t.map (codeI (seenS s t)):=List.map_congr_left fun n hn=>codeI_mono (by
 by_cases h:0≤n
 ·exact .inl h
 ·exact .inr (seenS_mem t s n hn (by omega)))
theorem renL_two (a b:List Int):renL [] [a,b]=[a.map (codeI (seenS (seenS [] a) b)),b.map (codeI (seenS (seenS [] a) b))]:=by
 obtain⟨r,h⟩:=seenS_pre b (seenS [] a)
 simp only[renL]
 rw[h,code_all]
theorem idxOf_map {f:Int→Int} {n:Int}:∀ {s:List Int},(∀m∈s,f m=f n→m=n)→(s.map f).idxOf (f n)=s.idxOf n
 | [],_=>rfl
 | m::s,h=>by
  rw[List.map_cons,List.idxOf_cons,List.idxOf_cons]
  by_cases e:m=n
  ·subst e;simp
  ·have:f m≠f n:=fun e2=>e (h m List.mem_cons_self e2)
   have ih:=idxOf_map (f:=f) (n:=n) (s:=s) fun k hk=>h k (List.mem_cons_of_mem _ hk)
   rw[ih,beq_eq_false_iff_ne.2 this,beq_eq_false_iff_ne.2 e]
theorem seenS_map {f:Int→Int} {X:List Int} (hs:∀n∈X,0≤f n↔0≤n) (hi:∀n∈X,∀m∈X,f n=f m→n=m):∀(t s:List Int),(∀n∈t,n∈X)→(∀n∈s,n∈X)→seenS (s.map f) (t.map f)=(seenS s t).map f
 | [],s,_,_=>rfl
 | n::l,s,ht,hsx=>by
  have hn:=ht n List.mem_cons_self
  have ih:=fun s' hs'=>seenS_map hs hi l s' (fun m hm=>ht m (List.mem_cons_of_mem _ hm)) hs'
  have hmem:f n∈s.map f↔n∈s:=⟨fun h=>by
   obtain⟨m,hm,e⟩:=List.mem_map.1 h
   rw[←hi m (hsx m hm) n hn e];exact hm,fun h=>List.mem_map_of_mem h⟩
  simp only[List.map_cons,seenS,hs n hn,hmem]
  split
  ·exact ih s hsx
  ·have:=ih (s++[n]) (fun m hm=>by
    rcases List.mem_append.1 hm with hm|hm
    ·exact hsx m hm
    ·rw[List.mem_singleton.1 hm];exact hn)
   rw[List.map_append] at this
   exact this
theorem codeI_map {f:Int→Int} {X:List Int} (hs:∀n∈X,0≤f n↔0≤n) (hi:∀n∈X,∀m∈X,f n=f m→n=m) (hf:∀n∈X,0≤n→f n=n) {s:List Int} (hsx:∀n∈s,n∈X) {n:Int} (hn:n∈X):codeI (s.map f) (f n)=codeI s n:=by
 unfold codeI
 by_cases h:0≤n
 ·rw[if_pos ((hs n hn).2 h),if_pos h,hf n hn h]
 ·rw[if_neg (fun e=>h ((hs n hn).1 e)),if_neg h,idxOf_map fun m hm e=>hi m (hsx m hm) n hn e]
theorem seenS_sub:∀(t s:List Int),∀n∈seenS s t,n∈s∨(n∈t∧n<0)
 | [],s,n,h=>.inl h
 | m::l,s,n,h=>by
  simp only[seenS] at h
  split at h
  ·rcases seenS_sub l s n h with h|⟨h,h0⟩
   ·exact .inl h
   ·exact .inr ⟨List.mem_cons_of_mem _ h,h0⟩
  ·rename_i hc
   rcases seenS_sub l _ n h with h|⟨h,h0⟩
   ·rcases List.mem_append.1 h with h|h
    ·exact .inl h
    ·rw[List.mem_singleton.1 h]
     exact .inr ⟨List.mem_cons_self,by omega⟩
   ·exact .inr ⟨List.mem_cons_of_mem _ h,h0⟩
theorem renL_map {f:Int→Int} (a b:List Int) (hs:∀n∈a++b,0≤f n↔0≤n) (hi:∀n∈a++b,∀m∈a++b,f n=f m→n=m) (hf:∀n∈a++b,0≤n→f n=n):renL [] [a.map f,b.map f]=renL [] [a,b]:=by
 have ha:∀n∈a,n∈a++b:=fun n h=>List.mem_append_left _ h
 have hb:∀n∈b,n∈a++b:=fun n h=>List.mem_append_right _ h
 have e1:=seenS_map hs hi a [] ha (by simp)
 have h1:∀n∈seenS [] a,n∈a++b:=fun n h=>by
  rcases seenS_sub a [] n h with h|h
  ·cases h
  ·exact ha n h.1
 have e2:=seenS_map hs hi b _ hb h1
 have h2:∀n∈seenS (seenS [] a) b,n∈a++b:=fun n h=>by
  rcases seenS_sub b _ n h with h|h
  ·exact h1 n h
  ·exact hb n h.1
 simp only[List.map_nil] at e1
 rw[renL_two,renL_two,e1,e2]
 simp only[List.map_map,List.cons.injEq,and_true]
 exact⟨List.map_congr_left fun n hn=>codeI_map hs hi hf h2 (ha n hn),List.map_congr_left fun n hn=>codeI_map hs hi hf h2 (hb n hn)⟩
end
end Go.Proofs.YtcbgmeegbjokpaaGreatDoor
