/-
  A03t, A02c, A03, A05p, A28p, A28q, A20, A28, LTy, A28m, A04p, one behind the other.
-/
import Derived.Test.YtkfkdgginfpdnaaGreatDoorG0
import Derived.Test.YtkfkdgginfpdnaaGreatDoorG1
import Derived.Test.YtkfkdgginfpdnaaGreatDoorLgK6
import Derived.Test.YtkfkdgginfpdnaaGreatDoorLgK4
import Derived.Test.YtkfkdgginfpdnaaGreatDoorLgK7
import Derived.Test.YtkfkdgginfpdnaaGreatDoorSet
import Derived.Test.YtkfkdgginfpdnaaGreatDoorLgK8
namespace Go.Proofs.YtkfkdgginfpdnaaGreatDoor
open Go Go.Lg
set_option linter.unusedSimpArgs false
set_option linter.unusedVariables false
set_option maxHeartbeats 4000000
section
inductive Fl (rs:List Int):Nat→List Int→Prop
 | nil:Fl rs 0 []
 | cons {n:Int} {k:Nat} {l:List Int} (h:0≤arS rs n) (r:Fl rs (k+(arS rs n).toNat) l):Fl rs (k+1) (n::l)
theorem Fl.zero {rs l:List Int} (h:Fl rs 0 l):l=[]:=by
 generalize e:(0:Nat)=k at h
 cases h with
 | nil=>rfl
 | cons _ _=>omega
theorem Fl.len {rs l:List Int} {k:Nat} (h:Fl rs k l):k≤l.length:=by
 induction h with
 | nil=>exact Nat.le_refl _
 | cons _ _ ih=>simp only[List.length_cons];omega
theorem Fl.app {rs l:List Int} {j:Nat} (h:Fl rs j l):∀ {k:Nat} {m:List Int},Fl rs k m→Fl rs (j+k) (l++m):=by
 induction h with
 | nil=>intro k m hm;rw[Nat.zero_add];exact hm
 | @cons n i l h r ih =>
  intro k m hm
  have:=ih hm
  rw[show i+1+k=(i+k)+1 by omega]
  exact .cons h (by rw[show i+k+(arS rs n).toNat=i+(arS rs n).toNat+k by omega];exact this)
theorem Fl.split {rs:List Int}:∀(l:List Int) (j k:Nat),Fl rs (j+k) l→∃l1 l2,l=l1++l2∧Fl rs j l1∧Fl rs k l2
 | [],j,k,h=>by
  have:=h.len
  simp only[List.length_nil] at this
  obtain rfl:j=0:=by omega
  obtain rfl:k=0:=by omega
  exact⟨[],[],rfl,.nil,.nil⟩
 | n::l,0,k,h=>⟨[],n::l,rfl,.nil,by rw[Nat.zero_add] at h;exact h⟩
 | n::l,j+1,k,h=>by
  rw[show j+1+k=(j+k)+1 by omega] at h
  cases h with
  | cons h r =>
   rw[show j+k+(arS rs n).toNat=(j+(arS rs n).toNat)+k by omega] at r
   obtain⟨l1,l2,e,h1,h2⟩:=Fl.split l _ _ r
   exact⟨n::l1,l2,by rw[e];rfl,.cons h h1,h2⟩
theorem Fl.scan {rs:List Int} {k:Nat} {l:List Int} (h:Fl rs k l):∀(r:List Int) (i:Nat),1≤k→Go.Proofs.YtkfkdgginfpdnaaGreatDoor.scan rs (l++r) k i=i+l.length:=by
 induction h with
 | nil=>intro r i h0;omega
 | @cons n k l h hr ih =>
  intro r i _
  simp only[List.cons_append,Go.Proofs.YtkfkdgginfpdnaaGreatDoor.scan]
  rw[if_neg (by omega)]
  by_cases e:k+(arS rs n).toNat=0
  ·rw[if_pos (by omega)]
   rw[e] at hr
   rw[hr.zero]
   simp
  ·rw[if_neg (by omega)]
   have:=ih r (i+1) (by omega)
   rw[show ((k+1:Nat):Int)+arS rs n-1=((k+(arS rs n).toNat:Nat):Int) by omega,this]
   simp only[List.length_cons];omega
theorem scan_fl {rs:List Int}:∀(l:List Int) (k i:Nat) (e:Int),1≤k→scan rs l k i=e→0≤e→∃l1 l2,l=l1++l2∧Fl rs k l1∧e=i+l1.length
 | [],k,i,e,_,h,he=>by simp only[scan] at h;omega
 | n::l,k,i,e,hk,h,he=>by
  simp only[scan] at h
  split at h
  ·omega
  ·rename_i h0
   obtain⟨k,rfl⟩:∃q,k=q+1:=⟨k-1,by omega⟩
   split at h
   ·rename_i h1
    obtain⟨rfl,h3⟩:k=0∧arS rs n=0:=by omega
    exact⟨[n],l,rfl,.cons (by omega) (by rw[h3];exact .nil),by simp;omega⟩
   ·rename_i h1
    obtain⟨l1,l2,e1,e2,e3⟩:=scan_fl l (k+(arS rs n).toNat) (i+1) e (by omega) (by rw[←h];congr 1;omega) he
    exact⟨n::l1,l2,by rw[e1];rfl,.cons (by omega) e2,by simp only[List.length_cons];omega⟩
theorem Fl.uniq {rs:List Int} {k:Nat} {l:List Int} (h:Fl rs k l):∀ {m r s:List Int},Fl rs k m→l++r=m++s→l=m∧r=s:=by
 induction h with
 | nil=>intro m r s hm e;rw[hm.zero] at e ⊢;exact⟨rfl,e⟩
 | @cons n k l h hr ih =>
  intro m r s hm e
  cases hm with
  | @cons n' _ m h' hr' =>
   simp only[List.cons_append,List.cons.injEq] at e
   obtain⟨rfl,e⟩:=e
   obtain⟨rfl,rfl⟩:=ih hr' e
   exact⟨rfl,rfl⟩
theorem Fl.pre {rs:List Int} {k:Nat} {l:List Int} (h:Fl rs k l) {m:List Int} (hm:Fl rs k m) {r:List Int} (e:l=m++r):l=m∧r=[]:=by
 have:=Fl.uniq h hm (r:=[]) (s:=r) (by simpa using e)
 exact⟨this.1,this.2.symm⟩
theorem termOk_fl {rs t:List Int} (h:TermOkP rs t):Fl rs 1 t:=by
 obtain⟨_,_,h3⟩:=h
 unfold endS at h3
 rw[List.drop_zero] at h3
 obtain⟨l1,l2,e1,e2,e3⟩:=scan_fl t 1 0 _ (by omega) h3 (by omega)
 have:l2=[]:=by
  have:=congrArg List.length e1
  rw[List.length_append] at this
  exact List.length_eq_zero_iff.1 (by omega)
 rw[e1,this,List.append_nil];exact e2
theorem fl_termOk {rs t:List Int} (hs:SigOkP rs) (h:Fl rs 1 t) (hl:t.length≤60):TermOkP rs t:=by
 refine⟨hs,⟨h.len,hl⟩,?_⟩
 have:=h.scan [] 0 (by omega)
 unfold endS
 rw[List.drop_zero]
 simpa using this
theorem endS_app {rs:List Int} {p u r:List Int} (h:Fl rs 1 u):endS rs (p++(u++r)) p.length=p.length+u.length:=by
 unfold endS
 rw[List.drop_left]
 exact h.scan r p.length (by omega)
theorem Fl.at {rs:List Int}:∀(l:List Int) (k a:Nat),Fl rs k l→a<l.length→∃p u r,l=p++(u++r)∧p.length=a∧Fl rs 1 u
 | [],_,a,_,ha=>absurd ha (Nat.not_lt_zero _)
 | n::l,k,0,h,_=>by
  obtain⟨k,rfl⟩:∃q,k=q+1:=by cases h;exact⟨_,rfl⟩
  obtain⟨l1,l2,e,h1,_⟩:=Fl.split (n::l) 1 k (by rw[Nat.add_comm];exact h)
  exact⟨[],l1,l2,e,rfl,h1⟩
 | n::l,k,a+1,h,ha=>by
  cases h with
  | cons h r =>
   obtain⟨p,u,s,e,hp,hu⟩:=Fl.at l _ a r (by simpa using ha)
   exact⟨n::p,u,s,by rw[e];rfl,by simp[hp],hu⟩
theorem TermOkP.at {rs t:List Int} (h:TermOkP rs t) {a:Nat} (ha:a<t.length):∃p u r,t=p++(u++r)∧p.length=a∧Fl rs 1 u:=Fl.at t 1 a (termOk_fl h) ha
def subS (rs t:List Int) (a:Nat):List Int:=(t.take (endS rs t a).toNat).drop a
theorem subS_app {rs p u r:List Int} (h:Fl rs 1 u):subS rs (p++(u++r)) p.length=u:=by
 unfold subS
 rw[endS_app h,show ((p.length:Int)+u.length).toNat=p.length+u.length by omega,←List.append_assoc,List.take_left' (by simp),List.drop_left]
theorem subS_ok {rs t:List Int} (h:TermOkP rs t) {a:Nat} (ha:a<t.length):TermOkP rs (subS rs t a):=by
 obtain⟨p,u,r,rfl,rfl,hu⟩:=h.at ha
 rw[subS_app hu]
 refine fl_termOk h.1 hu ?_
 have:=h.2.1.2
 simp only[List.length_append] at this
 omega
theorem endS_ge {rs t:List Int} (h:TermOkP rs t) {a:Nat} (ha:a<t.length):a<endS rs t a∧endS rs t a≤t.length:=by
 obtain⟨p,u,r,rfl,rfl,hu⟩:=h.at ha
 rw[endS_app hu]
 have:=hu.len
 simp only[List.length_append]
 omega
def begS (rs t:List Int):Nat→Nat→List Nat
 | 0,_=>[]
 | k+1,a=>a::begS rs t k (endS rs t a).toNat
def argsS (rs t:List Int) (a:Nat):List Nat:=begS rs t (arS rs (t.getD a default)).toNat (a+1)
theorem begS_length (rs t:List Int):∀k a,(begS rs t k a).length=k
 | 0,_=>rfl
 | k+1,a=>by simp[begS,begS_length rs t k]
theorem begS_fl {rs:List Int}:∀(k:Nat) (p l r:List Int),Fl rs k l→∀x∈begS rs (p++(l++r)) k p.length,p.length≤x∧x<(p++l).length
 | 0,_,_,_,_,x,hx=>by cases hx
 | k+1,p,l,r,h,x,hx=>by
  obtain⟨l1,l2,rfl,h1,h2⟩:=Fl.split l 1 k (by rw[Nat.add_comm];exact h)
  have hl:=h1.len
  simp only[begS,List.mem_cons] at hx
  rcases hx with rfl|hx
  ·simp only[List.length_append];omega
  ·rw[List.append_assoc,endS_app h1,show ((p.length:Int)+l1.length).toNat=(p++l1).length by simp;omega,←List.append_assoc p l1 (l2++r)] at hx
   have:=begS_fl k (p++l1) l2 r h2 x hx
   simp only[List.length_append] at this ⊢
   omega
def nthB (rs t:List Int) (a:Nat):Nat→Nat
 | 0=>a
 | j+1=>(endS rs t (nthB rs t a j)).toNat
theorem nthB_shift (rs t:List Int) (a:Nat):∀j,nthB rs t a (j+1)=nthB rs t (endS rs t a).toNat j
 | 0=>rfl
 | j+1=>by
  show (endS rs t (nthB rs t a (j+1))).toNat=_
  rw[nthB_shift rs t a j]
  rfl
theorem begS_snoc (rs t:List Int):∀(k a:Nat),begS rs t (k+1) a=begS rs t k a++[nthB rs t a k]
 | 0,a=>rfl
 | k+1,a=>by
  show a::begS rs t (k+1) (endS rs t a).toNat=_
  rw[begS_snoc rs t k,nthB_shift]
  rfl
theorem begS_get (rs t:List Int):∀(k a j:Nat),j<k→(begS rs t k a).getD j default=nthB rs t a j
 | 0,_,_,h=>absurd h (Nat.not_lt_zero _)
 | k+1,a,0,_=>rfl
 | k+1,a,j+1,h=>by
  rw[nthB_shift,←begS_get rs t k _ j (by omega)]
  rfl
theorem Fl.cut {rs:List Int} (p r:List Int):∀(j:Nat) (k:Nat) (l:List Int),Fl rs k l→j≤k→∃l1 l2,l=l1++l2∧Fl rs j l1∧Fl rs (k-j) l2∧nthB rs (p++(l++r)) p.length j=(p++l1).length
 | 0,k,l,h,_=>⟨[],l,rfl,.nil,by simpa using h,by simp[nthB]⟩
 | j+1,k,l,h,hj=>by
  obtain⟨l1,l2,rfl,h1,h2,h3⟩:=Fl.cut p r j k l h (by omega)
  obtain⟨m1,m2,rfl,h4,h5⟩:=Fl.split l2 1 (k-(j+1)) (by rw[show 1+(k-(j+1))=k-j by omega];exact h2)
  refine⟨l1++m1,m2,by simp,h1.app h4,h5,?_⟩
  have e:p++(l1++(m1++m2)++r)=(p++l1)++(m1++(m2++r)):=by simp
  show (endS rs _ (nthB rs _ _ j)).toNat=_
  rw[h3,e,endS_app h4]
  simp only[List.length_append];omega
theorem args_cut {rs t:List Int} (h:TermOkP rs t) {a:Nat} (ha:a<t.length):∃p l r,t=p++(t.getD a default::l++r)∧p.length=a∧0≤arS rs (t.getD a default)∧Fl rs (arS rs (t.getD a default)).toNat l:=by
 obtain⟨p,u,r,e,rfl,hu⟩:=h.at ha
 cases hu with
 | @cons n k l h0 hr =>
  have hn:t.getD p.length default=n:=by rw[e];simp[List.getD]
  rw[hn]
  exact⟨p,l,r,by rw[e],rfl,h0,by rw[Nat.zero_add] at hr;exact hr⟩
theorem argsS_lt {rs t:List Int} (h:TermOkP rs t) {a:Nat} (ha:a<t.length):∀x∈argsS rs t a,a<x∧x<t.length:=by
 obtain⟨p,l,r,e,rfl,h0,hl⟩:=args_cut h ha
 intro x hx
 unfold argsS at hx
 have e2:t=(p++[t.getD p.length default])++(l++r):=by simpa using e
 have hlen:(p++[t.getD p.length default]).length=p.length+1:=by simp
 have:=begS_fl _ (p++[t.getD p.length default]) l r hl x (by rw[←e2,hlen];exact hx)
 have h3:=congrArg List.length e2
 simp only[List.length_append,List.length_cons,List.length_nil] at this h3
 omega
theorem nthB_lt {rs t:List Int} (h:TermOkP rs t) {a:Nat} (ha:a<t.length) {j:Nat} (hj:j<(arS rs (t.getD a default)).toNat):a<nthB rs t (a+1) j∧nthB rs t (a+1) j<t.length:=by
 rw[←begS_get rs t _ (a+1) j hj]
 exact argsS_lt h ha _ (getD_mem _ _ (by unfold argsS;rw[begS_length];exact hj))
theorem nthB_le {rs t:List Int} (h:TermOkP rs t) {a:Nat} (ha:a<t.length):∀ {j:Nat},j≤(arS rs (t.getD a default)).toNat→a<nthB rs t (a+1) j∧nthB rs t (a+1) j≤t.length
 | 0,_=>by simp only[nthB];omega
 | j+1,hj=>by
  obtain⟨h1,h2⟩:=nthB_lt h ha (show j<_ by omega)
  have:=endS_ge h h2
  simp only[nthB]
  omega
end
section
attribute [local irreducible] SW runL runQ runG runQG FC LopsW
def kp172:List (Nat×List Nat):=[(0,[0,1]),(1,[0,1,6]),(2,[0,1]),(3,[0,1]),(4,[0,1,16]),(5,[0]),(6,[4])]
attribute [go_sem] kp172 Tryz.results172 Tryz.ntmps172
theorem grow_fc (n:Nat) (h0:0<n) (hn:n≤100000):FC S 172 [] [] [] [.sl .nil [],.int .i64 n] (.sl (.own 0 2 1) []) [] [0]:=by
 refine fcb1 Tryz.func172 fun B=>?_
 repeat' first|exact h.elim|(refine sw_region ?_;refine LopsW.step (base:=0) rfl ?_;simp (disch:=(refine Om.mk ?_;omega)) only[stepY,opY,go_sem];refine LopsW.step (base:=0) rfl ?_;simp (disch:=(refine Om.mk ?_;omega)) only[stepY,opY,go_sem];refine LopsW.capNil rfl rfl (by simp only[Nat.reduceLT]) ?_;simp only[go_sem];refine LopsW.step (base:=0) rfl ?_;simp (disch:=(refine Om.mk ?_;omega)) only[stepY,opY,go_sem];refine LopsW.step (base:=0) rfl ?_;simp (disch:=(refine Om.mk ?_;omega)) only[stepY,opY,go_sem];refine LopsW.step (base:=0) rfl ?_;simp (disch:=(refine Om.mk ?_;omega)) only[stepY,opY,go_sem];refine LopsW.step (base:=0) rfl ?_;simp (disch:=(refine Om.mk ?_;omega)) only[stepY,opY,go_sem];refine LopsW.step (base:=0) rfl ?_;simp (disch:=(refine Om.mk ?_;omega)) only[stepY,opY,go_sem];refine LopsW.nil ?_;refine sw_keepAt kp172 3 ?_;simp only[go_sem])|(refine sw_region ?_;refine LopsW.step (base:=0) rfl ?_;simp (disch:=(refine Om.mk ?_;omega)) only[stepY,opY,go_sem];refine LopsW.step (base:=0) rfl ?_;simp (disch:=(refine Om.mk ?_;omega)) only[stepY,opY,go_sem];refine LopsW.capNil rfl rfl (by simp only[Nat.reduceLT]) ?_;simp only[go_sem];refine LopsW.sliceNil rfl rfl rfl (j:=_) rfl (by simp only[Nat.reduceLT]) ?_;simp only[go_sem];refine LopsW.step (base:=0) rfl ?_;simp (disch:=(refine Om.mk ?_;omega)) only[stepY,opY,go_sem];refine LopsW.grow (n:=n) (tok:=5) rfl rfl rfl rfl ((S.ok 3 _ rfl).desc) rfl (by decide) ((S.ok 22 _ rfl).desc) h0 (by simp only[Nat.reduceMul];omega) (by omega) rfl (by decide) (by simp only[Nat.reduceLT];trivial) (fun v=>?_);simp only[go_sem];refine LopsW.step (base:=0) rfl ?_;simp (disch:=(refine Om.mk ?_;omega)) only[stepY,opY,go_sem];refine LopsW.nil ?_;refine sw_keepAt kp172 5 ?_;simp only[go_sem])|refine sw_n ?_|refine sw_go 0 kp172 fun K hK=>?_|refine fun (K:KT) (hK:KOk S 0 _ _ _ K)=>?_|refine runL_g ?_|refine sw_retg0 ?_|refine sw_retg ?_|(refine hK.n0 ?_;clear hK K)|refine sw_condg rfl (fun h=>?_) fun h=>?_|with_reducible refine and_o ?_|((with_reducible refine And.intro ?_ ?_);· first|(intro x hx;subst hx;rfl)|(intro x;refine And.intro ?_ ?_<;>(intros;subst_vars;rfl)))|apply tTT
 all_goals first|(exfalso;omega)|exact ret1_own rfl (by simp)
theorem grow0_fc (n:Nat) (h0:n=0):FC S 172 [] [] [] [.sl .nil [],.int .i64 n] (.sl .nil []) [] []:=by
 subst h0
 refine fcb Tryz.func172 fun B=>?_
 repeat' first|exact h.elim|(refine sw_region ?_;refine LopsW.step (base:=0) rfl ?_;simp (disch:=(refine Om.mk ?_;omega)) only[stepY,opY,go_sem];refine LopsW.step (base:=0) rfl ?_;simp (disch:=(refine Om.mk ?_;omega)) only[stepY,opY,go_sem];refine LopsW.capNil rfl rfl (by simp only[Nat.reduceLT]) ?_;simp only[go_sem];refine LopsW.step (base:=0) rfl ?_;simp (disch:=(refine Om.mk ?_;omega)) only[stepY,opY,go_sem];refine LopsW.step (base:=0) rfl ?_;simp (disch:=(refine Om.mk ?_;omega)) only[stepY,opY,go_sem];refine LopsW.step (base:=0) rfl ?_;simp (disch:=(refine Om.mk ?_;omega)) only[stepY,opY,go_sem];refine LopsW.step (base:=0) rfl ?_;simp (disch:=(refine Om.mk ?_;omega)) only[stepY,opY,go_sem];refine LopsW.step (base:=0) rfl ?_;simp (disch:=(refine Om.mk ?_;omega)) only[stepY,opY,go_sem];refine LopsW.nil ?_;refine sw_keepAt kp172 3 ?_;simp only[go_sem])|refine sw_n ?_|refine sw_go 0 kp172 fun K hK=>?_|refine fun (K:KT) (hK:KOk S 0 _ _ _ K)=>?_|refine runL_g ?_|refine sw_retg0 ?_|refine sw_retg ?_|(refine hK.n0 ?_;clear hK K)|refine sw_condg rfl (fun h=>?_) fun h=>?_|with_reducible refine and_o ?_|((with_reducible refine And.intro ?_ ?_);· first|(intro x hx;subst hx;rfl)|(intro x;refine And.intro ?_ ?_<;>(intros;subst_vars;rfl)))|apply tTT
 all_goals (exfalso;omega)
def flatTo (xs:List (List Int)) (i:Nat):List Int:=(xs.take i).flatten
theorem flatTo_succ (xs:List (List Int)) (i:Nat) (h:i<xs.length):flatTo xs (i+1)=flatTo xs i++xs.getD i default:=by
 have:=take_flat (ass:=xs) (List.getElem?_eq_getElem h)
 unfold flatTo
 rw[this]
 simp[List.getD,List.getElem?_eq_getElem h]
theorem flatTo_all (xs:List (List Int)) (i:Nat) (h:xs.length≤i):flatTo xs i=xs.flatten:=by
 unfold flatTo
 rw[List.take_of_length_le h]
theorem flatTo_le (xs:List (List Int)) (i:Nat):(flatTo xs i).length≤xs.flatten.length:=by
 have:xs.flatten=flatTo xs i++(xs.drop i).flatten:=by unfold flatTo;rw[←List.flatten_append,List.take_append_drop]
 rw[this,List.length_append];omega
def kp160:List (Nat×List Nat):=[(0,[0]),(1,[0,3]),(2,[0,3,9,10,11]),(3,[0,3,9,10,11,12]),(4,[0,3,5,9,10,11]),(5,[0,3,9,10,11]),(6,[0,3,9,10,11,20]),(7,[0,3,9,10,11]),(8,[0,3,9,10,11]),(9,[0,6]),(10,[6,25,26,27]),(11,[6,25,26,27,28]),(12,[6,8,25,26,27]),(13,[6,25,26,27]),(14,[6,25,26,27]),(15,[2])]
attribute [go_sem] kp160 Tryz.results160 Tryz.ntmps160
theorem concat0_fc (p:List Nat) (hp:p≠[]) (tk:Tk) (xs:List (List Int)) (hx:xs.length≤1000) (hb:xs.flatten.length=0):FC S 160 [] [] [] [.sl tk (xs.map IntsD)] (.sl (.lab p) (xs.flatten.map (.int .i64))) [] []:=by
 refine FC.args (args':=[.sl .any (xs.map IntsD)]) ?_ (by simp only[go_sem])
 refine fcb Tryz.func160 fun B=>?_
 refine sw_bndg 0 fun hb0=>?_
 repeat' first|exact h.elim|refine sw_n ?_|refine sw_go 0 kp160 fun K hK=>?_|refine fun (K:KT) (hK:KOk S 0 _ _ _ K)=>?_|refine runL_g ?_|refine sw_retg0 ?_|refine sw_retg ?_|(refine hK.n0 ?_;clear hK K)|refine sw_condg rfl (fun h=>?_) fun h=>?_|refine sw_exit rfl ?_|refine sw_loopEnd ?_|with_reducible refine and_o ?_|((with_reducible refine And.intro ?_ ?_);· first|(intro x hx;subst hx;rfl)|(intro x;refine And.intro ?_ ?_<;>(intros;subst_vars;rfl)))|apply tTT
 refine sw_loopU (ι:=Nat) (fun i=>[(11,.int .i64 i),(3,.int .i64 (flatTo xs i).length)]) (fun _=>[]) (fun i=>i≤xs.length∧(True)) (fun i=>xs.length-i) 0 (by(refine covers_mk0 rfl rfl ?_ ?_ ?_ ?_<;>simp (disch:=(refine Om.mk ?_;omega)) only[go_sem]<;>(try omega));exact⟨by simp[flatTo],rfl⟩) ⟨by omega,?_⟩ (fun i ⟨hi,hj⟩=>?_)
 rotate_left
 simp only[go_sem]
 have hs:=flatTo_succ xs i
 have hle:=flatTo_le xs i
 have hle1:=flatTo_le xs (i+1)
 have hsl:i<xs.length→(flatTo xs (i+1)).length=(flatTo xs i).length+(xs.getD i default).length:=fun h=>by rw[hs h,List.length_append]
 repeat' first|exact h.elim|refine sw_n ?_|refine sw_go 0 kp160 fun K hK=>?_|refine fun (K:KT) (hK:KOk S 0 _ _ _ K)=>?_|refine runL_g ?_|refine sw_retg0 ?_|refine sw_retg ?_|(refine hK.n0 ?_;clear hK K)|refine sw_condg rfl (fun h=>?_) fun h=>?_|refine sw_exit rfl ?_|refine sw_loopEnd ?_|refine hK.c1 rfl rfl rfl (grow0_fc (flatTo xs i).length (by omega)) ?_|with_reducible refine and_o ?_|((with_reducible refine And.intro ?_ ?_);· first|(intro x hx;subst hx;rfl)|(intro x;refine And.intro ?_ ?_<;>(intros;subst_vars;rfl)))|apply tTT
 ·exfalso;omega
 ·exact⟨i+1,(by have:=hsl (by omega);(refine covers_mk0 rfl rfl ?_ ?_ ?_ ?_<;>simp (disch:=(refine Om.mk ?_;omega)) only[go_sem]<;>(try omega))),by omega,by omega⟩
 ·refine sw_tok 6 34000 2 1 rfl (.inl rfl) rfl ?_
  simp only[go_sem]
  refine sw_loopT (ι:=Nat) (fun k=>[(27,.int .i64 k),(6,.sl (.own 34000 2 1) ((flatTo xs k).map (.int .i64)))]) (fun _=>[]) (fun _=>[34000]) (fun k=>k≤xs.length) (fun k=>xs.length-k) 0 cvB (by omega) (fun k hk=>?_)
  simp only[go_sem]
  have hs2:=flatTo_succ xs k
  have hle2:=flatTo_le xs k
  have hle3:=flatTo_le xs (k+1)
  have hsl2:k<xs.length→(flatTo xs (k+1)).length=(flatTo xs k).length+(xs.getD k default).length:=fun h=>by rw[hs2 h,List.length_append]
  repeat' first|exact h.elim|(refine sw_lab 2 p (k:=34000) rfl (by simp) hp ?_;simp only[go_sem])|refine sw_n ?_|refine sw_go 0 kp160 fun K hK=>?_|refine fun (K:KT) (hK:KOk S 0 _ _ _ K)=>?_|refine runL_g ?_|refine sw_retg0 ?_|refine sw_retg ?_|(refine hK.n0 ?_;clear hK K)|refine sw_condg rfl (fun h=>?_) fun h=>?_|refine sw_exit rfl ?_|refine sw_loopEnd ?_|with_reducible refine and_o ?_|((with_reducible refine And.intro ?_ ?_);· first|(intro x hx;subst hx;rfl)|(intro x;refine And.intro ?_ ?_<;>(intros;subst_vars;rfl)))|apply tTT
  ·exact⟨k+1,(by have e:=(hs2 (by omega)).symm;(refine covers_mk0 rfl rfl ?_ ?_ ?_ ?_<;>simp (disch:=(refine Om.mk ?_;omega)) only[go_sem]<;>(try omega));first|exact e|exact⟨e,by omega⟩|exact⟨by omega,e⟩|(constructor<;>first|(rw[e];done)|omega)),by omega,by omega⟩
  ·exact flatTo_all xs k (by omega)
 all_goals trivial
theorem concat1_fc (p:List Nat) (hp:p≠[]) (tk:Tk) (xs:List (List Int)) (hx:xs.length≤1000) (hb:0<xs.flatten.length∧xs.flatten.length≤100000):FC S 160 [] [] [] [.sl tk (xs.map IntsD)] (.sl (.lab p) (xs.flatten.map (.int .i64))) [] []:=by
 refine FC.args (args':=[.sl .any (xs.map IntsD)]) ?_ (by simp only[go_sem])
 refine fcb Tryz.func160 fun B=>?_
 refine sw_bndg 0 fun hb0=>?_
 repeat' first|exact h.elim|refine sw_n ?_|refine sw_go 0 kp160 fun K hK=>?_|refine fun (K:KT) (hK:KOk S 0 _ _ _ K)=>?_|refine runL_g ?_|refine sw_retg0 ?_|refine sw_retg ?_|(refine hK.n0 ?_;clear hK K)|refine sw_condg rfl (fun h=>?_) fun h=>?_|refine sw_exit rfl ?_|refine sw_loopEnd ?_|with_reducible refine and_o ?_|((with_reducible refine And.intro ?_ ?_);· first|(intro x hx;subst hx;rfl)|(intro x;refine And.intro ?_ ?_<;>(intros;subst_vars;rfl)))|apply tTT
 refine sw_loopU (ι:=Nat) (fun i=>[(11,.int .i64 i),(3,.int .i64 (flatTo xs i).length)]) (fun _=>[]) (fun i=>i≤xs.length∧(True)) (fun i=>xs.length-i) 0 (by(refine covers_mk0 rfl rfl ?_ ?_ ?_ ?_<;>simp (disch:=(refine Om.mk ?_;omega)) only[go_sem]<;>(try omega));exact⟨by simp[flatTo],rfl⟩) ⟨by omega,?_⟩ (fun i ⟨hi,hj⟩=>?_)
 rotate_left
 simp only[go_sem]
 have hs:=flatTo_succ xs i
 have hle:=flatTo_le xs i
 have hle1:=flatTo_le xs (i+1)
 have hal:=flatTo_all xs i
 have hal2:xs.length≤i→(flatTo xs i).length=xs.flatten.length:=fun h=>by rw[hal h]
 have hsl:i<xs.length→(flatTo xs (i+1)).length=(flatTo xs i).length+(xs.getD i default).length:=fun h=>by rw[hs h,List.length_append]
 repeat' first|exact h.elim|refine sw_n ?_|refine sw_go 0 kp160 fun K hK=>?_|refine fun (K:KT) (hK:KOk S 0 _ _ _ K)=>?_|refine runL_g ?_|refine sw_retg0 ?_|refine sw_retg ?_|(refine hK.n0 ?_;clear hK K)|refine sw_condg rfl (fun h=>?_) fun h=>?_|refine sw_exit rfl ?_|refine sw_loopEnd ?_|refine hK.cB rfl rfl rfl (grow_fc (flatTo xs i).length (by omega) (by omega)) ?_|with_reducible refine and_o ?_|((with_reducible refine And.intro ?_ ?_);· first|(intro x hx;subst hx;rfl)|(intro x;refine And.intro ?_ ?_<;>(intros;subst_vars;rfl)))|apply tTT
 ·exfalso;omega
 ·exact⟨i+1,(by have:=hsl (by omega);(refine covers_mk0 rfl rfl ?_ ?_ ?_ ?_<;>simp (disch:=(refine Om.mk ?_;omega)) only[go_sem]<;>(try omega))),by omega,by omega⟩
 ·refine sw_loopT (ι:=Nat) (fun k=>[(27,.int .i64 k),(6,if k=0 then .sl (.own 25000 2 1) [] else .sl (.own 34000 2 1) ((flatTo xs k).map (.int .i64)))]) (fun _=>[]) (fun k=>if k=0 then [25000] else [34000]) (fun k=>k≤xs.length) (fun k=>xs.length-k) 0 cvA (by omega) (fun k hk=>?_)
  have hs2:=flatTo_succ xs k
  have hle2:=flatTo_le xs k
  have hle3:=flatTo_le xs (k+1)
  have hsl2:k<xs.length→(flatTo xs (k+1)).length=(flatTo xs k).length+(xs.getD k default).length:=fun h=>by rw[hs2 h,List.length_append]
  cases k with
  | zero =>
   simp only[go_sem]
   repeat' first|exact h.elim|refine sw_n ?_|refine sw_go 0 kp160 fun K hK=>?_|refine fun (K:KT) (hK:KOk S 0 _ _ _ K)=>?_|refine runL_g ?_|refine sw_retg0 ?_|refine sw_retg ?_|(refine hK.n0 ?_;clear hK K)|refine sw_condg rfl (fun h=>?_) fun h=>?_|refine sw_exit rfl ?_|refine sw_loopEnd ?_|with_reducible refine and_o ?_|((with_reducible refine And.intro ?_ ?_);· first|(intro x hx;subst hx;rfl)|(intro x;refine And.intro ?_ ?_<;>(intros;subst_vars;rfl)))|apply tTT
   ·exact⟨0+1,(by have e:xs.getD 0 default=flatTo xs (0+1):=(hs2 (by omega)).symm;(refine covers_mk0 rfl rfl ?_ ?_ ?_ ?_<;>simp (disch:=(refine Om.mk ?_;omega)) only[go_sem]<;>(try omega));first|exact e|exact⟨e,by omega⟩|exact⟨by omega,e⟩|(constructor<;>first|(rw[e];done)|omega)),by omega,by omega⟩
   ·exfalso
    have h5:=flatTo_all xs 0 (by omega)
    rw[←h5] at hb
    simp[flatTo] at hb
  | succ k =>
   simp only[go_sem]
   repeat' first|exact h.elim|(refine sw_lab 2 p (k:=34000) rfl (by simp) hp ?_;simp only[go_sem])|refine sw_n ?_|refine sw_go 0 kp160 fun K hK=>?_|refine fun (K:KT) (hK:KOk S 0 _ _ _ K)=>?_|refine runL_g ?_|refine sw_retg0 ?_|refine sw_retg ?_|(refine hK.n0 ?_;clear hK K)|refine sw_condg rfl (fun h=>?_) fun h=>?_|refine sw_exit rfl ?_|refine sw_loopEnd ?_|with_reducible refine and_o ?_|((with_reducible refine And.intro ?_ ?_);· first|(intro x hx;subst hx;rfl)|(intro x;refine And.intro ?_ ?_<;>(intros;subst_vars;rfl)))|apply tTT
   ·exact⟨k+1+1,(by have e:=(hs2 (by omega)).symm;(refine covers_mk0 rfl rfl ?_ ?_ ?_ ?_<;>simp (disch:=(refine Om.mk ?_;omega)) only[go_sem]<;>(try omega));first|exact e|exact⟨e,by omega⟩|exact⟨by omega,e⟩|(constructor<;>first|(rw[e];done)|omega)),by omega,by omega⟩
   ·exact flatTo_all xs (k+1) (by omega)
 all_goals trivial
theorem concat_fc (p:List Nat) (hp:p≠[]) (tk:Tk) (xs:List (List Int)) (hx:xs.length≤1000) (hb:xs.flatten.length≤100000):FC S 160 [] [] [] [.sl tk (xs.map IntsD)] (.sl (.lab p) (xs.flatten.map (.int .i64))) [] []:=by
 rcases Nat.eq_zero_or_pos xs.flatten.length with h|h
 ·exact concat0_fc p hp tk xs hx h
 ·exact concat1_fc p hp tk xs hx ⟨h,hb⟩
theorem concatQ_fc (tk:Tk) (xs:List (List Int)) (hx:xs.length≤1000) (hb:xs.flatten.length≤100000):FC S 160 [] [] [] [.sl tk (xs.map IntsD)] (.sl .any (xs.flatten.map (.int .i64))) [] [] :=
 (concat_fc [0] (by simp) tk xs hx hb).weak .any (by simp) (by simp)
theorem flat_bound:∀(xs:List (List Int)),(∀q∈xs,q.length≤60)→xs.flatten.length≤60*xs.length
 | [],_=>by simp
 | x::xs,h=>by
  have h1:=h x List.mem_cons_self
  have h2:=flat_bound xs fun q hq=>h q (List.mem_cons_of_mem _ hq)
  simp only[List.flatten_cons,List.length_append,List.length_cons]
  omega
end
section
attribute [local irreducible] SW runL runQ runG runQG FC Ret1
def natD (n:Nat):D:=.int .i64 n
attribute [go_sem] natD
theorem arS_low {rs:List Int} {x:Int} (h:0≤arS rs x):-24≤x∧x<rs.length:=by
 unfold arS at h
 split at h
 ·have:0≤(rs.length:Int):=by omega
  omega
 ·split at h
  ·omega
  ·omega
theorem TermOkP.ar {rs t:List Int} (h:TermOkP rs t):∀x∈t,0≤arS rs x:=fun x hx=>by
 have:=h.2.2
 unfold endS at this
 rw[List.drop_zero] at this
 exact scan_all (rs:=rs) t 1 0 (by omega) x hx
theorem TermOkP.low {rs t:List Int} (h:TermOkP rs t) {a:Nat} (ha:a<t.length):(-24≤t.getD a default∧t.getD a default<rs.length)∧0≤arS rs (t.getD a default)∧arS rs (t.getD a default)≤3 :=
 ⟨arS_low (h.ar _ (getD_mem t a ha)),h.ar _ (getD_mem t a ha),(arS_rng h.1 _).2⟩
theorem copyQ_fc (tk:Tk) (xs:List Int) (hl:xs.length≤17592186044416):FC S 94 [] [] [] [.sl tk (xs.map (.int .i64))] (.sl .any (xs.map (.int .i64))) [] [] :=
 (l1Copy_fc tk xs hl).weak .any (by simp) (by simp)
def kp117:List (Nat×List Nat):=[(0,[1,2,3]),(1,[6])]
attribute [go_sem] kp117 Tryz.results117 Tryz.ntmps117
theorem l1Sub_fc (tk tk':Tk) (rs t:List Int) (a:Nat) (hT:TermOkP rs t) (ha:a<t.length):FC S 117 [] [] [] [.agg [.sl tk (rs.map (.int .i64))],.sl tk' (t.map (.int .i64)),.int .i64 a] (.sl .any ((subS rs t a).map (.int .i64))) [] []:=by
 have he:=endS_ge hT ha
 have hl:=hT.2.1.2
 refine fcb Tryz.func117 fun B=>?_
 refine sw_bndg 1 fun hb1=>?_
 repeat' first|refine sw_n ?_|refine sw_go 0 kp117 fun K hK=>?_|refine fun (K:KT) (hK:KOk S 0 _ _ _ K)=>?_|refine runL_g ?_|refine sw_retg0 ?_|refine sw_retg ?_|(refine hK.n0 ?_;clear hK K)|refine sw_loopEnd ?_|refine hK.c1 rfl rfl rfl (l1End_fc _ _ rs t a hT.1 hl (by omega)) ?_|refine hK.c1 rfl rfl rfl (copyQ_fc _ (subS rs t a) (by unfold subS;simp;omega)) ?_|with_reducible refine and_o ?_|apply tTT
def kp77:List (Nat×List Nat):=[(0,[1,2,3]),(1,[1,2,3,7]),(2,[1,2,3,7,8]),(3,[1,3,7,8,9]),(4,[1,3,7,8,9,20]),(6,[1,3,7,8,9]),(7,[1,3,7,8,9]),(5,[1,3,7,8,9]),(8,[6])]
attribute [go_sem] kp77 Tryz.results77 Tryz.ntmps77
theorem l1Args_fc (tk tk':Tk) (rs t:List Int) (a:Nat) (hT:TermOkP rs t) (ha:a<t.length):FC S 77 [] [] [] [.agg [.sl tk (rs.map (.int .i64))],.sl tk' (t.map (.int .i64)),.int .i64 a] (.sl .any ((argsS rs t a).map natD)) [] []:=by
 have hl:=hT.2.1.2
 have hlo:=hT.low ha
 obtain⟨n,hn⟩:∃n:Nat,arS rs (t.getD a default)=n:=⟨(arS rs (t.getD a default)).toNat,by omega⟩
 have hlt:∀j<n,a<nthB rs t (a+1) j∧nthB rs t (a+1) j<t.length:=fun j hj=>nthB_lt hT ha (by omega)
 have hle:∀j≤n,a<nthB rs t (a+1) j∧nthB rs t (a+1) j≤t.length:=fun j hj=>nthB_le hT ha (by omega)
 unfold argsS
 rw[hn,Int.toNat_natCast]
 refine FC.args (args':=[.agg [.sl .any (rs.map (.int .i64))],.sl .any (t.map (.int .i64)),.int .i64 a]) ?_ (by simp only[go_sem])
 refine fcb Tryz.func77 fun B=>?_
 refine sw_bndg 1 fun hb1=>?_
 repeat' first|exact h.elim|refine sw_n ?_|refine sw_go 0 kp77 fun K hK=>?_|refine fun (K:KT) (hK:KOk S 0 _ _ _ K)=>?_|refine sw_goD kp77 (by kernel_rfl) fun K hK=>?_|refine runL_g ?_|refine runQ_g ?_|refine sw_retg0 ?_|refine sw_retg ?_|(refine hK.n0 ?_;clear hK K)|refine sw_condg rfl (fun h=>?_) fun h=>?_|refine sw_exit rfl ?_|refine sw_loopEnd ?_|refine hK.c1 rfl rfl rfl (l1Arity_fc _ rs _) ?_|with_reducible refine and_o ?_|((with_reducible refine And.intro ?_ ?_);· first|(intro x hx;subst hx;rfl)|(intro x;refine And.intro ?_ ?_<;>(intros;subst_vars;rfl)))|apply tTT
 rw[hn]
 refine sw_tok 7 27000 2 1 rfl (.inr rfl) rfl ?_
 simp only[go_sem]
 refine sw_loopT (ι:=Nat) (fun j=>[(9,.int .i64 (n-j:Int)),(8,.int .i64 (nthB rs t (a+1) j)),(7,.sl (.own 27000 2 1) ((begS rs t j (a+1)).map natD))]) (fun _=>[]) (fun _=>[27000]) (fun j=>j≤n) (fun j=>n-j) 0 (by(refine covers_mk0 rfl rfl ?_ ?_ ?_ ?_<;>simp (disch:=(refine Om.mk ?_;omega)) only[go_sem]<;>(try omega));simp[nthB,begS]) (by omega) (fun j hj=>?_)
 simp only[go_sem]
 have hb:=begS_length rs t j (a+1)
 have h3:=hle j hj
 have h4:=hlt j
 have h5:j<n→((endS rs t (nthB rs t (a+1) j)).toNat:Int)=endS rs t (nthB rs t (a+1) j):=fun hj=>by have:=endS_ge hT (h4 hj).2;omega
 repeat' first|exact h.elim|refine sw_n ?_|refine sw_go 0 kp77 fun K hK=>?_|refine fun (K:KT) (hK:KOk S 0 _ _ _ K)=>?_|refine sw_goD kp77 (by kernel_rfl) fun K hK=>?_|refine runL_g ?_|refine runQ_g ?_|refine sw_retg0 ?_|refine sw_retg ?_|(refine hK.n0 ?_;clear hK K)|refine sw_condg rfl (fun h=>?_) fun h=>?_|refine sw_exit rfl ?_|refine sw_loopEnd ?_|refine hK.c1 rfl rfl rfl (l1End_fc _ _ rs t (nthB rs t (a+1) j) hT.1 hl (by omega)) ?_|with_reducible refine and_o ?_|((with_reducible refine And.intro ?_ ?_);· first|(intro x hx;subst hx;rfl)|(intro x;refine And.intro ?_ ?_<;>(intros;subst_vars;rfl)))|apply tTT
 ·refine⟨j+1,(by(refine covers_mk0 rfl rfl ?_ ?_ ?_ ?_<;>simp (disch:=(refine Om.mk ?_;omega)) only[go_sem]<;>(try omega));have:=h5 (by omega);simp only[nthB,begS_snoc,List.map_append,List.map_cons,List.map_nil,natD];exact⟨trivial,this.symm,by omega⟩),by omega,by omega⟩
 ·rw[show j=n by omega]
def kp144:List (Nat×List Nat):=[(0,[1,2,3]),(1,[6])]
attribute [go_sem] kp144 Tryz.results144 Tryz.ntmps144
theorem subAt_fc (tk tk':Tk) (rs t:List Int) (a:Nat) (hT:TermOkP rs t) (ha:a<t.length):FC S 144 [] [] [] [.agg [.sl tk (rs.map (.int .i64))],.sl tk' (t.map (.int .i64)),.int .i64 a] (.sl .any ((subS rs t a).map (.int .i64))) [] []:=by
 have he:=endS_ge hT ha
 have hl:=hT.2.1.2
 refine fcb Tryz.func144 fun B=>?_
 refine sw_bndg 1 fun hb1=>?_
 repeat' first|refine sw_n ?_|refine sw_go 0 kp144 fun K hK=>?_|refine runL_g ?_|refine sw_retg0 ?_|(refine hK.n0 ?_;clear hK K)|refine hK.c1 rfl rfl rfl (endAt_fc _ _ rs t a hT.1 hT.ge hl (by omega)) ?_|with_reducible refine and_o ?_|apply tTT
 rfl
def kp82:List (Nat×List Nat):=[(0,[1,2,3]),(1,[1,2,3,7]),(2,[1,2,3,7,8]),(3,[1,3,7,8,9]),(4,[1,3,7,8,9,19]),(6,[1,3,7,8,9]),(7,[1,3,7,8,9]),(5,[1,3,7,8,9]),(8,[6])]
attribute [go_sem] kp82 Tryz.results82 Tryz.ntmps82
theorem argsAt_fc (tk tk':Tk) (rs t:List Int) (a:Nat) (hT:TermOkP rs t) (ha:a<t.length):FC S 82 [] [] [] [.agg [.sl tk (rs.map (.int .i64))],.sl tk' (t.map (.int .i64)),.int .i64 a] (.sl .any ((argsS rs t a).map natD)) [] []:=by
 have hl:=hT.2.1.2
 have hlo:=hT.low ha
 obtain⟨n,hn⟩:∃n:Nat,arS rs (t.getD a default)=n:=⟨(arS rs (t.getD a default)).toNat,by omega⟩
 have hlt:∀j<n,a<nthB rs t (a+1) j∧nthB rs t (a+1) j<t.length:=fun j hj=>nthB_lt hT ha (by omega)
 have hle:∀j≤n,a<nthB rs t (a+1) j∧nthB rs t (a+1) j≤t.length:=fun j hj=>nthB_le hT ha (by omega)
 unfold argsS
 rw[hn,Int.toNat_natCast]
 refine FC.args (args':=[.agg [.sl .any (rs.map (.int .i64))],.sl .any (t.map (.int .i64)),.int .i64 a]) ?_ (by simp only[go_sem])
 refine fcb Tryz.func82 fun B=>?_
 refine sw_bndg 1 fun hb1=>?_
 repeat' first|refine sw_n ?_|refine sw_go 0 kp82 fun K hK=>?_|refine sw_goD kp82 (by kernel_rfl) fun K hK=>?_|refine runL_g ?_|refine runQ_g ?_|(refine hK.n0 ?_;clear hK K)|refine hK.c1 rfl rfl rfl (arityAt_fc _ rs _ hlo.1) ?_|with_reducible refine and_o ?_|apply tTT
 rw[hn]
 refine sw_tok 7 26000 3 1 rfl (.inl rfl) rfl ?_
 simp only[go_sem]
 refine sw_loopT (ι:=Nat) (fun j=>[(9,.int .i64 (n-j:Int)),(8,.int .i64 (nthB rs t (a+1) j)),(7,.sl (.own 26000 3 1) ((begS rs t j (a+1)).map natD))]) (fun _=>[]) (fun _=>[26000]) (fun j=>j≤n) (fun j=>n-j) 0 (by(refine covers_mk0 rfl rfl ?_ ?_ ?_ ?_<;>simp (disch:=(refine Om.mk ?_;omega)) only[go_sem]<;>(try omega));simp[nthB,begS]) (by omega) (fun j hj=>?_)
 simp only[go_sem]
 have hb:=begS_length rs t j (a+1)
 have h3:=hle j hj
 have h4:=hlt j
 have h5:j<n→((endS rs t (nthB rs t (a+1) j)).toNat:Int)=endS rs t (nthB rs t (a+1) j):=fun hj=>by have:=endS_ge hT (h4 hj).2;omega
 repeat' first|exact h.elim|refine sw_n ?_|refine sw_go 0 kp82 fun K hK=>?_|refine runL_g ?_|refine sw_retg0 ?_|(refine hK.n0 ?_;clear hK K)|refine sw_condg rfl (fun h=>?_) fun h=>?_|refine sw_exit rfl ?_|refine sw_loopEnd ?_|refine hK.c1 rfl rfl rfl (endAt_fc _ _ rs t (nthB rs t (a+1) j) hT.1 hT.ge hl (by omega)) ?_|with_reducible refine and_o ?_|apply tTT
 ·refine⟨j+1,(by(refine covers_mk0 rfl rfl ?_ ?_ ?_ ?_<;>simp (disch:=(refine Om.mk ?_;omega)) only[go_sem]<;>(try omega));have:=h5 (by omega);simp only[nthB,begS_snoc,List.map_append,List.map_cons,List.map_nil,natD];exact⟨trivial,this.symm,by omega⟩),by omega,by omega⟩
 ·rw[show j=n by omega]
end
section
def SameHd (a b:List Int):Prop:=a.getD 0 default=b.getD 0 default∧0≤a.getD 0 default
instance (a b:List Int):Decidable (SameHd a b):=inferInstanceAs (Decidable (_∧_))
theorem sub_sub {rs t:List Int} (h:TermOkP rs t) {i:Nat} (hi:i<t.length):(subS rs t i).getD 0 default=t.getD i default∧∀j<(arS rs (t.getD i default)).toNat,subS rs (subS rs t i) (nthB rs (subS rs t i) 1 j)=subS rs t (nthB rs t (i+1) j):=by
 obtain⟨p,l,r,e,rfl,h0,hl⟩:=args_cut h hi
 have hu:Fl rs 1 (t.getD p.length default::l):=by
  have:Fl rs (0+1) (t.getD p.length default::l):=.cons h0 (by rw[Nat.zero_add];exact hl)
  rwa [Nat.zero_add] at this
 have es:subS rs t p.length=t.getD p.length default::l:=by
  conv=>lhs;rw[e]
  exact subS_app hu
 rw[es]
 refine⟨rfl,fun j hj=>?_⟩
 generalize hx:t.getD p.length default=x at *
 obtain⟨l1,l2,rfl,c1,c2,c3⟩:=Fl.cut [x] [] j _ l hl (by omega)
 obtain⟨d1,d2,d3,d4,d5,d6⟩:=Fl.cut (p++[x]) r j _ (l1++l2) hl (by omega)
 obtain⟨rfl,rfl⟩:=c1.uniq d4 d3
 obtain⟨u,r2,rfl,u1,_⟩:=Fl.split l2 1 (_-(j+1)) (by rw[show 1+((arS rs x).toNat-(j+1))=(arS rs x).toNat-j by omega];exact c2)
 simp only[List.append_nil,List.length_append,List.length_cons,List.length_nil] at c3 d6
 have e1:x::(l1++(u++r2))=([x]++l1)++(u++r2):=by simp
 have e2:t=(p++[x]++l1)++(u++(r2++r)):=by rw[e];simp
 have c3':nthB rs (x::(l1++(u++r2))) 1 j=([x]++l1).length:=by
  have:[x]++(l1++(u++r2))=x::(l1++(u++r2)):=rfl
  rw[this] at c3
  simp at c3 ⊢;omega
 have d6':nthB rs t (p.length+1) j=(p++[x]++l1).length:=by
  have:p++[x]++(l1++(u++r2)++r)=t:=by rw[e];simp
  rw[this] at d6
  simp at d6 ⊢;omega
 rw[c3',d6']
 conv=>lhs;rw[e1]
 conv=>rhs;rw[e2]
 rw[subS_app u1,subS_app u1]
def lexB:List Int→List Int→Bool
 | a::r,b::s=>if a=b then lexB r s else decide (a<b)
 | [],_::_=>true
 | _,[]=>false
theorem lexB_irr:∀a:List Int,lexB a a=false
 | []=>rfl
 | a::r=>by simp[lexB,lexB_irr r]
theorem lexB_tri:∀a b:List Int,lexB a b=true∨a=b∨lexB b a=true
 | [],[]=>.inr (.inl rfl)
 | [],b::s=>.inl rfl
 | a::r,[]=>.inr (.inr rfl)
 | a::r,b::s=>by
  by_cases h:a=b
  ·subst h
   rcases lexB_tri r s with h|h|h
   ·exact .inl (by simp[lexB,h])
   ·exact .inr (.inl (by rw[h]))
   ·exact .inr (.inr (by simp[lexB,h]))
  ·by_cases h2:a<b
   ·exact .inl (by simp[lexB,h,h2])
   ·exact .inr (.inr (by simp[lexB,Ne.symm h];omega))
theorem lexB_trans:∀a b c:List Int,lexB a b=true→lexB b c=true→lexB a c=true
 | [],[],_,h,_=>by simp[lexB] at h
 | a::r,[],_,h,_=>by simp[lexB] at h
 | _,b::s,[],_,h=>by simp[lexB] at h
 | [],b::s,c::q,_,_=>rfl
 | a::r,b::s,c::q,h1,h2=>by
  simp only[lexB] at h1 h2 ⊢
  split at h1<;>split at h2
  ·rename_i e1 e2
   subst e1;subst e2
   simp[lexB_trans r s q h1 h2]
  ·rename_i e1 e2
   subst e1
   rw[if_neg e2];exact h2
  ·rename_i e1 e2
   subst e2
   rw[if_neg e1];exact h1
  ·simp only[decide_eq_true_eq] at h1 h2
   rw[if_neg (by omega)]
   simp only[decide_eq_true_eq];omega
def lessT (a b:List Int):Bool:=if a.length=b.length then lexB a b else decide (a.length<b.length)
theorem lessT_irr (a:List Int):lessT a a=false:=by simp[lessT,lexB_irr]
theorem lessT_tri (a b:List Int):lessT a b=true∨a=b∨lessT b a=true:=by
 unfold lessT
 by_cases h:a.length=b.length
 ·rw[if_pos h,if_pos h.symm];exact lexB_tri a b
 ·rw[if_neg h,if_neg (Ne.symm h)]
  simp only[decide_eq_true_eq]
  omega
theorem lessT_trans (a b c:List Int) (h1:lessT a b=true) (h2:lessT b c=true):lessT a c=true:=by
 unfold lessT at *
 split at h1<;>split at h2
 ·rw[if_pos (by omega)];exact lexB_trans a b c h1 h2
 ·simp only[decide_eq_true_eq] at h2
  rw[if_neg (by omega)];simp only[decide_eq_true_eq];omega
 ·simp only[decide_eq_true_eq] at h1
  rw[if_neg (by omega)];simp only[decide_eq_true_eq];omega
 ·simp only[decide_eq_true_eq] at h1 h2
  rw[if_neg (by omega)];simp only[decide_eq_true_eq];omega
theorem lessT_asym {a b:List Int} (h:lessT a b=true):lessT b a=false:=by
 cases h2:lessT b a with
 | false=>rfl
 | true=>have:=lessT_trans a b a h h2;rw[lessT_irr] at this;cases this
theorem lessT_anti {a b:List Int} (h1:lessT a b=false) (h2:lessT b a=false):a=b:=by
 rcases lessT_tri a b with h|h|h
 ·rw[h1] at h;cases h
 ·exact h
 ·rw[h2] at h;cases h
theorem lessT_ntrans (a b c:List Int) (h1:lessT a b=false) (h2:lessT b c=false):lessT a c=false:=by
 cases h:lessT a c with
 | false=>rfl
 | true =>
  rcases lessT_tri a b with h3|h3|h3
  ·rw[h1] at h3;cases h3
  ·rw[h3] at h;rw[h2] at h;cases h
  ·have:=lessT_trans b a c h3 h
   rw[h2] at this;cases this
def SrtP (xs:List (List Int)):Prop:=xs.Pairwise (fun a b=>lessT b a=false)
theorem srt_uniq {xs ys:List (List Int)} (h1:SrtP xs) (h2:SrtP ys) (hp:xs.Perm ys):xs=ys :=
 List.Perm.eq_of_pairwise (le:=fun a b=>lessT b a=false) (fun a b _ _ h h'=>lessT_anti h' h) h1 h2 hp
def insK (xs:List (List Int)) (t:List Int):Nat→Nat
 | 0=>0
 | k+1=>if lessT t (xs.getD k default)=true then insK xs t k else k+1
theorem insK_le (xs:List (List Int)) (t:List Int):∀k,insK xs t k≤k
 | 0=>Nat.le_refl _
 | k+1=>by have:=insK_le xs t k;unfold insK;split<;>omega
def insT (xs:List (List Int)) (t:List Int):List (List Int):=xs.take (insK xs t xs.length)++t::xs.drop (insK xs t xs.length)
theorem insT_perm (xs:List (List Int)) (t:List Int):(insT xs t).Perm (t::xs):=by
 unfold insT
 refine List.perm_middle.trans ?_
 rw[List.take_append_drop]
theorem insK_lt (xs:List (List Int)) (t:List Int):∀k j,insK xs t k≤j→j<k→lessT t (xs.getD j default)=true
 | 0,j,_,h=>by omega
 | k+1,j,h1,h2=>by
  unfold insK at h1
  split at h1
  ·rename_i h
   by_cases e:j=k
   ·rw[e];exact h
   ·exact insK_lt xs t k j h1 (by omega)
  ·omega
theorem insK_ge (xs:List (List Int)) (t:List Int):∀k,insK xs t k=0∨lessT t (xs.getD (insK xs t k-1) default)=false
 | 0=>.inl rfl
 | k+1=>by
  unfold insK
  split
  ·exact insK_ge xs t k
  ·rename_i h
   right
   simpa using h
theorem insT_srt {xs:List (List Int)} (h:SrtP xs) (t:List Int):SrtP (insT xs t):=by
 have hle:=insK_le xs t xs.length
 have hlt:=insK_lt xs t xs.length
 have hge:=insK_ge xs t xs.length
 unfold insT
 generalize insK xs t xs.length=k at *
 have hsp:SrtP (xs.take k++xs.drop k):=by rw[List.take_append_drop];exact h
 unfold SrtP at *
 rw[List.pairwise_append] at hsp
 obtain⟨s1,s2,s3⟩:=hsp
 have hg:∀j (hj:j<xs.length),xs.getD j default=xs[j]:=fun j hj=>by simp[List.getD,List.getElem?_eq_getElem hj]
 rw[List.pairwise_append,List.pairwise_cons]
 have hd:∀b∈xs.drop k,lessT t b=true:=fun b hb=>by
  obtain⟨j,hj,rfl⟩:=List.getElem_of_mem hb
  rw[List.length_drop] at hj
  rw[List.getElem_drop,←hg (k+j) (by omega)]
  exact hlt (k+j) (by omega) (by omega)
 refine⟨s1,⟨fun b hb=>lessT_asym (hd b hb),s2⟩,fun a ha b hb=>?_⟩
 rcases List.mem_cons.1 hb with rfl|hb
 ·-- a stands at a place below k
  obtain⟨j,hj,rfl⟩:=List.getElem_of_mem ha
  rw[List.length_take] at hj
  rw[List.getElem_take]
  rcases hge with e|e
  ·omega
  ·have hk1:k-1<xs.length:=by omega
   rw[hg _ hk1] at e
   by_cases ej:j=k-1
   ·subst ej;exact e
   ·have:=(List.pairwise_iff_getElem.1 h) j (k-1) (by omega) hk1 (by omega)
    exact lessT_ntrans _ _ _ e this
 ·exact s3 a ha b hb
def srtM (xs:List (List Int)):List (List Int):=xs.foldl insT []
theorem srtM_snoc (xs:List (List Int)) (t:List Int):srtM (xs++[t])=insT (srtM xs) t:=by simp[srtM,List.foldl_append]
theorem srtM_ok (xs:List (List Int)):(srtM xs).Perm xs∧SrtP (srtM xs):=by
 have:∀n (xs:List (List Int)),xs.length=n→(srtM xs).Perm xs∧SrtP (srtM xs):=fun n=>by
  induction n with
  | zero =>
   intro xs h
   obtain rfl:=List.length_eq_zero_iff.1 h
   exact⟨.nil,.nil⟩
  | succ n ih =>
   intro xs h
   have hne:xs≠[]:=by rintro rfl;simp at h
   have e:=(List.dropLast_concat_getLast hne).symm
   rw[e]
   obtain⟨h1,h2⟩:=ih xs.dropLast (by simp[h])
   rw[srtM_snoc]
   refine⟨(insT_perm _ _).trans ?_,insT_srt h2 _⟩
   refine(List.Perm.cons _ h1).trans ?_
   exact(List.perm_append_singleton _ _).symm
 exact this _ xs rfl
theorem srtM_len (xs:List (List Int)):(srtM xs).length=xs.length:=(srtM_ok xs).1.length_eq
end
section
attribute [local irreducible] SW runL runQ runG runQG FC Ret1
end
section
attribute [local irreducible] SW runL runQ runG runQG FC Ret1 RetN toF redoL
theorem lexB_at:∀(a b:List Int) (i:Nat),(∀j<i,a.getD j default=b.getD j default)→i<a.length→i<b.length→a.getD i default≠b.getD i default→lexB a b=decide (a.getD i default<b.getD i default)
 | [],_,_,_,h,_,_=>by simp at h
 | _::_,[],_,_,_,h,_=>by simp at h
 | x::r,y::s,0,_,_,_,h=>by
  simp only[List.getD_cons_zero] at h ⊢
  simp only[lexB];rw[if_neg h]
 | x::r,y::s,i+1,h,h1,h2,h3=>by
  have h0:=h 0 (by omega)
  simp only[List.getD_cons_zero] at h0
  simp only[List.getD_cons_succ] at h3 ⊢
  simp only[lexB];rw[if_pos h0]
  exact lexB_at r s i (fun j hj=>by have:=h (j+1) (by omega);simpa only[List.getD_cons_succ] using this) (by simpa using h1) (by simpa using h2) h3
theorem lex_eq {a b:List Int} (hl:a.length=b.length) (h:∀j<a.length,a.getD j default=b.getD j default):a=b :=
 List.ext_getElem hl fun j h1 h2=>by
  have:=h j h1
  simpa[List.getD,List.getElem?_eq_getElem h1,List.getElem?_eq_getElem h2] using this
def kp93:List (Nat×List Nat):=[(0,[0,1]),(1,[0,1,10]),(2,[4]),(3,[0,1,5]),(4,[0,1,5,19]),(6,[0,1,5,30]),(7,[4]),(5,[0,1,5]),(8,[4])]
attribute [go_sem] kp93 Tryz.results93 Tryz.ntmps93
theorem lessTerm_fc (tk tk':Tk) (a b:List Int):FC S 93 [] [] [] [.sl tk (a.map (.int .i64)),.sl tk' (b.map (.int .i64))] (.bool (lessT a b)) [] []:=by
 refine fcb Tryz.func93 fun B=>?_
 refine sw_bndg 0 fun hb0=>?_
 refine sw_bndg 1 fun hb1=>?_
 repeat' first|exact h.elim|refine sw_n ?_|refine sw_go 0 kp93 fun K hK=>?_|refine fun (K:KT) (hK:KOk S 0 _ _ _ K)=>?_|refine sw_goD kp93 (by kernel_rfl) fun K hK=>?_|refine runL_g ?_|refine runQ_g ?_|refine sw_retg0 ?_|refine sw_retg ?_|(refine hK.n0 ?_;clear hK K)|refine sw_condg rfl (fun h=>?_) fun h=>?_|refine sw_exit rfl ?_|refine sw_loopEnd ?_|with_reducible refine and_o ?_|apply tTT
 ·unfold lessT;rw[if_neg (by omega)];simp
 refine sw_loopU (ι:=Nat) (fun i=>[(5,.int .i64 i)]) (fun _=>[]) (fun i=>i≤a.length∧(∀j<i,a.getD j default=b.getD j default)) (fun i=>a.length-i) 0 cvA ⟨by omega,?_⟩ (fun i ⟨hi,hj⟩=>?_)
 rotate_left
 simp only[go_sem]
 repeat' first|exact h.elim|refine sw_n ?_|refine sw_go 0 kp93 fun K hK=>?_|refine fun (K:KT) (hK:KOk S 0 _ _ _ K)=>?_|refine sw_goD kp93 (by kernel_rfl) fun K hK=>?_|refine runL_g ?_|refine runQ_g ?_|refine sw_retg0 ?_|refine sw_retg ?_|(refine hK.n0 ?_;clear hK K)|refine sw_condg rfl (fun h=>?_) fun h=>?_|refine sw_exit rfl ?_|refine sw_loopEnd ?_|with_reducible refine and_o ?_|apply tTT
 ·unfold lessT;rw[if_pos (by omega),lexB_at a b i hj (by omega) (by omega) h]
 ·exact⟨i+1,cvA,⟨by omega,upto_succ hj h⟩,by omega⟩
 ·rw[lex_eq (by omega) (fun j h2=>hj j (by omega)),lessT_irr]
 ·intro j h2;omega
def kp118:List (Nat×List Nat):=[(0,[0,1]),(1,[0,1,5]),(2,[0,1,5,19]),(3,[0,1,5]),(4,[0,1,5,6]),(5,[0,5,6]),(6,[4])]
attribute [go_sem] kp118 Tryz.results118 Tryz.ntmps118
theorem l28Insert_fc (tk:Tk) (xs:List (List Int)) (t:List Int) (hn:xs.length≤3000):FC S 118 [] [] [] [.sl tk (xs.map IntsD),.sl .any (t.map (.int .i64))] (.sl .any ((insT xs t).map IntsD)) [] []:=by
 refine FC.args (args':=[.sl .any (xs.map IntsD),.sl .any (t.map (.int .i64))]) ?_ (by simp only[go_sem])
 refine fcb Tryz.func118 fun B=>?_
 refine sw_bndg 0 fun hb0=>?_
 repeat' first|exact h.elim|refine sw_n ?_|refine sw_go 0 kp118 fun K hK=>?_|refine fun (K:KT) (hK:KOk S 0 _ _ _ K)=>?_|refine runL_g ?_|refine sw_retg0 ?_|refine sw_retg ?_|(refine hK.n0 ?_;clear hK K)|refine runG_fk (fun h=>?_) fun h=>?_|refine sw_condg rfl (fun h=>?_) fun h=>?_|refine hK.skp rfl rfl ?_|refine sw_exit rfl ?_|refine sw_loopEnd ?_|(refine hK.fork rfl rfl rfl ?_ ?_<;>intro h<;>try simp (disch:=(refine Om.mk ?_;omega)) only[go_sem] at h)|with_reducible refine and_o ?_|((with_reducible refine And.intro ?_ ?_);· first|(intro x hx;subst hx;rfl)|(intro x;refine And.intro ?_ ?_<;>(intros;subst_vars;rfl)))|apply tTT
 refine sw_loopU (ι:=Nat) (fun p=>[(5,.int .i64 p)]) (fun p=>[]) (fun p=>p≤xs.length∧insK xs t xs.length=insK xs t p) (fun p=>p) xs.length (by(refine covers_mk0 rfl rfl ?_ ?_ ?_ ?_<;>simp (disch:=(refine Om.mk ?_;omega)) only[go_sem]<;>(try omega));skip) ?_ (fun p hp=>?_)
 rotate_left
 simp only[go_sem]
 obtain⟨hp1,hp2⟩:=hp
 have hk:p=0∨lessT t (xs.getD (p-1) default)=false→insT xs t=xs.take p++t::xs.drop p:=fun h=>by
  have e:insK xs t p=p:=by
   cases p with
   | zero=>rfl
   | succ q =>
    have h1:=h.resolve_left (by omega)
    rw[Nat.add_sub_cancel] at h1
    unfold insK;rw[if_neg (by rw[h1];simp)]
  unfold insT;rw[hp2,e]
 have hk2:0<p→lessT t (xs.getD (p-1) default)=true→insK xs t p=insK xs t (p-1):=fun h0 h=>by
  obtain⟨q,rfl⟩:∃q,p=q+1:=⟨p-1,by omega⟩
  rw[Nat.add_sub_cancel] at h ⊢
  rw[insK,if_pos h]
 repeat' first|exact h.elim|refine sw_n ?_|refine sw_go 0 kp118 fun K hK=>?_|refine fun (K:KT) (hK:KOk S 0 _ _ _ K)=>?_|refine runL_g ?_|refine sw_retg0 ?_|refine sw_retg ?_|(refine hK.n0 ?_;clear hK K)|refine runG_fk (fun h=>?_) fun h=>?_|refine sw_condg rfl (fun h=>?_) fun h=>?_|refine hK.skp rfl rfl ?_|refine sw_exit rfl ?_|refine sw_loopEnd ?_|refine hK.c1 rfl rfl rfl (lessTerm_fc _ _ _ _) ?_|(refine hK.fork rfl rfl rfl ?_ ?_<;>intro h<;>try simp (disch:=(refine Om.mk ?_;omega)) only[go_sem] at h)|with_reducible refine and_o ?_|((with_reducible refine And.intro ?_ ?_);· first|(intro x hx;subst hx;rfl)|(intro x;refine And.intro ?_ ?_<;>(intros;subst_vars;rfl)))|apply tTT
 ·exact⟨p-1,cvA,⟨by omega,hp2.trans (hk2 (by omega) h)⟩,by omega⟩
 ·rw[hk (.inr h)];first|rfl|(simp;done)|(simp;rfl)
 ·rw[hk (.inl (by omega))];first|rfl|(simp;done)|(simp;rfl)
 ·rfl
end
section
attribute [local irreducible] SW runL runQ runG runQG FC Ret Ret1
def shInt64S:Sh:=.slc (.cell .nil)
def Int64SL (p:List Nat) (xs:List Int):D:=.sl (.lab p) (xs.map (.int .i64))
attribute [go_sem] Int64SL
def mcInt64S (xs:List Int):Nat:=xs.length
theorem le_Int64SL (p:List Nat) (xs:List Int):D.le (Int64SL p xs) (.sl .any (xs.map (.int .i64))):=.any
theorem mcle_Int64S (xs:List Int):mcInt64S xs≤4*cntInt64S xs:=by unfold mcInt64S cntInt64S;omega
theorem lt_Int64S (p:List Nat) (xs:List Int):LT shInt64S p (Int64SL p xs) (mcInt64S xs):=LT_ints p xs
def fsSig:Fs:=(.sub shInt64S .nil)
def SigL (p:List Nat) (x:List Int):D:=.agg [Int64SL (p++[0]) x]
attribute [go_sem] SigL
theorem le_SigLc (p:List Nat) (x:List Int):leL (SigL p x).cells (SigD x).cells:=⟨le_Int64SL _ _,trivial⟩
theorem le_SigL (p:List Nat) (x:List Int):D.le (SigL p x) (SigD x):=by unfold SigL SigD;rw[le_agg];exact le_SigLc p x
def shInt64SS:Sh:=.slc (.sub shInt64S .nil)
def Int64SSL (p:List Nat) (xs:List (List Int)):D:=.sl (.lab p) (mapR (fun i y=>Int64SL (p++[i]++[0]) y) xs)
attribute [go_sem] Int64SSL
theorem le_Int64SSL (p:List Nat) (xs:List (List Int)):D.le (Int64SSL p xs) (.sl .any (xs.map IntsD)):=le_mapR xs fun j x=>⟨le_Int64SL _ _,trivial⟩
def mcInt64SS (xs:List (List Int)):Nat:=(xs.map fun x=>(mcInt64S x+0)).sum
theorem mcle_Int64SS (xs:List (List Int)):mcInt64SS xs≤4*cntInt64SS xs:=by unfold mcInt64SS cntInt64SS;exact sum_le4 (fun x=>by have:=mcle_Int64S x;(try simp only[cntInt64S,cntInt64S,cntSig,cntSubst] at *);omega) xs
theorem lt_Int64SS (p:List Nat) (xs:List (List Int)):LT shInt64SS p (Int64SSL p xs) (mcInt64SS xs):=LT_mapR xs fun j x=>by unfold LF;exact⟨_,_,_,_,rfl,rfl,lt_Int64S _ _,by unfold LF;exact⟨rfl,rfl⟩⟩
def TransL (p:List Nat) (x:TransT):D:=.agg [.int .i64 x.sym,Int64SL (p++[1]) x.args,.int .i64 x.to]
attribute [go_sem] TransL
def TransSL (p:List Nat) (xs:List TransT):D:=.sl (.lab p) (mapR (fun i y=>TransL (p++[i]) y) xs)
attribute [go_sem] TransSL
def LineL (p:List Nat) (x:LineT):D:=.agg [.int .i64 x.fun_,Int64SSL (p++[1]) x.pats,Int64SL (p++[2]) x.body]
attribute [go_sem] LineL
theorem le_LineLc (p:List Nat) (x:LineT):leL (LineL p x).cells (LineD x).cells:=⟨.refl _,le_Int64SSL _ _,le_Int64SL _ _,trivial⟩
theorem le_LineL (p:List Nat) (x:LineT):D.le (LineL p x) (LineD x):=by unfold LineL LineD;rw[le_agg];exact le_LineLc p x
def shLineS:Sh:=.slc (.cell (.sub shInt64SS (.sub shInt64S .nil)))
def LineSL (p:List Nat) (xs:List LineT):D:=.sl (.lab p) (mapR (fun i y=>LineL (p++[i]) y) xs)
attribute [go_sem] LineSL
theorem le_LineSL (p:List Nat) (xs:List LineT):D.le (LineSL p xs) (.sl .any (xs.map LineD)):=le_mapR xs fun j x=>le_LineLc _ _
def mcLineS (xs:List LineT):Nat:=(xs.map fun x=>((mcInt64SS x.pats+(mcInt64S x.body+0))+1)).sum
theorem mcle_LineS (xs:List LineT):mcLineS xs≤4*cntLineS xs:=by unfold mcLineS cntLineS;exact sum_le4 (fun x=>by have:=mcle_Int64SS x.pats;have:=mcle_Int64S x.body;(try simp only[cntLine,cntInt64S,cntSig,cntSubst] at *);omega) xs
theorem lt_LineS (p:List Nat) (xs:List LineT):LT shLineS p (LineSL p xs) (mcLineS xs):=LT_mapR xs fun j x=>by unfold LF;exact⟨_,_,_,rfl,rfl,by unfold LF;exact⟨_,_,_,_,rfl,rfl,lt_Int64SS _ _,by unfold LF;exact⟨_,_,_,_,rfl,rfl,lt_Int64S _ _,by unfold LF;exact⟨rfl,rfl⟩⟩⟩⟩
def fsFront:Fs:=(.sub shInt64S (.sub shInt64S (.sub shLineS .nil)))
def FrontL (p:List Nat) (x:FrontT):D:=.agg [Int64SL (p++[0]) x.sig,Int64SL (p++[1]) x.funs,LineSL (p++[2]) x.lines]
attribute [go_sem] FrontL
theorem le_FrontLc (p:List Nat) (x:FrontT):leL (FrontL p x).cells (FrontD x).cells:=⟨le_Int64SL _ _,le_Int64SL _ _,le_LineSL _ _,trivial⟩
theorem le_FrontL (p:List Nat) (x:FrontT):D.le (FrontL p x) (FrontD x):=by unfold FrontL FrontD;rw[le_agg];exact le_FrontLc p x
def mcFront (x:FrontT):Nat:=(mcInt64S x.sig+(mcInt64S x.funs+(mcLineS x.lines+0)))
theorem mcle_Front (x:FrontT):mcFront x≤4*cntFront x:=by have:=mcle_Int64S x.sig;have:=mcle_Int64S x.funs;have:=mcle_LineS x.lines;unfold mcFront cntFront;(try simp only[cntSig,cntInt64S,cntWalk,cntSubst] at *);omega
def FrontH (k:Int) (x:FrontT):List D:=[HD shInt64S (k) (mcInt64S x.sig),HD shInt64S (k+(mcInt64S x.sig:Nat)) (mcInt64S x.funs),HD shLineS (k+(mcInt64S x.sig:Nat)+(mcInt64S x.funs:Nat)) (mcLineS x.lines)]
attribute [go_sem] FrontH
theorem ta_Front (i:Nat) (k:Int) (x:FrontT):TA fsFront [i] 0 k (FrontL [i] x).cells (FrontH k x) (mcFront x):=by unfold TA;exact⟨_,_,_,_,_,rfl,rfl,rfl,lt_Int64S _ _,by unfold TA;exact⟨_,_,_,_,_,rfl,rfl,rfl,lt_Int64S _ _,by unfold TA;exact⟨_,_,_,_,_,rfl,rfl,rfl,lt_LineS _ _,by unfold TA;exact⟨rfl,rfl,rfl⟩⟩⟩⟩
end
section
attribute [local irreducible] SW runL runQ runG runQG FC Ret1 RetN toF redoL
def lbs (N:Nat) (F:List Int→List Int) (ps:List (List Int)) (i:Nat):List (Tk×List Int):=(List.range i).map fun j=>(.lab [N,j],F (ps.getD j default))
theorem lbs_len (N:Nat) (F:List Int→List Int) (ps:List (List Int)) (i:Nat):(lbs N F ps i).length=i:=by simp[lbs]
theorem lbs_snd (N:Nat) (F:List Int→List Int) (ps:List (List Int)):(lbs N F ps ps.length).map (·.2)=ps.map F:=by
 refine List.ext_getElem (by simp[lbs]) fun j h1 h2=>?_
 have hj:j<ps.length:=by simpa using h2
 simp[lbs,List.getElem?_eq_getElem hj]
def labOf:Tk→List Nat
 | .lab l=>l
 | _=>[]
def posOf (l:List Nat):List (List Nat)→Nat
 | []=>0
 | x::r=>if x=l then 0 else posOf l r+1
theorem posOf_at:∀(ls:List (List Nat)),ls.Nodup→∀(j:Nat) (h:j<ls.length),posOf ls[j] ls=j
 | x::r,hn,0,_=>by simp[posOf]
 | x::r,hn,j+1,h=>by
  have h1:=List.nodup_cons.1 hn
  have hj:j<r.length:=by simpa using h
  have hne:x≠r[j]:=fun e=>h1.1 (e ▸ List.getElem_mem hj)
  simp only[List.getElem_cons_succ,posOf,if_neg hne]
  rw[posOf_at r h1.2 j hj]
def relF (N:Nat) (p:List Nat) (ls:List (List Nat)) (l:List Nat):List Nat:=if l.head?=some N then p++[posOf l ls]++[0] else l
theorem relF_ne {N:Nat} {p:List Nat} {ls:List (List Nat)}:∀l,l≠[]→relF N p ls l≠[]:=fun l h=>by
 unfold relF
 split
 ·simp
 ·exact h
theorem relF_off {N:Nat} {p:List Nat} {ls:List (List Nat)}:∀l,(∀r,l≠N::r)→relF N p ls l=l:=fun l h=>by
 unfold relF
 rw[if_neg]
 intro e
 cases l with
 | nil=>cases e
 | cons a r=>exact h r (by rw[List.head?_cons,Option.some.injEq] at e;rw[e])
theorem rlL_ints (f:List Nat→List Nat) (xs:List Int):D.rlL f (xs.map (.int .i64))=xs.map (.int .i64):=by
 rw[rlL_map,List.map_map];rfl
theorem relab_srt {N:Nat} {p:List Nat} {F:List Int→List Int} {ps:List (List Int)} {n:Nat} {qs:List (Tk×List Int)} (h:qs.Perm (lbs N F ps n)) :
  D.rlL (relF N p (qs.map fun q=>labOf q.1)) (qs.map intsT)=mapR (fun i y=>Int64SL (p++[i]++[0]) y) (qs.map (·.2)):=by
 have hnd:(qs.map fun q=>labOf q.1).Nodup:=by
  refine(h.map _).nodup_iff.2 ?_
  simp only[lbs,List.map_map]
  have:((fun q:Tk×List Int=>labOf q.1)∘fun j=>(Tk.lab [N,j],F (ps.getD j default)))=fun j=>[N,j]:=rfl
  rw[this]
  exact List.Pairwise.map _ (fun a b hab e=>hab (by simpa using e)) (List.nodup_range (n:=n))
 have hlab:∀q∈qs,∃l,q.1=.lab l∧l.head?=some N:=fun q hq=>by
  have:=h.mem_iff.1 hq
  simp only[lbs,List.mem_map] at this
  obtain⟨j,_,rfl⟩:=this
  exact⟨_,rfl,rfl⟩
 rw[rlL_map,List.map_map]
 refine List.ext_getElem (by rw[List.length_map,mapR_length,List.length_map]) fun j h1 h2=>?_
 have hj:j<qs.length:=by simpa using h1
 obtain⟨l,hl,hN⟩:=hlab _ (List.getElem_mem hj)
 have hpos:=posOf_at _ hnd j (by simpa using hj)
 simp only[List.getElem_map] at hpos
 have e1:labOf qs[j].1=l:=by rw[hl];rfl
 rw[e1] at hpos
 have e2:intsT qs[j]=.sl (.lab l) (qs[j].2.map (.int .i64)):=by
  unfold intsT;rw[hl]
 have e3:relF N p (qs.map fun q=>labOf q.1) l=p++[j]++[0]:=by
  unfold relF;rw[if_pos hN,hpos]
 rw[List.getElem_map]
 show D.rl _ (intsT qs[j])=_
 rw[e2]
 show D.sl (.lab (relF N p (qs.map fun q=>labOf q.1) l)) (D.rlL _ _)=_
 rw[rlL_ints,e3]
 simp[mapR,Int64SL,List.getElem?_eq_getElem hj]
end
section
abbrev Bnd:=List (List Int)
def vx (n:Int):Nat:=(-1-n).toNat
def linM (rs t:List Int):List Int→Nat→Bnd→Bnd×Bool
 | [],_,g=>(g,true)
 | n::p,a,g=>if t.length≤a then (g,false) else if 0≤n then (if t.getD a default=n then linM rs t p (a+1) g else (g,false))
   else if g.getD (vx n) default=[] then linM rs t p (a+(subS rs t a).length) (g.set (vx n) (subS rs t a))
   else if g.getD (vx n) default=subS rs t a then linM rs t p (a+(subS rs t a).length) g else (g,false)
theorem linM_len (rs t:List Int):∀(p:List Int) (a:Nat) (g:Bnd),(linM rs t p a g).1.length=g.length
 | [],_,_=>rfl
 | n::p,a,g=>by
  have h1:=linM_len rs t p (a+1) g
  have h2:=linM_len rs t p (a+(subS rs t a).length) (g.set (vx n) (subS rs t a))
  have h3:=linM_len rs t p (a+(subS rs t a).length) g
  rw[List.length_set] at h2
  simp only[linM]
  split
  ·rfl
  ·split
   ·split
    ·exact h1
    ·rfl
   ·split
    ·exact h2
    ·split
     ·exact h3
     ·rfl
theorem getD_app {q:List Int} {x:Int} {s:List Int}:(q++x::s).getD q.length default=x:=by simp[List.getD]
end
end Go.Proofs.YtkfkdgginfpdnaaGreatDoor
