/-
  A03t, Sl, A01b, A02c, A03, A05p, A15p, ACl, A06, one behind the other.
-/
import Derived.Test.YtpennhjjnlkbiaaGreatG0
import Derived.Test.YtpennhjjnlkbiaaGreatSet
import Derived.Test.YtpennhjjnlkbiaaGreatLgK6
import Derived.Test.YtpennhjjnlkbiaaGreatLgK4
import Derived.Test.YtpennhjjnlkbiaaGreatLgK7
section
namespace Go.Proofs.YtpennhjjnlkbiaaGreat
open Go Go.Lg
set_option linter.unusedSimpArgs false
inductive Fl (rs:List Int):Nat→List Int→Prop
 | nil:Fl rs 0 []
 | cons {n:Int} {k:Nat} {l:List Int} (h:0≤arS rs n) (r:Fl rs (k+(arS rs n).toNat) l):Fl rs (k+1) (n::l)
theorem Fl.zero {rs l:List Int} (h:Fl rs 0 l):l=[]:=by
 generalize e:(0:Nat)=k at h
 cases h with
 | nil=>rfl
 | cons _ _=>omega
theorem Fl.len {rs l:List Int} {k:Nat} (h:Fl rs k l):k≤l.length:=by
 induction h with
 | nil=>exact Nat.le_refl _
 | cons _ _ ih=>simp only[List.length_cons];omega
theorem Fl.app {rs l:List Int} {j:Nat} (h:Fl rs j l):∀ {k:Nat} {m:List Int},Fl rs k m→Fl rs (j+k) (l++m):=by
 induction h with
 | nil=>intro k m hm;rw[Nat.zero_add];exact hm
 | @cons n i l h r ih =>
  intro k m hm
  have:=ih hm
  rw[show i+1+k=(i+k)+1 by omega]
  exact .cons h (by rw[show i+k+(arS rs n).toNat=i+(arS rs n).toNat+k by omega];exact this)
theorem Fl.split {rs:List Int}:∀(l:List Int) (j k:Nat),Fl rs (j+k) l→∃l1 l2,l=l1++l2∧Fl rs j l1∧Fl rs k l2
 | [],j,k,h=>by
  have:=h.len
  simp only[List.length_nil] at this
  obtain rfl:j=0:=by omega
  obtain rfl:k=0:=by omega
  exact⟨[],[],rfl,.nil,.nil⟩
 | n::l,0,k,h=>⟨[],n::l,rfl,.nil,by rw[Nat.zero_add] at h;exact h⟩
 | n::l,j+1,k,h=>by
  rw[show j+1+k=(j+k)+1 by omega] at h
  cases h with
  | cons h r =>
   rw[show j+k+(arS rs n).toNat=(j+(arS rs n).toNat)+k by omega] at r
   obtain⟨l1,l2,e,h1,h2⟩:=Fl.split l _ _ r
   exact⟨n::l1,l2,by rw[e];rfl,.cons h h1,h2⟩
theorem Fl.scan {rs:List Int} {k:Nat} {l:List Int} (h:Fl rs k l):∀(r:List Int) (i:Nat),1≤k→Go.Proofs.YtpennhjjnlkbiaaGreat.scan rs (l++r) k i=i+l.length:=by
 induction h with
 | nil=>intro r i h0;omega
 | @cons n k l h hr ih =>
  intro r i _
  simp only[List.cons_append,Go.Proofs.YtpennhjjnlkbiaaGreat.scan]
  rw[if_neg (by omega)]
  by_cases e:k+(arS rs n).toNat=0
  ·rw[if_pos (by omega)]
   rw[e] at hr
   rw[hr.zero]
   simp
  ·rw[if_neg (by omega)]
   have:=ih r (i+1) (by omega)
   rw[show ((k+1:Nat):Int)+arS rs n-1=((k+(arS rs n).toNat:Nat):Int) by omega,this]
   simp only[List.length_cons];omega
theorem scan_fl {rs:List Int}:∀(l:List Int) (k i:Nat) (e:Int),1≤k→scan rs l k i=e→0≤e→∃l1 l2,l=l1++l2∧Fl rs k l1∧e=i+l1.length
 | [],k,i,e,_,h,he=>by simp only[scan] at h;omega
 | n::l,k,i,e,hk,h,he=>by
  simp only[scan] at h
  split at h
  ·omega
  ·rename_i h0
   obtain⟨k,rfl⟩:∃q,k=q+1:=⟨k-1,by omega⟩
   split at h
   ·rename_i h1
    obtain⟨rfl,h3⟩:k=0∧arS rs n=0:=by omega
    exact⟨[n],l,rfl,.cons (by omega) (by rw[h3];exact .nil),by simp;omega⟩
   ·rename_i h1
    obtain⟨l1,l2,e1,e2,e3⟩:=scan_fl l (k+(arS rs n).toNat) (i+1) e (by omega) (by rw[←h];congr 1;omega) he
    exact⟨n::l1,l2,by rw[e1];rfl,.cons (by omega) e2,by simp only[List.length_cons];omega⟩
theorem Fl.uniq {rs:List Int} {k:Nat} {l:List Int} (h:Fl rs k l):∀ {m r s:List Int},Fl rs k m→l++r=m++s→l=m∧r=s:=by
 induction h with
 | nil=>intro m r s hm e;rw[hm.zero] at e ⊢;exact⟨rfl,e⟩
 | @cons n k l h hr ih =>
  intro m r s hm e
  cases hm with
  | @cons n' _ m h' hr' =>
   simp only[List.cons_append,List.cons.injEq] at e
   obtain⟨rfl,e⟩:=e
   obtain⟨rfl,rfl⟩:=ih hr' e
   exact⟨rfl,rfl⟩
theorem termOk_fl {rs t:List Int} (h:TermOkP rs t):Fl rs 1 t:=by
 obtain⟨_,_,h3⟩:=h
 unfold endS at h3
 rw[List.drop_zero] at h3
 obtain⟨l1,l2,e1,e2,e3⟩:=scan_fl t 1 0 _ (by omega) h3 (by omega)
 have:l2=[]:=by
  have:=congrArg List.length e1
  rw[List.length_append] at this
  exact List.length_eq_zero_iff.1 (by omega)
 rw[e1,this,List.append_nil];exact e2
theorem fl_termOk {rs t:List Int} (hs:SigOkP rs) (h:Fl rs 1 t) (hl:t.length≤60):TermOkP rs t:=by
 refine⟨hs,⟨h.len,hl⟩,?_⟩
 have:=h.scan [] 0 (by omega)
 unfold endS
 rw[List.drop_zero]
 simpa using this
theorem endS_app {rs:List Int} {p u r:List Int} (h:Fl rs 1 u):endS rs (p++(u++r)) p.length=p.length+u.length:=by
 unfold endS
 rw[List.drop_left]
 exact h.scan r p.length (by omega)
theorem Fl.at {rs:List Int}:∀(l:List Int) (k a:Nat),Fl rs k l→a<l.length→∃p u r,l=p++(u++r)∧p.length=a∧Fl rs 1 u
 | [],_,a,_,ha=>absurd ha (Nat.not_lt_zero _)
 | n::l,k,0,h,_=>by
  obtain⟨k,rfl⟩:∃q,k=q+1:=by cases h;exact⟨_,rfl⟩
  obtain⟨l1,l2,e,h1,_⟩:=Fl.split (n::l) 1 k (by rw[Nat.add_comm];exact h)
  exact⟨[],l1,l2,e,rfl,h1⟩
 | n::l,k,a+1,h,ha=>by
  cases h with
  | cons h r =>
   obtain⟨p,u,s,e,hp,hu⟩:=Fl.at l _ a r (by simpa using ha)
   exact⟨n::p,u,s,by rw[e];rfl,by simp[hp],hu⟩
theorem TermOkP.at {rs t:List Int} (h:TermOkP rs t) {a:Nat} (ha:a<t.length):∃p u r,t=p++(u++r)∧p.length=a∧Fl rs 1 u:=Fl.at t 1 a (termOk_fl h) ha
def subS (rs t:List Int) (a:Nat):List Int:=(t.take (endS rs t a).toNat).drop a
theorem subS_app {rs p u r:List Int} (h:Fl rs 1 u):subS rs (p++(u++r)) p.length=u:=by
 unfold subS
 rw[endS_app h,show ((p.length:Int)+u.length).toNat=p.length+u.length by omega,←List.append_assoc,List.take_left' (by simp),List.drop_left]
theorem subS_ok {rs t:List Int} (h:TermOkP rs t) {a:Nat} (ha:a<t.length):TermOkP rs (subS rs t a):=by
 obtain⟨p,u,r,rfl,rfl,hu⟩:=h.at ha
 rw[subS_app hu]
 refine fl_termOk h.1 hu ?_
 have:=h.2.1.2
 simp only[List.length_append] at this
 omega
theorem endS_ge {rs t:List Int} (h:TermOkP rs t) {a:Nat} (ha:a<t.length):a<endS rs t a∧endS rs t a≤t.length:=by
 obtain⟨p,u,r,rfl,rfl,hu⟩:=h.at ha
 rw[endS_app hu]
 have:=hu.len
 simp only[List.length_append]
 omega
def begS (rs t:List Int):Nat→Nat→List Nat
 | 0,_=>[]
 | k+1,a=>a::begS rs t k (endS rs t a).toNat
def argsS (rs t:List Int) (a:Nat):List Nat:=begS rs t (arS rs (t.getD a default)).toNat (a+1)
theorem begS_length (rs t:List Int):∀k a,(begS rs t k a).length=k
 | 0,_=>rfl
 | k+1,a=>by simp[begS,begS_length rs t k]
theorem begS_fl {rs:List Int}:∀(k:Nat) (p l r:List Int),Fl rs k l→∀x∈begS rs (p++(l++r)) k p.length,p.length≤x∧x<(p++l).length
 | 0,_,_,_,_,x,hx=>by cases hx
 | k+1,p,l,r,h,x,hx=>by
  obtain⟨l1,l2,rfl,h1,h2⟩:=Fl.split l 1 k (by rw[Nat.add_comm];exact h)
  have hl:=h1.len
  simp only[begS,List.mem_cons] at hx
  rcases hx with rfl|hx
  ·simp only[List.length_append];omega
  ·rw[List.append_assoc,endS_app h1,show ((p.length:Int)+l1.length).toNat=(p++l1).length by simp;omega,←List.append_assoc p l1 (l2++r)] at hx
   have:=begS_fl k (p++l1) l2 r h2 x hx
   simp only[List.length_append] at this ⊢
   omega
def nthB (rs t:List Int) (a:Nat):Nat→Nat
 | 0=>a
 | j+1=>(endS rs t (nthB rs t a j)).toNat
theorem nthB_shift (rs t:List Int) (a:Nat):∀j,nthB rs t a (j+1)=nthB rs t (endS rs t a).toNat j
 | 0=>rfl
 | j+1=>by
  show (endS rs t (nthB rs t a (j+1))).toNat=_
  rw[nthB_shift rs t a j]
  rfl
theorem begS_snoc (rs t:List Int):∀(k a:Nat),begS rs t (k+1) a=begS rs t k a++[nthB rs t a k]
 | 0,a=>rfl
 | k+1,a=>by
  show a::begS rs t (k+1) (endS rs t a).toNat=_
  rw[begS_snoc rs t k,nthB_shift]
  rfl
theorem begS_get (rs t:List Int):∀(k a j:Nat),j<k→(begS rs t k a).getD j default=nthB rs t a j
 | 0,_,_,h=>absurd h (Nat.not_lt_zero _)
 | k+1,a,0,_=>rfl
 | k+1,a,j+1,h=>by
  rw[nthB_shift,←begS_get rs t k _ j (by omega)]
  rfl
theorem Fl.cut {rs:List Int} (p r:List Int):∀(j:Nat) (k:Nat) (l:List Int),Fl rs k l→j≤k→∃l1 l2,l=l1++l2∧Fl rs j l1∧Fl rs (k-j) l2∧nthB rs (p++(l++r)) p.length j=(p++l1).length
 | 0,k,l,h,_=>⟨[],l,rfl,.nil,by simpa using h,by simp[nthB]⟩
 | j+1,k,l,h,hj=>by
  obtain⟨l1,l2,rfl,h1,h2,h3⟩:=Fl.cut p r j k l h (by omega)
  obtain⟨m1,m2,rfl,h4,h5⟩:=Fl.split l2 1 (k-(j+1)) (by rw[show 1+(k-(j+1))=k-j by omega];exact h2)
  refine⟨l1++m1,m2,by simp,h1.app h4,h5,?_⟩
  have e:p++(l1++(m1++m2)++r)=(p++l1)++(m1++(m2++r)):=by simp
  show (endS rs _ (nthB rs _ _ j)).toNat=_
  rw[h3,e,endS_app h4]
  simp only[List.length_append];omega
theorem args_cut {rs t:List Int} (h:TermOkP rs t) {a:Nat} (ha:a<t.length):∃p l r,t=p++(t.getD a default::l++r)∧p.length=a∧0≤arS rs (t.getD a default)∧Fl rs (arS rs (t.getD a default)).toNat l:=by
 obtain⟨p,u,r,e,rfl,hu⟩:=h.at ha
 cases hu with
 | @cons n k l h0 hr =>
  have hn:t.getD p.length default=n:=by rw[e];simp[List.getD]
  rw[hn]
  exact⟨p,l,r,by rw[e],rfl,h0,by rw[Nat.zero_add] at hr;exact hr⟩
theorem argsS_lt {rs t:List Int} (h:TermOkP rs t) {a:Nat} (ha:a<t.length):∀x∈argsS rs t a,a<x∧x<t.length:=by
 obtain⟨p,l,r,e,rfl,h0,hl⟩:=args_cut h ha
 intro x hx
 unfold argsS at hx
 have e2:t=(p++[t.getD p.length default])++(l++r):=by simpa using e
 have hlen:(p++[t.getD p.length default]).length=p.length+1:=by simp
 have:=begS_fl _ (p++[t.getD p.length default]) l r hl x (by rw[←e2,hlen];exact hx)
 have h3:=congrArg List.length e2
 simp only[List.length_append,List.length_cons,List.length_nil] at this h3
 omega
theorem nthB_lt {rs t:List Int} (h:TermOkP rs t) {a:Nat} (ha:a<t.length) {j:Nat} (hj:j<(arS rs (t.getD a default)).toNat):a<nthB rs t (a+1) j∧nthB rs t (a+1) j<t.length:=by
 rw[←begS_get rs t _ (a+1) j hj]
 exact argsS_lt h ha _ (getD_mem _ _ (by unfold argsS;rw[begS_length];exact hj))
theorem nthB_le {rs t:List Int} (h:TermOkP rs t) {a:Nat} (ha:a<t.length):∀ {j:Nat},j≤(arS rs (t.getD a default)).toNat→a<nthB rs t (a+1) j∧nthB rs t (a+1) j≤t.length
 | 0,_=>by simp only[nthB];omega
 | j+1,hj=>by
  obtain⟨h1,h2⟩:=nthB_lt h ha (show j<_ by omega)
  have:=endS_ge h h2
  simp only[nthB]
  omega
end Go.Proofs.YtpennhjjnlkbiaaGreat
end
section
namespace Go.Proofs.YtpennhjjnlkbiaaGreat
open Go Go.Lg
set_option linter.unusedSimpArgs false
set_option maxHeartbeats 4000000
attribute [local irreducible] SW runL runQ runG runQG FC Ret1
def kp161:List (Nat×List Nat):=[(0,[0,1]),(1,[0,1,7,8]),(2,[0,1,7,8,9]),(3,[0,1,5,7,8]),(4,[0,1,5,7,8,16]),(5,[4]),(6,[0,1,7,8]),(7,[4])]
attribute [go_sem] kp161
theorem indexFuncRule_fc (tk:Tk) (xs:List (RuleT)) (p:RuleT→Prop) (f:Nat) (cap:List D) (ro:List (Nat×List D)) (hro:∀p∈ro,Lg.look ro p.1=some p.2) (hf:∀x∈xs,FC S f ro [] [] ([RuleD x]++cap) (.bool (tst (p x))) [] []):FC S 161 ro [] [] [.sl tk (xs.map RuleD),.fn f cap] (.int .i64 (fidx p xs)) [] []:=by
 refine fc_body Tryz.func161 rfl (by kernel_rfl) (by simp[Tryz.f161]) fun B=>?_
 simp only[Tryz.ntmps161,enumD,lst0,Nat.reduceAdd]
 refine sw_bnd 0 rfl fun hb0=>?_
 simp only[D.bnd,List.length_map] at hb0
 repeat' first|refine sw_seq ?_|refine sw_block ?_|refine sw_go 0 kp161 fun K hK=>?_|((first|refine runL_go ?_|refine sw_ret (ret0 ?_)|refine sw_ret ?_);simp (disch:=(refine Om.mk ?_;omega)) only[go_sem,Tryz.results161])|(refine hK.nil ?_;clear hK K;simp only[go_sem])|fail
 refine sw_loopU (ι:=Nat) (fun i=>[(8,.int .i64 i)]) (fun _=>[]) (fun i=>i≤xs.length∧(∀j<i,¬p (xs.getD j default))) (fun i=>xs.length-i) 0 (by(refine covers_mk0 rfl rfl ?_ ?_ ?_ ?_<;>simp (disch:=(refine Om.mk ?_;omega)) only[go_sem]<;>(try omega));exact boxLe_mk hro) ⟨by omega,?_⟩ (fun i ⟨hi,hj⟩=>?_)
 rotate_left
 simp only[go_sem]
 repeat' first|refine sw_seq ?_|refine sw_block ?_|refine sw_skip ?_|refine sw_go 0 kp161 fun K hK=>?_|((first|refine runL_go ?_|refine sw_ret (ret0 ?_)|refine sw_ret ?_);simp (disch:=(refine Om.mk ?_;omega)) only[go_sem,Tryz.results161])|(refine hK.nil ?_;clear hK K;simp only[go_sem])|((first|refine sw_cond rfl ?_ ?_)<;>intro h<;>try simp (disch:=(refine Om.mk ?_;omega)) only[go_sem] at h)|refine sw_exit rfl ?_|(with_reducible refine And.intro (by first|omega|(simp only[lens];omega)) ?_)|fail
 ·refine hK.call rfl rfl rfl (hf (xs.getD i default) (getD_mem _ _ (by omega))) ⟨hro,rfl,rfl,(by simp only[dstOk,Nat.reduceLT])⟩ ?_
  repeat' first|refine sw_seq ?_|refine sw_inBlock ?_|refine sw_skip ?_|refine sw_go 0 kp161 fun K hK=>?_|((first|refine runL_go ?_|refine sw_ret (ret0 ?_)|refine sw_ret ?_);simp (disch:=(refine Om.mk ?_;omega)) only[go_sem,Tryz.results161])|(refine hK.nil ?_;clear hK K;simp only[go_sem])|((first|refine sw_cond rfl ?_ ?_)<;>intro h<;>try simp (disch:=(refine Om.mk ?_;omega)) only[go_sem] at h)|refine sw_loopEnd ?_|fail
  ·exact(fidx_at hj (by omega) h).symm
  ·exact⟨i+1,(by(refine covers_mk0 rfl rfl ?_ ?_ ?_ ?_<;>simp (disch:=(refine Om.mk ?_;omega)) only[go_sem]<;>(try omega));exact boxLe_mk hro),⟨by omega,upto_succ hj h⟩,by omega⟩
 ·exact(fidx_none fun j hj'=>hj j (by omega)).symm
 ·intro j hj';omega
def kp149:List (Nat×List Nat):=[(0,[0,1]),(1,[4])]
attribute [go_sem] kp149
theorem containsFuncRule_fc (tk:Tk) (xs:List (RuleT)) (p:RuleT→Prop) (f:Nat) (cap:List D) (ro:List (Nat×List D)) (hro:∀p∈ro,Lg.look ro p.1=some p.2) (hf:∀x∈xs,FC S f ro [] [] ([RuleD x]++cap) (.bool (tst (p x))) [] []):FC S 149 ro [] [] [.sl tk (xs.map RuleD),.fn f cap] (.bool (tst (∃x∈xs,p x))) [] []:=by
 refine fc_body Tryz.func149 rfl (by kernel_rfl) (by simp[Tryz.f149]) fun B=>?_
 simp only[Tryz.ntmps149,enumD,lst0,Nat.reduceAdd]
 repeat' first|refine sw_seq ?_|refine sw_go 0 kp149 fun K hK=>?_|((first|refine runL_go ?_|refine sw_ret (ret0 ?_)|refine sw_ret ?_);simp (disch:=(refine Om.mk ?_;omega)) only[go_sem,Tryz.results149])|(refine hK.nil ?_;clear hK K;simp only[go_sem])|fail
 refine hK.call rfl rfl rfl (indexFuncRule_fc _ _ p _ _ ro hro hf) ⟨hro,rfl,rfl,(by simp only[dstOk,Nat.reduceLT])⟩ ?_
 repeat' first|((first|refine runL_go ?_|refine sw_ret (ret0 ?_)|refine sw_ret ?_);simp (disch:=(refine Om.mk ?_;omega)) only[go_sem,Tryz.results149])|(refine hK.nil ?_;clear hK K;simp only[go_sem])|fail
 exact fidx_ge
def kp122:List (Nat×List Nat):=[(0,[0,1]),(1,[0,1,10]),(2,[4]),(3,[0,1,12,13]),(4,[0,1,12,13,14]),(5,[0,1,5,12,13]),(6,[0,1,12,13,24]),(7,[4]),(8,[0,1,12,13]),(9,[4])]
attribute [go_sem] kp122
theorem equalInt64_fc (tk tk':Tk) (xs ys:List (Int)):FC S 122 [] [] [] [.sl tk (xs.map (.int .i64)),.sl tk' (ys.map (.int .i64))] (.bool (tst (xs=ys))) [] []:=by
 refine fc_body Tryz.func122 rfl (by kernel_rfl) (by simp[Tryz.f122]) fun B=>?_
 simp only[Tryz.ntmps122,enumD,lst0,Nat.reduceAdd]
 refine sw_bnd 0 rfl fun hb0=>?_
 simp only[D.bnd,List.length_map] at hb0
 refine sw_bnd 1 rfl fun hb1=>?_
 simp only[D.bnd,List.length_map] at hb1
 repeat' first|refine sw_seq ?_|refine sw_block ?_|refine sw_skip ?_|refine sw_go 0 kp122 fun K hK=>?_|((first|refine runL_go ?_|refine runQ_go ?_|refine sw_ret (ret0 ?_)|refine sw_ret ?_);simp (disch:=(refine Om.mk ?_;omega)) only[go_sem,Tryz.results122])|(refine hK.nil ?_;clear hK K;simp only[go_sem])|((first|refine sw_cond rfl ?_ ?_)<;>intro h<;>try simp (disch:=(refine Om.mk ?_;omega)) only[go_sem] at h)|fail
 ·intro e;exact h (by rw[e])
 refine sw_loopU (ι:=Nat) (fun i=>[(13,.int .i64 i)]) (fun _=>[]) (fun i=>i≤xs.length∧(∀j<i,xs.getD j default=ys.getD j default)) (fun i=>xs.length-i) 0 (by(refine covers_mk0 rfl rfl ?_ ?_ ?_ ?_<;>simp (disch:=(refine Om.mk ?_;omega)) only[go_sem]<;>(try omega))) ⟨by omega,?_⟩ (fun i ⟨hi,hj⟩=>?_)
 rotate_left
 simp only[go_sem]
 repeat' first|refine sw_seq ?_|refine sw_block ?_|refine sw_inBlock ?_|refine sw_skip ?_|refine sw_go 0 kp122 fun K hK=>?_|refine sw_goD kp122 (by kernel_rfl) fun K hK=>?_|((first|refine runL_go ?_|refine runQ_go ?_|refine sw_ret (ret0 ?_)|refine sw_ret ?_);simp (disch:=(refine Om.mk ?_;omega)) only[go_sem,Tryz.results122])|(refine hK.nil ?_;clear hK K;simp only[go_sem])|((first|refine sw_cond rfl ?_ ?_)<;>intro h<;>try simp (disch:=(refine Om.mk ?_;omega)) only[go_sem] at h)|refine sw_exit rfl ?_|refine sw_loopEnd ?_|(with_reducible refine And.intro (by first|omega|(simp only[lens];omega)) ?_)|fail
 ·intro e;exact h (by rw[e])
 ·exact⟨i+1,by(refine covers_mk0 rfl rfl ?_ ?_ ?_ ?_<;>simp (disch:=(refine Om.mk ?_;omega)) only[go_sem]<;>(try omega)),⟨by omega,upto_succ hj (by assumption)⟩,by omega⟩
 ·exact ext_getD (by assumption) fun j hj'=>hj j (by omega)
 ·intro j hj';omega
end Go.Proofs.YtpennhjjnlkbiaaGreat
end
section
namespace Go.Proofs.YtpennhjjnlkbiaaGreat
open Go Go.Lg
set_option linter.unusedSimpArgs false
set_option maxHeartbeats 4000000
attribute [local irreducible] SW runL runQ runG runQG FC
def intoL:List Int→Int→List Int
 | [],n=>[n]
 | x::r,n=>if x<n then x::intoL r n else if x=n then x::r else n::x::r
theorem mem_intoL (m:Int):∀(xs:List Int) (n:Int),m∈intoL xs n↔m∈xs∨m=n
 | [],n=>by simp[intoL]
 | x::r,n=>by
  simp only[intoL]
  split
  ·simp only[List.mem_cons,mem_intoL m r n,or_assoc]
  ·split
   ·rename_i h;subst h
    simp only[List.mem_cons]
    exact⟨.inl,fun h=>h.elim id .inl⟩
   ·simp only[List.mem_cons]
    exact⟨fun h=>h.elim .inr .inl,fun h=>h.elim .inr .inl⟩
theorem intoL_at (n:Int):∀(xs:List Int) (k:Nat),k≤xs.length→(∀j<k,xs.getD j default<n)→intoL xs n=xs.take k++intoL (xs.drop k) n
 | xs,0,_,_=>by simp
 | x::r,k+1,hk,h=>by
  have h0:=h 0 (by omega)
  simp only[List.getD_cons_zero] at h0
  rw[intoL,if_pos h0,intoL_at n r k (by simpa using hk) (fun j hj=>by simpa using h (j+1) (by omega))]
  simp
 | [],k+1,hk,_=>by simp at hk
theorem drop_cons {α:Type} [Inhabited α] {xs:List α} {k:Nat} (h:k<xs.length):xs.drop k=xs.getD k default::xs.drop (k+1):=by
 rw[List.drop_eq_getElem_cons h];simp[List.getD,List.getElem?_eq_getElem h]
def kp66:List (Nat×List Nat):=[(0,[0,1]),(1,[0,1,5]),(2,[0,1,5,9]),(4,[0,1,5,17]),(5,[4]),(3,[0,1,5]),(6,[4])]
attribute [go_sem] kp66
theorem l1Has_fc (tk:Tk) (xs:List Int) (n:Int):FC S 66 [] [] [] [.sl tk (xs.map (.int .i64)),.int .i64 n] (.bool (tst (n∈xs))) [] []:=by
 refine fc_body Tryz.func66 rfl (by kernel_rfl) (by simp[Tryz.f66]) fun B=>?_
 simp only[Tryz.ntmps66,enumD,lst0,Nat.reduceAdd]
 refine sw_bnd 0 rfl fun hb0=>?_
 simp only[D.bnd,List.length_map] at hb0
 repeat' first|refine sw_seq ?_|refine sw_block ?_|refine sw_go 0 kp66 fun K hK=>?_|((first|refine runL_go ?_|refine sw_ret (ret0 ?_)|refine sw_ret ?_);simp (disch:=(refine Om.mk ?_;omega)) only[go_sem,Tryz.results66])|(refine hK.nil ?_;clear hK K;simp only[go_sem])|fail
 refine sw_loopU (ι:=Nat) (fun i=>[(5,.int .i64 i)]) (fun _=>[]) (fun i=>i≤xs.length∧(∀j<i,¬xs.getD j default=n)) (fun i=>xs.length-i) 0 (by(refine covers_mk0 rfl rfl ?_ ?_ ?_ ?_<;>simp (disch:=(refine Om.mk ?_;omega)) only[go_sem]<;>(try omega))) ⟨by omega,?_⟩ (fun i ⟨hi,hj⟩=>?_)
 rotate_left
 simp only[go_sem]
 repeat' first|refine sw_seq ?_|refine sw_block ?_|refine sw_inBlock ?_|refine sw_skip ?_|refine sw_go 0 kp66 fun K hK=>?_|((first|refine runL_go ?_|refine sw_ret (ret0 ?_)|refine sw_ret ?_);simp (disch:=(refine Om.mk ?_;omega)) only[go_sem,Tryz.results66])|(refine hK.nil ?_;clear hK K;simp only[go_sem])|((first|refine sw_cond rfl ?_ ?_)<;>intro h<;>try simp (disch:=(refine Om.mk ?_;omega)) only[go_sem] at h)|refine sw_exit rfl ?_|refine sw_loopEnd ?_|(with_reducible refine And.intro (by first|omega|(simp only[lens];omega)) ?_)|fail
 ·rw[←h];exact getD_mem _ _ (by omega)
 ·exact⟨i+1,by(refine covers_mk0 rfl rfl ?_ ?_ ?_ ?_<;>simp (disch:=(refine Om.mk ?_;omega)) only[go_sem]<;>(try omega)),⟨by omega,upto_succ hj h⟩,by omega⟩
 ·intro hm
  exact(forall_getD (P:=fun x=>¬x=n)).1 (fun j hj'=>hj j (by omega)) n hm rfl
 ·intro j hj';omega
def kp119:List (Nat×List Nat):=[(0,[0,1]),(1,[0,1,7,8]),(2,[0,1,7,8,9]),(3,[0,1,5,7,8]),(4,[0,1,5,7,8,16]),(5,[4]),(6,[0,1,7,8]),(7,[4])]
attribute [go_sem] kp119
theorem index_fc (tk:Tk) (xs:List Int) (n:Int):FC S 119 [] [] [] [.sl tk (xs.map (.int .i64)),.int .i64 n] (.int .i64 (fidx (fun x=>x=n) xs)) [] []:=by
 refine fc_body Tryz.func119 rfl (by kernel_rfl) (by simp[Tryz.f119]) fun B=>?_
 simp only[Tryz.ntmps119,enumD,lst0,Nat.reduceAdd]
 refine sw_bnd 0 rfl fun hb0=>?_
 simp only[D.bnd,List.length_map] at hb0
 repeat' first|refine sw_seq ?_|refine sw_block ?_|refine sw_go 0 kp119 fun K hK=>?_|((first|refine runL_go ?_|refine sw_ret (ret0 ?_)|refine sw_ret ?_);simp (disch:=(refine Om.mk ?_;omega)) only[go_sem,Tryz.results119])|(refine hK.nil ?_;clear hK K;simp only[go_sem])|fail
 refine sw_loopU (ι:=Nat) (fun i=>[(8,.int .i64 i)]) (fun _=>[]) (fun i=>i≤xs.length∧(∀j<i,¬xs.getD j default=n)) (fun i=>xs.length-i) 0 (by(refine covers_mk0 rfl rfl ?_ ?_ ?_ ?_<;>simp (disch:=(refine Om.mk ?_;omega)) only[go_sem]<;>(try omega))) ⟨by omega,?_⟩ (fun i ⟨hi,hj⟩=>?_)
 rotate_left
 simp only[go_sem]
 repeat' first|refine sw_seq ?_|refine sw_block ?_|refine sw_inBlock ?_|refine sw_skip ?_|refine sw_go 0 kp119 fun K hK=>?_|((first|refine runL_go ?_|refine sw_ret (ret0 ?_)|refine sw_ret ?_);simp (disch:=(refine Om.mk ?_;omega)) only[go_sem,Tryz.results119])|(refine hK.nil ?_;clear hK K;simp only[go_sem])|((first|refine sw_cond rfl ?_ ?_)<;>intro h<;>try simp (disch:=(refine Om.mk ?_;omega)) only[go_sem] at h)|refine sw_exit rfl ?_|refine sw_loopEnd ?_|(with_reducible refine And.intro (by first|omega|(simp only[lens];omega)) ?_)|fail
 ·exact(fidx_at (p:=fun x=>x=n) hj (by omega) h.symm).symm
 ·exact⟨i+1,by(refine covers_mk0 rfl rfl ?_ ?_ ?_ ?_<;>simp (disch:=(refine Om.mk ?_;omega)) only[go_sem]<;>(try omega)),⟨by omega,upto_succ hj fun e=>h e.symm⟩,by omega⟩
 ·exact(fidx_none (p:=fun x=>x=n) fun j hj'=>hj j (by omega)).symm
 ·intro j hj';omega
def kp89:List (Nat×List Nat):=[(0,[0,1]),(1,[4])]
attribute [go_sem] kp89
theorem contains_fc (tk:Tk) (xs:List Int) (n:Int):FC S 89 [] [] [] [.sl tk (xs.map (.int .i64)),.int .i64 n] (.bool (tst (n∈xs))) [] []:=by
 refine fc_body Tryz.func89 rfl (by kernel_rfl) (by simp[Tryz.f89]) fun B=>?_
 simp only[Tryz.ntmps89,enumD,lst0,Nat.reduceAdd]
 repeat' first|refine sw_seq ?_|refine sw_go 0 kp89 fun K hK=>?_|((first|refine runL_go ?_|refine sw_ret (ret0 ?_)|refine sw_ret ?_);simp (disch:=(refine Om.mk ?_;omega)) only[go_sem,Tryz.results89])|(refine hK.nil ?_;clear hK K;simp only[go_sem])|refine hK.c0 rfl rfl rfl (index_fc _ _ _) rfl rfl rfl ?_|fail
 rw[fidx_ge (p:=fun x=>x=n)]
 exact⟨fun⟨x,hx,e⟩=>e ▸ hx,fun h=>⟨n,h,rfl⟩⟩
def kp68:List (Nat×List Nat):=[(0,[0]),(1,[2])]
attribute [go_sem] kp68
theorem l1Copy_fc (tk:Tk) (xs:List Int) (hl:xs.length≤17592186044416):FC S 68 [] [] [] [.sl tk (xs.map (.int .i64))] (.sl (.own 0 2 1) (xs.map (.int .i64))) [] [0]:=by
 refine FC.args (args':=[.sl .any (xs.map (.int .i64))]) ?_ (by simp only[go_sem])
 refine fc_body1 Tryz.func68 rfl (by kernel_rfl) (by simp[Tryz.f68]) fun B=>?_
 simp only[Tryz.ntmps68,enumD,lst0,Nat.reduceAdd]
 refine sw_bnd 0 rfl fun hb0=>?_
 simp only[D.bnd,List.length_map] at hb0
 repeat' first|refine sw_seq ?_|refine sw_go 0 kp68 fun K hK=>?_|((first|refine runL_go ?_|refine sw_ret (ret0 ?_)|refine sw_ret ?_);simp (disch:=(refine Om.mk ?_;omega)) only[go_sem,Tryz.results68])|(refine hK.nil ?_;clear hK K;simp only[go_sem])|(with_reducible refine And.intro (by first|omega|(simp only[lens];omega)) ?_)|fail
 exact ret1_own rfl (by simp)
def kp67:List (Nat×List Nat):=[(0,[0,1]),(1,[0,1,5]),(2,[0,1,5,18]),(3,[0,1,5]),(4,[0,1,5,32]),(5,[4]),(6,[0,5,6]),(7,[4])]
attribute [go_sem] kp67
theorem l1Into_fc (tk:Tk) (xs:List Int) (n:Int) (hl:xs.length≤1099511627776):FC S 67 [] [] [] [.sl tk (xs.map (.int .i64)),.int .i64 n] (.sl .any ((intoL xs n).map (.int .i64))) [] []:=by
 refine FC.args (args':=[.sl .any (xs.map (.int .i64)),.int .i64 n]) ?_ (by simp only[go_sem])
 refine fc_body Tryz.func67 rfl (by kernel_rfl) (by simp[Tryz.f67]) fun B=>?_
 simp only[Tryz.ntmps67,enumD,lst0,Nat.reduceAdd]
 refine sw_bnd 0 rfl fun hb0=>?_
 simp only[D.bnd,List.length_map] at hb0
 repeat' first|refine sw_seq ?_|refine sw_block ?_|refine sw_go 0 kp67 fun K hK=>?_|((first|refine runL_go ?_|refine sw_ret (ret0 ?_)|refine sw_ret ?_);simp (disch:=(refine Om.mk ?_;omega)) only[go_sem,Tryz.results67])|(refine hK.nil ?_;clear hK K;simp only[go_sem])|fail
 refine sw_loopU (ι:=Nat) (fun i=>[(5,.int .i64 i)]) (fun _=>[]) (fun i=>i≤xs.length∧(∀j<i,xs.getD j default<n)) (fun i=>xs.length-i) 0 (by(refine covers_mk0 rfl rfl ?_ ?_ ?_ ?_<;>simp (disch:=(refine Om.mk ?_;omega)) only[go_sem]<;>(try omega))) ⟨by omega,?_⟩ (fun i ⟨hi,hj⟩=>?_)
 rotate_left
 simp only[go_sem]
 have key:=intoL_at n xs i hi hj
 have hd:i<xs.length→xs.drop i=_:=drop_cons
 have hlt:(xs.take i).length≤1099511627776:=by simp;omega
 repeat' first|refine sw_seq ?_|refine sw_block ?_|refine sw_inBlock ?_|refine sw_skip ?_|refine sw_go 0 kp67 fun K hK=>?_|((first|refine runL_go ?_|refine sw_ret (ret0 ?_)|refine sw_ret ?_);simp (disch:=(refine Om.mk ?_;omega)) only[go_sem,Tryz.results67])|(refine hK.nil ?_;clear hK K;simp only[go_sem])|((first|refine runG_fork rfl rfl rfl rfl rfl ?_ ?_|refine sw_cond rfl ?_ ?_)<;>intro h<;>try simp (disch:=(refine Om.mk ?_;omega)) only[go_sem] at h)|refine sw_exit rfl ?_|refine sw_loopEnd ?_|(refine hK.callB rfl rfl rfl (l1Copy_fc .any (xs.take i) (by omega)) ⟨⟨by simp only[Nat.reduceLT],(by first|(simp;all_goals fail)|(simp[LS.getBox,Lg.look];all_goals fail)),by(simp[Lg.look];all_goals fail),by(simp;all_goals fail),by(simp;all_goals fail)⟩,⟨by(simp[D.ids,D.idsL];all_goals fail),by(simp[D.ids,D.idsL];all_goals fail),by(simp[D.tks,D.tksL];all_goals fail),by(simp[D.tks,D.tksL];all_goals fail),by(simp;all_goals fail)⟩,rfl⟩ ?_;simp (disch:=(refine Om.mk ?_;omega)) only[go_sem])|(with_reducible refine And.intro (by first|omega|(simp only[lens];omega)) ?_)|((with_reducible refine And.intro ?_ ?_);· first|(intro x hx;subst hx;rfl)|(intro x;refine And.intro ?_ ?_<;>(intros;subst_vars;rfl)))|fail
 ·exact⟨i+1,by(refine covers_mk0 rfl rfl ?_ ?_ ?_ ?_<;>simp (disch:=(refine Om.mk ?_;omega)) only[go_sem]<;>(try omega)),⟨by omega,upto_succ hj h⟩,by omega⟩
 all_goals first
  | (intro j hj';omega)
  | (rw[key,hd (by omega),intoL,if_neg (by omega),if_pos (by assumption),←hd (by omega),List.take_append_drop])
  | (rw[key,hd (by omega),intoL,if_neg (by omega),if_neg (by assumption),List.append_assoc];rfl)
  | (rw[key,show xs.drop i=[] from List.drop_of_length_le (by omega),intoL,List.append_nil])
end Go.Proofs.YtpennhjjnlkbiaaGreat
end
section
namespace Go.Proofs.YtpennhjjnlkbiaaGreat
open Go Go.Lg
set_option linter.unusedSimpArgs false
set_option linter.unusedVariables false
set_option maxHeartbeats 4000000
attribute [local irreducible] SW runL runQ runG runQG FC LopsW
end Go.Proofs.YtpennhjjnlkbiaaGreat
end
section
namespace Go.Proofs.YtpennhjjnlkbiaaGreat
open Go Go.Lg
set_option linter.unusedSimpArgs false
set_option linter.unusedVariables false
set_option maxHeartbeats 4000000
attribute [local irreducible] SW runL runQ runG runQG FC Ret1
def natD (n:Nat):D:=.int .i64 n
attribute [go_sem] natD
theorem arS_low {rs:List Int} {x:Int} (h:0≤arS rs x):-24≤x∧x<rs.length:=by
 unfold arS at h
 split at h
 ·have:0≤(rs.length:Int):=by omega
  omega
 ·split at h
  ·omega
  ·omega
theorem TermOkP.ar {rs t:List Int} (h:TermOkP rs t):∀x∈t,0≤arS rs x:=fun x hx=>by
 have:=h.2.2
 unfold endS at this
 rw[List.drop_zero] at this
 exact scan_all (rs:=rs) t 1 0 (by omega) x hx
theorem TermOkP.low {rs t:List Int} (h:TermOkP rs t) {a:Nat} (ha:a<t.length):(-24≤t.getD a default∧t.getD a default<rs.length)∧0≤arS rs (t.getD a default)∧arS rs (t.getD a default)≤3 :=
 ⟨arS_low (h.ar _ (getD_mem t a ha)),h.ar _ (getD_mem t a ha),(arS_rng h.1 _).2⟩
def kp120:List (Nat×List Nat):=[(0,[1,2,3]),(1,[6])]
attribute [go_sem] kp120
theorem subAt_fc (tk tk':Tk) (rs t:List Int) (a:Nat) (hT:TermOkP rs t) (ha:a<t.length):FC S 120 [] [] [] [.agg [.sl tk (rs.map (.int .i64))],.sl tk' (t.map (.int .i64)),.int .i64 a] (.sl .any ((subS rs t a).map (.int .i64))) [] []:=by
 have he:=endS_ge hT ha
 have hl:=hT.2.1.2
 refine fc_body Tryz.func120 rfl (by kernel_rfl) (by simp[Tryz.f120]) fun B=>?_
 simp only[Tryz.ntmps120,enumD,lst0,Nat.reduceAdd]
 refine sw_bnd 1 rfl fun hb1=>?_
 simp only[D.bnd,List.length_map] at hb1
 repeat' first|refine sw_seq ?_|refine sw_go 0 kp120 fun K hK=>?_|((first|refine runL_go ?_|refine sw_ret (ret0 ?_)|refine sw_ret ?_);simp (disch:=(refine Om.mk ?_;omega)) only[go_sem,Tryz.results120])|(refine hK.nil ?_;clear hK K;simp only[go_sem])|refine hK.c0 rfl rfl rfl (endAt_fc _ _ rs t a hT.1 hT.ge hl (by omega)) rfl rfl rfl ?_|(with_reducible refine And.intro (by first|omega|(simp only[lens];omega)) ?_)|fail
 rfl
def kp121:List (Nat×List Nat):=[(0,[1,2,3]),(1,[1,2,3,7]),(2,[1,2,3,7,8]),(3,[1,3,7,8,9]),(4,[1,3,7,8,9,19]),(6,[1,3,7,8,9]),(7,[1,3,7,8,9]),(5,[1,3,7,8,9]),(8,[6])]
attribute [go_sem] kp121
theorem argsAt_fc (tk tk':Tk) (rs t:List Int) (a:Nat) (hT:TermOkP rs t) (ha:a<t.length):FC S 121 [] [] [] [.agg [.sl tk (rs.map (.int .i64))],.sl tk' (t.map (.int .i64)),.int .i64 a] (.sl .any ((argsS rs t a).map natD)) [] []:=by
 have hl:=hT.2.1.2
 have hlo:=hT.low ha
 obtain⟨n,hn⟩:∃n:Nat,arS rs (t.getD a default)=n:=⟨(arS rs (t.getD a default)).toNat,by omega⟩
 have hlt:∀j<n,a<nthB rs t (a+1) j∧nthB rs t (a+1) j<t.length:=fun j hj=>nthB_lt hT ha (by omega)
 have hle:∀j≤n,a<nthB rs t (a+1) j∧nthB rs t (a+1) j≤t.length:=fun j hj=>nthB_le hT ha (by omega)
 unfold argsS
 rw[hn,Int.toNat_natCast]
 refine FC.args (args':=[.agg [.sl .any (rs.map (.int .i64))],.sl .any (t.map (.int .i64)),.int .i64 a]) ?_ (by simp only[go_sem])
 refine fc_body Tryz.func121 rfl (by kernel_rfl) (by simp[Tryz.f121]) fun B=>?_
 simp only[Tryz.ntmps121,enumD,lst0,Nat.reduceAdd]
 refine sw_bnd 1 rfl fun hb1=>?_
 simp only[D.bnd,List.length_map] at hb1
 repeat' first|refine sw_seq ?_|refine sw_block ?_|refine sw_go 0 kp121 fun K hK=>?_|refine sw_goD kp121 (by kernel_rfl) fun K hK=>?_|((first|refine runL_go ?_|refine runQ_go ?_|refine sw_ret (ret0 ?_)|refine sw_ret ?_);simp (disch:=(refine Om.mk ?_;omega)) only[go_sem,Tryz.results121])|(refine hK.nil ?_;clear hK K;simp only[go_sem])|refine hK.c0 rfl rfl rfl (arityAt_fc _ rs _ hlo.1) rfl rfl rfl ?_|(with_reducible refine And.intro (by first|omega|(simp only[lens];omega)) ?_)|fail
 rw[hn]
 refine sw_tok 7 26000 3 1 rfl (.inl rfl) rfl ?_
 simp only[go_sem]
 refine sw_loopT (ι:=Nat) (fun j=>[(9,.int .i64 (n-j:Int)),(8,.int .i64 (nthB rs t (a+1) j)),(7,.sl (.own 26000 3 1) ((begS rs t j (a+1)).map natD))]) (fun _=>[]) (fun _=>[26000]) (fun j=>j≤n) (fun j=>n-j) 0 (by(refine covers_mk0 rfl rfl ?_ ?_ ?_ ?_<;>simp (disch:=(refine Om.mk ?_;omega)) only[go_sem]<;>(try omega));simp[nthB,begS]) (by omega) (fun j hj=>?_)
 simp only[go_sem]
 have hb:=begS_length rs t j (a+1)
 have h3:=hle j hj
 have h4:=hlt j
 have h5:j<n→((endS rs t (nthB rs t (a+1) j)).toNat:Int)=endS rs t (nthB rs t (a+1) j):=fun hj=>by have:=endS_ge hT (h4 hj).2;omega
 repeat' first|refine sw_seq ?_|refine sw_block ?_|refine sw_inBlock ?_|refine sw_skip ?_|refine sw_go 0 kp121 fun K hK=>?_|((first|refine runL_go ?_|refine runQ_go ?_|refine sw_ret (ret0 ?_)|refine sw_ret ?_);simp (disch:=(refine Om.mk ?_;omega)) only[go_sem,Tryz.results121])|(refine hK.nil ?_;clear hK K;simp only[go_sem])|((first|refine sw_cond rfl ?_ ?_)<;>intro h<;>try simp (disch:=(refine Om.mk ?_;omega)) only[go_sem] at h)|refine sw_exit rfl ?_|refine sw_loopEnd ?_|refine hK.c0 rfl rfl rfl (endAt_fc _ _ rs t (nthB rs t (a+1) j) hT.1 hT.ge hl (by omega)) rfl rfl rfl ?_|(with_reducible refine And.intro (by first|omega|(simp only[lens];omega)) ?_)|fail
 ·refine⟨j+1,(by(refine covers_mk0 rfl rfl ?_ ?_ ?_ ?_<;>simp (disch:=(refine Om.mk ?_;omega)) only[go_sem]<;>(try omega));have:=h5 (by omega);simp only[nthB,begS_snoc,List.map_append,List.map_cons,List.map_nil,natD];exact⟨trivial,this.symm,by omega⟩),by omega,by omega⟩
 ·rw[show j=n by omega]
end Go.Proofs.YtpennhjjnlkbiaaGreat
end
section
namespace Go.Proofs.YtpennhjjnlkbiaaGreat
open Go Go.Lg
def SameHd (a b:List Int):Prop:=a.getD 0 default=b.getD 0 default∧0≤a.getD 0 default
instance (a b:List Int):Decidable (SameHd a b):=inferInstanceAs (Decidable (_∧_))
theorem subS_len {rs t:List Int} (h:TermOkP rs t) {a:Nat} (ha:a<t.length):(subS rs t a).length+a=(endS rs t a).toNat:=by
 have:=endS_ge h ha
 unfold subS
 rw[List.length_drop,List.length_take]
 omega
theorem sub_sub {rs t:List Int} (h:TermOkP rs t) {i:Nat} (hi:i<t.length):(subS rs t i).getD 0 default=t.getD i default∧∀j<(arS rs (t.getD i default)).toNat,subS rs (subS rs t i) (nthB rs (subS rs t i) 1 j)=subS rs t (nthB rs t (i+1) j):=by
 obtain⟨p,l,r,e,rfl,h0,hl⟩:=args_cut h hi
 have hu:Fl rs 1 (t.getD p.length default::l):=by
  have:Fl rs (0+1) (t.getD p.length default::l):=.cons h0 (by rw[Nat.zero_add];exact hl)
  rwa [Nat.zero_add] at this
 have es:subS rs t p.length=t.getD p.length default::l:=by
  conv=>lhs;rw[e]
  exact subS_app hu
 rw[es]
 refine⟨rfl,fun j hj=>?_⟩
 generalize hx:t.getD p.length default=x at *
 obtain⟨l1,l2,rfl,c1,c2,c3⟩:=Fl.cut [x] [] j _ l hl (by omega)
 obtain⟨d1,d2,d3,d4,d5,d6⟩:=Fl.cut (p++[x]) r j _ (l1++l2) hl (by omega)
 obtain⟨rfl,rfl⟩:=c1.uniq d4 d3
 obtain⟨u,r2,rfl,u1,_⟩:=Fl.split l2 1 (_-(j+1)) (by rw[show 1+((arS rs x).toNat-(j+1))=(arS rs x).toNat-j by omega];exact c2)
 simp only[List.append_nil,List.length_append,List.length_cons,List.length_nil] at c3 d6
 have e1:x::(l1++(u++r2))=([x]++l1)++(u++r2):=by simp
 have e2:t=(p++[x]++l1)++(u++(r2++r)):=by rw[e];simp
 have c3':nthB rs (x::(l1++(u++r2))) 1 j=([x]++l1).length:=by
  have:[x]++(l1++(u++r2))=x::(l1++(u++r2)):=rfl
  rw[this] at c3
  simp at c3 ⊢;omega
 have d6':nthB rs t (p.length+1) j=(p++[x]++l1).length:=by
  have:p++[x]++(l1++(u++r2)++r)=t:=by rw[e];simp
  rw[this] at d6
  simp at d6 ⊢;omega
 rw[c3',d6']
 conv=>lhs;rw[e1]
 conv=>rhs;rw[e2]
 rw[subS_app u1,subS_app u1]
end Go.Proofs.YtpennhjjnlkbiaaGreat
end
section
namespace Go.Proofs.YtpennhjjnlkbiaaGreat
open Go Go.Lg
set_option linter.unusedSimpArgs false
set_option linter.unusedVariables false
def argU (rs t:List Int) (j:Nat):List Int:=subS rs t (nthB rs t 1 j)
theorem argU_sub {rs t:List Int} (h:TermOkP rs t) {a:Nat} (ha:a<t.length) {j:Nat} (hj:j<(arS rs (t.getD a default)).toNat):argU rs (subS rs t a) j=subS rs t (nthB rs t (a+1) j):=(sub_sub h ha).2 j hj
theorem subS_zeroU {rs t:List Int} (h:TermOkP rs t):subS rs t 0=t:=by
 have h0:=h.2.2
 unfold subS
 rw[List.drop_zero,h0]
 simp
theorem argU_ok {rs t:List Int} (h:TermOkP rs t) {j:Nat} (hj:j<(arS rs (t.getD 0 default)).toNat):TermOkP rs (argU rs t j)∧(argU rs t j).length<t.length:=by
 have h1:=nthB_lt h (show 0<t.length from h.2.1.1) hj
 have h2:=subS_ok h h1.2
 refine⟨h2,?_⟩
 have h3:=subS_len h h1.2
 have h4:=endS_ge h h1.2
 unfold argU
 simp only[Nat.zero_add] at *
 omega
def partsU (rs t:List Int) (j:Nat):List (List Int):=(List.range j).map (argU rs t)
theorem partsU_len (rs t:List Int) (j:Nat):(partsU rs t j).length=j:=by simp[partsU]
theorem partsU_succ (rs t:List Int) (j:Nat):partsU rs t (j+1)=partsU rs t j++[argU rs t j]:=by simp[partsU,List.range_succ]
theorem partsU_get (rs t:List Int) {j k:Nat} (h:j<k):(partsU rs t k).getD j default=argU rs t j:=by simp[partsU,List.getD,h]
def MF:Int:=1000000000000
def padC (cs:List Int) (n:Nat):List Int:=cs++List.replicate (n-cs.length) 0
def addJ (cs ds:List Int) (c:Int):Nat→List Int
 | 0=>padC cs ds.length
 | j+1=>(addJ cs ds c j).set j ((addJ cs ds c j).getD j default+c*ds.getD j default)
def zeroF:PolyT:=⟨0,[]⟩
def addF (o a:PolyT) (c:Int):PolyT:=⟨o.const+c*a.const,addJ o.coef a.coef c a.coef.length⟩
def varF (n:Int):PolyT:=⟨0,(List.replicate (-n).toNat 0).set (-1-n).toNat 1⟩
def okF (o:PolyT):Prop:=(∀x∈o.coef,x≤MF)∧o.const≤MF
def sumF (F:Nat→PolyT×Bool) (p:PolyT):Nat→PolyT
 | 0=>⟨p.const,[]⟩
 | k+1=>addF (sumF F p k) (F k).1 (p.coef.getD k default)
open Classical in
noncomputable def appF1 (F:Nat→PolyT×Bool) (p:PolyT) (n:Nat):PolyT×Bool:=if (∀j<n,(F j).2=true)∧okF (sumF F p n) then (sumF F p n,true) else (zeroF,false)
noncomputable def formM (rs:List Int) (ps:List PolyT):Nat→List Int→PolyT×Bool
 | 0,_=>(zeroF,false)
 | f+1,t=>if t.getD 0 default<0 then (varF (t.getD 0 default),true) else appF1 (fun j=>formM rs ps f (argU rs t j)) (ps.getD (t.getD 0 default).toNat default) (arS rs (t.getD 0 default)).toNat
theorem appF1_yes {F:Nat→PolyT×Bool} {p:PolyT} {n:Nat} (h:(∀j<n,(F j).2=true)∧okF (sumF F p n)):appF1 F p n=(sumF F p n,true):=if_pos h
theorem appF1_no {F:Nat→PolyT×Bool} {p:PolyT} {n:Nat} (h:¬((∀j<n,(F j).2=true)∧okF (sumF F p n))):appF1 F p n=(zeroF,false):=if_neg h
theorem formM_var {rs:List Int} {ps:List PolyT} {f:Nat} {t:List Int} (h:t.getD 0 default<0):formM rs ps (f+1) t=(varF (t.getD 0 default),true):=if_pos h
theorem formM_app {rs:List Int} {ps:List PolyT} {f:Nat} {t:List Int} (h:¬t.getD 0 default<0):formM rs ps (f+1) t=appF1 (fun j=>formM rs ps f (argU rs t j)) (ps.getD (t.getD 0 default).toNat default) (arS rs (t.getD 0 default)).toNat:=if_neg h
theorem padC_len (cs:List Int) (n:Nat):(padC cs n).length=max cs.length n:=by
 unfold padC;rw[List.length_append,List.length_replicate];omega
theorem addJ_len (cs ds:List Int) (c:Int):∀j,(addJ cs ds c j).length=max cs.length ds.length
 | 0=>padC_len _ _
 | j+1=>by simp only[addJ,List.length_set,addJ_len cs ds c j]
theorem padC_get (cs:List Int) (n i:Nat):(padC cs n).getD i default=cs.getD i default:=by
 unfold padC
 simp only[List.getD_eq_getElem?_getD]
 rcases Nat.lt_or_ge i cs.length with h|h
 ·rw[List.getElem?_append_left h]
 ·rw[List.getElem?_append_right h,List.getElem?_eq_none h,List.getElem?_replicate]
  split<;>rfl
theorem getD_set_if (l:List Int) (j i:Nat) (x:Int):(l.set j x).getD i default=if j=i∧j<l.length then x else l.getD i default:=by
 simp only[List.getD_eq_getElem?_getD,List.getElem?_set]
 by_cases h:j=i
 ·subst h
  by_cases h2:j<l.length
  ·simp[h2]
  ·simp[h2,List.getElem?_eq_none (Nat.not_lt.1 h2)]
 ·simp[h]
theorem addJ_get (cs ds:List Int) (c:Int):∀j,j≤ds.length→∀i,(addJ cs ds c j).getD i default=cs.getD i default+if i<j then c*ds.getD i default else 0
 | 0,_,i=>by rw[addJ,padC_get,if_neg (Nat.not_lt_zero _),Int.add_zero]
 | j+1,hj,i=>by
  have ih:=addJ_get cs ds c j (by omega)
  simp only[addJ,getD_set_if,addJ_len,ih]
  by_cases h:j=i
  ·subst h
   rw[if_pos ⟨rfl,by omega⟩,if_neg (by omega),if_pos (by omega)]
   omega
  ·rw[if_neg (fun e=>h e.1)]
   by_cases h2:i<j
   ·rw[if_pos h2,if_pos (by omega)]
   ·rw[if_neg h2,if_neg (by omega)]
theorem addJ_past (cs ds:List Int) (c:Int) {j:Nat} (hj:ds.length≤j):ds.getD j default=0:=by
 rw[List.getD_eq_getElem?_getD,List.getElem?_eq_none hj];rfl
def specJ (cs ds:List Int) (c:Int) (i:Nat):List Int:=(addJ cs ds c i).take (max cs.length i)
def specL (cs ds:List Int) (c:Int) (i:Nat):List Int:=(addJ cs ds c i).take (max cs.length (i+1))
theorem specJ_len (cs ds:List Int) (c:Int) {i:Nat} (h:i≤ds.length):(specJ cs ds c i).length=max cs.length i:=by unfold specJ;rw[List.length_take,addJ_len];omega
theorem specL_len (cs ds:List Int) (c:Int) {i:Nat} (h:i<ds.length):(specL cs ds c i).length=max cs.length (i+1):=by unfold specL;rw[List.length_take,addJ_len];omega
theorem specJ_zero (cs ds:List Int) (c:Int):specJ cs ds c 0=cs:=by
 unfold specJ addJ padC
 rw[show max cs.length 0=cs.length by omega,List.take_left]
theorem specJ_pad (cs ds:List Int) (c:Int) {i:Nat} (h:i<ds.length) (hc:cs.length≤i):specJ cs ds c i++[0]=specL cs ds c i:=by
 unfold specJ specL
 rw[show max cs.length i=i by omega,show max cs.length (i+1)=i+1 by omega,List.take_succ_eq_append_getElem (by rw[addJ_len];omega)]
 congr 2
 have h1:=addJ_get cs ds c i (by omega) i
 rw[if_neg (by omega),List.getD_eq_getElem?_getD,List.getElem?_eq_getElem (by rw[addJ_len];omega),Option.getD_some,List.getD_eq_getElem?_getD,List.getElem?_eq_none hc] at h1
 rw[h1];rfl
theorem specJ_stay (cs ds:List Int) (c:Int) {i:Nat} (hc:i<cs.length):specJ cs ds c i=specL cs ds c i:=by
 unfold specJ specL
 rw[show max cs.length i=max cs.length (i+1) by omega]
theorem specL_get (cs ds:List Int) (c:Int) (i:Nat):(specL cs ds c i).getD i default=(addJ cs ds c i).getD i default:=by
 unfold specL
 rw[List.getD_eq_getElem?_getD,List.getD_eq_getElem?_getD,List.getElem?_take,if_pos (by omega)]
theorem specL_set (cs ds:List Int) (c:Int) (i:Nat):(specL cs ds c i).set i ((specL cs ds c i).getD i default+c*ds.getD i default)=specJ cs ds c (i+1):=by
 rw[specL_get]
 unfold specL specJ
 rw[addJ,List.take_set]
theorem specJ_end (cs ds:List Int) (c:Int):specJ cs ds c ds.length=addJ cs ds c ds.length:=by
 unfold specJ
 rw[List.take_of_length_le (by rw[addJ_len];omega)]
open Classical in
noncomputable def addR (a b:PolyT) (c:Int):PolyT×Bool:=if ∀x∈(addF a b c).coef,x≤MF then (addF a b c,tst ((addF a b c).const≤MF)) else (zeroF,false)
theorem addR_yes {a b:PolyT} {c:Int} (h:∀x∈(addF a b c).coef,x≤MF):addR a b c=(addF a b c,tst ((addF a b c).const≤MF)):=if_pos h
theorem addR_no {a b:PolyT} {c:Int} (h:¬ ∀x∈(addF a b c).coef,x≤MF):addR a b c=(zeroF,false):=if_neg h
theorem addR_ok {a b:PolyT} {c:Int}:(addR a b c).2=true↔okF (addF a b c):=by
 by_cases h:∀x∈(addF a b c).coef,x≤MF
 ·rw[addR_yes h]
  exact⟨fun e=>⟨h,tst_iff.1 e⟩,fun e=>tst_true e.2⟩
 ·rw[addR_no h]
  exact⟨fun e=>absurd e (by simp),fun e=>absurd e.1 h⟩
def GoodB (B:Int) (o:PolyT):Prop:=(0≤o.const∧o.const≤B)∧(∀x∈o.coef,0≤x∧x≤B)∧o.coef.length≤24
def PolyOkP (n:Int) (p:PolyT):Prop:=((p.coef.length:Int)=n∧0≤p.const∧p.const≤9)∧∀x∈p.coef,0≤x∧x≤9
def PolysOkP (rs:List Int) (ps:List PolyT):Prop:=(SigOkP rs∧ps.length=rs.length)∧∀f<ps.length,PolyOkP (rs.getD f default) (ps.getD f default)
theorem mem_getD {xs:List Int} {P:Int→Prop} (h0:P 0) (h:∀x∈xs,P x) (i:Nat):P (xs.getD i default):=by
 rcases Nat.lt_or_ge i xs.length with h1|h1
 ·exact h _ (getD_mem xs i h1)
 ·rw[List.getD_eq_getElem?_getD,List.getElem?_eq_none h1];exact h0
theorem all_getD {xs:List Int} {P:Int→Prop} (h:∀i<xs.length,P (xs.getD i default)):∀x∈xs,P x:=fun x hx=>by
 obtain⟨j,hj,rfl⟩:=List.getElem_of_mem hx
 have:=h j hj
 rwa [List.getD_eq_getElem?_getD,List.getElem?_eq_getElem hj] at this
theorem good_add {B B':Int} {o a:PolyT} {c:Int} (ho:GoodB B o) (ha:GoodB B' a) (hc:0≤c∧c≤9) (hB:0≤B) (hB':0≤B'):GoodB (B+9*B') (addF o a c):=by
 have hmul:∀x,0≤x∧x≤B'→0≤c*x∧c*x≤9*B':=fun x hx=>⟨Int.mul_nonneg hc.1 hx.1,Int.mul_le_mul hc.2 hx.2 hx.1 (by omega)⟩
 refine⟨?_,all_getD fun i _=>?_,?_⟩
 ·have:=hmul _ ha.1;have:=ho.1
  show 0≤o.const+c*a.const∧o.const+c*a.const≤B+9*B'
  omega
 ·show 0≤(addJ o.coef a.coef c a.coef.length).getD i default∧(addJ o.coef a.coef c a.coef.length).getD i default≤B+9*B'
  rw[addJ_get _ _ _ _ (Nat.le_refl _)]
  have h1:=mem_getD (P:=fun x=>0≤x∧x≤B) ⟨Int.le_refl _,hB⟩ ho.2.1 i
  have h2:=hmul _ (mem_getD (P:=fun x=>0≤x∧x≤B') ⟨Int.le_refl _,hB'⟩ ha.2.1 i)
  split<;>omega
 ·show (addJ o.coef a.coef c a.coef.length).length≤24
  rw[addJ_len]
  have:=ho.2.2;have:=ha.2.2;omega
theorem good_le {B B':Int} {o:PolyT} (h:GoodB B o) (hB:B≤B'):GoodB B' o:=⟨⟨h.1.1,by have:=h.1.2;omega⟩,fun x hx=>⟨(h.2.1 x hx).1,by have:=(h.2.1 x hx).2;omega⟩,h.2.2⟩
theorem coef_get {n:Int} {p:PolyT} (h:PolyOkP n p) (k:Nat):0≤p.coef.getD k default∧p.coef.getD k default≤9:=mem_getD (P:=fun x=>0≤x∧x≤9) ⟨Int.le_refl _,by decide⟩ h.2 k
theorem good_sum {F:Nat→PolyT×Bool} {p:PolyT} {m:Int} (hp:PolyOkP m p):∀n,(∀j<n,GoodB MF (F j).1)→GoodB (9+9*MF*n) (sumF F p n)
 | 0,_=>⟨⟨hp.1.2.1,by show p.const≤9+9*MF*((0:Nat):Int);have:=hp.1.2.2;simp only[MF];omega⟩,(fun x hx=>by cases hx),by simp[sumF]⟩
 | n+1,h=>by
  have ih:=good_sum hp n fun j hj=>h j (by omega)
  have h1:=good_add ih (h n (by omega)) (coef_get hp n) (by simp only[MF];omega) (by decide)
  refine good_le h1 ?_
  simp only[MF];omega
theorem ok_less {B B':Int} {o a:PolyT} {c:Int} (ho:GoodB B o) (ha:GoodB B' a) (hB':0≤B') (hc:0≤c) (h:okF (addF o a c)):okF o:=by
 have hmul:∀x,0≤x∧x≤B'→0≤c*x:=fun x hx=>Int.mul_nonneg hc hx.1
 refine⟨all_getD fun i hi=>?_,?_⟩
 ·have h1:(addJ o.coef a.coef c a.coef.length).getD i default≤MF:=h.1 _ (getD_mem _ i (by show i<(addJ o.coef a.coef c a.coef.length).length;rw[addJ_len];omega))
  rw[addJ_get _ _ _ _ (Nat.le_refl _)] at h1
  have h2:=hmul _ (mem_getD (P:=fun x=>0≤x∧x≤B') ⟨Int.le_refl _,hB'⟩ ha.2.1 i)
  split at h1<;>omega
 ·have h1:o.const+c*a.const≤MF:=h.2
  have:=hmul _ ha.1
  omega
theorem ok_sum {F:Nat→PolyT×Bool} {p:PolyT} {m:Int} (hp:PolyOkP m p) {n:Nat} (h:∀j<n,GoodB MF (F j).1) (hok:okF (sumF F p n)):∀k≤n,okF (sumF F p k):=by
 induction n with
 | zero=>intro k hk;rwa [show k=0 by omega]
 | succ n ih =>
  intro k hk
  rcases Nat.lt_or_ge k (n+1) with h1|h1
  ·exact ih (fun j hj=>h j (by omega)) (ok_less (good_sum hp n fun j hj=>h j (by omega)) (h n (by omega)) (by decide) (coef_get hp n).1 hok) k (by omega)
  ·rwa [show k=n+1 by omega]
theorem okF_zero {p:PolyT} {m:Int} (hp:PolyOkP m p):okF ⟨p.const,[]⟩:=⟨(fun x hx=>by cases hx),by show p.const≤MF;have:=hp.1.2.2;simp only[MF];omega⟩
theorem good_var {n:Int} (h0:n<0) (h1:-24≤n):GoodB MF (varF n):=by
 refine⟨⟨Int.le_refl _,by show (0:Int)≤MF;decide⟩,fun x hx=>?_,?_⟩
 ·rcases List.mem_or_eq_of_mem_set hx with h|rfl
  ·rw[(List.mem_replicate.1 h).2];decide
  ·decide
 ·show ((List.replicate (-n).toNat (0:Int)).set (-1-n).toNat 1).length≤24
  rw[List.length_set,List.length_replicate];omega
theorem good_zero:GoodB MF zeroF:=⟨⟨Int.le_refl _,by show (0:Int)≤MF;decide⟩,(fun x hx=>by cases hx),by simp[zeroF]⟩
theorem good_app {F:Nat→PolyT×Bool} {p:PolyT} {m:Int} (hp:PolyOkP m p) {n:Nat} (h:∀j<n,GoodB MF (F j).1):GoodB MF (appF1 F p n).1:=by
 rcases Classical.em ((∀j<n,(F j).2=true)∧okF (sumF F p n)) with h1|h1
 ·rw[appF1_yes h1]
  have h2:=good_sum hp n h
  exact⟨⟨h2.1.1,h1.2.2⟩,fun x hx=>⟨(h2.2.1 x hx).1,h1.2.1 x hx⟩,h2.2.2⟩
 ·rw[appF1_no h1];exact good_zero
theorem poly_at {rs:List Int} {ps:List PolyT} (h:PolysOkP rs ps) {n:Int} (h0:0≤n) (h1:n<rs.length):PolyOkP (arS rs n) (ps.getD n.toNat default):=by
 rw[arS_sym (by omega)]
 exact h.2 n.toNat (by rw[h.1.2];omega)
theorem form_good {rs:List Int} {ps:List PolyT} (hP:PolysOkP rs ps):∀f t,TermOkP rs t→GoodB MF (formM rs ps f t).1
 | 0,_,_=>good_zero
 | f+1,t,ht=>by
  have hl:=ht.low (show 0<t.length from ht.2.1.1)
  by_cases h:t.getD 0 default<0
  ·rw[formM_var h];exact good_var h hl.1.1
  ·rw[formM_app h]
   exact good_app (poly_at hP (by omega) hl.1.2) fun j hj=>form_good hP f _ (argU_ok ht hj).1
def MostP (a b:PolyT):Prop:=∀i<a.coef.length,a.coef.getD i default≤b.coef.getD i default
end Go.Proofs.YtpennhjjnlkbiaaGreat
end
section
namespace Go.Proofs.YtpennhjjnlkbiaaGreat
open Go Go.Lg
def kp78:List (Nat×List Nat):=[(0,[0]),(1,[0,4]),(2,[2]),(3,[2])]
attribute [go_sem] kp78
end Go.Proofs.YtpennhjjnlkbiaaGreat
end
section
namespace Go.Proofs.YtpennhjjnlkbiaaGreat
open Go Go.Lg
set_option linter.unusedSimpArgs false
set_option maxHeartbeats 4000000
attribute [local irreducible] SW runL runQ runG runQG FC
def RuleOkP (rs l r:List Int):Prop:=(TermOkP rs l∧TermOkP rs r∧0≤l.getD 0 default)∧∀j<r.length,r.getD j default<0→r.getD j default∈l
def kp96:List (Nat×List Nat):=[(0,[2,3]),(1,[3,24]),(2,[4]),(3,[3,5]),(4,[3,5,29]),(6,[3,5,48]),(7,[4]),(5,[3,5]),(8,[4])]
attribute [go_sem] kp96
theorem specRuleOk_fc (tk tk1 tk2:Tk) (rs l r:List Int):FC S 96 [] [] [] [.agg [.sl tk (rs.map (.int .i64))],.agg [.sl tk1 (l.map (.int .i64)),.sl tk2 (r.map (.int .i64))]] (.bool (tst (RuleOkP rs l r))) [] []:=by
 have hl1:TermOkP rs l→1≤l.length:=fun h=>h.2.1.1
 unfold RuleOkP
 refine fc_body Tryz.func96 rfl (by kernel_rfl) (by simp[Tryz.f96]) fun B=>?_
 simp only[Tryz.ntmps96,enumD,lst0,Nat.reduceAdd]
 refine sw_bnd_agg 0 0 rfl rfl fun hb0_0=>?_
 simp only[D.bnd,List.length_map] at hb0_0
 refine sw_bnd_agg 1 0 rfl rfl fun hb1_0=>?_
 simp only[D.bnd,List.length_map] at hb1_0
 refine sw_bnd_agg 1 1 rfl rfl fun hb1_1=>?_
 simp only[D.bnd,List.length_map] at hb1_1
 repeat' first|refine sw_seq ?_|refine sw_go 0 kp96 fun K hK=>?_|((first|refine runL_go ?_|refine runQ_go ?_|refine sw_ret (ret0 ?_)|refine sw_ret ?_);simp (disch:=(refine Om.mk ?_;omega)) only[go_sem,Tryz.results96])|(refine hK.nil ?_;clear hK K;simp only[go_sem])|((first|refine runG_fork rfl rfl rfl rfl rfl ?_ ?_|refine runQG_fork rfl rfl rfl rfl rfl ?_ ?_|refine sw_cond rfl ?_ ?_)<;>intro h<;>try simp (disch:=(refine Om.mk ?_;omega)) only[go_sem] at h)|refine hK.skp rfl rfl ?_|refine hK.c0 rfl rfl rfl (specTermOk_fc _ _ _ _) rfl rfl rfl ?_|fail
 ·rintro⟨⟨h1,_⟩,_⟩;contradiction
 ·rintro⟨⟨_,h1,_⟩,_⟩;contradiction
 have hl2:=hl1 (by assumption)
 simp (disch:=(refine Om.mk ?_;omega)) only[go_sem]
 repeat' first|refine sw_seq ?_|refine sw_block ?_|refine sw_skip ?_|refine sw_go 0 kp96 fun K hK=>?_|((first|refine runL_go ?_|refine runQ_go ?_|refine sw_ret (ret0 ?_)|refine sw_ret ?_);simp (disch:=(refine Om.mk ?_;omega)) only[go_sem,Tryz.results96])|(refine hK.nil ?_;clear hK K;simp only[go_sem])|((first|refine runG_fork rfl rfl rfl rfl rfl ?_ ?_|refine runQG_fork rfl rfl rfl rfl rfl ?_ ?_|refine sw_cond rfl ?_ ?_)<;>intro h<;>try simp (disch:=(refine Om.mk ?_;omega)) only[go_sem] at h)|(with_reducible refine And.intro (by first|omega|(simp only[lens];omega)) ?_)|fail
 ·rintro⟨⟨_,_,h1⟩,_⟩;omega
 refine sw_loopU (ι:=Nat) (fun i=>[(5,.int .i64 i)]) (fun _=>[]) (fun i=>i≤r.length∧(∀j<i,r.getD j default<0→r.getD j default∈l)) (fun i=>r.length-i) 0 (by(refine covers_mk0 rfl rfl ?_ ?_ ?_ ?_<;>simp (disch:=(refine Om.mk ?_;omega)) only[go_sem]<;>(try omega))) ⟨by omega,?_⟩ (fun i ⟨hi,hj⟩=>?_)
 rotate_left
 simp only[go_sem]
 repeat' first|refine sw_seq ?_|refine sw_block ?_|refine sw_inBlock ?_|refine sw_skip ?_|refine sw_go 0 kp96 fun K hK=>?_|refine sw_goD kp96 (by kernel_rfl) fun K hK=>?_|((first|refine runL_go ?_|refine runQ_go ?_|refine sw_ret (ret0 ?_)|refine sw_ret ?_);simp (disch:=(refine Om.mk ?_;omega)) only[go_sem,Tryz.results96])|(refine hK.nil ?_;clear hK K;simp only[go_sem])|((first|refine runG_fork rfl rfl rfl rfl rfl ?_ ?_|refine runQG_fork rfl rfl rfl rfl rfl ?_ ?_|refine sw_cond rfl ?_ ?_)<;>intro h<;>try simp (disch:=(refine Om.mk ?_;omega)) only[go_sem] at h)|refine hK.skp rfl rfl ?_|refine sw_exit rfl ?_|refine sw_loopEnd ?_|refine hK.c0 rfl rfl rfl (l1Has_fc _ _ _) rfl rfl rfl ?_|(with_reducible refine And.intro (by first|omega|(simp only[lens];omega)) ?_)|fail
 ·rintro⟨_,h2⟩;exact absurd (h2 i (by omega) (by assumption)) h
 ·exact⟨i+1,by(refine covers_mk0 rfl rfl ?_ ?_ ?_ ?_<;>simp (disch:=(refine Om.mk ?_;omega)) only[go_sem]<;>(try omega)),⟨by omega,upto_succ hj fun _=>h⟩,by omega⟩
 ·exact⟨i+1,by(refine covers_mk0 rfl rfl ?_ ?_ ?_ ?_<;>simp (disch:=(refine Om.mk ?_;omega)) only[go_sem]<;>(try omega)),⟨by omega,upto_succ hj fun h0=>by omega⟩,by omega⟩
 ·exact⟨⟨by assumption,by assumption,by omega⟩,fun j hj'=>hj j (by omega)⟩
 ·intro j hj';omega
def kp106:List (Nat×List Nat):=[(0,[2,3]),(1,[3,25]),(2,[4]),(3,[3,27,28,29]),(4,[3,27,28,29,30]),(5,[3,6,27,28,29]),(6,[3,27,28,29,41]),(7,[4]),(8,[3,27,28,29]),(9,[4])]
attribute [go_sem] kp106
theorem implRuleOk_fc (tk tk1 tk2:Tk) (rs l r:List Int):FC S 106 [] [] [] [.agg [.sl tk (rs.map (.int .i64))],.agg [.sl tk1 (l.map (.int .i64)),.sl tk2 (r.map (.int .i64))]] (.bool (tst (RuleOkP rs l r))) [] []:=by
 have hl1:TermOkP rs l→1≤l.length:=fun h=>h.2.1.1
 unfold RuleOkP
 refine fc_body Tryz.func106 rfl (by kernel_rfl) (by simp[Tryz.f106]) fun B=>?_
 simp only[Tryz.ntmps106,enumD,lst0,Nat.reduceAdd]
 refine sw_bnd_agg 0 0 rfl rfl fun hb0_0=>?_
 simp only[D.bnd,List.length_map] at hb0_0
 refine sw_bnd_agg 1 0 rfl rfl fun hb1_0=>?_
 simp only[D.bnd,List.length_map] at hb1_0
 refine sw_bnd_agg 1 1 rfl rfl fun hb1_1=>?_
 simp only[D.bnd,List.length_map] at hb1_1
 repeat' first|refine sw_seq ?_|refine sw_go 0 kp106 fun K hK=>?_|((first|refine runL_go ?_|refine sw_ret (ret0 ?_)|refine sw_ret ?_);simp (disch:=(refine Om.mk ?_;omega)) only[go_sem,Tryz.results106])|(refine hK.nil ?_;clear hK K;simp only[go_sem])|((first|refine runG_fork rfl rfl rfl rfl rfl ?_ ?_|refine sw_cond rfl ?_ ?_)<;>intro h<;>try simp (disch:=(refine Om.mk ?_;omega)) only[go_sem] at h)|refine hK.skp rfl rfl ?_|refine hK.c0 rfl rfl rfl (implTermOk_fc _ _ _ _) rfl rfl rfl ?_|fail
 ·rintro⟨⟨h1,_⟩,_⟩;contradiction
 ·rintro⟨⟨_,h1,_⟩,_⟩;contradiction
 have hl2:=hl1 (by assumption)
 simp (disch:=(refine Om.mk ?_;omega)) only[go_sem]
 repeat' first|refine sw_seq ?_|refine sw_block ?_|refine sw_skip ?_|refine sw_go 0 kp106 fun K hK=>?_|((first|refine runL_go ?_|refine sw_ret (ret0 ?_)|refine sw_ret ?_);simp (disch:=(refine Om.mk ?_;omega)) only[go_sem,Tryz.results106])|(refine hK.nil ?_;clear hK K;simp only[go_sem])|((first|refine runG_fork rfl rfl rfl rfl rfl ?_ ?_|refine sw_cond rfl ?_ ?_)<;>intro h<;>try simp (disch:=(refine Om.mk ?_;omega)) only[go_sem] at h)|(with_reducible refine And.intro (by first|omega|(simp only[lens];omega)) ?_)|fail
 ·rintro⟨⟨_,_,h1⟩,_⟩;omega
 refine sw_loopU (ι:=Nat) (fun i=>[(29,.int .i64 i)]) (fun _=>[]) (fun i=>i≤r.length∧(∀j<i,r.getD j default<0→r.getD j default∈l)) (fun i=>r.length-i) 0 (by(refine covers_mk0 rfl rfl ?_ ?_ ?_ ?_<;>simp (disch:=(refine Om.mk ?_;omega)) only[go_sem]<;>(try omega))) ⟨by omega,?_⟩ (fun i ⟨hi,hj⟩=>?_)
 rotate_left
 simp only[go_sem]
 repeat' first|refine sw_seq ?_|refine sw_block ?_|refine sw_inBlock ?_|refine sw_skip ?_|refine sw_go 0 kp106 fun K hK=>?_|((first|refine runL_go ?_|refine sw_ret (ret0 ?_)|refine sw_ret ?_);simp (disch:=(refine Om.mk ?_;omega)) only[go_sem,Tryz.results106])|(refine hK.nil ?_;clear hK K;simp only[go_sem])|((first|refine runG_fork rfl rfl rfl rfl rfl ?_ ?_|refine sw_cond rfl ?_ ?_)<;>intro h<;>try simp (disch:=(refine Om.mk ?_;omega)) only[go_sem] at h)|refine hK.skp rfl rfl ?_|refine sw_exit rfl ?_|refine sw_loopEnd ?_|refine hK.c0 rfl rfl rfl (contains_fc _ _ _) rfl rfl rfl ?_|(with_reducible refine And.intro (by first|omega|(simp only[lens];omega)) ?_)|fail
 ·rintro⟨_,h2⟩;exact absurd (h2 i (by omega) (by assumption)) h
 ·exact⟨i+1,by(refine covers_mk0 rfl rfl ?_ ?_ ?_ ?_<;>simp (disch:=(refine Om.mk ?_;omega)) only[go_sem]<;>(try omega)),⟨by omega,upto_succ hj fun _=>h⟩,by omega⟩
 ·exact⟨i+1,by(refine covers_mk0 rfl rfl ?_ ?_ ?_ ?_<;>simp (disch:=(refine Om.mk ?_;omega)) only[go_sem]<;>(try omega)),⟨by omega,upto_succ hj fun h0=>by omega⟩,by omega⟩
 ·exact⟨⟨by assumption,by assumption,by omega⟩,fun j hj'=>hj j (by omega)⟩
 ·intro j hj';omega
end Go.Proofs.YtpennhjjnlkbiaaGreat
end
