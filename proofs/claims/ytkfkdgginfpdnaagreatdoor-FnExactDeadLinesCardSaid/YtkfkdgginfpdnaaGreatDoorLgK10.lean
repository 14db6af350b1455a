/-
  Lg: LgIface, LgAny, one behind the other.
-/
import Derived.Test.YtkfkdgginfpdnaaGreatDoorLgK7
/-
  Lg: a region with one operation of a kind of its own; values in interfaces.
-/
namespace Go.Lg
open Go Go.RowKit
theorem kok_app {S:Setup} {base:Nat} {B:Base} {ops:Array Oper} {l2:List Oper} {N M:LS→Prop} (hfin:∀L,N L→LopsW S B ops l2 L M):KOk S base B ops N (fun l' L'=>LopsW S B ops (l'++l2) L' M):=by
 have hs:∀l' L',runL S base ops (fun l' L'=>LopsW S B ops (l'++l2) L' M) l' L'→LopsW S B ops (l'++l2) L' M :=
  runL_sound2 (base:=base) (K':=fun l' L'=>LopsW S B ops (l'++l2) L' M) (fun _ _ h=>h)
 exact {
  nil:=fun h=>hfin _ h
  raw:=fun h=>h.app fun L' h'=>hfin L' h'
  weak:=fun hc h=>LopsW.weak hc (hs _ _ h)
  split:=fun t _ ht h1 h0=>LopsW.split t ht (fun e=>hs _ _ (h1 e)) (fun e=>hs _ _ (h0 e))
  skip:=fun hg hd h=>LopsW.skip hg hd (hs _ _ h)
  call:=fun hg _ _ _ _ _ hf hds fc hside h=>LopsW.call hg hf hds fc hside (hs _ _ h)
  callB:=fun hg _ _ _ _ _ _ _ _ _ hf hds fc hside h=>LopsW.callB hg hf hds fc hside (hs _ _ h)
  callT:=fun hg _ _ _ _ _ _ _ hf hds fc hside h=>LopsW.callTi hg (base+_) hf hds fc hside (hs _ _ h)
  callM:=fun hg _ _ _ _ _ _ _ hf hds fc hside h=>LopsW.callM hg (base+_) hf hds fc hside (hs _ _ h)}
theorem sw_goAt {S:Setup} {B:Base} {R:LS→Prop} {k:List VItem} {L:LS} (base:Nat) (kp:List (Nat×List Nat)) (m:Nat) {id:Nat} {l:List Oper} {o:Oper} (ho:l[m]?=some o)
  (h:∀K:List Oper→LS→Prop,KOk S base B l.toArray (fun L1=>LopsW S B l.toArray [o] L1 fun L2=>∀K:List Oper→LS→Prop,KOk S base B l.toArray (fun L3=>SW S B R k (L3.keepAt kp id)) K→runL S base l.toArray K (l.drop (m+1)) L2) K→runL S base l.toArray K (l.take m) L):SW S B R (.code (.region id l.toArray false)::k) L:=by
 have hm:m<l.length:=(List.getElem?_eq_some_iff.1 ho).1
 have hl:l=l.take m++([o]++l.drop (m+1)):=by
  have:l[m]=o:=(List.getElem?_eq_some_iff.1 ho).2
  rw[←this]
  simp
 have h3:∀L2,(∀K:List Oper→LS→Prop,KOk S base B l.toArray (fun L3=>SW S B R k (L3.keepAt kp id)) K→runL S base l.toArray K (l.drop (m+1)) L2)→LopsW S B l.toArray (l.drop (m+1)) L2 (fun L'=>SW S B R k L'):=fun L2 h2=>by
  have:=runL_sound2 (base:=base) (l2:=[]) (K':=fun l' L'=>LopsW S B l.toArray (l'++[]) L' (fun L'=>SW S B R k L')) (fun _ _ h=>h) _ _ (h2 _ (kok_app fun L3 h3=>LopsW.nil (sw_keepAt kp id h3)))
  rwa [List.append_nil] at this
 have h4:=runL_sound2 (base:=base) (l2:=[o]++l.drop (m+1)) (K':=fun l' L'=>LopsW S B l.toArray (l'++([o]++l.drop (m+1))) L' (fun L'=>SW S B R k L')) (fun _ _ h=>h) _ _ (h _ (kok_app fun L1 h1=>LopsW.app h1 h3))
 rw[←hl] at h4
 exact sw_region h4
def ifI (T:TypeId) (d:D):Ghost→World→Value→Prop:=fun G w v=>∃u,v=.iface T u∧Rel G w d u
def D.ifc (T:TypeId) (d:D):D:=.pred (ifI T d)
theorem LopsW.mkIface {S:Setup} {B:Base} {ops:Array Oper} {l:List Oper} {L:LS} {K:LS→Prop} {t:Nat} {T:TypeId} {x:Operand} {ty:TypeId} {pos:String} {aft:Array Edge} {d:D}
  (hrun:∀v w,(Instr.makeInterface T v).run S.P w=.ok (.iface T v) w) (hx:evalO L x=some d) (hi:d.ids=[]) (hk:d.tks=[]) (ht:t<L.n)
  (h:LopsW S B ops l (L.put t (D.ifc T d)) K):LopsW S B ops (⟨some t,.makeInterface T x,ty,pos,aft,none⟩::l) L K:=by
 intro G a w hs Q hQ
 refine wpList_step fun N hN=>?_
 rw[if_pos (guardY_sound (S:=S) (b:=true) rfl hs rfl)]
 have hv:=eval_sound hs hx
 unfold Oper.wp
 have hop:(execOp a.eval ⟨some t,.makeInterface T x,ty,pos,aft,none⟩).run S.P w=.ok (.value (.iface T (a.eval x))) w:=by
  simp[execOp,hrun]
 rw[hop]
 refine hN _ _ (h _ _ _ (hs.putO (t:=some t) (fun t' ht'=>by obtain rfl:=Option.some.inj ht';exact ht) ?_) Q hQ)
 exact .pred (fun cs e=>by cases e) fun G' w' hm=>⟨_,rfl,hv.mono hm (by rw[hi];simp) (by rw[hk];simp)⟩
end Go.Lg
/-
  Lg: a region that draws its order, all orders one by one: plain moves first, then every operation that may be the next; all orders end in one state.
-/
namespace Go.Lg
open Go Go.RowKit
def memB (i:Nat):List Nat→Bool
 | []=>false
 | x::r=>(x==i)||memB i r
def subB:List Nat→List Nat→Bool
 | [],_=>true
 | x::r,d=>memB x d&&subB r d
theorem subB_iff:∀ {d done:List Nat},subB d done=true↔∀x∈d,memB x done=true
 | [],_=>by simp[subB]
 | x::r,done=>by simp[subB,subB_iff (d:=r)]
def goR (P:Nat→Oper→Prop) (done:List Nat):Nat→List (Bool×List Nat)→List Oper→Prop
 | _,[],_=>True
 | _,_::_,[]=>True
 | i,(_,d)::ds,o::os=>cond (!memB i done&&subB d done) (P i o) True∧goR P done (i+1) ds os
def exR (done:List Nat):Nat→List (Bool×List Nat)→Bool
 | _,[]=>false
 | i,(_,d)::ds=>(!memB i done&&subB d done)||exR done (i+1) ds
def boxK (d:D) (K:D→Prop):Prop:=match d with
 | .box id off=>K (.box id off)
 | _=>False
def moveY (S:Setup) (L:LS) (o:Oper) (K:LS→Prop):Prop:=match o with
 | ⟨some t,.move x,_,_,_,none⟩=>t<L.n∧someK (evalO L x) fun d=>K (L.put t d)
 | ⟨some t,.fieldAddr ty x f,_,_,_,none⟩=>t<L.n∧someK (evalO L x) fun d=>boxK d fun d'=>fieldAddrY S ty f d' fun e=>K (L.put t e)
 | ⟨some t,.indexAddr ty x ix,_,_,_,none⟩=>t<L.n∧someK (evalO L x) fun d=>someK (evalO L ix) fun i=>indexAddrY S ty d i fun e=>K (L.put t e)
 | _=>False
def stepF (M:Nat→Oper→Prop) (E:Prop) (done:List Nat):Nat→List (Bool×List Nat)→List Oper→Prop
 | _,[],_=>E
 | _,_::_,[]=>E
 | i,(b,d)::ds,o::os=>cond (b&&(!memB i done&&subB d done)) (M i o) (stepF M E done (i+1) ds os)
def anyB (S:Setup) (B:Base) (l:List Oper) (deps:List (Bool×List Nat)):Nat→List Nat→LS→(LS→Prop)→Prop
 | 0,_,L,K=>K L
 | f+1,done,L,K=>stepF (fun i o=>moveY S L o fun L'=>anyB S B l deps f (i::done) L' K) (exR done 0 deps=true∧goR (fun i o=>LopsW S B l.toArray [o] L fun L'=>anyB S B l deps f (i::done) L' K) done 0 deps l) done 0 deps l
theorem memB_iff:∀ {d:List Nat} {x:Nat},memB x d=true↔x∈d
 | [],x=>by simp[memB]
 | y::r,x=>by
  simp only[memB,Bool.or_eq_true,beq_iff_eq,memB_iff (d:=r),List.mem_cons]
  exact⟨fun h=>h.imp Eq.symm id,fun h=>h.imp Eq.symm id⟩
def lstD (l:List Oper) (i:Nat):Array Bool:=((List.range l.length).map fun j=>memB j (ons .any l.toArray i)).toArray
def chkD (l:List Oper) (deps:List (Bool×List Nat)):Bool :=
 (deps.map (·.2)==(List.range l.length).map (ons .any l.toArray))&&Region.noSelect l.toArray&&(List.range l.length).all fun i=>!(((deps[i]?).map (·.1)).getD false)||Region.free .any l.toArray (lstD l i) i
theorem goR_spec {P:Nat→Oper→Prop} {done:List Nat}:∀ {ds:List (Bool×List Nat)} {os:List Oper} {i0:Nat},goR P done i0 ds os→∀(i:Nat) (b:Bool) (d:List Nat) (o:Oper),ds[i]?=some (b,d)→os[i]?=some o→memB (i0+i) done=false→subB d done=true→P (i0+i) o
 | [],_,_,_,_,_,_,_,h1,_,_,_=>by simp at h1
 | _::_,[],_,_,_,_,_,_,_,h2,_,_=>by simp at h2
 | (b0,d0)::ds,o0::os,i0,h,i,b,d,o,h1,h2,h3,h4=>by
  simp only[goR] at h
  cases i with
  | zero =>
   simp at h1 h2
   obtain⟨rfl,rfl⟩:=h1
   subst h2
   have:=h.1
   rw[Nat.add_zero] at h3 ⊢
   rw[h3,h4] at this
   exact this
  | succ i =>
   have:=goR_spec h.2 i b d o (by simpa using h1) (by simpa using h2) (by rw[show i0+1+i=i0+(i+1) by omega];exact h3) h4
   rwa [show i0+1+i=i0+(i+1) by omega] at this
theorem stepF_spec {M:Nat→Oper→Prop} {E:Prop} {done:List Nat}:∀ {ds:List (Bool×List Nat)} {os:List Oper} {i0:Nat},stepF M E done i0 ds os→E∨∃(i:Nat) (d:List Nat) (o:Oper),ds[i]?=some (true,d)∧os[i]?=some o∧memB (i0+i) done=false∧subB d done=true∧M (i0+i) o
 | [],_,_,h=>.inl h
 | _::_,[],_,h=>.inl h
 | (b,d)::ds,o::os,i0,h=>by
  simp only[stepF] at h
  cases hc:(b&&(!memB i0 done&&subB d done)) with
  | true =>
   rw[hc] at h
   simp only[Bool.and_eq_true,Bool.not_eq_true'] at hc
   obtain⟨rfl,h1,h2⟩:=hc
   exact .inr ⟨0,d,o,rfl,rfl,h1,h2,h⟩
  | false =>
   rw[hc] at h
   rcases stepF_spec h with h|⟨i,d',o',h1,h2,h3,h4,h5⟩
   ·exact .inl h
   ·refine .inr ⟨i+1,d',o',by simpa using h1,by simpa using h2,?_,h4,?_⟩
    ·rw[show i0+(i+1)=i0+1+i by omega];exact h3
    ·rw[show i0+(i+1)=i0+1+i by omega];exact h5
theorem exR_spec {done:List Nat}:∀ {ds:List (Bool×List Nat)} {i0:Nat},exR done i0 ds=true→∃(i:Nat) (b:Bool) (d:List Nat),ds[i]?=some (b,d)∧memB (i0+i) done=false∧subB d done=true
 | [],_,h=>by simp[exR] at h
 | (b,d)::ds,i0,h=>by
  simp only[exR,Bool.or_eq_true,Bool.and_eq_true,Bool.not_eq_true'] at h
  rcases h with⟨h1,h2⟩|h
  ·exact⟨0,b,d,rfl,h1,h2⟩
  ·obtain⟨i,b',d',h1,h2,h3⟩:=exR_spec h
   exact⟨i+1,b',d',by simpa using h1,by rw[show i0+(i+1)=i0+1+i by omega];exact h2,h3⟩
theorem fieldAddrY_box {S:Setup} {G:Ghost} {t:TypeId} {f id off g:Nat} (hb:G.β id=some g) {K:D→Prop} (h:fieldAddrY S t f (.box id off) K) :
  ∃d v,K d∧(∀w,(Instr.fieldAt t (.pointer (some ⟨g,off,none⟩)) f).run S.P w=.ok v w)∧∀w,Rel G w d v:=by
 unfold fieldAddrY at h
 split at h
 ·rename_i fs hk
  obtain⟨fields,hu,hfs,_⟩:=kd_struct hk
  obtain⟨p,hp,h⟩:=someK_get h
  obtain⟨j,hj,hne,h⟩:=someK_get h
  obtain⟨fl,hf,ho,hty⟩:=fields_get hfs hp
  have hok:=S.ok p.2 j hj
  have hsz:∀w,(sizeOf fl.type).run S.P w=.ok j.size w:=fun w=>by rw[hty];exact run_sizeOf hok w
  refine⟨_,.pointer (some ⟨g,off+p.1,none⟩),h,fun w=>?_,fun w=>.box hb⟩
  simp[Instr.fieldAt,run_underlying hu,hf,Instr.sureAddr,fieldPlace,hsz w,hne,add_mk,ho]
 ·exact h.elim
theorem indexAddrY_all {S:Setup} {G:Ghost} {w:World} {t:TypeId} {x ix:D} {u iv:Value} (hx:Rel G w x u) (hi:Rel G w ix iv) {K:D→Prop} (h:indexAddrY S t x ix K) :
  ∃d v,K d∧(∀w1,(Instr.indexAt t u iv).run S.P w1=.ok v w1)∧Rel G w d v:=by
 unfold indexAddrY at h
 split at h
 ·rename_i e k i hk
  cases hi
  have hu:=kd_slice hk
  obtain⟨j,hj,h⟩:=someK_get h
  have hok:=S.ok e j hj
  cases hx with
  | @sl tk xs A n c b o s hn hc hm ht hA hku hkk hst hr =>
   obtain⟨⟨h0,h1⟩,hsz,hK⟩:=h
   have hlt:i.toNat<xs.length:=by omega
   have hne:xs≠[]:=fun e=>by subst e;simp at hlt
   have hA':A=some ⟨b,o,none⟩:=hA.resolve_left hne
   subst hA'
   have hget:xs.getD i.toNat default=xs[i.toNat]:=by simp[List.getD,hlt]
   rw[hget] at hsz hK
   have hs:s=j.size:=by rw[←hsz];exact(hku _ (List.getElem_mem hlt)).symm
   subst hs
   refine⟨_,.pointer (some ⟨b,o+i.toNat*j.size,none⟩),hK,?_,?_⟩
   ·have hin:0≤i∧i<(n:Int):=⟨h0,by omega⟩
    exact fun w1=>by simp[Instr.indexAt,asIntOf,run_underlying hu,run_sizeOf hok,hin,add_mk]
   ·refine .imm (memOk_cells hkk (List.getElem_mem hlt)) (fun q d hd=>?_) (fun q d v hd hv=>?_)
    ·rw[Nat.add_assoc];exact hst _ d (flat_at hku hlt hd)
    ·rw[Nat.add_assoc] at hv;exact hr _ d v (flat_at hku hlt hd) hv
  | @ms id n c g hb hc hn =>
   obtain⟨⟨h0,h1⟩,hK⟩:=h
   refine⟨_,.pointer (some ⟨g,i.toNat*j.size,none⟩),hK,?_,.box hb⟩
   have hin:0≤i∧i<(n:Int):=⟨h0,h1⟩
   exact fun w1=>by simp[Instr.indexAt,asIntOf,run_underlying hu,run_sizeOf hok,hin,add_mk]
  | _=>exact h.elim
 ·rename_i n e k i hk
  cases hi
  have hu:=kd_array hk
  obtain⟨j,hj,h⟩:=someK_get h
  have hok:=S.ok e j hj
  cases hx with
  | @box id off g hb =>
   obtain⟨⟨h0,h1⟩,hK⟩:=h
   refine⟨_,.pointer (some ⟨g,off+i.toNat*j.size,none⟩),hK,?_,.box hb⟩
   have hin:0≤i∧i<(n:Int):=⟨h0,h1⟩
   exact fun w1=>by simp[Instr.indexAt,asIntOf,run_underlying hu,run_sizeOf hok,hin,add_mk,Instr.sureAddr]
  | @imm cs b o hk2 hst hr =>
   obtain⟨⟨h0,h1⟩,hK⟩:=h
   refine⟨_,.pointer (some ⟨b,o+i.toNat*j.size,none⟩),hK,?_,?_⟩
   ·have hin:0≤i∧i<(n:Int):=⟨h0,h1⟩
    exact fun w1=>by simp[Instr.indexAt,asIntOf,run_underlying hu,run_sizeOf hok,hin,add_mk,Instr.sureAddr]
   ·refine .imm (fun d hd=>hk2 d (List.mem_of_mem_drop hd)) (fun q d hd=>?_) (fun q d v hd hv=>?_)
    ·rw[List.getElem?_drop] at hd
     rw[Nat.add_assoc];exact hst _ d hd
    ·rw[List.getElem?_drop] at hd
     rw[Nat.add_assoc] at hv;exact hr _ d v hd hv
  | _=>exact h.elim
 ·exact h.elim

theorem anyB_sound {S:Setup} {B:Base} {l:List Oper} {deps:List (Bool×List Nat)} (hC:chkD l deps=true) {Q:Exit→Act→World→Prop} (hp:∀c a w,¬Q (.panic c) a w) {K:LS→Prop} (hQ:∀L' G' a' w',K L'→Sim B L' G' a' w'→Q .normal a' w') :
  ∀(f:Nat) (done:List Nat) (listed:Array Bool) (L:LS) (G:Ghost) (a:Act) (w:World),InvT .any l.toArray l.length f listed→(∀j,listed.getD j false=memB j done)→Sim B L G a w→anyB S B l deps f done L K→wpAny S.P .any l.toArray Q f listed a w
 | 0,done,listed,L,G,a,w,hi,_,hs,h=>by
  refine⟨List.eq_nil_iff_forall_not_mem.2 fun j hj=>?_,hQ L G a w h hs⟩
  have h1:=cntU_zero hi.cnt j (by simpa using ready_lt hj)
  have h2:=(mem_ready.1 hj).1
  rw[h1] at h2
  cases h2
 | f+1,done,listed,L,G,a,w,hi,hd,hs,h=>by
  simp only[chkD,Bool.and_eq_true] at hC
  obtain⟨⟨hc1,hc2⟩,hc3⟩:=hC
  have hc1:=eq_of_beq hc1
  have hdep:∀(i:Nat) (b:Bool) (d:List Nat),deps[i]?=some (b,d)→i<l.length∧d=ons .any l.toArray i:=fun i b d h=>by
   have h1:(deps.map (·.2))[i]?=some d:=by rw[List.getElem?_map,h];rfl
   rw[hc1,List.getElem?_map] at h1
   obtain⟨j,h2,h3⟩:=Option.map_eq_some_iff.1 h1
   have hlt:i<l.length:=by
    have:=(List.getElem?_eq_some_iff.1 h2).1
    simpa using this
   rw[List.getElem?_range hlt] at h2
   obtain rfl:=Option.some.inj h2
   exact⟨hlt,h3.symm⟩
  have hlen:deps.length=l.length:=by have:=congrArg List.length hc1;simpa using this
  have hdepX:∀i,i<l.length→∃b,deps[i]?=some (b,ons .any l.toArray i):=fun i h=>by
   have hlt:i<deps.length:=by omega
   have h1:deps[i]?=some deps[i]:=List.getElem?_eq_getElem hlt
   obtain⟨_,h2⟩:=hdep i deps[i].1 deps[i].2 h1
   exact⟨deps[i].1,by rw[h1,←h2]⟩
  have hrdy:∀(i:Nat) (b:Bool) (d:List Nat),deps[i]?=some (b,d)→memB i done=false→subB d done=true→i∈Region.ready .any l.toArray listed:=fun i b d h1 h2 h3=>by
   obtain⟨hlt,rfl⟩:=hdep i b d h1
   refine mem_ready.2 ⟨?_,l[i],by simp[hlt],fun e he hb=>?_⟩
   ·have h4:=hd i
    rw[h2] at h4
    have hsz:i<listed.size:=by rw[hi.size];simpa using hlt
    simp[hsz] at h4 ⊢
    exact h4
   ·rw[hd]
    refine subB_iff.1 h3 _ ?_
    simp only[ons,List.getElem?_toArray,List.getElem?_eq_getElem hlt,List.mem_map,List.mem_filter]
    exact⟨e,⟨by simpa using he,hb⟩,rfl⟩
  have hset:∀i,i<l.length→∀j,(listed.setIfInBounds i true).getD j false=memB j (i::done):=fun i hlt j=>by
   have hsz:i<listed.size:=by rw[hi.size];simpa using hlt
   simp only[memB]
   by_cases e:i=j
   ·subst e;simp[hsz]
   ·rw[getD_set_ne false e,hd j]
    have:(i==j)=false:=by simpa using e
    rw[this,Bool.false_or]
  unfold anyB at h
  rcases stepF_spec h with⟨h1,h2⟩|⟨i,d,o,h1,h2,h3,h4,h5⟩
  ·refine⟨fun h0=>?_,fun i hir=>?_⟩
   ·obtain⟨i,b,d,e1,e2,e3⟩:=exR_spec h1
    have:=hrdy i b d e1 (by rwa [Nat.zero_add] at e2) e3
    rw[h0] at this;cases this
   ·have hlt:i<l.length:=by simpa using ready_lt hir
    obtain⟨b,hb⟩:=hdepX i hlt
    have hnd:memB i done=false:=by
     rw[←hd i]
     have:=(mem_ready.1 hir).1
     have hsz:i<listed.size:=by rw[hi.size];simpa using hlt
     simp[hsz] at this ⊢
     exact this
    have hsub:subB (ons .any l.toArray i) done=true:=subB_iff.2 fun x hx=>by rw[←hd x];exact ready_ons hir x hx
    have hP:=goR_spec h2 i b _ l[i] hb (List.getElem?_eq_getElem hlt) (by rwa [Nat.zero_add]) hsub
    rw[Nat.zero_add] at hP
    have hw:=hP G a w hs (fun e a w=>match e with|.normal=>wpAny S.P .any l.toArray Q f (listed.setIfInBounds i true) a w|e=>Q e a w) (fun L' G' a' w' hK hs'=>anyB_sound (by simp only[chkD,Bool.and_eq_true];exact⟨⟨by rw[hc1];exact beq_self_eq_true _,hc2⟩,hc3⟩) hp hQ f (i::done) _ L' G' a' w' (hi.set hir hlt) (hset i hlt) hs' hK)
    unfold wpList at hw
    unfold wpOp
    have hoa:l.toArray[i]?=some l[i]:=by simp[hlt]
    simp only[hoa]
    split at hw
    ·rename_i hwt
     rw[if_pos hwt]
     rcases hw with hw|⟨hw,a',w',hw'⟩
     ·exact .inl (Oper.wp_congrQ (fun e a w hne hq=>by cases e<;>first|exact absurd rfl hne|exact hq) (Oper.wp_mono (fun a w hh=>hh) hw))
     ·exact .inr ⟨hw,a',w',hw'⟩
    ·rename_i hwt
     rw[if_neg hwt]
     exact hw
  ·rw[Nat.zero_add] at h3 h5
   obtain⟨hlt,hdd⟩:=hdep i true d h1
   have hir:=hrdy i true d h1 h3 h4
   have hlst:∀j oj,l.toArray[j]?=some oj→listed.getD j true=false→(lstD l i).getD j true=false:=fun j oj hoj hun=>by
    have hj:j<l.length:=by have:=(Array.getElem?_eq_some_iff.1 hoj).1;simpa using this
    have hsz:j<listed.size:=by rw[hi.size];simpa using hj
    have hnd:memB j done=false:=by
     rw[←hd j]
     simp[hsz] at hun ⊢
     exact hun
    have hno:memB j (ons .any l.toArray i)=false:=by
     cases hb:memB j (ons .any l.toArray i) with
     | false=>rfl
     | true =>
      have h6:=subB_iff.1 h4 j (by rw[hdd];exact memB_iff.1 hb)
      rw[hnd] at h6;cases h6
    simp[lstD,hj,hno]
   have hfr:Region.free .any l.toArray (lstD l i) i=true:=by
    have:=List.all_eq_true.1 hc3 i (List.mem_range.2 hlt)
    rw[h1] at this
    simpa using this
   have hoa:l.toArray[i]?=some o:=by simpa using h2
   obtain⟨dst,op,ty,pos,aft,g⟩:=o
   unfold moveY at h5
   split at h5
   ·rename_i t x _ _ _ heq
    simp only[Oper.mk.injEq] at heq
    obtain⟨rfl,rfl,rfl,rfl,rfl,rfl⟩:=heq
    obtain⟨ht,h5⟩:=h5
    obtain⟨dd,hx,hK⟩:=someK_get h5
    refine wpAny_first (Q:=Q) hoa (Region.noSelect_spec hc2) (fun c a w hq=>absurd hq (hp _ _ _)) f listed a w
     (fun j oj hoj hne hun hno=>Region.free_spec hoa hfr j oj hoj hne (hlst j oj hoj hun) hno) hir (v:=a.eval x) (.inl ⟨by simp[Region.wanted],fun w=>rfl⟩) ?_
    exact anyB_sound (by simp only[chkD,Bool.and_eq_true];exact⟨⟨by rw[hc1];exact beq_self_eq_true _,hc2⟩,hc3⟩) hp hQ f (i::done) _ (L.put t dd) G _ w (hi.set hir hlt) (hset i hlt) (hs.put (t:=t) ht (eval_sound hs hx)) hK
   ·rename_i t ty x fd _ _ _ heq
    simp only[Oper.mk.injEq] at heq
    obtain⟨rfl,rfl,rfl,rfl,rfl,rfl⟩:=heq
    obtain⟨ht,h5⟩:=h5
    obtain⟨dd,hx,h5⟩:=someK_get h5
    unfold boxK at h5
    split at h5
    ·rename_i bid off
     have hr:=eval_sound hs hx
     generalize hu:a.eval x=u at hr
     cases hr with
     | @box _ _ g hb =>
     obtain⟨d2,v,hK,hrunA,hv⟩:=fieldAddrY_box hb h5
     refine wpAny_first (P:=S.P) (Q:=Q) hoa (Region.noSelect_spec hc2) (fun c a w hq=>absurd hq (hp _ _ _)) f listed a w
      (fun j oj hoj hne hun hno=>Region.free_spec hoa hfr j oj hoj hne (hlst j oj hoj hun) hno) hir (v:=v) (.inl ⟨by simp[Region.wanted],fun w1=>by simp[execOp,hu,hrunA w1]⟩) ?_
     exact anyB_sound (by simp only[chkD,Bool.and_eq_true];exact⟨⟨by rw[hc1];exact beq_self_eq_true _,hc2⟩,hc3⟩) hp hQ f (i::done) _ (L.put t d2) G _ w (hi.set hir hlt) (hset i hlt) (hs.put (t:=t) ht (hv w)) hK
    ·exact h5.elim
   ·rename_i t ty x ix _ _ _ heq
    simp only[Oper.mk.injEq] at heq
    obtain⟨rfl,rfl,rfl,rfl,rfl,rfl⟩:=heq
    obtain⟨ht,h5⟩:=h5
    obtain⟨dd,hx,h5⟩:=someK_get h5
    obtain⟨di,hix,h5⟩:=someK_get h5
    obtain⟨d2,v,hK,hrunA,hv⟩:=indexAddrY_all (eval_sound hs hx) (eval_sound hs hix) h5
    refine wpAny_first (P:=S.P) (Q:=Q) hoa (Region.noSelect_spec hc2) (fun c a w hq=>absurd hq (hp _ _ _)) f listed a w
     (fun j oj hoj hne hun hno=>Region.free_spec hoa hfr j oj hoj hne (hlst j oj hoj hun) hno) hir (v:=v) (.inl ⟨by simp[Region.wanted],fun w1=>by simp[execOp,hrunA w1]⟩) ?_
    exact anyB_sound (by simp only[chkD,Bool.and_eq_true];exact⟨⟨by rw[hc1];exact beq_self_eq_true _,hc2⟩,hc3⟩) hp hQ f (i::done) _ (L.put t d2) G _ w (hi.set hir hlt) (hset i hlt) (hs.put (t:=t) ht hv) hK
   ·exact h5.elim
def noPan (Q:Exit→Act→World→Prop):Exit→Act→World→Prop
 | .panic _,_,_=>False
 | e,a,w=>Q e a w
theorem noPan_le {Q:Exit→Act→World→Prop} {e:Exit} {a:Act} {w:World} (h:noPan Q e a w):Q e a w:=by
 cases e<;>first|exact h|exact h.elim
theorem sw_any {S:Setup} {B:Base} {R:LS→Prop} {k:List VItem} {L:LS} (kp:List (Nat×List Nat)) (deps:List (Bool×List Nat)) (Ls:LS) {id:Nat} {l:List Oper} (hC:chkD l deps=true)
  (h:anyB S B l deps l.length [] L fun L'=>(L'.keepAt kp id).covers Ls) (hk:SW S B R k Ls):SW S B R (.code (.region id l.toArray true)::k) L:=fun G a w hs=>by
 refine wp_region_any S.mixed ?_
 refine wpAny_monoQ (fun e a w (hh:noPan _ e a w)=>noPan_le hh) _ _ _ _ ?_
 have hinv:InvT .any l.toArray l.length l.length (Array.replicate l.toArray.size false):=by
  refine⟨fun j hj=>?_,by simp,fun j h1 h2=>?_,?_⟩
  ·by_cases hlt:j<l.length<;>simp[hlt] at hj
  ·simp at h2;omega
  ·unfold cntU
   rw[List.filter_eq_self.2,List.length_range]
   intro j hj
   have hj:=List.mem_range.1 hj
   simp[hj]
 have hsz:l.toArray.size=l.length:=by simp
 rw[hsz]
 rw[hsz] at hinv
 refine anyB_sound hC (fun c a w h=>h) (fun L' G' a' w' hK hs'=>?_) l.length [] _ L G a _ hinv (fun j=>?_) (drew_sim hs) h
 ·exact sw_keepAt kp id (sw_weak hK hk) G' a' w' hs'
 ·by_cases hlt:j<l.length<;>simp[hlt,memB]
theorem anyB_unf {S:Setup} {B:Base} {l:List Oper} {deps:List (Bool×List Nat)} {f:Nat} {done:List Nat} {L:LS} {K:LS→Prop}
  (h:stepF (fun i o=>moveY S L o fun L'=>anyB S B l deps f (i::done) L' K) (exR done 0 deps=true∧goR (fun i o=>LopsW S B l.toArray [o] L fun L'=>anyB S B l deps f (i::done) L' K) done 0 deps l) done 0 deps l):anyB S B l deps (f+1) done L K:=h
theorem anyB_move {S:Setup} {B:Base} {l:List Oper} {deps:List (Bool×List Nat)} {f:Nat} {done:List Nat} {L L':LS} {K:LS→Prop} {t m:Nat} {x:Operand} {d:D} (h1:t<m) (h2:evalO L x=some d) (h3:L.put t d=L') (h:anyB S B l deps f done L' K):t<m∧someK (evalO L x) fun d=>anyB S B l deps f done (L.put t d) K:=by
 subst h3
 rw[h2]
 exact⟨h1,h⟩
theorem anyB_fa {S:Setup} {B:Base} {l:List Oper} {deps:List (Bool×List Nat)} {f:Nat} {done:List Nat} {L L':LS} {K:LS→Prop} {t m id o n:Nat} {T:TypeId} {fs:List (Nat×TypeId)} {q:Nat×TypeId} {j:TyI} {x:Operand} (h1:t<m) (h2:evalO L x=some (.box id o)) (hk:S.kd T=some (.struct fs)) (hq:fs[n]?=some q) (hj:S.tab q.2=some j) (hz:j.size≠0) (h3:L.put t (.box id (o+q.1))=L') (h:anyB S B l deps f done L' K):t<m∧someK (evalO L x) fun d=>boxK d fun d'=>fieldAddrY S T n d' fun e=>anyB S B l deps f done (L.put t e) K:=by
 subst h3
 rw[h2]
 refine⟨h1,?_⟩
 simp only[someK,boxK,fieldAddrY,hk,hq,hj]
 exact⟨hz,h⟩
theorem anyB_id {S:Setup} {B:Base} {l:List Oper} {deps:List (Bool×List Nat)} {f:Nat} {done:List Nat} {L:LS} {K:LS→Prop} (h:anyB S B l deps f done L K):anyB S B l deps f done L K:=h
theorem anyB_end {S:Setup} {B:Base} {l:List Oper} {deps:List (Bool×List Nat)} {done:List Nat} {L:LS} {K:LS→Prop} (h:K L):anyB S B l deps 0 done L K:=h
theorem lops_and {S:Setup} {B:Base} {ops:Array Oper} {l:List Oper} {L:LS} {N:LS→Prop} {X:Prop} (h:LopsW S B ops l L N) (hx:X):LopsW S B ops l L N∧X:=⟨h,hx⟩
theorem lops_go {S:Setup} {B:Base} {ops:Array Oper} {l:List Oper} {L:LS} {N:LS→Prop} (base:Nat) (h:∀K:List Oper→LS→Prop,KOk S base B ops N K→runL S base ops K l L):LopsW S B ops l L N:=by
 have:=runL_sound2 (base:=base) (l2:=[]) (K':=fun l' L'=>LopsW S B ops (l'++[]) L' N) (fun _ _ h=>h) _ _ (h _ (kok_app fun L3 h3=>LopsW.nil h3))
 rwa [List.append_nil] at this
theorem stepF_n (M:Nat→Oper→Prop) (E:Prop) (done:List Nat) (i:Nat) (os:List Oper):stepF M E done i [] os=E:=id rfl
theorem stepF_c (M:Nat→Oper→Prop) (E:Prop) (done:List Nat) (i:Nat) (b:Bool) (d:List Nat) (ds:List (Bool×List Nat)) (o:Oper) (os:List Oper):stepF M E done i ((b,d)::ds) (o::os)=cond (b&&(!memB i done&&subB d done)) (M i o) (stepF M E done (i+1) ds os):=id rfl
theorem goR_n (P:Nat→Oper→Prop) (done:List Nat) (i:Nat) (os:List Oper):goR P done i [] os=True:=id rfl
theorem goR_c (P:Nat→Oper→Prop) (done:List Nat) (i:Nat) (b:Bool) (d:List Nat) (ds:List (Bool×List Nat)) (o:Oper) (os:List Oper):goR P done i ((b,d)::ds) (o::os)=(cond (!memB i done&&subB d done) (P i o) True∧goR P done (i+1) ds os):=id rfl
theorem exR_n (done:List Nat) (i:Nat):exR done i []=false:=id rfl
theorem exR_c (done:List Nat) (i:Nat) (b:Bool) (d:List Nat) (ds:List (Bool×List Nat)):exR done i ((b,d)::ds)=((!memB i done&&subB d done)||exR done (i+1) ds):=id rfl
theorem memB_n (i:Nat):memB i []=false:=id rfl
theorem memB_c (i x:Nat) (r:List Nat):memB i (x::r)=((x==i)||memB i r):=id rfl
theorem subB_n (d:List Nat):subB [] d=true:=id rfl
theorem subB_c (x:Nat) (r d:List Nat):subB (x::r) d=(memB x d&&subB r d):=id rfl
theorem moveY_f (S:Setup) (L:LS) (t:Nat) (T:TypeId) (x:Operand) (f:Nat) (ty:TypeId) (p:String) (a:Array Edge) (K:LS→Prop):moveY S L ⟨some t,.fieldAddr T x f,ty,p,a,none⟩ K=(t<L.n∧someK (evalO L x) fun d=>boxK d fun d'=>fieldAddrY S T f d' fun e=>K (L.put t e)):=id rfl
theorem moveY_m (S:Setup) (L:LS) (t:Nat) (x:Operand) (ty:TypeId) (p:String) (a:Array Edge) (K:LS→Prop):moveY S L ⟨some t,.move x,ty,p,a,none⟩ K=(t<L.n∧someK (evalO L x) fun d=>K (L.put t d)):=id rfl
theorem moveY_i (S:Setup) (L:LS) (t:Nat) (T:TypeId) (x ix:Operand) (ty:TypeId) (p:String) (a:Array Edge) (K:LS→Prop):moveY S L ⟨some t,.indexAddr T x ix,ty,p,a,none⟩ K=(t<L.n∧someK (evalO L x) fun d=>someK (evalO L ix) fun i=>indexAddrY S T d i fun e=>K (L.put t e)):=id rfl
theorem cond_t {α:Sort _} (a b:α):cond true a b=a:=id rfl
theorem cond_f {α:Sort _} (a b:α):cond false a b=b:=id rfl
end Go.Lg
