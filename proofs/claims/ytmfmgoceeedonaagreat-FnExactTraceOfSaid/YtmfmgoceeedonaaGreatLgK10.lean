import Derived.Test.YtmfmgoceeedonaaGreatLgK7
namespace Go.Lg
open Go Go.RowKit
theorem aDp{S}{base:Nat}{B ops l2}{N M:LS->Prop}(hfin:∀L,N L->aK S B ops l2 L M):KOk S base B ops N (λl' L'=>aK S B ops (l'++l2) L' M):=by
 have hs:∀l' L',bA S base ops (λl' L'=>aK S B ops (l'++l2) L' M) l' L'->aK S B ops (l'++l2) L' M :=
  iR (base:=base) (K':=λl' L'=>aK S B ops (l'++l2) L' M) (λ_ _ h=>h)
 exact {
  nil:=λh=>hfin _ h
  raw:=λh=>h.app λL' h'=>hfin L' h'
  weak:=λhc h=>aK.weak hc (hs _ _ h)
  split:=λt _ ht h1 h0=>aK.split t ht (λe=>hs _ _ (h1 e)) (λe=>hs _ _ (h0 e))
  skip:=λhg hd h=>aK.skip hg hd (hs _ _ h)
  call:=λhg _ _ _ _ _ hf hds fc hside h=>aK.call hg hf hds fc hside (hs _ _ h)
  callB:=λhg _ _ _ _ _ _ _ _ _ hf hds fc hside h=>aK.callB hg hf hds fc hside (hs _ _ h)
  callT:=λhg _ _ _ _ _ _ _ hf hds fc hside h=>aK.callTi hg (base+_) hf hds fc hside (hs _ _ h)
  callM:=λhg _ _ _ _ _ _ _ hf hds fc hside h=>aK.callM hg (base+_) hf hds fc hside (hs _ _ h)}
theorem sJ{S B}{R:LS->Prop}{k:List VItem}{L}(base:Nat)(kp:List (Nat×List Nat))(m:Nat){id:Nat}{l:List Oper}{o:Oper}(ho:l[m]?=some o)
  (h:∀K:List Oper->LS->Prop,KOk S base B l.toArray (λL1=>aK S B l.toArray [o] L1 λL2=>∀K:List Oper->LS->Prop,KOk S base B l.toArray (λL3=>SW S B R k (L3.keepAt kp id)) K->bA S base l.toArray K (l.drop (m+1)) L2) K->bA S base l.toArray K (l.take m) L):SW S B R (.code (.region id l.toArray false)::k) L:=by
 have hm:m<l.length:=(zE.1 ho).1;have hl:l=l.take m++([o]++l.drop (m+1)):=by
  have:l[m]=o:=(zE.1 ho).2;rw[←this];simp
 have h3:∀L2,(∀K:List Oper->LS->Prop,KOk S base B l.toArray (λL3=>SW S B R k (L3.keepAt kp id)) K->bA S base l.toArray K (l.drop (m+1)) L2)->aK S B l.toArray (l.drop (m+1)) L2 (λL'=>SW S B R k L'):=λL2 h2=>by
  have:=iR (base:=base) (l2:=[]) (K':=λl' L'=>aK S B l.toArray (l'++[]) L' (λL'=>SW S B R k L')) (λ_ _ h=>h) _ _ (h2 _ (aDp λL3 h3=>aK.nil (gV kp id h3)));rwa [List.append_nil] at this
 have h4:=iR (base:=base) (l2:=[o]++l.drop (m+1)) (K':=λl' L'=>aK S B l.toArray (l'++([o]++l.drop (m+1))) L' (λL'=>SW S B R k L')) (λ_ _ h=>h) _ _ (h _ (aDp λL1 h1=>aK.app h1 h3));rw[←hl] at h4;exact aB8 h4
def ifI(T:TypeId)(d:D):Ghost->World->Value->Prop:=λG w v=>∃u,v=.iface T u/\Rel G w d u
def D.ifc(T:TypeId)(d:D):D:=.pred (ifI T d)
theorem aK.mkIface{S:Setup}{B ops l}{L:LS}{K:LS->Prop}{t:Nat}{T:TypeId}{x:Operand}{ty:TypeId}{pos aft}{d:D}
  (hrun:∀v w,(Instr.makeInterface T v).run S.P w=.ok (.iface T v) w) (hx:aM L x=some d) (hi:d.ids=[]) (hk:d.tks=[]) (ht:t<L.n)
  (h:aK S B ops l (L.put t (D.ifc T d)) K):aK S B ops (⟨some t,.makeInterface T x,ty,pos,aft,none⟩::l) L K:=by
 intro G a w hs Q hQ;refine wpList_step λN hN=>?_;rw[if_pos (bS (S:=S) (b:=true) rfl hs rfl)];have hv:=aO hs hx;unfold Oper.wp;have hop:(execOp a.eval ⟨some t,.makeInterface T x,ty,pos,aft,none⟩).run S.P w=.ok (.value (.iface T (a.eval x))) w:=by
  simp[execOp,hrun]
 rw[hop];refine hN _ _ (h _ _ _ (hs.putO (t:=some t) (λt' ht'=>by obtain rfl:=zA ht';exact ht) ?_) Q hQ);exact .pred (λcs e=>by cases e) λG' w' hm=>⟨_,rfl,hv.mono hm (by rw[hi];simp) (by rw[hk];simp)⟩
def lD(i:Nat):List Nat->Bool
 | []=>false
 | x::r=>(x==i)||lD i r
def sH:List Nat->List Nat->Bool
 | [],_=>true
 | x::r,d=>lD x d&&sH r d
theorem aAp:∀ {d done:List Nat},sH d done=true↔∀x∈d,lD x done=true
 | [],_=>by simp[sH]
 | x::r,done=>by simp[sH,aAp (d:=r)]
def goR(P:Nat->Oper->Prop)(done:List Nat):Nat->List (Bool×List Nat)->List Oper->Prop
 | _,[],_=>True
 | _,_::_,[]=>True
 | i,(_,d)::ds,o::os=>cond (!lD i done&&sH d done) (P i o) True/\goR P done (i+1) ds os
def exR(done:List Nat):Nat->List (Bool×List Nat)->Bool
 | _,[]=>false
 | i,(_,d)::ds=>(!lD i done&&sH d done)||exR done (i+1) ds
def aVo(d:D)(K:D->Prop):Prop:=match d with
 | .box id off=>K (.box id off)
 | _=>False
def aGT(S:Setup)(L:LS)(o:Oper)(K:LS->Prop):Prop:=match o with
 | ⟨some t,.move x,_,_,_,none⟩=>t<L.n/\aL (aM L x) λd=>K (L.put t d)
 | ⟨some t,.fieldAddr ty x f,_,_,_,none⟩=>t<L.n/\aL (aM L x) λd=>aVo d λd'=>eO S ty f d' λe=>K (L.put t e)
 | ⟨some t,.indexAddr ty x ix,_,_,_,none⟩=>t<L.n/\aL (aM L x) λd=>aL (aM L ix) λi=>eN S ty d i λe=>K (L.put t e)
 | _=>False
def aCB(M:Nat->Oper->Prop)(E:Prop)(done:List Nat):Nat->List (Bool×List Nat)->List Oper->Prop
 | _,[],_=>E
 | _,_::_,[]=>E
 | i,(b,d)::ds,o::os=>cond (b&&(!lD i done&&sH d done)) (M i o) (aCB M E done (i+1) ds os)
def iC(S:Setup)(B:Base)(l:List Oper)(deps:List (Bool×List Nat)):Nat->List Nat->LS->(LS->Prop)->Prop
 | 0,_,L,K=>K L
 | f+1,done,L,K=>aCB (λi o=>aGT S L o λL'=>iC S B l deps f (i::done) L' K) (exR done 0 deps=true/\goR (λi o=>aK S B l.toArray [o] L λL'=>iC S B l deps f (i::done) L' K) done 0 deps l) done 0 deps l
theorem aKm:∀ {d:List Nat} {x:Nat},lD x d=true↔x∈d
 | [],x=>by simp[lD]
 | y::r,x=>by
  simp only[lD,Bool.or_eq_true,beq_iff_eq,aKm (d:=r),zO];exact⟨λh=>h.imp Eq.symm id,λh=>h.imp Eq.symm id⟩
def aXB(l:List Oper)(i:Nat):Array Bool:=((List.range l.length).map λj=>lD j (ons .any l.toArray i)).toArray
def aOj(l:List Oper)(deps:List (Bool×List Nat)):Bool :=
 (deps.map (·.2)==(List.range l.length).map (ons .any l.toArray))&&Region.noSelect l.toArray&&(List.range l.length).all λi=>!(((deps[i]?).map (·.1)).getD false)||Region.free .any l.toArray (aXB l i) i
theorem aLU{P:Nat->Oper->Prop}{done:List Nat}:∀ {ds:List (Bool×List Nat)} {os:List Oper} {i0:Nat},goR P done i0 ds os->∀(i:Nat) (b:Bool) (d:List Nat) (o:Oper),ds[i]?=some (b,d)->os[i]?=some o->lD (i0+i) done=false->sH d done=true->P (i0+i) o
 | [],_,_,_,_,_,_,_,h1,_,_,_=>by simp at h1
 | _::_,[],_,_,_,_,_,_,_,h2,_,_=>by simp at h2
 | (b0,d0)::ds,o0::os,i0,h,i,b,d,o,h1,h2,h3,h4=>by
  simp only[goR] at h;cases i with
  | zero =>
   simp at h1 h2;obtain⟨rfl,rfl⟩:=h1;subst h2;have:=h.1;rw[Nat.add_zero] at h3 ⊢;rw[h3,h4] at this;exact this
  | succ i =>
   have:=aLU h.2 i b d o (by simpa using h1) (by simpa using h2) (by rw[show i0+1+i=i0+(i+1) by omega];exact h3) h4;rwa [show i0+1+i=i0+(i+1) by omega] at this
theorem aD2{M:Nat->Oper->Prop}{E:Prop}{done:List Nat}:∀ {ds:List (Bool×List Nat)} {os:List Oper} {i0:Nat},aCB M E done i0 ds os->E∨∃(i:Nat) (d:List Nat) (o:Oper),ds[i]?=some (true,d)/\os[i]?=some o/\lD (i0+i) done=false/\sH d done=true/\M (i0+i) o
 | [],_,_,h=>.inl h
 | _::_,[],_,h=>.inl h
 | (b,d)::ds,o::os,i0,h=>by
  simp only[aCB] at h;cases hc:(b&&(!lD i0 done&&sH d done)) with
  | true =>
   rw[hc] at h;simp only[Bool.and_eq_true,Bool.not_eq_true'] at hc;obtain⟨rfl,h1,h2⟩:=hc;exact .inr ⟨0,d,o,rfl,rfl,h1,h2,h⟩
  | false =>
   rw[hc] at h;rcases aD2 h with h|⟨i,d',o',h1,h2,h3,h4,h5⟩
   ·exact .inl h
   ·refine .inr ⟨i+1,d',o',by simpa using h1,by simpa using h2,?_,h4,?_⟩
    ·rw[show i0+(i+1)=i0+1+i by omega];exact h3
    ·rw[show i0+(i+1)=i0+1+i by omega];exact h5
theorem aKi{done:List Nat}:∀ {ds:List (Bool×List Nat)} {i0:Nat},exR done i0 ds=true->∃(i:Nat) (b:Bool) (d:List Nat),ds[i]?=some (b,d)/\lD (i0+i) done=false/\sH d done=true
 | [],_,h=>by simp[exR] at h
 | (b,d)::ds,i0,h=>by
  simp only[exR,Bool.or_eq_true,Bool.and_eq_true,Bool.not_eq_true'] at h;rcases h with⟨h1,h2⟩|h
  ·exact⟨0,b,d,rfl,h1,h2⟩
  ·obtain⟨i,b',d',h1,h2,h3⟩:=aKi h;exact⟨i+1,b',d',by simpa using h1,by rw[show i0+(i+1)=i0+1+i by omega];exact h2,h3⟩
theorem aEh{S:Setup}{G:Ghost}{t:TypeId}{f id off g:Nat}(hb:G.β id=some g){K:D->Prop}(h:eO S t f (.box id off) K) :
  ∃d v,K d/\(∀w,(Instr.fieldAt t (.pointer (some ⟨g,off,none⟩)) f).run S.P w=.ok v w)/\∀w,Rel G w d v:=by
 unfold eO at h;split at h
 ·rename_i fs hk;obtain⟨fields,hu,hfs,_⟩:=nC hk;obtain⟨p,hp,h⟩:=aI h;obtain⟨j,hj,hne,h⟩:=aI h;obtain⟨fl,hf,ho,hty⟩:=lW hfs hp;have hok:=S.ok p.2 j hj;have hsz:∀w,(sizeOf fl.type).run S.P w=.ok j.size w:=λw=>by rw[hty];exact run_sizeOf hok w
  refine⟨_,.pointer (some ⟨g,off+p.1,none⟩),h,λw=>?_,λw=>.box hb⟩;simp[Instr.fieldAt,run_underlying hu,hf,Instr.sureAddr,fieldPlace,hsz w,hne,e8,ho]
 ·exact h.elim
theorem aEA{S:Setup}{G w}{t:TypeId}{x ix:D}{u iv:Value}(hx:Rel G w x u)(hi:Rel G w ix iv){K:D->Prop}(h:eN S t x ix K) :
  ∃d v,K d/\(∀w1,(Instr.indexAt t u iv).run S.P w1=.ok v w1)/\Rel G w d v:=by
 unfold eN at h;split at h
 ·rename_i e k i hk;cases hi;have hu:=aN hk;obtain⟨j,hj,h⟩:=aI h;have hok:=S.ok e j hj;cases hx with
  | @sl tk xs A n c b o s hn hc hm ht hA hku hkk hst hr =>
   obtain⟨⟨h0,h1⟩,hsz,hK⟩:=h;have hlt:i.toNat<xs.length:=by omega
   have hne:xs≠[]:=λe=>by subst e;simp at hlt
   have hA':A=some ⟨b,o,none⟩:=hA.resolve_left hne;subst hA';have hget:xs.getD i.toNat default=xs[i.toNat]:=by simp[List.getD,hlt]
   rw[hget] at hsz hK;have hs:s=j.size:=by rw[←hsz];exact(hku _ (List.getElem_mem hlt)).symm
   subst hs;refine⟨_,.pointer (some ⟨b,o+i.toNat*j.size,none⟩),hK,?_,?_⟩
   ·have hin:0≤i/\i<(n:Int):=⟨h0,by omega⟩;exact λw1=>by simp[Instr.indexAt,asIntOf,run_underlying hu,run_sizeOf hok,hin,e8]
   ·refine .imm (aCA hkk (List.getElem_mem hlt)) (λq d hd=>?_) (λq d v hd hv=>?_)
    ·rw[Nat.add_assoc];exact hst _ d (vE hku hlt hd)
    ·rw[Nat.add_assoc] at hv;exact hr _ d v (vE hku hlt hd) hv
  | @ms id n c g hb hc hn =>
   obtain⟨⟨h0,h1⟩,hK⟩:=h;refine⟨_,.pointer (some ⟨g,i.toNat*j.size,none⟩),hK,?_,.box hb⟩;have hin:0≤i/\i<(n:Int):=⟨h0,h1⟩;exact λw1=>by simp[Instr.indexAt,asIntOf,run_underlying hu,run_sizeOf hok,hin,e8]
  | _=>exact h.elim
 ·rename_i n e k i hk;cases hi;have hu:=aAP hk;obtain⟨j,hj,h⟩:=aI h;have hok:=S.ok e j hj;cases hx with
  | @box id off g hb =>
   obtain⟨⟨h0,h1⟩,hK⟩:=h;refine⟨_,.pointer (some ⟨g,off+i.toNat*j.size,none⟩),hK,?_,.box hb⟩;have hin:0≤i/\i<(n:Int):=⟨h0,h1⟩;exact λw1=>by simp[Instr.indexAt,asIntOf,run_underlying hu,run_sizeOf hok,hin,e8,Instr.sureAddr]
  | @imm cs b o hk2 hst hr =>
   obtain⟨⟨h0,h1⟩,hK⟩:=h;refine⟨_,.pointer (some ⟨b,o+i.toNat*j.size,none⟩),hK,?_,?_⟩
   ·have hin:0≤i/\i<(n:Int):=⟨h0,h1⟩;exact λw1=>by simp[Instr.indexAt,asIntOf,run_underlying hu,run_sizeOf hok,hin,e8,Instr.sureAddr]
   ·refine .imm (λd hd=>hk2 d (List.mem_of_mem_drop hd)) (λq d hd=>?_) (λq d v hd hv=>?_)
    ·rw[List.getElem?_drop] at hd;rw[Nat.add_assoc];exact hst _ d hd
    ·rw[List.getElem?_drop] at hd;rw[Nat.add_assoc] at hv;exact hr _ d v hd hv
  | _=>exact h.elim
 ·exact h.elim

theorem oM{S:Setup}{B}{l:List Oper}{deps:List (Bool×List Nat)}(hC:aOj l deps=true){Q:Exit->Act->World->Prop}(hp:∀c a w,¬Q (.panic c) a w){K:LS->Prop}(hQ:∀L' G' a' w',K L'->Sim B L' G' a' w'->Q .normal a' w') :
  ∀(f:Nat) (done:List Nat) (listed:Array Bool) (L:LS) (G:Ghost) (a:Act) (w:World),InvT .any l.toArray l.length f listed->(∀j,listed.getD j false=lD j done)->Sim B L G a w->iC S B l deps f done L K->wpAny S.P .any l.toArray Q f listed a w
 | 0,done,listed,L,G,a,w,hi,_,hs,h=>by
  refine⟨List.eq_nil_iff_forall_not_mem.2 λj hj=>?_,hQ L G a w h hs⟩;have h1:=qC hi.cnt j (by simpa using uL hj);have h2:=(mem_ready.1 hj).1;rw[h1] at h2;cases h2
 | f+1,done,listed,L,G,a,w,hi,hd,hs,h=>by
  simp only[aOj,Bool.and_eq_true] at hC;obtain⟨⟨hc1,hc2⟩,hc3⟩:=hC;have hc1:=eq_of_beq hc1;have hdep:∀(i:Nat) (b:Bool) (d:List Nat),deps[i]?=some (b,d)->i<l.length/\d=ons .any l.toArray i:=λi b d h=>by
   have h1:(deps.map (·.2))[i]?=some d:=by rw[zI,h];rfl
   rw[hc1,zI] at h1;obtain⟨j,h2,h3⟩:=Option.map_eq_some_iff.1 h1;have hlt:i<l.length:=by
    have:=(zE.1 h2).1;simpa using this
   rw[List.getElem?_range hlt] at h2;obtain rfl:=zA h2;exact⟨hlt,h3.symm⟩
  have hlen:deps.length=l.length:=by have:=congrArg List.length hc1;simpa using this
  have hdepX:∀i,i<l.length->∃b,deps[i]?=some (b,ons .any l.toArray i):=λi h=>by
   have hlt:i<deps.length:=by omega
   have h1:deps[i]?=some deps[i]:=zB hlt;obtain⟨_,h2⟩:=hdep i deps[i].1 deps[i].2 h1;exact⟨deps[i].1,by rw[h1,←h2]⟩
  have hrdy:∀(i:Nat) (b:Bool) (d:List Nat),deps[i]?=some (b,d)->lD i done=false->sH d done=true->i∈Region.ready .any l.toArray listed:=λi b d h1 h2 h3=>by
   obtain⟨hlt,rfl⟩:=hdep i b d h1;refine mem_ready.2 ⟨?_,l[i],by simp[hlt],λe he hb=>?_⟩
   ·have h4:=hd i;rw[h2] at h4;have hsz:i<listed.size:=by rw[hi.size];simpa using hlt
    simp[hsz] at h4 ⊢;exact h4
   ·rw[hd];refine aAp.1 h3 _ ?_;simp only[ons,List.getElem?_toArray,zB hlt,zJ,List.mem_filter];exact⟨e,⟨by simpa using he,hb⟩,rfl⟩
  have hset:∀i,i<l.length->∀j,(listed.setIfInBounds i true).getD j false=lD j (i::done):=λi hlt j=>by
   have hsz:i<listed.size:=by rw[hi.size];simpa using hlt
   simp only[lD];by_cases e:i=j
   ·subst e;simp[hsz]
   ·rw[getD_set_ne false e,hd j];have:(i==j)=false:=by simpa using e
    rw[this,Bool.false_or]
  unfold iC at h;rcases aD2 h with⟨h1,h2⟩|⟨i,d,o,h1,h2,h3,h4,h5⟩
  ·refine⟨λh0=>?_,λi hir=>?_⟩
   ·obtain⟨i,b,d,e1,e2,e3⟩:=aKi h1;have:=hrdy i b d e1 (by rwa [Nat.zero_add] at e2) e3;rw[h0] at this;cases this
   ·have hlt:i<l.length:=by simpa using uL hir
    obtain⟨b,hb⟩:=hdepX i hlt;have hnd:lD i done=false:=by
     rw[←hd i];have:=(mem_ready.1 hir).1;have hsz:i<listed.size:=by rw[hi.size];simpa using hlt
     simp[hsz] at this ⊢;exact this
    have hsub:sH (ons .any l.toArray i) done=true:=aAp.2 λx hx=>by rw[←hd x];exact w6 hir x hx
    have hP:=aLU h2 i b _ l[i] hb (zB hlt) (by rwa [Nat.zero_add]) hsub;rw[Nat.zero_add] at hP;have hw:=hP G a w hs (λe a w=>match e with|.normal=>wpAny S.P .any l.toArray Q f (listed.setIfInBounds i true) a w|e=>Q e a w) (λL' G' a' w' hK hs'=>oM (by simp only[aOj,Bool.and_eq_true];exact⟨⟨by rw[hc1];exact beq_self_eq_true _,hc2⟩,hc3⟩) hp hQ f (i::done) _ L' G' a' w' (hi.set hir hlt) (hset i hlt) hs' hK);unfold wpList at hw;unfold wpOp;have hoa:l.toArray[i]?=some l[i]:=by simp[hlt]
    simp only[hoa];split at hw
    ·rename_i hwt;rw[if_pos hwt];rcases hw with hw|⟨hw,a',w',hw'⟩
     ·exact .inl (Oper.wp_congrQ (λe a w hne hq=>by cases e<;>first|exact absurd rfl hne|exact hq) (Oper.wp_mono (λa w hh=>hh) hw))
     ·exact .inr ⟨hw,a',w',hw'⟩
    ·rename_i hwt;rw[if_neg hwt];exact hw
  ·rw[Nat.zero_add] at h3 h5;obtain⟨hlt,hdd⟩:=hdep i true d h1;have hir:=hrdy i true d h1 h3 h4;have hlst:∀j oj,l.toArray[j]?=some oj->listed.getD j true=false->(aXB l i).getD j true=false:=λj oj hoj hun=>by
    have hj:j<l.length:=by have:=(Array.getElem?_eq_some_iff.1 hoj).1;simpa using this
    have hsz:j<listed.size:=by rw[hi.size];simpa using hj
    have hnd:lD j done=false:=by
     rw[←hd j];simp[hsz] at hun ⊢;exact hun
    have hno:lD j (ons .any l.toArray i)=false:=by
     cases hb:lD j (ons .any l.toArray i) with
     | false=>rfl
     | true =>
      have h6:=aAp.1 h4 j (by rw[hdd];exact aKm.1 hb);rw[hnd] at h6;cases h6
    simp[aXB,hj,hno]
   have hfr:Region.free .any l.toArray (aXB l i) i=true:=by
    have:=List.all_eq_true.1 hc3 i (List.mem_range.2 hlt);rw[h1] at this;simpa using this
   have hoa:l.toArray[i]?=some o:=by simpa using h2
   obtain⟨dst,op,ty,pos,aft,g⟩:=o;unfold aGT at h5;split at h5
   ·rename_i t x _ _ _ heq;simp only[Oper.mk.injEq] at heq;obtain⟨rfl,rfl,rfl,rfl,rfl,rfl⟩:=heq;obtain⟨ht,h5⟩:=h5;obtain⟨dd,hx,hK⟩:=aI h5;refine wpAny_first (Q:=Q) hoa (Region.noSelect_spec hc2) (λc a w hq=>absurd hq (hp _ _ _)) f listed a w
     (λj oj hoj hne hun hno=>Region.free_spec hoa hfr j oj hoj hne (hlst j oj hoj hun) hno) hir (v:=a.eval x) (.inl ⟨by simp[Region.wanted],λw=>rfl⟩) ?_
    exact oM (by simp only[aOj,Bool.and_eq_true];exact⟨⟨by rw[hc1];exact beq_self_eq_true _,hc2⟩,hc3⟩) hp hQ f (i::done) _ (L.put t dd) G _ w (hi.set hir hlt) (hset i hlt) (hs.put (t:=t) ht (aO hs hx)) hK
   ·rename_i t ty x fd _ _ _ heq;simp only[Oper.mk.injEq] at heq;obtain⟨rfl,rfl,rfl,rfl,rfl,rfl⟩:=heq;obtain⟨ht,h5⟩:=h5;obtain⟨dd,hx,h5⟩:=aI h5;unfold aVo at h5;split at h5
    ·rename_i bid off;have hr:=aO hs hx;generalize hu:a.eval x=u at hr;cases hr with
     | @box _ _ g hb =>
     obtain⟨d2,v,hK,hrunA,hv⟩:=aEh hb h5;refine wpAny_first (P:=S.P) (Q:=Q) hoa (Region.noSelect_spec hc2) (λc a w hq=>absurd hq (hp _ _ _)) f listed a w
      (λj oj hoj hne hun hno=>Region.free_spec hoa hfr j oj hoj hne (hlst j oj hoj hun) hno) hir (v:=v) (.inl ⟨by simp[Region.wanted],λw1=>by simp[execOp,hu,hrunA w1]⟩) ?_
     exact oM (by simp only[aOj,Bool.and_eq_true];exact⟨⟨by rw[hc1];exact beq_self_eq_true _,hc2⟩,hc3⟩) hp hQ f (i::done) _ (L.put t d2) G _ w (hi.set hir hlt) (hset i hlt) (hs.put (t:=t) ht (hv w)) hK
    ·exact h5.elim
   ·rename_i t ty x ix _ _ _ heq;simp only[Oper.mk.injEq] at heq;obtain⟨rfl,rfl,rfl,rfl,rfl,rfl⟩:=heq;obtain⟨ht,h5⟩:=h5;obtain⟨dd,hx,h5⟩:=aI h5;obtain⟨di,hix,h5⟩:=aI h5;obtain⟨d2,v,hK,hrunA,hv⟩:=aEA (aO hs hx) (aO hs hix) h5;refine wpAny_first (P:=S.P) (Q:=Q) hoa (Region.noSelect_spec hc2) (λc a w hq=>absurd hq (hp _ _ _)) f listed a w
     (λj oj hoj hne hun hno=>Region.free_spec hoa hfr j oj hoj hne (hlst j oj hoj hun) hno) hir (v:=v) (.inl ⟨by simp[Region.wanted],λw1=>by simp[execOp,hrunA w1]⟩) ?_
    exact oM (by simp only[aOj,Bool.and_eq_true];exact⟨⟨by rw[hc1];exact beq_self_eq_true _,hc2⟩,hc3⟩) hp hQ f (i::done) _ (L.put t d2) G _ w (hi.set hir hlt) (hset i hlt) (hs.put (t:=t) ht hv) hK
   ·exact h5.elim
def aYk(Q:Exit->Act->World->Prop):Exit->Act->World->Prop
 | .panic _,_,_=>False
 | e,a,w=>Q e a w
theorem aVJ{Q:Exit->Act->World->Prop}{e:Exit}{a w}(h:aYk Q e a w):Q e a w:=by
 cases e<;>first|exact h|exact h.elim
theorem aB0{S:Setup}{B}{R:LS->Prop}{k:List VItem}{L}(kp:List (Nat×List Nat))(deps:List (Bool×List Nat))(Ls:LS){id:Nat}{l:List Oper}(hC:aOj l deps=true)
  (h:iC S B l deps l.length [] L λL'=>(L'.keepAt kp id).covers Ls) (hk:SW S B R k Ls):SW S B R (.code (.region id l.toArray true)::k) L:=λG a w hs=>by
 refine wp_region_any S.mixed ?_;refine aCZ (λe a w (hh:aYk _ e a w)=>aVJ hh) _ _ _ _ ?_;have hinv:InvT .any l.toArray l.length l.length (Array.replicate l.toArray.size false):=by
  refine⟨λj hj=>?_,by simp,λj h1 h2=>?_,?_⟩
  ·by_cases hlt:j<l.length<;>simp[hlt] at hj
  ·simp at h2;omega
  ·unfold aB3;rw[List.filter_eq_self.2,List.length_range];intro j hj;have hj:=List.mem_range.1 hj;simp[hj]
 have hsz:l.toArray.size=l.length:=by simp
 rw[hsz];rw[hsz] at hinv;refine oM hC (λc a w h=>h) (λL' G' a' w' hK hs'=>?_) l.length [] _ L G a _ hinv (λj=>?_) (t0 hs) h
 ·exact gV kp id (aXy hK hk) G' a' w' hs'
 ·by_cases hlt:j<l.length<;>simp[hlt,lD]
theorem pU{S B}{l:List Oper}{deps:List (Bool×List Nat)}{f:Nat}{done:List Nat}{L}{K:LS->Prop}
  (h:aCB (λi o=>aGT S L o λL'=>iC S B l deps f (i::done) L' K) (exR done 0 deps=true/\goR (λi o=>aK S B l.toArray [o] L λL'=>iC S B l deps f (i::done) L' K) done 0 deps l) done 0 deps l):iC S B l deps (f+1) done L K:=h
theorem vJ{S B l}{deps:List (Bool×List Nat)}{f:Nat}{done:List Nat}{L L':LS}{K:LS->Prop}{t m:Nat}{x:Operand}{d:D}(h1:t<m)(h2:aM L x=some d)(h3:L.put t d=L')(h:iC S B l deps f done L' K):t<m/\aL (aM L x) λd=>iC S B l deps f done (L.put t d) K:=by
 subst h3;rw[h2];exact⟨h1,h⟩
theorem aPh{S:Setup}{B l}{deps:List (Bool×List Nat)}{f:Nat}{done:List Nat}{L L':LS}{K:LS->Prop}{t m id o n:Nat}{T:TypeId}{fs:List (Nat×TypeId)}{q:Nat×TypeId}{j:TyI}{x:Operand}(h1:t<m)(h2:aM L x=some (.box id o))(hk:S.kd T=some (.struct fs))(hq:fs[n]?=some q)(hj:S.tab q.2=some j)(hz:j.size≠0)(h3:L.put t (.box id (o+q.1))=L')(h:iC S B l deps f done L' K):t<m/\aL (aM L x) λd=>aVo d λd'=>eO S T n d' λe=>iC S B l deps f done (L.put t e) K:=by
 subst h3;rw[h2];refine⟨h1,?_⟩;simp only[aL,aVo,eO,hk,hq,hj];exact⟨hz,h⟩
theorem vB{S B l}{deps:List (Bool×List Nat)}{f:Nat}{done:List Nat}{L}{K:LS->Prop}(h:iC S B l deps f done L K):iC S B l deps f done L K:=h
theorem qJ{S B l}{deps:List (Bool×List Nat)}{done:List Nat}{L}{K:LS->Prop}(h:K L):iC S B l deps 0 done L K:=h
theorem qK{S B ops l L}{N:LS->Prop}{X:Prop}(h:aK S B ops l L N)(hx:X):aK S B ops l L N/\X:=⟨h,hx⟩
theorem j6{S B ops l L}{N:LS->Prop}(base:Nat)(h:∀K:List Oper->LS->Prop,KOk S base B ops N K->bA S base ops K l L):aK S B ops l L N:=by
 have:=iR (base:=base) (l2:=[]) (K':=λl' L'=>aK S B ops (l'++[]) L' N) (λ_ _ h=>h) _ _ (h _ (aDp λL3 h3=>aK.nil h3));rwa [List.append_nil] at this
theorem vX(M:Nat->Oper->Prop)(E:Prop)(done:List Nat)(i:Nat)(os:List Oper):aCB M E done i [] os=E:=id rfl
theorem uY(M:Nat->Oper->Prop)(E:Prop)(done:List Nat)(i:Nat)(b:Bool)(d:List Nat)(ds:List (Bool×List Nat))(o:Oper)(os:List Oper):aCB M E done i ((b,d)::ds) (o::os)=cond (b&&(!lD i done&&sH d done)) (M i o) (aCB M E done (i+1) ds os):=id rfl
theorem aGQ(P:Nat->Oper->Prop)(done:List Nat)(i:Nat)(os:List Oper):goR P done i [] os=True:=id rfl
theorem aGF(P:Nat->Oper->Prop)(done:List Nat)(i:Nat)(b:Bool)(d:List Nat)(ds:List (Bool×List Nat))(o:Oper)(os:List Oper):goR P done i ((b,d)::ds) (o::os)=(cond (!lD i done&&sH d done) (P i o) True/\goR P done (i+1) ds os):=id rfl
theorem aG1(done:List Nat)(i:Nat):exR done i []=false:=id rfl
theorem aG3(done:List Nat)(i:Nat)(b:Bool)(d:List Nat)(ds:List (Bool×List Nat)):exR done i ((b,d)::ds)=((!lD i done&&sH d done)||exR done (i+1) ds):=id rfl
theorem aBk(i:Nat):lD i []=false:=id rfl
theorem aBr(i x:Nat)(r:List Nat):lD i (x::r)=((x==i)||lD i r):=id rfl
theorem aB5(d:List Nat):sH [] d=true:=id rfl
theorem aCs(x:Nat)(r d:List Nat):sH (x::r) d=(lD x d&&sH r d):=id rfl
theorem wG(S:Setup)(L:LS)(t:Nat)(T:TypeId)(x:Operand)(f:Nat)(ty:TypeId)(p:String)(a:Array Edge)(K:LS->Prop):aGT S L ⟨some t,.fieldAddr T x f,ty,p,a,none⟩ K=(t<L.n/\aL (aM L x) λd=>aVo d λd'=>eO S T f d' λe=>K (L.put t e)):=id rfl
theorem vL(S:Setup)(L:LS)(t:Nat)(x:Operand)(ty:TypeId)(p:String)(a:Array Edge)(K:LS->Prop):aGT S L ⟨some t,.move x,ty,p,a,none⟩ K=(t<L.n/\aL (aM L x) λd=>K (L.put t d)):=id rfl
theorem wU(S:Setup)(L:LS)(t:Nat)(T:TypeId)(x ix:Operand)(ty:TypeId)(p:String)(a:Array Edge)(K:LS->Prop):aGT S L ⟨some t,.indexAddr T x ix,ty,p,a,none⟩ K=(t<L.n/\aL (aM L x) λd=>aL (aM L ix) λi=>eN S T d i λe=>K (L.put t e)):=id rfl
theorem aBp{α:Sort _}(a b:α):cond true a b=a:=id rfl
theorem aCv{α:Sort _}(a b:α):cond false a b=b:=id rfl
end Go.Lg
