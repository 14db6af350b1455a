import Derived.Test.YtmfmgoceeedonaaGreatLgK3
import Derived.Lib.SliceRun
namespace Go.Lg
open Go Go.RowKit

def xN{α:Type}(l:List (Nat×α)):List (Nat×α)->List (Nat×α)
 | []=>l
 | (k,x)::r=>xN (eU l k x) r
def LS.upd(L:LS)(E:List (Nat×D))(X:List (Nat×List D)):LS:={L with env:=xN L.env E,boxes:=xN L.boxes X}
theorem LS.upd_mk(n:Nat)(env:List (Nat×D))(bx ro:List (Nat×List D))(toks fix:List Nat)(E:List (Nat×D))(X:List (Nat×List D)):LS.upd ⟨n,env,bx,ro,toks,fix⟩ E X=⟨n,xN env E,xN bx X,ro,toks,fix⟩:=rfl
def LS.updT(L:LS)(E:List (Nat×D))(X:List (Nat×List D))(T:List Nat):LS:={L with env:=xN L.env E,boxes:=xN L.boxes X,toks:=T}
theorem LS.updT_mk(n:Nat)(env:List (Nat×D))(bx ro:List (Nat×List D))(toks fix:List Nat)(E:List (Nat×D))(X:List (Nat×List D))(T:List Nat):LS.updT ⟨n,env,bx,ro,toks,fix⟩ E X T=⟨n,xN env E,xN bx X,ro,T,fix⟩:=rfl

variable {S:Setup} {B:Base} {R:LS->Prop} {k:List VItem} {L:LS}
theorem aV{ι:Type}(E:ι->List (Nat×D))(X:ι->List (Nat×List D))(p:ι->Prop)(μ:ι->Nat)(i0:ι){c:Code}(hc:L.covers (L.upd (E i0) (X i0)))(hp:p i0)
  (round:∀i,p i->SW S B R (.code c::.loopEnd (λL'=>∃i',L'.covers (L.upd (E i') (X i'))/\p i'/\μ i'<μ i)::k) (L.upd (E i) (X i))):SW S B R (.code (.loop c)::k) L :=
 mI (λi=>L.upd (E i) (X i)) p μ i0 hc hp round
theorem bG{ι:Type}(E:ι->List (Nat×D))(X:ι->List (Nat×List D))(T:ι->List Nat)(p:ι->Prop)(μ:ι->Nat)(i0:ι){c:Code}(hc:L.covers (L.updT (E i0) (X i0) (T i0)))(hp:p i0)
  (round:∀i,p i->SW S B R (.code c::.loopEnd (λL'=>∃i',L'.covers (L.updT (E i') (X i') (T i'))/\p i'/\μ i'<μ i)::k) (L.updT (E i) (X i) (T i))):SW S B R (.code (.loop c)::k) L :=
 mI (λi=>L.updT (E i) (X i) (T i)) p μ i0 hc hp round

def m7(f:Nat->List D)(z:List D)(i n:Nat):List D:=((List.range n).map λj=>if j<i then f j else z).flatten
theorem aC2(f:Nat->List D)(z:List D)(n:Nat):(List.replicate n z).flatten=m7 f z 0 n:=by
 unfold m7;congr 1
 refine List.ext_getElem (by simp) λj h1 h2=>?_;simp
theorem aOg{α:Type} [Inhabited α] (g:α->D)(z:List D)(xs:List α):m7 (λj=>(g (xs.getD j default)).cells) z xs.length xs.length=flat (xs.map g):=by
 unfold m7 flat;rw[List.flatMap_def];congr 1
 refine List.ext_getElem (by simp) λj h1 h2=>?_;simp only[zC,List.length_range] at h1;simp only[List.getElem_map,List.getElem_range];rw[if_pos h1];simp[List.getD,List.getElem?_eq_getElem h1]
theorem aCK{s:Nat}:∀(l:List (List D)),(∀x∈l,x.length=s)->l.flatten.length=s*l.length
 | [],_=>rfl
 | x::r,h=>by
  have:=aCK r λy hy=>h y (by simp[hy]);simp[this,h x (by simp),Nat.mul_add,Nat.add_comm]
theorem aCU{s:Nat}:∀(l:List (List D)) (i:Nat) (new:List D),(∀x∈l,x.length=s)->new.length=s->i<l.length->dF l.flatten (i*s) new=(l.set i new).flatten
 | x::r,0,new,h,hn,_=>by
  have hx:=h x (by simp);simp[dF,hn,←hx]
 | x::r,i+1,new,h,hn,hi=>by
  have hx:=h x (by simp);have:=aCU r i new (λy hy=>h y (by simp[hy])) hn (by simpa using hi);rw[List.set_cons_succ,List.flatten_cons,List.flatten_cons,←this];unfold dF;have e1:(i+1)*s=x.length+i*s:=by rw[hx,Nat.succ_mul,Nat.add_comm]
  rw[e1,List.take_append,List.take_of_length_le (by omega),Nat.add_sub_cancel_left];rw[List.drop_append,List.drop_of_length_le (by omega)];simp[Nat.add_assoc]
theorem aQh{f:Nat->List D}{z:List D}{s i n:Nat}(hf:∀j,(f j).length=s)(hz:z.length=s):(m7 f z i n).length=s*n:=by
 unfold m7;rw[aCK (s:=s)]
 ·simp
 ·intro x hx;obtain⟨j,_,rfl⟩:=zJ.1 hx;split
  ·exact hf j
  ·exact hz
theorem aHO{f:Nat->List D}{z:List D}{s i n:Nat}(hf:∀j,(f j).length=s)(hz:z.length=s)(hi:i<n):dF (m7 f z i n) (i*s) (f i)=m7 f z (i+1) n:=by
 unfold m7;rw[aCU (s:=s)]
 ·congr 1
  refine List.ext_getElem (by simp) λj h1 h2=>?_;simp only[List.getElem_set,List.getElem_map,List.getElem_range];by_cases e:i=j
  ·subst e;simp
  ·rw[if_neg e];by_cases h:j<i
   ·rw[if_pos h,if_pos (by omega)]
   ·rw[if_neg h,if_neg (by omega)]
 ·intro x hx;obtain⟨j,_,rfl⟩:=zJ.1 hx;split
  ·exact hf j
  ·exact hz
 ·exact hf i
 ·simpa using hi
theorem aC7{f:Nat->List D}{z:List D}{i n:Nat}(hf:∀j,∀d∈f j,d.memOk=true)(hz:∀d∈z,d.memOk=true):∀d∈m7 f z i n,d.memOk=true:=by
 intro d hd;simp only[m7,List.mem_flatten,zJ] at hd;obtain⟨l,⟨j,_,rfl⟩,hd⟩:=hd;split at hd
 ·exact hf j d hd
 ·exact hz d hd


theorem aF4(cs new:List D):dF cs 0 new=new++cs.drop new.length:=by simp[dF]
theorem aGl(c:D)(cs new:List D)(n:Nat):dF (c::cs) (n+1) new=c::dF cs n new:=by
 simp only[dF,List.take_succ_cons,List.cons_append,show n+1+new.length=(n+new.length)+1 by omega,List.drop_succ_cons]
theorem aMB(a b:Nat->D)(z0 z1:D)(i n:Nat):(m7 (λj=>[a j,b j]) [z0,z1] i n).length=2*n:=aQh (λ_=>rfl) rfl
theorem aWn{α:Type}{g:α->D}{xs:List α}{n:Nat}(h:∀x,(g x).cells.length=n):∀d∈xs.map g,d.cells.length=n:=by
 intro d hd;obtain⟨x,_,rfl⟩:=zJ.1 hd;exact h x

theorem aFM(p q:Prop):(tst p=tst q)=(p↔q):=propext ⟨λh=>⟨λhp=>kM.1 (h ▸ b8 hp),λhq=>kM.1 (h ▸ b8 hq)⟩,λh=>lY h⟩
theorem aGc(p q:Prop) [Decidable p]:(decide p=tst q)=(p↔q):=by rw[rO,aFM]
theorem aNv{α:Type} [BEq α] [LawfulBEq α] (a b:α)(q:Prop):((a==b)=tst q)=(a=b↔q):=propext ⟨λh=>⟨λe=>kM.1 (h ▸ beq_iff_eq.2 e),λhq=>beq_iff_eq.1 (h ▸ b8 hq)⟩,λh=>by
 by_cases e:a=b
 ·rw[b8 (h.1 e)];exact beq_iff_eq.2 e
 ·rw[bV λhq=>e (h.2 hq)];exact beq_eq_false_iff_ne.2 e⟩
theorem aFc{bx:List (Nat×List D)}:∀ {r:List (Nat×List D)},(∀p∈r,look bx p.1=some p.2)->oO bx r
 | [],_=>trivial
 | (k,cs)::r,h=>⟨by rw[h (k,cs) zH];rfl,aFc λp hp=>h p (zG _ hp)⟩
theorem aO6(S:Setup)(rs:List ResultVar)(d:D)(bx':List (Nat×List D))(L:LS):Ret S rs d bx' L=aM1 S L rs λd0=>D.le d0 d/\oO L.boxes bx':=by
 unfold Ret;congr 1
 funext d0
 congr 1
 refine propext ⟨λh=>?_,vK⟩;induction bx' with
 | nil=>trivial
 | cons p r ih =>
  obtain⟨k,cs⟩:=p;refine⟨?_,ih λp hp=>h p (zG _ hp)⟩;rw[h (k,cs) zH];rfl

def leL:List D->List D->Prop
 | [],[]=>True
 | a::as,b::bs=>D.le a b/\leL as bs
 | _,_=>False
theorem aTW(a b:D)(as bs:List D):leL (a::as) (b::bs)=(D.le a b/\leL as bs):=rfl
theorem aAa:∀l:List D,leL l l
 | []=>trivial
 | d::l=>⟨.refl d,aAa l⟩
theorem aTP(l:List D):leL l l=True:=eq_true (aAa l)
theorem sC:∀ {as bs:List D},leL as bs->as.length=bs.length
 | [],[],_=>rfl
 | _::_,_::_,h=>by simp[sC h.2]
 | [],_::_,h=>h.elim
 | _::_,[],h=>h.elim
theorem wT:∀ {as bs:List D},leL as bs->∀(j:Nat) b,bs[j]?=some b->∃a,as[j]?=some a/\D.le a b
 | _::_,_::_,h,0,b,hb=>by
  simp only[List.getElem?_cons_zero,Option.some.injEq] at hb;subst hb;exact⟨_,rfl,h.1⟩
 | _::_,_::_,h,j+1,b,hb=>wT h.2 j b hb
 | [],[],_,j,b,hb=>by simp at hb
 | [],_::_,h,_,_,_=>h.elim
 | _::_,[],h,_,_,_=>h.elim
theorem aNz:∀ {as bs:List D},as.length=bs.length->(∀(j:Nat) a b,as[j]?=some a->bs[j]?=some b->D.le a b)->leL as bs
 | [],[],_,_=>trivial
 | a::as,b::bs,hl,h=>⟨h 0 a b rfl rfl,aNz (by simpa using hl) λj x y hx hy=>h (j+1) x y (by simpa using hx) (by simpa using hy)⟩
 | [],_::_,hl,_=>by simp at hl
 | _::_,[],hl,_=>by simp at hl
theorem t7(cs ds:List D):D.le (.agg cs) (.agg ds)=leL cs ds:=propext ⟨λh=>by
 cases h with
 | refl=>exact aAa _
 | agg hl h=>exact aNz hl h,λh=>.agg (sC h) λj c d hc hd=>by
  obtain⟨a,ha,hle⟩:=wT h j d hd;rw[hc] at ha;obtain rfl:=zA ha;exact hle⟩
theorem aZj(cs ds:List D):D.le (.tup cs) (.tup ds)=leL cs ds:=propext ⟨λh=>by
 cases h with
 | refl=>exact aAa _
 | tup hl h=>exact aNz hl h,λh=>.tup (sC h) λj c d hc hd=>by
  obtain⟨a,ha,hle⟩:=wT h j d hd;rw[hc] at ha;obtain rfl:=zA ha;exact hle⟩
theorem FC.args{S}{f:FuncId}{ro bx bx':List (Nat×List D)}{tk tk':List Nat}{args args':List D}{d:D}(h:FC S f ro bx tk args' d bx' tk')(hle:leL args args'):FC S f ro bx tk args d bx' tk':=⟨h.1,λw G vals hs=>by
 have hl:=sC hle;refine h.2 w G vals ⟨hs.defers,by rw[←hl];exact hs.size,λt d hd=>?_,hs.W,hs.fixed⟩;simp only[iB,Nat.zero_le,if_true,Nat.sub_zero] at hd;obtain⟨a,ha,hle'⟩:=wT hle t d hd;obtain⟨v,h1,h2⟩:=hs.env t a (by simpa only[iB,Nat.zero_le,if_true,Nat.sub_zero] using ha);exact⟨v,h1,h2.le hle'⟩⟩
theorem dD.le{G w}{g:Nat}{cs cs':List D}(h:dD G w g cs)(hle:leL cs cs'):dD G w g cs':=by
 obtain⟨vs,e,h1,h2,h3⟩:=h;refine⟨vs,e,h1,by rw[←sC hle];exact h2,λj d v hd hv=>?_⟩;obtain⟨a,ha,hle'⟩:=wT hle j d hd;exact(h3 j a v ha hv).le hle'
theorem aRm{α:Type}(f:α->D)(xs:List α)(n:Nat):(xs.map f).take n=(xs.take n).map f:=List.map_take.symm
theorem aSD{α:Type}(f:α->D)(xs:List α)(n:Nat):(xs.map f).drop n=(xs.drop n).map f:=List.map_drop.symm
theorem aLL{α:Type}(f:α->D)(xs ys:List α):xs.map f++ys.map f=(xs++ys).map f:=List.map_append.symm

def aE0{α:Type}(f:α->Nat)(xs:List α)(i:Nat):Nat:=((xs.take i).map f).sum
theorem aHQ{α:Type}(f:α->Nat)(xs:List α):aE0 f xs 0=0:=by simp[aE0]
theorem aBA{α:Type} [Inhabited α] (f:α->Nat)(xs:List α)(i:Nat)(h:i<xs.length):aE0 f xs (i+1)=aE0 f xs i+f (xs.getD i default):=by
 unfold aE0;rw[List.take_succ_eq_append_getElem h,List.map_append,List.sum_append];simp[List.getD,List.getElem?_eq_getElem h]
theorem aVN{α:Type}(f:α->Nat)(xs:List α)(i:Nat)(h:xs.length≤i):aE0 f xs i=(xs.map f).sum:=by simp[aE0,List.take_of_length_le h]
theorem aPM{α:Type}(f:α->Nat)(xs:List α)(i:Nat):aE0 f xs i≤(xs.map f).sum:=by
 have h:((xs.take i).map f).sum+((xs.drop i).map f).sum=(xs.map f).sum:=by
  rw[←List.sum_append,←List.map_append,List.take_append_drop]
 unfold aE0;omega
theorem aKK{α:Type} [Inhabited α] (f:α->Nat)(xs:List α)(i:Nat)(h:i<xs.length):f (xs.getD i default)≤(xs.map f).sum:=by
 have h1:=aBA f xs i h;have h2:=aPM f xs (i+1);omega
theorem aX{α:Type} [Inhabited α] (xs:List α)(i:Nat)(h:i<xs.length):xs.getD i default∈xs:=by
 simp[List.getD,List.getElem?_eq_getElem h]
theorem uH{α:Type} [Inhabited α] {xs:List α}{P:α->Prop}:(∀j<xs.length,P (xs.getD j default))↔∀x∈xs,P x:=by
 constructor
 ·intro h x hx;obtain⟨j,hj,rfl⟩:=List.getElem_of_mem hx;have:=h j hj;simpa[List.getD,List.getElem?_eq_getElem hj] using this
 ·intro h j hj;exact h _ (aX xs j hj)
noncomputable def aJU{α:Type}(p:α->Prop)(xs:List α):Int:=match xs.findIdx? (λx=>tst (p x)) with|some i=>i|none=>-1
theorem aPW{α:Type} [Inhabited α] {p:α->Prop}{xs:List α}{i:Nat}(h:∀j<i,¬p (xs.getD j default))(hi:i<xs.length)(hp:p (xs.getD i default)):aJU p xs=i:=by
 have g:∀j (hj:j<xs.length),xs.getD j default=xs[j]:=λj hj=>by simp[List.getD,List.getElem?_eq_getElem hj]
 have:xs.findIdx? (λx=>tst (p x))=some i:=by
  rw[List.findIdx?_eq_some_iff_getElem];refine⟨hi,by rw[kM,←g i hi];exact hp,λj hj=>?_⟩;have:=h j hj;rw[g j (by omega)] at this;simpa using bV this
 unfold aJU;rw[this]
theorem aGs{α:Type} [Inhabited α] {p:α->Prop}{xs:List α}(h:∀j<xs.length,¬p (xs.getD j default)):aJU p xs=-1:=by
 have:xs.findIdx? (λx=>tst (p x))=none:=by
  rw[List.findIdx?_eq_none_iff];intro x hx;exact bV ((uH (P:=λx=>¬p x)).1 h x hx)
 unfold aJU;rw[this]
theorem aPy{α:Type}{p:α->Prop}{xs:List α}:0≤aJU p xs↔∃x∈xs,p x:=by
 unfold aJU;cases h:xs.findIdx? (λx=>tst (p x)) with
 | none =>
  rw[List.findIdx?_eq_none_iff] at h;refine⟨λh'=>by simp at h',λ⟨x,hx,hp⟩=>?_⟩;have:=h x hx;rw[b8 hp] at this;cases this
 | some i =>
  rw[List.findIdx?_eq_some_iff_getElem] at h;obtain⟨hi,hp,_⟩:=h;exact⟨λ_=>⟨_,List.getElem_mem hi,kM.1 hp⟩,λ_=>by simp⟩

def szd(b:Int)(n:Nat):Int:=if b-n<0 then -1 else b-n
theorem aJb{α:Type} [Inhabited α] (f:α->D)(ys:List α)(i:Nat)(h:Om (i<ys.length)):((ys.drop i).map f).head?=some (f (ys.getD i default)):=by
 have:=h.out;rw[List.head?_map,List.head?_drop];simp[List.getD,List.getElem?_eq_getElem this]
theorem aJW(ys:List Int)(i:Nat)(x:Int):(ys.map (D.int .i64)).set i (.int .i64 x)=(ys.set i x).map (.int .i64):=by rw[List.map_set]
variable {S:Setup} {B:Base} {R:LS->Prop} {kk:List VItem} {L:LS}

theorem mL{G}{a:Act}{w}(hs:Sim B L G a w){t:Nat}{d:D}{v:Value}(hv:a.tmps[t]?=some v)(hr:Rel G w d v):Sim B {L with env:=eU L.env t d} G a w:=by
 refine⟨hs.defers,hs.size,λt' d' hd=>?_,hs.W,hs.fixed⟩;simp only[b7] at hd;by_cases e:t=t'
 ·subst e;simp only[if_true,Option.some.injEq] at hd;subst hd;exact⟨v,hv,hr⟩
 ·rw[if_neg e] at hd;exact hs.env t' d' hd

theorem eF(t k:Nat)(e:TypeId)(z:Nat){tk:Tk}(ht:look L.env t=some (.sl tk []))(htk:tk=.nil∨tk=.full)(hc:(L.purge (λx=>x==k)).clean (λx=>x==k)=true)
  (h:SW S B R kk {L.purge (λx=>x==k) with env:=eU (L.purge (λx=>x==k)).env t (.sl (.own k e z) []),toks:=k::L.toks}):SW S B R kk L:=λG a w hs=>by
 have hp:=nH hs (λx=>x==k);obtain⟨v,hv,hr⟩:=hs.env t _ ht;have hstep:TokStep B G (G.setTok k (some none)) w w k:={
  mono:=⟨λ_ _ _ h1 h2=>⟨h1,h2⟩,λ_ _=>rfl⟩
  beta:=rfl,lab:=rfl,sz:=zQ _,os:=rfl,tape:=rfl,out:=rfl,dr:=by first|exact zQ _|exact Nat.le_succ _
  tau:=λk' hk'=>.inr ⟨by simp[Ghost.setTok,hk'],λ_ _ _ _=>⟨rfl,rfl⟩⟩
  block:=λ_ _=>.inl ⟨rfl,rfl⟩
  new:=λg e' z' hg=>by simp[Ghost.setTok] at hg
  live:=by simp[Ghost.setTok]}
 have hsim:=gE hp hstep hc (tk:=k::L.toks) (λk' hk'=>by
  by_cases e:k'=k
  ·exact .inl e
  ·rcases zO.1 hk' with h|h
   ·exact absurd h e
   ·exact .inr ⟨by simp[Ghost.setTok,e],h⟩)
 refine h _ a w (mL hsim hv ?_);cases hr with
 | @sl _ _ A n c b o s hn hcc hm ht' hA hu hk hst hr =>
  have h0:n=0:=hn;have hc0:c=0:=by
   rcases htk with rfl|rfl
   ·exact ht'.2.2
   ·have:n=c:=ht';omega
  exact .sl (b:=0) (o:=0) (s:=0) hn hcc hm (by simp only[dZ,Ghost.setTok,if_true];exact⟨h0,hc0⟩) (.inl rfl) (by simp) (by simp[flat]) (by simp[flat]) (by simp[flat])
theorem n7{S}{L:LS}{t k:Nat}{e:TypeId}{z:Nat}{xs:List D}(h:look L.env t=some (.sl (.own k e z) xs))(hk:k∈L.toks):dX S [.tmp t] (.sl (.own 0 e z) xs) [] L:=by
 unfold dX;simp only[aM1,aCD,aP0,LS.get,h,aL];exact⟨k,_,.refl _,hk,λk' hk'=>by simpa[aXD,D.tks] using hk',rfl,by simp,by simp⟩
theorem aFw(t:Nat){tk:Tk}{xs:List D}(ht:look L.env t=some (.sl tk xs))(h1:xs=[]->SW S B R kk {L with env:=eU L.env t (.sl .nl [])})(h2:SW S B R kk {L with env:=eU L.env t (.sl .nn xs)}):SW S B R kk L:=λG a w hs=>by
 obtain⟨v,hv,hr⟩:=hs.env t _ ht;cases hr with
 | @sl _ _ A n c b o s hn hcc hm ht' hA hu hk hst hr =>
  cases A with
  | none =>
   have hx:xs=[]:=by
    rcases hA with h|h
    ·exact h
    ·cases h
   subst hx;exact h1 rfl G a w (mL hs hv (.sl (b:=b) (o:=o) (s:=s) hn hcc hm ⟨rfl,hn⟩ (.inl rfl) hu hk hst hr))
  | some ad=>exact h2 G a w (mL hs hv (.sl (b:=b) (o:=o) (s:=s) hn hcc hm (by simp[dZ]) hA hu hk hst hr))

noncomputable def Ghost.setLab(G:Ghost)(k:Nat)(l:List Nat):Ghost :=
 {G with lab:=λb=>@ite _ (∃e z,G.τ k=some (some (b,e,z))) (Classical.propDecidable _) l (G.lab b),τ:=λk'=>if k'=k then none else G.τ k'}
theorem aGK{G:Ghost}{k:Nat}{l:List Nat}{b:Nat}(h:∃e z,G.τ k=some (some (b,e,z))):(G.setLab k l).lab b=l:=by simp only[Ghost.setLab];rw[if_pos h]
theorem kO{G:Ghost}{k:Nat}{l:List Nat}{b:Nat}(h:¬ ∃e z,G.τ k=some (some (b,e,z))):(G.setLab k l).lab b=G.lab b:=by simp only[Ghost.setLab];rw[if_neg h]

theorem aEm{B}{bx ro:List (Nat×List D)}{tk:List Nat}{G:Ghost}{w}(hW:SimW B bx ro tk G w)(k:Nat){l:List Nat}(_hl:l≠[]) :
  SimW B bx ro (tk.filter λx=>!(x==k)) (G.setLab k l) w/\Mono G (G.setLab k l) w w/\∀ {d v},Rel G w d v->Rel (G.setLab k l) w d v:=by
 have hmn:Mono G (G.setLab k l) w w:=⟨λ_ _ _ h1 h2=>⟨h1,h2⟩,λb hb=>kO (by
  rintro⟨e,z,h⟩;exact hb (hW.tlab k b e z h))⟩
 have rG:∀ {d v},Rel G w d v->Rel (G.setLab k l) w d v:=λhr=>hr.mono hmn (λ_ _ _ h=>h) (λk' _=>by
  by_cases e:k'=k
  ·exact .inl (by simp[Ghost.setLab,e])
  ·exact .inr ⟨by simp[Ghost.setLab,e],λ_ _ _ _=>⟨rfl,rfl⟩⟩)
 have hbox:∀ {g cs},dD G w g cs->dD (G.setLab k l) w g cs:=λ⟨vs,e,e1,e2,e3⟩=>⟨vs,e,e1,e2,λj d v hd hv=>rG (e3 j d v hd hv)⟩;have hτ:∀ {k' x},(G.setLab k l).τ k'=some x->k'≠k/\G.τ k'=some x:=λ{k' x} h=>by
  simp only[Ghost.setLab] at h;split at h
  ·cases h
  ·rename_i hne;exact⟨hne,h⟩
 refine⟨?_,hmn,rG⟩;exact {
  boxes:=λid cs h=>by
   obtain⟨g,h1,h2,h3⟩:=hW.boxes id cs h;exact⟨g,h1,hbox h2,h3⟩
  robs:=λid cs h=>by
   obtain⟨g,h1,h2,h3⟩:=hW.robs id cs h;exact⟨g,h1,hbox h2,h3⟩
  toks:=λk' hk=>by
   simp only[List.mem_filter,Bool.not_eq_true',beq_eq_false_iff_ne] at hk;obtain⟨x,hx⟩:=hW.toks k' hk.1;exact⟨x,by simp only[Ghost.setLab];rw[if_neg hk.2];exact hx⟩
  tau:=λk' g e z h=>hW.tau k' g e z (hτ h).2
  tinj:=λk1 k2 g e z e' z' h1 h2=>hW.tinj k1 k2 g e z e' z' (hτ h1).2 (hτ h2).2
  binj:=hW.binj
  blt:=hW.blt
  lablt:=λb hb=>by
   by_cases h:∃e z,G.τ k=some (some (b,e,z))
   ·obtain⟨e,z,h⟩:=h;obtain⟨_,_,⟨cur,hc,_⟩,_⟩:=hW.tau k b e z h;exact bX hc
   ·rw[kO h] at hb;exact hW.lablt b hb
  old:=hW.old
  olda:=hW.olda
  oldl:=λb hlt hb=>by
   have h0:=hW.oldl b hlt hb;rw[kO (by
    rintro⟨e,z,h⟩;rw[hW.tlab k b e z h] at h0;exact hb h0.symm)]
   exact h0
  tlab:=λk' g e z h=>by
   obtain⟨h1,h2⟩:=hτ h;rw[kO (by
    rintro⟨e',z',h'⟩;exact h1 (hW.tinj k' k g e z e' z' h2 h'))]
   exact hW.tlab k' g e z h2
  blab:=λi g h=>by
   rw[kO (by
    rintro⟨e',z',h'⟩;exact(hW.tau k g e' z' h').2.2.2 i h)]
   exact hW.blab i g h
  oldu:=λb hlt hab hb=>by
   rw[kO (by
    rintro⟨e',z',h'⟩;rcases (hW.tau k b e' z' h').1 with q|q
    ·omega
    ·exact hab q)]
   exact hW.oldu b hlt hab hb
  labw:=λb hb hor=>by
   by_cases h:∃e z,G.τ k=some (some (b,e,z))
   ·obtain⟨e,z,h⟩:=h;obtain⟨_,_,⟨cur,hc,_⟩,_⟩:=hW.tau k b e z h;exact⟨cur,e,hc⟩
   ·rw[kO h] at hb;exact hW.labw b hb hor
  ids:=hW.ids
  sz:=hW.sz
  os:=hW.os
  tape:=hW.tape
  out:=hW.out
  dr:=hW.dr}

theorem aPT{B}{bx ro:List (Nat×List D)}{tk:List Nat}{G:Ghost}{w}(hW:SimW B bx ro tk G w){k:Nat}(hk:k∈tk){l:List Nat}(hl:l≠[]){e:TypeId}{z:Nat}{xs:List D}{v:Value}(h:Rel G w (.sl (.own k e z) xs) v):Rel (G.setLab k l) w (.sl (.lab l) xs) v:=by
 obtain⟨x,hx⟩:=hW.toks k hk;have rG:=(aEm hW k hl).2.2 h;cases h with
 | @sl _ _ A n c b o s hn hc hm ht hA hu hkk hst hr =>
  cases rG with
  | @sl _ _ _ _ _ b' o' s' hn' hc' hm' ht' hA' hu' hkk' hst' hr' =>
  refine .sl (b:=b') (o:=o') (s:=s') hn' hc' hm' ?_ hA' hu' hkk' hst' hr';simp only[dZ,hx] at ht;match x,hx with
  | none,_=>exact .inl (List.length_eq_zero_iff.1 (by rw[←hn];exact ht.1))
  | some (g,e',z'),hx =>
   exact .inr ⟨g,0,ht.2.1,aGK ⟨e',z',hx⟩,hl⟩

section
variable {S:Setup} {B:Base} {R:LS->Prop} {kk:List VItem} {L:LS}
theorem xY(t:Nat)(l:List Nat){k:Nat}{e:TypeId}{z:Nat}{xs:List D}(ht:look L.env t=some (.sl (.own k e z) xs))(hk:k∈L.toks)(hl:l≠[])
  (h:SW S B R kk {L with env:=eU L.env t (.sl (.lab l) xs),toks:=L.toks.filter λx=>!(x==k)}):SW S B R kk L:=λG a w hs=>by
 obtain⟨h1,h2,h3⟩:=aEm hs.W k hl;obtain⟨v,hv,hr⟩:=hs.env t _ ht;have hs1:Sim B {L with toks:=L.toks.filter λx=>!(x==k)} (G.setLab k l) a w:=⟨hs.defers,hs.size,λt' d' hd=>by
  obtain⟨u,q1,q2⟩:=hs.env t' d' hd;exact⟨u,q1,h3 q2⟩,h1,hs.fixed⟩
 exact h _ a w (mL hs1 hv (aPT hs.W hk hl hr))
end

mutual
def le0:D->D->Prop
 | .sl _ xs,.sl .any ys=>xs=ys
 | .sl tk xs,.sl tk' ys=>(tk=tk'∨(xs=[]/\∃l,tk'=.lab l))/\xs=ys
 | .int k a,.int k' b=>k=k'/\a=b
 | .bool a,.bool b=>a=b
 | .agg cs,.agg ds=>tO cs ds
 | .tup cs,.tup ds=>tO cs ds
 | d,d'=>d=d'
def tO:List D->List D->Prop
 | [],[]=>True
 | a::as,b::bs=>le0 a b/\tO as bs
 | _,_=>False
end
mutual
theorem aMM:∀ {a b:D},le0 a b->D.le a b:=λ{a b} h=>by
 cases a with
 | sl tk xs =>
  cases b with
  | sl tk' ys =>
   cases tk' with
   | any=>simp only[le0] at h;subst h;exact .any
   | lab l =>
    simp only[le0] at h;obtain⟨h|⟨h,_⟩,rfl⟩:=h
    ·subst h;exact .refl _
    ·subst h;exact .emp
   | _ =>
    simp only[le0] at h;obtain⟨h|⟨_,l,h⟩,rfl⟩:=h
    ·subst h;exact .refl _
    ·cases h
  | _=>simp only[le0] at h;cases h
 | int k n =>
  cases b with
  | int k' n'=>simp only[le0] at h;obtain⟨rfl,rfl⟩:=h;exact .refl _
  | _=>simp only[le0] at h;cases h
 | bool x =>
  cases b with
  | bool y=>simp only[le0] at h;subst h;exact .refl _
  | _=>simp only[le0] at h;cases h
 | agg cs =>
  cases b with
  | agg ds=>simp only[le0] at h;rw[t7];exact aDM h
  | _=>simp only[le0] at h;cases h
 | tup cs =>
  cases b with
  | tup ds=>simp only[le0] at h;rw[aZj];exact aDM h
  | _=>simp only[le0] at h;cases h
 | _=>cases b<;>simp only[le0] at h<;>first|(cases h;exact .refl _)|(rw[h];exact .refl _)
theorem aDM:∀ {as bs:List D},tO as bs->leL as bs
 | [],[],_=>trivial
 | a::as,b::bs,h=>by
  simp only[tO] at h;exact⟨aMM h.1,aDM h.2⟩
 | [],_::_,h=>by simp[tO] at h
 | _::_,[],h=>by simp[tO] at h
end
theorem aWs(tk:Tk)(xs ys:List D):le0 (.sl tk xs) (.sl .any ys)=(xs=ys):=by simp[le0]
theorem aY6(tk:Tk)(xs ys:List D):le0 (.sl tk xs) (.sl tk ys)=(xs=ys):=by cases tk<;>simp[le0]
theorem aW3(tk:Tk)(l:List Nat):le0 (.sl tk []) (.sl (.lab l) [])=True:=by simp[le0]
theorem aXi(k:IntKind)(a b:Int):le0 (.int k a) (.int k b)=(a=b):=by simp[le0]
theorem aUT(a b:Bool):le0 (.bool a) (.bool b)=(a=b):=by simp[le0]
theorem aXg(cs ds:List D):le0 (.agg cs) (.agg ds)=tO cs ds:=by simp[le0]
theorem aXN(cs ds:List D):le0 (.tup cs) (.tup ds)=tO cs ds:=by simp[le0]
theorem aUp:tO [] []=True:=by simp[tO]
theorem aQI(a b:D)(as bs:List D):tO (a::as) (b::bs)=(le0 a b/\tO as bs):=by simp[tO]
mutual
theorem eB:∀d:D,le0 d d:=λd=>by
 cases d with
 | sl tk xs=>cases tk<;>simp[le0]
 | agg cs=>simp only[le0];exact aCa cs
 | tup cs=>simp only[le0];exact aCa cs
 | _=>simp[le0]
theorem aCa:∀l:List D,tO l l
 | []=>by simp[tO]
 | d::l=>by simp only[tO];exact⟨eB d,aCa l⟩
end
theorem aTM(d:D):le0 d d=True:=eq_true (eB d)

def aBs(env:List (Nat×D)):List (Nat×D)->Prop
 | []=>True
 | (t,d)::r=>(aL (look env t) λd'=>le0 d' d)/\aBs env r
theorem aNy(env:List (Nat×D)):aBs env []=True:=rfl
theorem aLC(env:List (Nat×D))(t:Nat)(d:D)(r:List (Nat×D)):aBs env ((t,d)::r)=((aL (look env t) λd'=>le0 d' d)/\aBs env r):=rfl
theorem aAQ{env:List (Nat×D)}:∀ {r:List (Nat×D)},aBs env r->aP7 env r
 | [],_=>trivial
 | (t,d)::r,h=>by
  obtain⟨h1,h2⟩:=h;obtain⟨d',hd,hle⟩:=aI h1;exact⟨by rw[hd];exact aMM hle,aAQ h2⟩
theorem aD{L L':LS}(h1:L'.n=L.n)(h2:L'.fix=L.fix)(h3:aBs L.env L'.env)(h4:oO L.boxes L'.boxes)(h5:oO L.ro L'.ro)(h6:∀k∈L'.toks,k∈L.toks):L.covers L' :=
 aSq h1 h2 (aAQ h3) h4 h5 h6
theorem r6{S:Setup}{L:LS}:∀ {rs:List ResultVar} {K K':List D->Prop},aCD S L rs K->(∀ds,K ds->K' ds)->aCD S L rs K'
 | [],_,_,h,hK=>hK _ h
 | .tmp t::rs,K,K',h,hK=>by
  obtain⟨d,hd,h⟩:=aI h;show aL (L.get t) _;rw[hd];exact r6 h λds hds=>hK _ hds
 | .cell c ty::rs,K,K',h,hK=>by
  obtain⟨d,hd,h⟩:=aI h;show aL (L.get c) _;rw[hd];clear hd;cases d with
  | box id off =>
   simp only[aEw,yX,pG] at h ⊢;obtain⟨cs,h1,h⟩:=aI h;rw[h1];obtain⟨i,h2,h⟩:=aI h;show aL (S.tab ty) _;rw[h2];simp only[aL] at h ⊢;split
   ·rename_i ha;rw[if_pos ha] at h;exact⟨h.1,r6 h.2 λds hds=>hK _ hds⟩
   ·rename_i ha;rw[if_neg ha] at h;obtain⟨d,h3,h⟩:=aI h;rw[h3];exact r6 h λds hds=>hK _ hds
  | _=>exact h.elim
def aYw(S:Setup)(rs:List ResultVar)(d:D)(bx':List (Nat×List D))(L:LS):Prop:=aM1 S L rs λd0=>le0 d0 d/\oO L.boxes bx'
theorem aZd{S}{rs:List ResultVar}{d:D}{bx':List (Nat×List D)}{L}(h:aYw S rs d bx' L):Ret S rs d bx' L:=by
 rw[aO6];exact r6 h λds hds=>⟨aMM hds.1,hds.2⟩
theorem aLh(xs ys:List Int):(xs.map (D.int .i64)=ys.map (D.int .i64))=(xs=ys):=propext (List.map_inj_right λx y h=>by cases h;rfl)
theorem aWw(xs:List Int)(n:Int):xs.map (D.int .i64)++[.int .i64 n]=(xs++[n]).map (.int .i64):=by simp
attribute [go_sem] aUB aQf aQ4 aK0 aQP aQX aFS aM5 aRf aI2 aFW aEM aEF aN3 aND aDl aIC aUG aUO aSJ aT4 aNe aM8 aEE aLp aTs aRR aMZ aN8 aQ1 aKn aR0 aSc aGg aNR aQ2 aEs aDG aNG aOd aDh aJk aVg aMA aWD aWX aJP aKN aLa aDm aIO aMo aIM aBL aBh aKf aOD aR2 aKM aNr aLA aM9 uG aRn aRg aRK aR6 aFZ aYq aYV aLx aJV aMR aID aJ2 aDn aJn aJY aCr aBX aKR aXQ aWr aEw LS.put LS.putO LS.get LS.getBox LS.keep LS.keepAt aCI eU Lg.look fQ uV eY fG aVy aQr aRN aRt aRi aQR aQu aQA aQL aRC aRw aRd aQw aVf aRH aTx aSY aTF aUY aT7 aU4 aTn aUd aTD aTy aVq aQY aJf aI4 aJO aKH aH2 aH5 aXz aXq aRl aQ3 aQv aQF aSi aNW aLG aIg aD6 aF8 aXP aWi aLB aFT aWR aQM aWc aFU aVz aUI aWM aYr aZu aSd jW aGk aEX aQg aNI aEz aRQ aTl aQB aNj aUk aQn aQ7 aNu yA aTi aVH lU n6 jH aTj aQ8 aF4 aGl TyI.size D.cells D.strip jW D.one D.memOk ZK.d aOu LS.newBox LS.forget sY dG LS.thawed aW9 aAj D.ids D.idsL D.tks D.tksL LS.purge LS.clean qH D.pu D.pu1 flat List.length_cons List.length_nil List.map_cons List.map_nil List.getElem?_cons_zero List.getElem?_cons_succ List.head?_cons List.drop_zero List.drop_succ_cons List.drop_nil List.take_succ_cons List.take_zero List.take_nil List.contains_nil List.contains_cons List.append_nil List.nil_append List.cons_append List.all_cons List.all_nil List.set_cons_zero List.set_cons_succ List.not_mem_nil List.mem_cons List.getElem?_toArray Option.bind_some Option.bind_none Option.isSome_some Option.isSome_none Option.map_some Option.map_none Option.some.injEq Bool.or_false Bool.or_true Bool.false_or Bool.true_or Bool.not_true Bool.not_false Bool.and_true Bool.true_and Bool.and_false Bool.false_and true_and and_true and_self false_and not_false_eq_true not_true_eq_false beq_self_eq_true ne_eq if_true if_false Nat.zero_add Nat.add_zero List.getD_cons_zero Nat.succ_ne_zero decide_true decide_false aQK aPc aTg aRb aN4 aNc aIp Nat.mul_one Int.one_mul List.length_map Int.natCast_nonneg LS.upd_mk LS.updT_mk aMB decide_eq_true_eq decide_eq_false_iff_not bne_iff_ne beq_iff_eq beq_eq_false_iff_ne bne_eq_false_iff_eq Bool.not_eq_true' Int.not_lt Int.not_le Decidable.not_not kM aPA Bool.not_eq_eq_eq_not Int.ofNat_inj aRh aNA aXM aYB forall_const implies_true false_implies xN aHQ aM1 aCD aP0 aXD aLi aIU aFM aGc aNv aO6 or_false or_true false_or true_or forall_eq_or_imp forall_eq List.range_zero Option.getD_none Option.getD_some List.mem_map forall_exists_index and_imp forall_apply_eq_imp_iff₂ Int.toNat_zero aRm aSD aLL aWs aY6 aW3 aXi aUT aXg aXN aUp aQI aTM aNy aLC aYw aLh aWw List.take_length List.forall_mem_append Int.add_sub_cancel aTW aTP t7 List.cons.injEq D.int.injEq aJb aJW List.length_set LS.after wN D.shT D.shTL List.filter_nil dR
attribute [go_sem_proc] Nat.reduceAdd Nat.reduceMul Nat.reduceLT Nat.reduceLeDiff Nat.reduceEqDiff Nat.reduceBEq Nat.reduceSub reduceCtorEq
attribute [go_sem_proc ↓] reduceIte
variable {S:Setup} {B:Base} {R:LS->Prop} {kk:List VItem} {L:LS}

def aJG(k k' j:Nat):Nat:=if j=k then k' else j
def LS.ren(L:LS)(k k':Nat):LS :=
 {L with env:=qH (D.mT (aJG k k')) L.env,boxes:=qH (D.mTL (aJG k k')) L.boxes,ro:=qH (D.mTL (aJG k k')) L.ro,toks:=k'::L.toks.filter λx=>!(x==k)}
theorem aZa(k k':Nat)(hk:k∈L.toks)(hc:L.clean (λx=>x==k')=true)(h:SW S B R kk (L.ren k k')):SW S B R kk L:=λG a w hs=>by
 let G':Ghost:={G with τ:=λj=>if j=k' then G.τ k else if j=k then none else G.τ j};have hm:∀ {d v},(∀j∈d.tks,j≠k')->Rel G w d v->Rel G' w (d.mT (aJG k k')) v:=λhn hr =>
  Rel.mapT (G:=G) (G':=G') rfl rfl rfl _ hr λj hj=>by
   have:=hn j hj;by_cases e:j=k
   ·subst e;simp[G',aJG]
   ·simp[G',aJG,e,this]
 have hne:∀ {j:Nat},(j==k')=false->j≠k':=λh=>by simpa using h
 have hbox:∀ {g cs},(∀d∈cs,∀j∈d.tks,(j==k')=false)->dD G w g cs->dD G' w g (D.mTL (aJG k k') cs):=λ{g cs} hn ⟨vs,e,e1,e2,e3⟩=>by
  refine⟨vs,e,e1,by rw[y0,zC];exact e2,λj d v hd hv=>?_⟩;rw[y0,zI,Option.map_eq_some_iff] at hd;obtain⟨d0,hd,rfl⟩:=hd;exact hm (λi hi=>hne (hn d0 (zF hd) i hi)) (e3 j d0 v hd hv)
 have inv:∀ {j x},G'.τ j=some x->(j=k'/\G.τ k=some x)∨(j≠k'/\j≠k/\G.τ j=some x):=λ{j x} hj=>by
  simp only[G'] at hj;split at hj
  ·exact .inl ⟨by assumption,hj⟩
  ·split at hj
   ·cases hj
   ·exact .inr ⟨by assumption,by assumption,hj⟩
 have hW:=hs.W;refine h G' a w ⟨hs.defers,hs.size,λt d hd=>?_,?_,hs.fixed⟩
 ·simp only[LS.ren,j4,Option.map_eq_some_iff] at hd;obtain⟨d0,hd,rfl⟩:=hd;obtain⟨v,h1,h2⟩:=hs.env t d0 hd;exact⟨v,h1,hm (λj hj=>hne (aCw hc hd hj)) h2⟩
 ·exact {
   boxes:=λid cs hl=>by
    simp only[LS.ren,j4,Option.map_eq_some_iff] at hl;obtain⟨cs0,hl,rfl⟩:=hl;obtain⟨g,q1,q2,q3⟩:=hW.boxes id cs0 hl;exact⟨g,q1,hbox (λd hd j hj=>aCd hc hl hd hj) q2,q3⟩
   robs:=λid cs hl=>by
    simp only[LS.ren,j4,Option.map_eq_some_iff] at hl;obtain⟨cs0,hl,rfl⟩:=hl;obtain⟨g,q1,q2,q3⟩:=hW.robs id cs0 hl;exact⟨g,q1,hbox (λd hd j hj=>aFa hc hl hd hj) q2,q3⟩
   toks:=λj hj=>by
    simp only[LS.ren,zO,List.mem_filter] at hj;by_cases e:j=k'
    ·obtain⟨x,hx⟩:=hW.toks k hk;exact⟨x,by simp only[G'];rw[if_pos e];exact hx⟩
    ·rcases hj with hj|⟨hj,hjk⟩
     ·exact absurd hj e
     ·obtain⟨x,hx⟩:=hW.toks j hj;exact⟨x,by simp only[G'];rw[if_neg e,if_neg (by simpa using hjk)];exact hx⟩
   tau:=λj g e z hj=>by
    rcases inv hj with⟨_,h1⟩|⟨_,_,h1⟩
    ·exact hW.tau _ g e z h1
    ·exact hW.tau _ g e z h1
   tinj:=λj j' g e z e' z' hj hj'=>by
    rcases inv hj with⟨a1,h1⟩|⟨a1,b1,h1⟩<;>rcases inv hj' with⟨a2,h2⟩|⟨a2,b2,h2⟩
    ·rw[a1,a2]
    ·exact absurd (hW.tinj _ _ g e z e' z' h1 h2).symm b2
    ·exact absurd (hW.tinj _ _ g e z e' z' h1 h2) b1
    ·exact hW.tinj _ _ g e z e' z' h1 h2
   binj:=hW.binj
   blt:=hW.blt
   lablt:=hW.lablt
   old:=hW.old
   olda:=hW.olda
   oldl:=hW.oldl
   tlab:=λj g e z hj=>by
    rcases inv hj with⟨_,h1⟩|⟨_,_,h1⟩
    ·exact hW.tlab _ g e z h1
    ·exact hW.tlab _ g e z h1
   blab:=hW.blab
   oldu:=hW.oldu
   labw:=hW.labw
   ids:=hW.ids
   sz:=hW.sz
   os:=hW.os
   tape:=hW.tape
   out:=hW.out
   dr:=hW.dr}
theorem kL(k k':Nat)(hk:L.toks.contains k=true)(hc:L.clean (λx=>x==k')=true)(h:SW S B R kk (L.ren k k')):SW S B R kk L:=aZa k k' (by simpa using hk) hc h
attribute [go_sem] LS.ren aJG D.mT D.mTL
end Go.Lg
