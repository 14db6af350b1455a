/-
  Lg: LgLoop, LgTok, LgLab, LgLe, LgAttr, LgRen, one behind the other.
-/
import Derived.Test.YtkfkdgginfpdnaaGreatDoorLgK3
import Derived.Lib.SliceRun
/-
  Lg, part 26: loops whose states differ in few slots; lists in memory that are filled; sums over lists.
-/
namespace Go.Lg
open Go Go.RowKit

def setAs {α:Type} (l:List (Nat×α)):List (Nat×α)→List (Nat×α)
 | []=>l
 | (k,x)::r=>setAs (setA l k x) r
theorem setAs_nil {α:Type} (l:List (Nat×α)):setAs l []=l:=rfl
theorem setAs_cons {α:Type} (l:List (Nat×α)) (k:Nat) (x:α) (r:List (Nat×α)):setAs l ((k,x)::r)=setAs (setA l k x) r:=rfl
def LS.upd (L:LS) (E:List (Nat×D)) (X:List (Nat×List D)):LS:={L with env:=setAs L.env E,boxes:=setAs L.boxes X}
theorem LS.upd_mk (n:Nat) (env:List (Nat×D)) (bx ro:List (Nat×List D)) (toks fix:List Nat) (E:List (Nat×D)) (X:List (Nat×List D)):LS.upd ⟨n,env,bx,ro,toks,fix⟩ E X=⟨n,setAs env E,setAs bx X,ro,toks,fix⟩:=rfl
def LS.updT (L:LS) (E:List (Nat×D)) (X:List (Nat×List D)) (T:List Nat):LS:={L with env:=setAs L.env E,boxes:=setAs L.boxes X,toks:=T}
theorem LS.updT_mk (n:Nat) (env:List (Nat×D)) (bx ro:List (Nat×List D)) (toks fix:List Nat) (E:List (Nat×D)) (X:List (Nat×List D)) (T:List Nat):LS.updT ⟨n,env,bx,ro,toks,fix⟩ E X T=⟨n,setAs env E,setAs bx X,ro,T,fix⟩:=rfl

variable {S:Setup} {B:Base} {R:LS→Prop} {k:List VItem} {L:LS}
theorem sw_loopU {ι:Type} (E:ι→List (Nat×D)) (X:ι→List (Nat×List D)) (p:ι→Prop) (μ:ι→Nat) (i0:ι) {c:Code} (hc:L.covers (L.upd (E i0) (X i0))) (hp:p i0)
  (round:∀i,p i→SW S B R (.code c::.loopEnd (fun L'=>∃i',L'.covers (L.upd (E i') (X i'))∧p i'∧μ i'<μ i)::k) (L.upd (E i) (X i))):SW S B R (.code (.loop c)::k) L :=
 sw_loop (fun i=>L.upd (E i) (X i)) p μ i0 hc hp round
theorem sw_loopT {ι:Type} (E:ι→List (Nat×D)) (X:ι→List (Nat×List D)) (T:ι→List Nat) (p:ι→Prop) (μ:ι→Nat) (i0:ι) {c:Code} (hc:L.covers (L.updT (E i0) (X i0) (T i0))) (hp:p i0)
  (round:∀i,p i→SW S B R (.code c::.loopEnd (fun L'=>∃i',L'.covers (L.updT (E i') (X i') (T i'))∧p i'∧μ i'<μ i)::k) (L.updT (E i) (X i) (T i))):SW S B R (.code (.loop c)::k) L :=
 sw_loop (fun i=>L.updT (E i) (X i) (T i)) p μ i0 hc hp round

def fillF (f:Nat→List D) (z:List D) (i n:Nat):List D:=((List.range n).map fun j=>if j<i then f j else z).flatten
theorem fillF_start (f:Nat→List D) (z:List D) (n:Nat):(List.replicate n z).flatten=fillF f z 0 n:=by
 unfold fillF
 congr 1
 refine List.ext_getElem (by simp) fun j h1 h2=>?_
 simp
theorem fillF_done {α:Type} [Inhabited α] (g:α→D) (z:List D) (xs:List α):fillF (fun j=>(g (xs.getD j default)).cells) z xs.length xs.length=flat (xs.map g):=by
 unfold fillF flat
 rw[List.flatMap_def]
 congr 1
 refine List.ext_getElem (by simp) fun j h1 h2=>?_
 simp only[List.length_map,List.length_range] at h1
 simp only[List.getElem_map,List.getElem_range]
 rw[if_pos h1]
 simp[List.getD,List.getElem?_eq_getElem h1]
theorem flatten_len {s:Nat}:∀(l:List (List D)),(∀x∈l,x.length=s)→l.flatten.length=s*l.length
 | [],_=>rfl
 | x::r,h=>by
  have:=flatten_len r fun y hy=>h y (by simp[hy])
  simp[this,h x (by simp),Nat.mul_add,Nat.add_comm]
theorem flatten_put {s:Nat}:∀(l:List (List D)) (i:Nat) (new:List D),(∀x∈l,x.length=s)→new.length=s→i<l.length→putCells l.flatten (i*s) new=(l.set i new).flatten
 | x::r,0,new,h,hn,_=>by
  have hx:=h x (by simp)
  simp[putCells,hn,←hx]
 | x::r,i+1,new,h,hn,hi=>by
  have hx:=h x (by simp)
  have:=flatten_put r i new (fun y hy=>h y (by simp[hy])) hn (by simpa using hi)
  rw[List.set_cons_succ,List.flatten_cons,List.flatten_cons,←this]
  unfold putCells
  have e1:(i+1)*s=x.length+i*s:=by rw[hx,Nat.succ_mul,Nat.add_comm]
  rw[e1,List.take_append,List.take_of_length_le (by omega),Nat.add_sub_cancel_left]
  rw[List.drop_append,List.drop_of_length_le (by omega)]
  simp[Nat.add_assoc]
theorem fillF_len {f:Nat→List D} {z:List D} {s i n:Nat} (hf:∀j,(f j).length=s) (hz:z.length=s):(fillF f z i n).length=s*n:=by
 unfold fillF
 rw[flatten_len (s:=s)]
 ·simp
 ·intro x hx
  obtain⟨j,_,rfl⟩:=List.mem_map.1 hx
  split
  ·exact hf j
  ·exact hz
theorem fillF_put {f:Nat→List D} {z:List D} {s i n:Nat} (hf:∀j,(f j).length=s) (hz:z.length=s) (hi:i<n):putCells (fillF f z i n) (i*s) (f i)=fillF f z (i+1) n:=by
 unfold fillF
 rw[flatten_put (s:=s)]
 ·congr 1
  refine List.ext_getElem (by simp) fun j h1 h2=>?_
  simp only[List.getElem_set,List.getElem_map,List.getElem_range]
  by_cases e:i=j
  ·subst e;simp
  ·rw[if_neg e]
   by_cases h:j<i
   ·rw[if_pos h,if_pos (by omega)]
   ·rw[if_neg h,if_neg (by omega)]
 ·intro x hx
  obtain⟨j,_,rfl⟩:=List.mem_map.1 hx
  split
  ·exact hf j
  ·exact hz
 ·exact hf i
 ·simpa using hi
theorem fillF_memOk {f:Nat→List D} {z:List D} {i n:Nat} (hf:∀j,∀d∈f j,d.memOk=true) (hz:∀d∈z,d.memOk=true):∀d∈fillF f z i n,d.memOk=true:=by
 intro d hd
 simp only[fillF,List.mem_flatten,List.mem_map] at hd
 obtain⟨l,⟨j,_,rfl⟩,hd⟩:=hd
 split at hd
 ·exact hf j d hd
 ·exact hz d hd


theorem putCells_zero (cs new:List D):putCells cs 0 new=new++cs.drop new.length:=by simp[putCells]
theorem putCells_succ (c:D) (cs new:List D) (n:Nat):putCells (c::cs) (n+1) new=c::putCells cs n new:=by
 simp only[putCells,List.take_succ_cons,List.cons_append,show n+1+new.length=(n+new.length)+1 by omega,List.drop_succ_cons]
theorem fillF_len2 (a b:Nat→D) (z0 z1:D) (i n:Nat):(fillF (fun j=>[a j,b j]) [z0,z1] i n).length=2*n:=fillF_len (fun _=>rfl) rfl
theorem fillF_len3 (a b c:Nat→D) (z0 z1 z2:D) (i n:Nat):(fillF (fun j=>[a j,b j,c j]) [z0,z1,z2] i n).length=3*n:=fillF_len (fun _=>rfl) rfl
theorem fillF_len4 (a b c d:Nat→D) (z0 z1 z2 z3:D) (i n:Nat):(fillF (fun j=>[a j,b j,c j,d j]) [z0,z1,z2,z3] i n).length=4*n:=fillF_len (fun _=>rfl) rfl
theorem fillF_len5 (a b c d e:Nat→D) (z0 z1 z2 z3 z4:D) (i n:Nat):(fillF (fun j=>[a j,b j,c j,d j,e j]) [z0,z1,z2,z3,z4] i n).length=5*n:=fillF_len (fun _=>rfl) rfl
theorem fillF_len6 (a b c d e f:Nat→D) (z0 z1 z2 z3 z4 z5:D) (i n:Nat):(fillF (fun j=>[a j,b j,c j,d j,e j,f j]) [z0,z1,z2,z3,z4,z5] i n).length=6*n:=fillF_len (fun _=>rfl) rfl
theorem fillF_len7 (a b c d e f g:Nat→D) (z0 z1 z2 z3 z4 z5 z6:D) (i n:Nat):(fillF (fun j=>[a j,b j,c j,d j,e j,f j,g j]) [z0,z1,z2,z3,z4,z5,z6] i n).length=7*n:=fillF_len (fun _=>rfl) rfl
theorem fillF_len8 (a b c d e f g h:Nat→D) (z0 z1 z2 z3 z4 z5 z6 z7:D) (i n:Nat):(fillF (fun j=>[a j,b j,c j,d j,e j,f j,g j,h j]) [z0,z1,z2,z3,z4,z5,z6,z7] i n).length=8*n:=fillF_len (fun _=>rfl) rfl

theorem fillL_eqF (f:Nat→D) (z:D) (i n:Nat):fillL f z i n=fillF (fun j=>[f j]) [z] i n:=by
 unfold fillL fillF
 generalize List.range n=l
 induction l with
 | nil=>rfl
 | cons a r ih=>simp only[List.map_cons,List.flatten_cons,ih];split<;>rfl
theorem cells_n {α:Type} {g:α→D} {xs:List α} {n:Nat} (h:∀x,(g x).cells.length=n):∀d∈xs.map g,d.cells.length=n:=by
 intro d hd
 obtain⟨x,_,rfl⟩:=List.mem_map.1 hd
 exact h x

theorem nott0 (p:Prop):(!(tst p))=tst (¬p):=by
 by_cases h:p
 ·rw[tst_true h,tst_false (fun h'=>h' h)];rfl
 ·rw[tst_false h,tst_true h];rfl
theorem tst_eq_tst (p q:Prop):(tst p=tst q)=(p↔q):=propext ⟨fun h=>⟨fun hp=>tst_iff.1 (h ▸ tst_true hp),fun hq=>tst_iff.1 (h ▸ tst_true hq)⟩,fun h=>tst_congr h⟩
theorem decide_eq_tst (p q:Prop) [Decidable p]:(decide p=tst q)=(p↔q):=by rw[decide_tst,tst_eq_tst]
theorem tst_eq_nott (p q:Prop):(tst p=!(tst q))=(p↔¬q):=by rw[nott0,tst_eq_tst]
theorem decide_eq_nott (p q:Prop) [Decidable p]:(decide p=!(tst q))=(p↔¬q):=by rw[nott0,decide_tst,tst_eq_tst]
theorem beq_eq_tst {α:Type} [BEq α] [LawfulBEq α] (a b:α) (q:Prop):((a==b)=tst q)=(a=b↔q):=propext ⟨fun h=>⟨fun e=>tst_iff.1 (h ▸ beq_iff_eq.2 e),fun hq=>beq_iff_eq.1 (h ▸ tst_true hq)⟩,fun h=>by
 by_cases e:a=b
 ·rw[tst_true (h.1 e)];exact beq_iff_eq.2 e
 ·rw[tst_false fun hq=>e (h.2 hq)];exact beq_eq_false_iff_ne.2 e⟩
theorem bne_eq_tst {α:Type} [BEq α] [LawfulBEq α] (a b:α) (q:Prop):((a != b)=tst q)=(a≠b↔q):=propext ⟨fun h=>⟨fun e=>tst_iff.1 (h ▸ bne_iff_ne.2 e),fun hq=>bne_iff_ne.1 (h ▸ tst_true hq)⟩,fun h=>by
 by_cases e:a=b
 ·rw[tst_false fun hq=>(h.2 hq) e];exact bne_eq_false_iff_eq.2 e
 ·rw[tst_true (h.1 e)];exact bne_iff_ne.2 e⟩
theorem nott (p:Prop):(!(tst p))=tst (¬p):=by
 by_cases h:p
 ·rw[tst_true h,tst_false (fun h'=>h' h)];rfl
 ·rw[tst_false h,tst_true h];rfl
theorem nott_eq_tst (p q:Prop):((!(tst p))=tst q)=(¬p↔q):=by rw[nott,tst_eq_tst]
theorem notd_eq_tst (p q:Prop) [Decidable p]:((!(decide p))=tst q)=(¬p↔q):=by rw[decide_tst,nott_eq_tst]
theorem boxLe_mk {bx:List (Nat×List D)}:∀ {r:List (Nat×List D)},(∀p∈r,look bx p.1=some p.2)→boxLe bx r
 | [],_=>trivial
 | (k,cs)::r,h=>⟨by rw[h (k,cs) List.mem_cons_self];rfl,boxLe_mk fun p hp=>h p (List.mem_cons_of_mem _ hp)⟩
theorem Ret_def (S:Setup) (rs:List ResultVar) (d:D) (bx':List (Nat×List D)) (L:LS):Ret S rs d bx' L=resY S L rs fun d0=>D.le d0 d∧boxLe L.boxes bx':=by
 unfold Ret
 congr 1
 funext d0
 congr 1
 refine propext ⟨fun h=>?_,boxLe_all⟩
 induction bx' with
 | nil=>trivial
 | cons p r ih =>
  obtain⟨k,cs⟩:=p
  refine⟨?_,ih fun p hp=>h p (List.mem_cons_of_mem _ hp)⟩
  rw[h (k,cs) List.mem_cons_self]
  rfl

def leL:List D→List D→Prop
 | [],[]=>True
 | a::as,b::bs=>D.le a b∧leL as bs
 | _,_=>False
theorem leL_nil:leL [] []=True:=rfl
theorem leL_cons (a b:D) (as bs:List D):leL (a::as) (b::bs)=(D.le a b∧leL as bs):=rfl
theorem leL_refl:∀l:List D,leL l l
 | []=>trivial
 | d::l=>⟨.refl d,leL_refl l⟩
theorem leL_self (l:List D):leL l l=True:=eq_true (leL_refl l)
theorem leL_len:∀ {as bs:List D},leL as bs→as.length=bs.length
 | [],[],_=>rfl
 | _::_,_::_,h=>by simp[leL_len h.2]
 | [],_::_,h=>h.elim
 | _::_,[],h=>h.elim
theorem leL_get:∀ {as bs:List D},leL as bs→∀(j:Nat) b,bs[j]?=some b→∃a,as[j]?=some a∧D.le a b
 | _::_,_::_,h,0,b,hb=>by
  simp only[List.getElem?_cons_zero,Option.some.injEq] at hb
  subst hb;exact⟨_,rfl,h.1⟩
 | _::_,_::_,h,j+1,b,hb=>leL_get h.2 j b hb
 | [],[],_,j,b,hb=>by simp at hb
 | [],_::_,h,_,_,_=>h.elim
 | _::_,[],h,_,_,_=>h.elim
theorem leL_mk:∀ {as bs:List D},as.length=bs.length→(∀(j:Nat) a b,as[j]?=some a→bs[j]?=some b→D.le a b)→leL as bs
 | [],[],_,_=>trivial
 | a::as,b::bs,hl,h=>⟨h 0 a b rfl rfl,leL_mk (by simpa using hl) fun j x y hx hy=>h (j+1) x y (by simpa using hx) (by simpa using hy)⟩
 | [],_::_,hl,_=>by simp at hl
 | _::_,[],hl,_=>by simp at hl
theorem le_agg (cs ds:List D):D.le (.agg cs) (.agg ds)=leL cs ds:=propext ⟨fun h=>by
 cases h with
 | refl=>exact leL_refl _
 | agg hl h=>exact leL_mk hl h,fun h=>.agg (leL_len h) fun j c d hc hd=>by
  obtain⟨a,ha,hle⟩:=leL_get h j d hd
  rw[hc] at ha
  obtain rfl:=Option.some.inj ha
  exact hle⟩
theorem le_tup (cs ds:List D):D.le (.tup cs) (.tup ds)=leL cs ds:=propext ⟨fun h=>by
 cases h with
 | refl=>exact leL_refl _
 | tup hl h=>exact leL_mk hl h,fun h=>.tup (leL_len h) fun j c d hc hd=>by
  obtain⟨a,ha,hle⟩:=leL_get h j d hd
  rw[hc] at ha
  obtain rfl:=Option.some.inj ha
  exact hle⟩
theorem FC.args {S:Setup} {f:FuncId} {ro bx bx':List (Nat×List D)} {tk tk':List Nat} {args args':List D} {d:D} (h:FC S f ro bx tk args' d bx' tk') (hle:leL args args'):FC S f ro bx tk args d bx' tk':=⟨h.1,fun w G vals hs=>by
 have hl:=leL_len hle
 refine h.2 w G vals ⟨hs.defers,by rw[←hl];exact hs.size,fun t d hd=>?_,hs.W,hs.fixed⟩
 simp only[look_enumD,Nat.zero_le,if_true,Nat.sub_zero] at hd
 obtain⟨a,ha,hle'⟩:=leL_get hle t d hd
 obtain⟨v,h1,h2⟩:=hs.env t a (by simpa only[look_enumD,Nat.zero_le,if_true,Nat.sub_zero] using ha)
 exact⟨v,h1,h2.le hle'⟩⟩
theorem BoxAt.le {G:Ghost} {w:World} {g:Nat} {cs cs':List D} (h:BoxAt G w g cs) (hle:leL cs cs'):BoxAt G w g cs':=by
 obtain⟨vs,e,h1,h2,h3⟩:=h
 refine⟨vs,e,h1,by rw[←leL_len hle];exact h2,fun j d v hd hv=>?_⟩
 obtain⟨a,ha,hle'⟩:=leL_get hle j d hd
 exact(h3 j a v ha hv).le hle'
theorem take_mapr {α:Type} (f:α→D) (xs:List α) (n:Nat):(xs.map f).take n=(xs.take n).map f:=List.map_take.symm
theorem drop_mapr {α:Type} (f:α→D) (xs:List α) (n:Nat):(xs.map f).drop n=(xs.drop n).map f:=List.map_drop.symm
theorem append_mapr {α:Type} (f:α→D) (xs ys:List α):xs.map f++ys.map f=(xs++ys).map f:=List.map_append.symm

def csum {α:Type} (f:α→Nat) (xs:List α) (i:Nat):Nat:=((xs.take i).map f).sum
theorem csum_zero {α:Type} (f:α→Nat) (xs:List α):csum f xs 0=0:=by simp[csum]
theorem csum_succ {α:Type} [Inhabited α] (f:α→Nat) (xs:List α) (i:Nat) (h:i<xs.length):csum f xs (i+1)=csum f xs i+f (xs.getD i default):=by
 unfold csum
 rw[List.take_succ_eq_append_getElem h,List.map_append,List.sum_append]
 simp[List.getD,List.getElem?_eq_getElem h]
theorem csum_all {α:Type} (f:α→Nat) (xs:List α) (i:Nat) (h:xs.length≤i):csum f xs i=(xs.map f).sum:=by simp[csum,List.take_of_length_le h]
theorem csum_le {α:Type} (f:α→Nat) (xs:List α) (i:Nat):csum f xs i≤(xs.map f).sum:=by
 have h:((xs.take i).map f).sum+((xs.drop i).map f).sum=(xs.map f).sum:=by
  rw[←List.sum_append,←List.map_append,List.take_append_drop]
 unfold csum;omega
theorem f_le_sum {α:Type} [Inhabited α] (f:α→Nat) (xs:List α) (i:Nat) (h:i<xs.length):f (xs.getD i default)≤(xs.map f).sum:=by
 have h1:=csum_succ f xs i h
 have h2:=csum_le f xs (i+1)
 omega
theorem getD_mem {α:Type} [Inhabited α] (xs:List α) (i:Nat) (h:i<xs.length):xs.getD i default∈xs:=by
 simp[List.getD,List.getElem?_eq_getElem h]
theorem forall_getD {α:Type} [Inhabited α] {xs:List α} {P:α→Prop}:(∀j<xs.length,P (xs.getD j default))↔∀x∈xs,P x:=by
 constructor
 ·intro h x hx
  obtain⟨j,hj,rfl⟩:=List.getElem_of_mem hx
  have:=h j hj
  simpa[List.getD,List.getElem?_eq_getElem hj] using this
 ·intro h j hj
  exact h _ (getD_mem xs j hj)
noncomputable def fidx {α:Type} (p:α→Prop) (xs:List α):Int:=match xs.findIdx? (fun x=>tst (p x)) with|some i=>i|none=>-1
theorem fidx_at {α:Type} [Inhabited α] {p:α→Prop} {xs:List α} {i:Nat} (h:∀j<i,¬p (xs.getD j default)) (hi:i<xs.length) (hp:p (xs.getD i default)):fidx p xs=i:=by
 have g:∀j (hj:j<xs.length),xs.getD j default=xs[j]:=fun j hj=>by simp[List.getD,List.getElem?_eq_getElem hj]
 have:xs.findIdx? (fun x=>tst (p x))=some i:=by
  rw[List.findIdx?_eq_some_iff_getElem]
  refine⟨hi,by rw[tst_iff,←g i hi];exact hp,fun j hj=>?_⟩
  have:=h j hj
  rw[g j (by omega)] at this
  simpa using tst_false this
 unfold fidx
 rw[this]
theorem fidx_none {α:Type} [Inhabited α] {p:α→Prop} {xs:List α} (h:∀j<xs.length,¬p (xs.getD j default)):fidx p xs=-1:=by
 have:xs.findIdx? (fun x=>tst (p x))=none:=by
  rw[List.findIdx?_eq_none_iff]
  intro x hx
  exact tst_false ((forall_getD (P:=fun x=>¬p x)).1 h x hx)
 unfold fidx
 rw[this]
theorem fidx_ge {α:Type} {p:α→Prop} {xs:List α}:0≤fidx p xs↔∃x∈xs,p x:=by
 unfold fidx
 cases h:xs.findIdx? (fun x=>tst (p x)) with
 | none =>
  rw[List.findIdx?_eq_none_iff] at h
  refine⟨fun h'=>by simp at h',fun⟨x,hx,hp⟩=>?_⟩
  have:=h x hx
  rw[tst_true hp] at this
  cases this
 | some i =>
  rw[List.findIdx?_eq_some_iff_getElem] at h
  obtain⟨hi,hp,_⟩:=h
  exact⟨fun _=>⟨_,List.getElem_mem hi,tst_iff.1 hp⟩,fun _=>by simp⟩

def szd (b:Int) (n:Nat):Int:=if b-n<0 then -1 else b-n
theorem head_mapdrop {α:Type} [Inhabited α] (f:α→D) (ys:List α) (i:Nat) (h:Om (i<ys.length)):((ys.drop i).map f).head?=some (f (ys.getD i default)):=by
 have:=h.out
 rw[List.head?_map,List.head?_drop]
 simp[List.getD,List.getElem?_eq_getElem this]
theorem set_map_int (ys:List Int) (i:Nat) (x:Int):(ys.map (D.int .i64)).set i (.int .i64 x)=(ys.set i x).map (.int .i64):=by rw[List.map_set]
theorem getD_set_self {α:Type} [Inhabited α] (ys:List α) (i:Nat) (x:α) (h:Om (i<ys.length)):(ys.set i x).getD i default=x:=by
 have:=h.out
 simp[List.getD,this]
end Go.Lg
/-
  Lg, part 28: an empty list that is going to be appended to is given a token ahead of the first append; results are labelled.
-/
namespace Go.Lg
open Go Go.RowKit
variable {S:Setup} {B:Base} {R:LS→Prop} {kk:List VItem} {L:LS}

theorem env_set {G:Ghost} {a:Act} {w:World} (hs:Sim B L G a w) {t:Nat} {d:D} {v:Value} (hv:a.tmps[t]?=some v) (hr:Rel G w d v):Sim B {L with env:=setA L.env t d} G a w:=by
 refine⟨hs.defers,hs.size,fun t' d' hd=>?_,hs.W,hs.fixed⟩
 simp only[look_setA] at hd
 by_cases e:t=t'
 ·subst e
  simp only[if_true,Option.some.injEq] at hd
  subst hd
  exact⟨v,hv,hr⟩
 ·rw[if_neg e] at hd
  exact hs.env t' d' hd

theorem sw_tok (t k:Nat) (e:TypeId) (z:Nat) {tk:Tk} (ht:look L.env t=some (.sl tk [])) (htk:tk=.nil∨tk=.full) (hc:(L.purge (fun x=>x==k)).clean (fun x=>x==k)=true)
  (h:SW S B R kk {L.purge (fun x=>x==k) with env:=setA (L.purge (fun x=>x==k)).env t (.sl (.own k e z) []),toks:=k::L.toks}):SW S B R kk L:=fun G a w hs=>by
 have hp:=purge_sim hs (fun x=>x==k)
 obtain⟨v,hv,hr⟩:=hs.env t _ ht
 have hstep:TokStep B G (G.setTok k (some none)) w w k:={
  mono:=⟨fun _ _ _ h1 h2=>⟨h1,h2⟩,fun _ _=>rfl,fun _ _ _ h=>h⟩
  beta:=rfl,lab:=rfl,sz:=Nat.le_refl _,os:=rfl,tape:=rfl,out:=rfl,dr:=by first|exact Nat.le_refl _|exact Nat.le_succ _|exact .inr (Nat.le_refl _)|exact .inr (Nat.le_succ _)
  tau:=fun k' hk'=>.inr ⟨by simp[Ghost.setTok,hk'],fun _ _ _ _=>⟨rfl,rfl⟩⟩
  block:=fun _ _=>.inl ⟨rfl,rfl⟩
  new:=fun g e' z' hg=>by simp[Ghost.setTok] at hg
  live:=by simp[Ghost.setTok]}
 have hsim:=tokStep_sim hp hstep hc (tk:=k::L.toks) (fun k' hk'=>by
  by_cases e:k'=k
  ·exact .inl e
  ·rcases List.mem_cons.1 hk' with h|h
   ·exact absurd h e
   ·exact .inr ⟨by simp[Ghost.setTok,e],h⟩)
 refine h _ a w (env_set hsim hv ?_)
 cases hr with
 | @sl _ _ A n c b o s hn hcc hm ht' hA hu hk hst hr =>
  have h0:n=0:=hn
  have hc0:c=0:=by
   rcases htk with rfl|rfl
   ·exact ht'.2.2
   ·have:n=c:=ht'
    omega
  exact .sl (b:=0) (o:=0) (s:=0) hn hcc hm (by simp only[TkOk,Ghost.setTok,if_true];exact⟨h0,hc0⟩) (.inl rfl) (by simp) (by simp[flat]) (by simp[flat]) (by simp[flat])
theorem ret1_own {S:Setup} {L:LS} {t k:Nat} {e:TypeId} {z:Nat} {xs:List D} (h:look L.env t=some (.sl (.own k e z) xs)) (hk:k∈L.toks):Ret1 S [.tmp t] (.sl (.own 0 e z) xs) [] L:=by
 unfold Ret1
 simp only[resY,resYs,resY1,LS.get,h,someK]
 exact⟨k,_,.refl _,hk,fun k' hk'=>by simpa[tupD,D.tks] using hk',rfl,by simp,by simp⟩
theorem sw_nilcase (t:Nat) {tk:Tk} {xs:List D} (ht:look L.env t=some (.sl tk xs)) (h1:xs=[]→SW S B R kk {L with env:=setA L.env t (.sl .nl [])}) (h2:SW S B R kk {L with env:=setA L.env t (.sl .nn xs)}):SW S B R kk L:=fun G a w hs=>by
 obtain⟨v,hv,hr⟩:=hs.env t _ ht
 cases hr with
 | @sl _ _ A n c b o s hn hcc hm ht' hA hu hk hst hr =>
  cases A with
  | none =>
   have hx:xs=[]:=by
    rcases hA with h|h
    ·exact h
    ·cases h
   subst hx
   exact h1 rfl G a w (env_set hs hv (.sl (b:=b) (o:=o) (s:=s) hn hcc hm ⟨rfl,hn⟩ (.inl rfl) hu hk hst hr))
  | some ad=>exact h2 G a w (env_set hs hv (.sl (b:=b) (o:=o) (s:=s) hn hcc hm (by simp[TkOk]) hA hu hk hst hr))
end Go.Lg
/-
  Lg, part 29: labels: new lists are told apart by them.
-/
namespace Go.Lg
open Go Go.RowKit

noncomputable def Ghost.setLab (G:Ghost) (k:Nat) (l:List Nat):Ghost :=
 {G with lab:=fun b=>@ite _ (∃e z,G.τ k=some (some (b,e,z))) (Classical.propDecidable _) l (G.lab b),τ:=fun k'=>if k'=k then none else G.τ k'}
theorem setLab_at {G:Ghost} {k:Nat} {l:List Nat} {b:Nat} (h:∃e z,G.τ k=some (some (b,e,z))):(G.setLab k l).lab b=l:=by simp only[Ghost.setLab];rw[if_pos h]
theorem setLab_off {G:Ghost} {k:Nat} {l:List Nat} {b:Nat} (h:¬ ∃e z,G.τ k=some (some (b,e,z))):(G.setLab k l).lab b=G.lab b:=by simp only[Ghost.setLab];rw[if_neg h]

theorem lab_simW {B:Base} {bx ro:List (Nat×List D)} {tk:List Nat} {G:Ghost} {w:World} (hW:SimW B bx ro tk G w) (k:Nat) {l:List Nat} (_hl:l≠[]) :
  SimW B bx ro (tk.filter fun x=>!(x==k)) (G.setLab k l) w∧Mono G (G.setLab k l) w w∧∀ {d v},Rel G w d v→Rel (G.setLab k l) w d v:=by
 have hmn:Mono G (G.setLab k l) w w:=⟨fun _ _ _ h1 h2=>⟨h1,h2⟩,fun b hb=>setLab_off (by
  rintro⟨e,z,h⟩
  exact hb (hW.tlab k b e z h)),fun _ _ _ h=>h⟩
 have rG:∀ {d v},Rel G w d v→Rel (G.setLab k l) w d v:=fun hr=>hr.mono hmn (fun _ _ _ h=>h) (fun k' _=>by
  by_cases e:k'=k
  ·exact .inl (by simp[Ghost.setLab,e])
  ·exact .inr ⟨by simp[Ghost.setLab,e],fun _ _ _ _=>⟨rfl,rfl⟩⟩)
 have hbox:∀ {g cs},BoxAt G w g cs→BoxAt (G.setLab k l) w g cs:=fun⟨vs,e,e1,e2,e3⟩=>⟨vs,e,e1,e2,fun j d v hd hv=>rG (e3 j d v hd hv)⟩
 have hτ:∀ {k' x},(G.setLab k l).τ k'=some x→k'≠k∧G.τ k'=some x:=fun {k' x} h=>by
  simp only[Ghost.setLab] at h
  split at h
  ·cases h
  ·rename_i hne;exact⟨hne,h⟩
 refine⟨?_,hmn,rG⟩
 exact {
  boxes:=fun id cs h=>by
   obtain⟨g,h1,h2,h3⟩:=hW.boxes id cs h
   exact⟨g,h1,hbox h2,h3⟩
  robs:=fun id cs h=>by
   obtain⟨g,h1,h2,h3⟩:=hW.robs id cs h
   exact⟨g,h1,hbox h2,h3⟩
  toks:=fun k' hk=>by
   simp only[List.mem_filter,Bool.not_eq_true',beq_eq_false_iff_ne] at hk
   obtain⟨x,hx⟩:=hW.toks k' hk.1
   exact⟨x,by simp only[Ghost.setLab];rw[if_neg hk.2];exact hx⟩
  tau:=fun k' g e z h=>hW.tau k' g e z (hτ h).2
  tinj:=fun k1 k2 g e z e' z' h1 h2=>hW.tinj k1 k2 g e z e' z' (hτ h1).2 (hτ h2).2
  binj:=hW.binj
  blt:=hW.blt
  lablt:=fun b hb=>by
   by_cases h:∃e z,G.τ k=some (some (b,e,z))
   ·obtain⟨e,z,h⟩:=h
    obtain⟨_,_,⟨cur,hc,_⟩,_⟩:=hW.tau k b e z h
    exact heap_lt hc
   ·rw[setLab_off h] at hb;exact hW.lablt b hb
  old:=hW.old
  olda:=hW.olda
  oldl:=fun b hlt hb=>by
   have h0:=hW.oldl b hlt hb
   rw[setLab_off (by
    rintro⟨e,z,h⟩
    rw[hW.tlab k b e z h] at h0
    exact hb h0.symm)]
   exact h0
  tlab:=fun k' g e z h=>by
   obtain⟨h1,h2⟩:=hτ h
   rw[setLab_off (by
    rintro⟨e',z',h'⟩
    exact h1 (hW.tinj k' k g e z e' z' h2 h'))]
   exact hW.tlab k' g e z h2
  blab:=fun i g h=>by
   rw[setLab_off (by
    rintro⟨e',z',h'⟩
    exact(hW.tau k g e' z' h').2.2.2 i h)]
   exact hW.blab i g h
  oldu:=fun b hlt hab hb=>by
   rw[setLab_off (by
    rintro⟨e',z',h'⟩
    rcases (hW.tau k b e' z' h').1 with q|q
    ·omega
    ·exact hab q)]
   exact hW.oldu b hlt hab hb
  labw:=fun b hb hor=>by
   by_cases h:∃e z,G.τ k=some (some (b,e,z))
   ·obtain⟨e,z,h⟩:=h
    obtain⟨_,_,⟨cur,hc,_⟩,_⟩:=hW.tau k b e z h
    exact⟨cur,e,hc⟩
   ·rw[setLab_off h] at hb;exact hW.labw b hb hor
  ids:=hW.ids
  sz:=hW.sz
  os:=hW.os
  tape:=hW.tape
  out:=hW.out
  dr:=hW.dr}

theorem lab_rel {B:Base} {bx ro:List (Nat×List D)} {tk:List Nat} {G:Ghost} {w:World} (hW:SimW B bx ro tk G w) {k:Nat} (hk:k∈tk) {l:List Nat} (hl:l≠[]) {e:TypeId} {z:Nat} {xs:List D} {v:Value} (h:Rel G w (.sl (.own k e z) xs) v):Rel (G.setLab k l) w (.sl (.lab l) xs) v:=by
 obtain⟨x,hx⟩:=hW.toks k hk
 have rG:=(lab_simW hW k hl).2.2 h
 cases h with
 | @sl _ _ A n c b o s hn hc hm ht hA hu hkk hst hr =>
  cases rG with
  | @sl _ _ _ _ _ b' o' s' hn' hc' hm' ht' hA' hu' hkk' hst' hr' =>
  refine .sl (b:=b') (o:=o') (s:=s') hn' hc' hm' ?_ hA' hu' hkk' hst' hr'
  simp only[TkOk,hx] at ht
  match x,hx with
  | none,_=>exact .inl (List.length_eq_zero_iff.1 (by rw[←hn];exact ht.1))
  | some (g,e',z'),hx =>
   exact .inr ⟨g,0,ht.2.1,setLab_at ⟨e',z',hx⟩,hl⟩

section
variable {S:Setup} {B:Base} {R:LS→Prop} {kk:List VItem} {L:LS}
theorem sw_lab (t:Nat) (l:List Nat) {k:Nat} {e:TypeId} {z:Nat} {xs:List D} (ht:look L.env t=some (.sl (.own k e z) xs)) (hk:k∈L.toks) (hl:l≠[])
  (h:SW S B R kk {L with env:=setA L.env t (.sl (.lab l) xs),toks:=L.toks.filter fun x=>!(x==k)}):SW S B R kk L:=fun G a w hs=>by
 obtain⟨h1,h2,h3⟩:=lab_simW hs.W k hl
 obtain⟨v,hv,hr⟩:=hs.env t _ ht
 have hs1:Sim B {L with toks:=L.toks.filter fun x=>!(x==k)} (G.setLab k l) a w:=⟨hs.defers,hs.size,fun t' d' hd=>by
  obtain⟨u,q1,q2⟩:=hs.env t' d' hd
  exact⟨u,q1,h3 q2⟩,h1,hs.fixed⟩
 exact h _ a w (env_set hs1 hv (lab_rel hs.W hk hl hr))
end
end Go.Lg
/-
  Lg, part 30: what suffices for a weaker reading, as equations that are reckoned.
-/
namespace Go.Lg
open Go Go.RowKit

mutual
def le0:D→D→Prop
 | .sl _ xs,.sl .any ys=>xs=ys
 | .sl tk xs,.sl tk' ys=>(tk=tk'∨(xs=[]∧∃l,tk'=.lab l))∧xs=ys
 | .int k a,.int k' b=>k=k'∧a=b
 | .bool a,.bool b=>a=b
 | .agg cs,.agg ds=>le0L cs ds
 | .tup cs,.tup ds=>le0L cs ds
 | d,d'=>d=d'
def le0L:List D→List D→Prop
 | [],[]=>True
 | a::as,b::bs=>le0 a b∧le0L as bs
 | _,_=>False
end
mutual
theorem le0_le:∀ {a b:D},le0 a b→D.le a b:=fun {a b} h=>by
 cases a with
 | sl tk xs =>
  cases b with
  | sl tk' ys =>
   cases tk' with
   | any=>simp only[le0] at h;subst h;exact .any
   | lab l =>
    simp only[le0] at h
    obtain⟨h|⟨h,_⟩,rfl⟩:=h
    ·subst h;exact .refl _
    ·subst h;exact .emp
   | _ =>
    simp only[le0] at h
    obtain⟨h|⟨_,l,h⟩,rfl⟩:=h
    ·subst h;exact .refl _
    ·cases h
  | _=>simp only[le0] at h;cases h
 | int k n =>
  cases b with
  | int k' n'=>simp only[le0] at h;obtain⟨rfl,rfl⟩:=h;exact .refl _
  | _=>simp only[le0] at h;cases h
 | bool x =>
  cases b with
  | bool y=>simp only[le0] at h;subst h;exact .refl _
  | _=>simp only[le0] at h;cases h
 | agg cs =>
  cases b with
  | agg ds=>simp only[le0] at h;rw[le_agg];exact le0L_leL h
  | _=>simp only[le0] at h;cases h
 | tup cs =>
  cases b with
  | tup ds=>simp only[le0] at h;rw[le_tup];exact le0L_leL h
  | _=>simp only[le0] at h;cases h
 | _=>cases b<;>simp only[le0] at h<;>first|(cases h;exact .refl _)|(rw[h];exact .refl _)
theorem le0L_leL:∀ {as bs:List D},le0L as bs→leL as bs
 | [],[],_=>trivial
 | a::as,b::bs,h=>by
  simp only[le0L] at h
  exact⟨le0_le h.1,le0L_leL h.2⟩
 | [],_::_,h=>by simp[le0L] at h
 | _::_,[],h=>by simp[le0L] at h
end
theorem le0_any (tk:Tk) (xs ys:List D):le0 (.sl tk xs) (.sl .any ys)=(xs=ys):=by simp[le0]
theorem le0_tk (tk:Tk) (xs ys:List D):le0 (.sl tk xs) (.sl tk ys)=(xs=ys):=by cases tk<;>simp[le0]
theorem le0_own (k k':Nat) (e e':TypeId) (z z':Nat) (xs ys:List D):le0 (.sl (.own k e z) xs) (.sl (.own k' e' z') ys)=((k=k'∧e=e'∧z=z')∧xs=ys):=by simp[le0]
theorem le0_lab (tk:Tk) (l:List Nat):le0 (.sl tk []) (.sl (.lab l) [])=True:=by simp[le0]
theorem le0_int (k:IntKind) (a b:Int):le0 (.int k a) (.int k b)=(a=b):=by simp[le0]
theorem le0_bool (a b:Bool):le0 (.bool a) (.bool b)=(a=b):=by simp[le0]
theorem le0_agg (cs ds:List D):le0 (.agg cs) (.agg ds)=le0L cs ds:=by simp[le0]
theorem le0_tup (cs ds:List D):le0 (.tup cs) (.tup ds)=le0L cs ds:=by simp[le0]
theorem le0L_nil:le0L [] []=True:=by simp[le0L]
theorem le0L_cons (a b:D) (as bs:List D):le0L (a::as) (b::bs)=(le0 a b∧le0L as bs):=by simp[le0L]
mutual
theorem le0_refl:∀d:D,le0 d d:=fun d=>by
 cases d with
 | sl tk xs=>cases tk<;>simp[le0]
 | agg cs=>simp only[le0];exact le0L_refl cs
 | tup cs=>simp only[le0];exact le0L_refl cs
 | _=>simp[le0]
theorem le0L_refl:∀l:List D,le0L l l
 | []=>by simp[le0L]
 | d::l=>by simp only[le0L];exact⟨le0_refl d,le0L_refl l⟩
end
theorem le0_self (d:D):le0 d d=True:=eq_true (le0_refl d)

def envLe0 (env:List (Nat×D)):List (Nat×D)→Prop
 | []=>True
 | (t,d)::r=>(someK (look env t) fun d'=>le0 d' d)∧envLe0 env r
theorem envLe0_nil (env:List (Nat×D)):envLe0 env []=True:=rfl
theorem envLe0_cons (env:List (Nat×D)) (t:Nat) (d:D) (r:List (Nat×D)):envLe0 env ((t,d)::r)=((someK (look env t) fun d'=>le0 d' d)∧envLe0 env r):=rfl
theorem envLe0_envLe {env:List (Nat×D)}:∀ {r:List (Nat×D)},envLe0 env r→envLe env r
 | [],_=>trivial
 | (t,d)::r,h=>by
  obtain⟨h1,h2⟩:=h
  obtain⟨d',hd,hle⟩:=someK_get h1
  exact⟨by rw[hd];exact le0_le hle,envLe0_envLe h2⟩
theorem covers_mk0 {L L':LS} (h1:L'.n=L.n) (h2:L'.fix=L.fix) (h3:envLe0 L.env L'.env) (h4:boxLe L.boxes L'.boxes) (h5:boxLe L.ro L'.ro) (h6:∀k∈L'.toks,k∈L.toks):L.covers L' :=
 covers_mk h1 h2 (envLe0_envLe h3) h4 h5 h6
theorem resYs_mono {S:Setup} {L:LS}:∀ {rs:List ResultVar} {K K':List D→Prop},resYs S L rs K→(∀ds,K ds→K' ds)→resYs S L rs K'
 | [],_,_,h,hK=>hK _ h
 | .tmp t::rs,K,K',h,hK=>by
  obtain⟨d,hd,h⟩:=someK_get h
  show someK (L.get t) _
  rw[hd]
  exact resYs_mono h fun ds hds=>hK _ hds
 | .cell c ty::rs,K,K',h,hK=>by
  obtain⟨d,hd,h⟩:=someK_get h
  show someK (L.get c) _
  rw[hd]
  clear hd
  cases d with
  | box id off =>
   simp only[someK_some,loadY,cellsY] at h ⊢
   obtain⟨cs,h1,h⟩:=someK_get h
   rw[h1]
   obtain⟨i,h2,h⟩:=someK_get h
   show someK (S.tab ty) _
   rw[h2]
   simp only[someK] at h ⊢
   split
   ·rename_i ha
    rw[if_pos ha] at h
    exact⟨h.1,resYs_mono h.2 fun ds hds=>hK _ hds⟩
   ·rename_i ha
    rw[if_neg ha] at h
    obtain⟨d,h3,h⟩:=someK_get h
    rw[h3]
    exact resYs_mono h fun ds hds=>hK _ hds
  | _=>exact h.elim
def Ret0 (S:Setup) (rs:List ResultVar) (d:D) (bx':List (Nat×List D)) (L:LS):Prop:=resY S L rs fun d0=>le0 d0 d∧boxLe L.boxes bx'
theorem ret0 {S:Setup} {rs:List ResultVar} {d:D} {bx':List (Nat×List D)} {L:LS} (h:Ret0 S rs d bx' L):Ret S rs d bx' L:=by
 rw[Ret_def]
 exact resYs_mono h fun ds hds=>⟨le0_le hds.1,hds.2⟩
theorem map_int_inj (xs ys:List Int):(xs.map (D.int .i64)=ys.map (D.int .i64))=(xs=ys):=propext (List.map_inj_right fun x y h=>by cases h;rfl)
theorem app_int (xs:List Int) (n:Int):xs.map (D.int .i64)++[.int .i64 n]=(xs++[n]).map (.int .i64):=by simp
end Go.Lg
/-
  Lg, part 27: the equations by which a state is reckoned, as one set.
-/
namespace Go.Lg
open Go Go.RowKit
attribute [go_sem] runL_nil runL_call runL_move runL_assign runL_pick runL_load runL_nilCheck runL_binOp runL_unOp runL_convert runL_makeFunc runL_fieldAddr runL_field runL_indexAddr runL_index runL_slice runL_build runL_buildSlice runL_extract runL_len runL_min runL_max runL_box runL_alloc runL_store runL_makeSlice runL_append runQ_nil runQ_call runQ_alloc runQ_store runQ_move runQ_assign runQ_pick runQ_load runQ_nilCheck runQ_binOp runQ_unOp runQ_convert runQ_makeFunc runQ_fieldAddr runQ_field runQ_indexAddr runQ_index runQ_slice runQ_build runQ_buildSlice runQ_extract runQ_makeSlice runQ_len runQ_min runQ_max runQ_append nextQ_some nextQ_none runQG_t runQG_f runQ_g_move runQ_g_assign runQ_g_pick runQ_g_build runQ_g_buildSlice runQ_g_load runQ_g_nilCheck runQ_g_binOp runQ_g_unOp runQ_g_convert runQ_g_makeFunc runQ_g_makeSlice runQ_g_slice runQ_g_fieldAddr runQ_g_field runQ_g_indexAddr runQ_g_index runQ_g_extract runQ_g_call nextL_some nextL_none evalO_tmp evalO_const evalO_func constD_int constD_bool constD_str constD_nil constD_ptr guardY_none guardY_some guardT_tt guardT_tf guardT_ft guardT_ff guardT_undef guardT_undef' runG_t runG_f runL_g_move runL_g_assign runL_g_pick runL_g_alloc runL_g_box runL_g_build runL_g_buildSlice runL_g_load runL_g_store runL_g_nilCheck runL_g_binOp runL_g_unOp runL_g_convert runL_g_makeFunc runL_g_makeSlice runL_g_slice runL_g_fieldAddr runL_g_field runL_g_indexAddr runL_g_index runL_g_extract runL_g_call pickY_t pickY_f someK_some someK_none LS.put LS.putO LS.get LS.getBox LS.keep LS.keepAt keepK setA Lg.look mapO zipO enumD dstOk binY_int intYY_add intYY_sub intYY_mul intYY_quo intYY_rem intYY_eql intYY_neq intYY_lss intYY_leq intYY_gtr intYY_geq intYY_and intYY_or intYY_xor intYY_andNot intYY_shl intYY_shr intY_and intY_or intY_xor intY_andNot binY_bool binY_str binY_nil intY_add intY_sub intY_mul intY_quo intY_rem intY_eql intY_neq intY_lss intY_leq intY_gtr intY_geq strY_eql strY_neq strY_lss strY_add boolY_eql boolY_neq nilY_eql_nil nilY_neq_nil nilY_eql_nl nilY_neq_nl nilY_eql_nn nilY_neq_nn nilY_eql_any nilY_neq_any unY_not unY_neg convK_int convY_int loadY_imm loadY_box cellsY_eq cellsK_int cellsK_bool cellsK_string cellsK_slice cellsK_array exists_tkslice cellsK_other cellsK_struct faK_imm faK_box faKK_struct fieldAddrY_eq fdKK_struct fieldY_eq iaKK_sl iaKK_abox iaKK_aimm iaKK_ms indexAddrY_eq ixKK_str indexY_eq lenKK_sl lenKK_ms lenKK_str lenY_eq slK_sl slK_sl3 slK_ms slK_str sliceY_eq mqKK_int makeQ_eq strip1 buildKK_array buildKK_struct buildY_eq bsKK_slice buildSliceY_eq nilcY_box nilcY_imm nilcY_fn mkFn_nil mkFn_one extrY_tup storeY_box mkK_same mkK_diff makeY_int apK_slice appendY_sl appQ_full buildP minD maxD intOfD appendable killed putC_one putC_more putCells_zero putCells_succ TyI.size D.cells D.strip strip1 D.one D.memOk ZK.d sameOp LS.newBox LS.forget keepA eraseK LS.thawed noId noIdL D.ids D.idsL D.tks D.tksL LS.purge LS.clean mapA D.pu D.pu1 flat List.length_cons List.length_nil List.map_cons List.map_nil List.getElem?_cons_zero List.getElem?_cons_succ List.head?_cons List.drop_zero List.drop_succ_cons List.drop_nil List.take_succ_cons List.take_zero List.take_nil List.contains_nil List.contains_cons List.elem_cons List.elem_nil List.append_nil List.nil_append List.cons_append List.all_cons List.all_nil List.set_cons_zero List.set_cons_succ List.not_mem_nil List.mem_cons List.getElem?_toArray Option.bind_some Option.bind_none Option.isSome_some Option.isSome_none Option.map_some Option.map_none Option.some.injEq Bool.or_false Bool.or_true Bool.false_or Bool.true_or Bool.not_true Bool.not_false Bool.and_true Bool.true_and Bool.and_false Bool.false_and true_and and_true and_self false_and not_false_eq_true not_true_eq_false beq_self_eq_true ne_eq if_true if_false Nat.zero_add Nat.add_zero List.getD_cons_zero List.getD_cons_succ Nat.succ_ne_zero decide_true decide_false map_getDm wrap64m wrapU64m int_toNat toNat_sub1 toNat_add1 fillL_length Nat.mul_one Int.one_mul List.length_map Int.natCast_nonneg LS.upd_mk LS.updT_mk setAs_nil setAs_cons fillF_len2 fillF_len3 fillF_len4 fillF_len5 fillF_len6 fillF_len7 fillF_len8 decide_eq_true_eq decide_eq_false_iff_not bne_iff_ne beq_iff_eq beq_eq_false_iff_ne bne_eq_false_iff_eq Bool.not_eq_true' Bool.not_eq_false' Int.not_lt Int.not_le Decidable.not_not tst_iff tst_not Bool.not_eq_eq_eq_not Int.ofNat_inj envLe_nil envLe_cons boxLe_nil boxLe_cons le_self le_int le_bool le_any forall_const implies_true false_implies setAs csum_zero resY resYs resY1 tupD true_eq_tst false_eq_tst tst_eq_tst decide_eq_tst beq_eq_tst bne_eq_tst nott_eq_tst notd_eq_tst tst_eq_nott decide_eq_nott Ret_def or_false or_true false_or true_or forall_eq_or_imp forall_eq List.range_zero Option.getD_none Option.getD_some List.mem_map forall_exists_index and_imp forall_apply_eq_imp_iff₂ Int.toNat_zero take_mapr drop_mapr append_mapr le0_any le0_tk le0_own le0_lab le0_int le0_bool le0_agg le0_tup le0L_nil le0L_cons le0_self envLe0_nil envLe0_cons Ret0 map_int_inj app_int List.take_length List.forall_mem_append Int.add_sub_cancel leL_nil leL_cons leL_self le_agg le_tup List.cons.injEq D.int.injEq head_mapdrop set_map_int getD_set_self List.length_set LS.after eraseKs D.shT D.shTL List.filter_nil inTok
attribute [go_sem_proc] Nat.reduceAdd Nat.reduceMul Nat.reduceLT Nat.reduceLeDiff Nat.reduceEqDiff Nat.reduceBEq Nat.reduceSub reduceCtorEq
attribute [go_sem_proc ↓] reduceIte
end Go.Lg
/-
  Lg, part 44: a token gets another name.
-/
namespace Go.Lg
open Go Go.RowKit
variable {S:Setup} {B:Base} {R:LS→Prop} {kk:List VItem} {L:LS}

def renF (k k' j:Nat):Nat:=if j=k then k' else j
def LS.ren (L:LS) (k k':Nat):LS :=
 {L with env:=mapA (D.mT (renF k k')) L.env,boxes:=mapA (D.mTL (renF k k')) L.boxes,ro:=mapA (D.mTL (renF k k')) L.ro,toks:=k'::L.toks.filter fun x=>!(x==k)}
theorem sw_ren (k k':Nat) (hk:k∈L.toks) (hc:L.clean (fun x=>x==k')=true) (h:SW S B R kk (L.ren k k')):SW S B R kk L:=fun G a w hs=>by
 let G':Ghost:={G with τ:=fun j=>if j=k' then G.τ k else if j=k then none else G.τ j}
 have hm:∀ {d v},(∀j∈d.tks,j≠k')→Rel G w d v→Rel G' w (d.mT (renF k k')) v:=fun hn hr =>
  Rel.mapT (G:=G) (G':=G') rfl rfl rfl _ hr fun j hj=>by
   have:=hn j hj
   by_cases e:j=k
   ·subst e;simp[G',renF]
   ·simp[G',renF,e,this]
 have hne:∀ {j:Nat},(j==k')=false→j≠k':=fun h=>by simpa using h
 have hbox:∀ {g cs},(∀d∈cs,∀j∈d.tks,(j==k')=false)→BoxAt G w g cs→BoxAt G' w g (D.mTL (renF k k') cs):=fun {g cs} hn ⟨vs,e,e1,e2,e3⟩=>by
  refine⟨vs,e,e1,by rw[mTL_map,List.length_map];exact e2,fun j d v hd hv=>?_⟩
  rw[mTL_map,List.getElem?_map,Option.map_eq_some_iff] at hd
  obtain⟨d0,hd,rfl⟩:=hd
  exact hm (fun i hi=>hne (hn d0 (List.mem_of_getElem? hd) i hi)) (e3 j d0 v hd hv)
 have inv:∀ {j x},G'.τ j=some x→(j=k'∧G.τ k=some x)∨(j≠k'∧j≠k∧G.τ j=some x):=fun {j x} hj=>by
  simp only[G'] at hj
  split at hj
  ·exact .inl ⟨by assumption,hj⟩
  ·split at hj
   ·cases hj
   ·exact .inr ⟨by assumption,by assumption,hj⟩
 have hW:=hs.W
 refine h G' a w ⟨hs.defers,hs.size,fun t d hd=>?_,?_,hs.fixed⟩
 ·simp only[LS.ren,look_mapA,Option.map_eq_some_iff] at hd
  obtain⟨d0,hd,rfl⟩:=hd
  obtain⟨v,h1,h2⟩:=hs.env t d0 hd
  exact⟨v,h1,hm (fun j hj=>hne (clean_env hc hd hj)) h2⟩
 ·exact {
   boxes:=fun id cs hl=>by
    simp only[LS.ren,look_mapA,Option.map_eq_some_iff] at hl
    obtain⟨cs0,hl,rfl⟩:=hl
    obtain⟨g,q1,q2,q3⟩:=hW.boxes id cs0 hl
    exact⟨g,q1,hbox (fun d hd j hj=>clean_box hc hl hd hj) q2,q3⟩
   robs:=fun id cs hl=>by
    simp only[LS.ren,look_mapA,Option.map_eq_some_iff] at hl
    obtain⟨cs0,hl,rfl⟩:=hl
    obtain⟨g,q1,q2,q3⟩:=hW.robs id cs0 hl
    exact⟨g,q1,hbox (fun d hd j hj=>clean_ro hc hl hd hj) q2,q3⟩
   toks:=fun j hj=>by
    simp only[LS.ren,List.mem_cons,List.mem_filter] at hj
    by_cases e:j=k'
    ·obtain⟨x,hx⟩:=hW.toks k hk
     exact⟨x,by simp only[G'];rw[if_pos e];exact hx⟩
    ·rcases hj with hj|⟨hj,hjk⟩
     ·exact absurd hj e
     ·obtain⟨x,hx⟩:=hW.toks j hj
      exact⟨x,by simp only[G'];rw[if_neg e,if_neg (by simpa using hjk)];exact hx⟩
   tau:=fun j g e z hj=>by
    rcases inv hj with⟨_,h1⟩|⟨_,_,h1⟩
    ·exact hW.tau _ g e z h1
    ·exact hW.tau _ g e z h1
   tinj:=fun j j' g e z e' z' hj hj'=>by
    rcases inv hj with⟨a1,h1⟩|⟨a1,b1,h1⟩<;>rcases inv hj' with⟨a2,h2⟩|⟨a2,b2,h2⟩
    ·rw[a1,a2]
    ·exact absurd (hW.tinj _ _ g e z e' z' h1 h2).symm b2
    ·exact absurd (hW.tinj _ _ g e z e' z' h1 h2) b1
    ·exact hW.tinj _ _ g e z e' z' h1 h2
   binj:=hW.binj
   blt:=hW.blt
   lablt:=hW.lablt
   old:=hW.old
   olda:=hW.olda
   oldl:=hW.oldl
   tlab:=fun j g e z hj=>by
    rcases inv hj with⟨_,h1⟩|⟨_,_,h1⟩
    ·exact hW.tlab _ g e z h1
    ·exact hW.tlab _ g e z h1
   blab:=hW.blab
   oldu:=hW.oldu
   labw:=hW.labw
   ids:=hW.ids
   sz:=hW.sz
   os:=hW.os
   tape:=hW.tape
   out:=hW.out
   dr:=hW.dr}
theorem sw_renC (k k':Nat) (hk:L.toks.contains k=true) (hc:L.clean (fun x=>x==k')=true) (h:SW S B R kk (L.ren k k')):SW S B R kk L:=sw_ren k k' (by simpa using hk) hc h
attribute [go_sem] LS.ren renF D.mT D.mTL
end Go.Lg
