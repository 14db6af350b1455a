/-
  Lg: LgSortB, LgSortC, one behind the other.
-/
import Derived.Test.YtkfkdgginfpdnaaGreatDoorLgK7
import Derived.Shelf.GgSortFunc.Insertion
import Derived.Sort.Statements
/-
  Lg: slices.SortFunc of a list of lists in a box: the contract, out of what the kit says of the sort (handed in).
-/
namespace Go.Lg
open Go Go.RowKit Go.Proofs
theorem sortWorld_heap {α:Type} [Inhabited α] (enc:α→Value) (w:World) (blk m:Nat) (dk:Array α) (os:Array Obj):(sortWorld enc w blk 0 m dk os).heap.size=w.heap.size+os.size ∧
  (∀b,b<w.heap.size→b≠blk→(sortWorld enc w blk 0 m dk os).heap[b]?=w.heap[b]?) ∧
  (∀vs e fr,blk<w.heap.size→w.heap[blk]?=some (.cells vs e fr)→(sortWorld enc w blk 0 m dk os).heap[blk]?=some (.cells (Go.Sort.putCells enc 0 dk vs) e fr)):=by
 have e0:(sortWorld enc w blk 0 m dk os).heap=w.heap.modify blk (Go.Sort.onCells (Go.Sort.putCells enc 0 dk))++os:=rfl
 rw[e0]
 refine⟨by simp,fun b hb hne=>?_,fun vs e fr hb hc=>?_⟩
 ·rw[Array.getElem?_append_left (by simpa using hb),Array.getElem?_modify,if_neg (fun e=>hne e.symm)]
 ·rw[Array.getElem?_append_left (by simpa using hb),Array.getElem?_modify,if_pos rfl,hc];rfl
abbrev intsD (x:List Int):D:=.sl .any (x.map (.int .i64))
end Go.Lg
/-
  Lg: slices.SortFunc of an own list of lists of numbers: what is kept of the state must be seen not to read that list.
-/
namespace Go.Lg
open Go Go.RowKit Go.Proofs
def Srt (k:Nat) (e:TypeId) (tk:List Nat) (ps qs:List (Tk×List Int)) (d d':D):Prop :=
 (d.safe k tk=true∧d'=d)∨(d=.sl (.own k e 1) (ps.map intsT)∧d'=.sl (.own k e 1) (qs.map intsT))
theorem intsT_any (p:Tk×List Int):D.le (intsT p) (intsD p.2):=.any
structure SortKit (P:Program) (fs g:FuncId):Prop where
 kit:∀ {α:Type} [Inhabited α] (enc:α→Value) (_:∀x,(enc x).oneCell'=true) (cf':α→α→Int) (_:∀x y,cf' x y=cf' x y) (_:(∀x,¬cf' x x<0)∧(∀x y z,cf' x y<0→cf' y z<0→cf' x z<0)∧(∀x y z,¬cf' x y<0→¬cf' y z<0→¬cf' x z<0)) (blk cap:Nat) (d:Array α) (w:World)
   (_:∀(m:Nat) (os:Array Obj) (dk:Array α),dk.size=d.size→∀x y:α,Calls P g (#[enc x,enc y]++#[]) (sortWorld enc w blk 0 m dk os) fun e w'=>e=.returned (.int .i64 (cf' x y))∧∃q os',w'=Go.Sort.grow ((sortWorld enc w blk 0 m dk os).drewN q) os')
   (_:Go.Sort.Holds enc w blk 0 d) (_:blk<w.heap.size) (_:d.size<4611686018427387904),
   Calls P fs #[.slice (some ⟨blk,0,none⟩) d.size cap,.func (.func g) #[] #[]] w fun e w'=>e=.returned (.tuple #[])∧∃d' n os,Go.Sort.PermIn 0 d.size d d'∧(∀i j,i<j→j<d.size→¬cf' d'[j]! d'[i]!<0)∧w'=sortWorld enc w blk 0 n d' os
 none:∀p cap w,Calls P fs #[.slice p 0 cap,.func (.func g) #[] #[]] w fun e w'=>e=.returned (.tuple #[])∧w'=w
theorem sortOwn_sound {S:Setup} {B:Base} {L:LS} {G:Ghost} {a:Act} {w:World} (hs:Sim B L G a w) {fs g:FuncId} (hkit:SortKit S.P fs g) (cf:List Int→List Int→Int) (Pr:List Int→Prop)
  (hcmp:∀x y:List Int,Pr x→Pr y→FC S g [] [] [] [intsD x,intsD y] (.int .i64 (cf x y)) [] [])
  (hO:(∀x,¬cf x x<0)∧(∀x y z,cf x y<0→cf y z<0→cf x z<0)∧(∀x y z,¬cf x y<0→¬cf y z<0→¬cf x z<0))
  (hB:∀b,¬B.ab b) {k:Nat} {e:TypeId} (hk:k∈L.toks) {ps:List (Tk×List Int)} (hp:∀p∈ps,Pr p.2∧(intsT p).memOk=true) (hlen:ps.length≤100000) {v:Value} (hv:Rel G w (.sl (.own k e 1) (ps.map intsT)) v) :
  Calls S.P fs #[v,.func (.func g) #[] #[]] w fun e' w'=>e'=.returned (.tuple #[])∧∃qs:List (Tk×List Int),qs.Perm ps∧qs.Pairwise (fun a b=>¬cf b.2 a.2<0) ∧
   SimW B [] [] L.toks G w'∧(∀(g':Nat) (cs cs':List D),BoxAt G w g' cs→(∃i,G.β i=some g')→cs'.length≤cs.length→(∀(j:Nat) (d':D),cs'[j]?=some d'→∃d,cs[j]?=some d∧Srt k e L.toks ps qs d d')→BoxAt G w' g' cs') ∧
   ∀d d' u,Srt k e L.toks ps qs d d'→Rel G w d u→Rel G w' d' u:=by
 have hW:=hs.W
 obtain⟨x,hx⟩:=hW.toks k hk
 have hrel0:=hv
 cases hv with
 | @sl _ _ A n c b o s hn hc hm ht hA hu hmem hst hr =>
 simp only[TkOk,hx] at ht
 have hnl:n=ps.length:=by simpa using hn
 rcases Nat.eq_zero_or_pos ps.length with h0|h0
 ·-- nothing to sort
  obtain rfl:ps=[]:=List.length_eq_zero_iff.1 h0
  obtain rfl:n=0:=hnl
  refine(hkit.none _ _ w).mono ?_
  rintro e' w' ⟨rfl,rfl⟩
  have hR:∀d d' u,Srt k e L.toks [] [] d d'→Rel G w' d u→Rel G w' d' u:=fun d d' u hd hr=>by
   rcases hd with⟨_,rfl⟩|⟨rfl,rfl⟩<;>exact hr
  refine⟨rfl,[],.nil,.nil,{hW with boxes:=fun id cs h=>(by cases h),robs:=fun id cs h=>(by cases h)},fun g' cs cs' ⟨vs,e0,h1,h2,h3⟩ _ hl hc=>⟨vs,e0,h1,by omega,fun j d v hd hv=>?_⟩,hR⟩
  obtain⟨d0,hd0,hd1⟩:=hc j d hd
  exact hR _ _ _ hd1 (h3 j d0 v hd0 hv)
 ·have hne:ps≠[]:=by rintro rfl;exact absurd h0 (by simp)
  match x,hx,ht with
  | none,hx,ht=>omega
  | some (gb,e2,z2),hx,ht =>
  obtain⟨⟨rfl,rfl⟩,rfl,h3,h4,h5⟩:=ht
  obtain⟨rfl,rfl⟩:b=gb∧o=0:=by
   rcases hA with hA|hA
   ·exact absurd (List.map_eq_nil_iff.1 hA) hne
   ·simp only[Option.some.injEq,Addr.mk.injEq] at hA;exact⟨hA.1.symm,hA.2.1.symm⟩
  obtain⟨t1,t2,⟨cur,t3,t4⟩,t5⟩:=hW.tau k b e2 1 hx
  have hbl:b<w.heap.size:=heap_lt t3
  have hnew:B.w.heap.size≤b:=t1.resolve_right (hB b)
  rw[flat_intsT] at hmem hst hr
  have hlim:G.lim b=ps.length:=by omega
  have hsize:∀j,j<ps.length→j<cur.size:=fun j hj=>by omega
  have hcell:∀j,w.cell? ⟨b,j,none⟩=cur[j]?:=fun j=>by simp[World.cell?,t3]
  have hsl:∀o v,o<G.lim b→w.cell? ⟨b,o,none⟩=some v→∃A n c,v=.slice A n c:=fun o v ho hv=>by
   have hj:o<ps.length:=by omega
   have:=hr o (intsT ps[o]) v (by simp[hj]) (by rw[Nat.zero_add];exact hv)
   cases this;exact⟨_,_,_,rfl⟩
  have hide:∀ {d v},d.safe k L.toks=true→Rel G w d v→Rel (G.hide b) w d v:=fun {d v} hd hr=>safe_hide hW.toks (fun k' e z h=>hW.tinj k' k b e z e2 1 h hx) (hW.tlab k b e2 1 hx) hsl hr hd
  have psafe:∀p∈ps,(intsT p).safe k L.toks=true:=fun p hpm=>by
   have hm:=(hp p hpm).2
   have h1:=scaL_ints p.2 .i64
   have h2:D.safeL k L.toks (p.2.map (.int .i64))=true:=safeL_of fun d hd=>by obtain⟨x,_,rfl⟩:=List.mem_map.1 hd;rfl
   obtain⟨tk0,xs⟩:=p
   cases tk0<;>first|(simp[D.memOk] at hm;done)|(simp only[D.safe];first|exact h1|exact h2)
  let α:Type:={p:Value×(Tk×List Int) // Rel (G.hide b) w (intsT p.2) p.1∧Pr p.2.2∧(intsT p.2).memOk=true∧(intsT p.2).safe k L.toks=true}
  let mk:(j:Nat)→j<ps.length→α:=fun j hj=>⟨(cur[j]'(hsize j hj),ps[j]),hide (psafe _ (List.getElem_mem hj)) (hr j _ _ (by simp[hj]) (by rw[Nat.zero_add,hcell];simp[hsize j hj])),(hp _ (List.getElem_mem hj)).1,(hp _ (List.getElem_mem hj)).2,psafe _ (List.getElem_mem hj)⟩
  haveI:Inhabited α:=⟨mk 0 h0⟩
  let enc:α→Value:=fun p=>p.1.1
  let d:Array α:=Array.ofFn fun j:Fin ps.length=>mk j.1 j.2
  have hd:d.size=ps.length:=by simp[d]
  have hdg:∀(j:Nat) (hj:j<ps.length),d[j]! = mk j hj:=fun j hj=>by
   rw[getElem!_pos d j (by omega)];simp[d]
  have hone:∀x,(enc x).oneCell'=true:=fun x=>x.2.1.one rfl
  have stay:∀(m:Nat) (dk:Array α) (os:Array Obj) {d v},Rel (G.hide b) w d v→Rel (G.hide b) (sortWorld enc w b 0 m dk os) d v:=fun m dk os {d v} h=>by
   have hh:=sortWorld_heap enc w b m dk os
   have hbe:∀b',b'<w.heap.size→b'≠b→(sortWorld enc w b 0 m dk os).heap[b']?=w.heap[b']?:=hh.2.1
   refine h.mono ⟨fun b' o v h1 h2=>⟨h1,?_⟩,fun _ _=>rfl,fun b' es c hm=>(hbe b' (heap_lt hm) (fun e=>by subst e;rw[t3] at hm;cases hm)).trans hm⟩ (fun _ _ _ h=>h) (fun k' _=>?_)
   ·have hne:b'≠b:=fun e=>by subst e;simp[Ghost.hide] at h1
    rw[cell_of_heap (hbe b' (cell_lt h2) hne)];exact h2
   ·refine .inr ⟨rfl,fun g' e' z' hg=>⟨rfl,?_⟩⟩
    have hg0:G.τ k'=some (some (g',e',z')):=hg
    obtain⟨_,_,⟨cur',hc',_⟩,_⟩:=hW.tau k' g' e' z' hg0
    by_cases e:g'=b
    ·subst e
     have:=hh.2.2 _ _ _ hbl t3
     unfold World.shape?
     rw[this,t3]
     simp[Go.Sort.putCells]
    ·exact shape_of_heap (hbe g' (heap_lt hc') e)
  have hkk:=hkit.kit enc hone (fun x y=>cf x.1.2.2 y.1.2.2) (fun _ _=>rfl) ⟨fun x=>hO.1 _,fun x y z=>hO.2.1 _ _ _,fun x y z=>hO.2.2 _ _ _⟩ b c d w
   (fun m os dk hdk x y=>by
    have hG:GOk (G.hide b) (sortWorld enc w b 0 m dk os):=⟨hW.binj,fun i g hg=>by rw[(sortWorld_heap enc w b m dk os).1];have:=hW.blt i g hg;omega,fun b' hb=>by rw[(sortWorld_heap enc w b m dk os).1];have:=hW.lablt b' hb;omega,hW.blab⟩
    refine(fc_pure (hcmp x.1.2.2 y.1.2.2 x.2.2.1 y.2.2.1) hG (vals:=#[enc x,enc y]++#[]) rfl (fun j d v hj hv=>?_)).mono ?_
    ·match j with
     | 0=>obtain rfl:=Option.some.inj hj;obtain rfl:=Option.some.inj hv;exact(stay m dk os x.2.1).le (intsT_any _)
     | 1=>obtain rfl:=Option.some.inj hj;obtain rfl:=Option.some.inj hv;exact(stay m dk os y.2.1).le (intsT_any _)
     | j+2=>simp at hj
    ·rintro e' w' ⟨v,G',rfl,hr,hg⟩
     cases hr
     exact⟨rfl,hg⟩)
   (fun j hj=>by
    have hj':j<ps.length:=by omega
    rw[hdg j hj',Nat.zero_add]
    constructor
    ·unfold World.cell?
     simp[t3,hsize j hj',enc,mk]
    ·unfold World.frozen?
     simp[t3])
   hbl (by omega)
  rw[hd] at hkk
  rw[hnl]
  refine hkk.mono ?_
  rintro e' w' ⟨rfl,d',m,os,hperm,hsrt,rfl⟩
  obtain⟨hps,_,hpp⟩:=hperm
  have hd'n:d'.size=ps.length:=hps.trans hd
  obtain⟨q1,q2,q3⟩:=sortWorld_heap enc w b m d' os
  have hqc:=q3 _ _ _ hbl t3
  have hback:∀ {d v},d.safe k L.toks=true→Rel (G.hide b) (sortWorld enc w b 0 m d' os) d v→Rel G (sortWorld enc w b 0 m d' os) d v:=fun {d v} hsf h=>by
   refine h.mono (show Mono (G.hide b) G (sortWorld enc w b 0 m d' os) (sortWorld enc w b 0 m d' os) from⟨fun b' o v h1 h2=>⟨?_,h2⟩,fun _ _=>rfl,fun _ _ _ h=>h⟩) (fun _ _ _ h=>h) (fun k' hk'=>?_)
   ·simp only[Ghost.hide] at h1
    split at h1
    ·omega
    ·exact h1
   ·refine .inr ⟨rfl,fun g' e' z' hg=>⟨?_,rfl⟩⟩
    have hg0:G.τ k'=some (some (g',e',z')):=hg
    simp only[Ghost.hide]
    rw[if_neg]
    rintro rfl
    exact safe_tks _ hsf k' hk' (hW.tinj k' k g' e' z' e2 1 hg0 hx)
  have keep:∀ {d v},d.safe k L.toks=true→Rel G w d v→Rel G (sortWorld enc w b 0 m d' os) d v:=fun hsf h=>hback hsf (stay m d' os (hide hsf h))
  let qs:List (Tk×List Int):=d'.toList.map fun p=>p.1.2
  have hql:qs.length=ps.length:=by simp[qs,hd'n]
  have hperm2:qs.Perm ps:=by
   have e1:(d'.extract 0 ps.length).toList=d'.toList:=by rw[←hd'n];simp
   have e2:(d.extract 0 ps.length).toList=d.toList:=by rw[←hd];simp
   rw[e1,e2] at hpp
   have:=hpp.map fun p=>p.1.2
   refine this.trans (List.Perm.of_eq ?_)
   refine List.ext_getElem (by simp[hd]) fun j h1 h2=>?_
   simp[d,mk]
  have hpw:qs.Pairwise (fun a b=>¬cf b.2 a.2<0):=by
   simp only[qs]
   rw[List.pairwise_map,List.pairwise_iff_getElem]
   intro i j hi hj hij
   have:=hsrt i j hij (by simp at hj;omega)
   simp only[Array.length_toList] at hi hj
   rw[getElem!_pos d' j hj,getElem!_pos d' i hi] at this
   simpa using this
  have hqcell:∀(j:Nat) (p:Tk×List Int) v,qs[j]?=some p→(sortWorld enc w b 0 m d' os).cell? ⟨b,j,none⟩=some v→Rel G (sortWorld enc w b 0 m d' os) (intsT p) v:=fun j p v hj hv=>by
   simp only[qs,List.getElem?_map] at hj
   obtain⟨pp,hpj,rfl⟩:=Option.map_eq_some_iff.1 hj
   have hjl:j<d'.size:=by have:=(List.getElem?_eq_some_iff.1 hpj).1;simpa using this
   have e3:d'[j]! = pp:=by
    rw[getElem!_pos d' j hjl]
    simpa[hjl] using hpj
   unfold World.cell? at hv
   simp only[hqc,Go.Sort.putCells,Array.getElem?_mapIdx] at hv
   rw[Array.getElem?_eq_getElem (hsize j (by omega))] at hv
   simp only[Option.map_some,Nat.zero_le,true_and,Nat.zero_add,Nat.sub_zero,if_pos hjl,e3,Option.isSome_none,Bool.false_eq_true,if_false,Option.some.injEq] at hv
   subst hv
   exact hback pp.2.2.2.2 (stay m d' os pp.2.1)
  have hqex:∀j,j<ps.length→∃v,(sortWorld enc w b 0 m d' os).cell? ⟨b,j,none⟩=some v:=fun j hj=>by
   unfold World.cell?
   simp only[hqc]
   exact⟨_,Array.getElem?_eq_getElem (by simp[Go.Sort.putCells];exact hsize j hj)⟩
  have hqm:∀p∈qs,(intsT p).memOk=true:=fun p hpq=>(hp p (hperm2.mem_iff.1 hpq)).2
  have hR:∀d0 d1 u,Srt k e2 L.toks ps qs d0 d1→Rel G w d0 u→Rel G (sortWorld enc w b 0 m d' os) d1 u:=fun d0 d1 u hd0 hr0=>by
   rcases hd0 with⟨hsf,rfl⟩|⟨rfl,rfl⟩
   ·exact keep hsf hr0
   ·cases hr0 with
    | @sl _ _ A1 n1 c1 b1 o1 s1 hn1 hc1 hm1 ht1 hA1 hu1 hk1 hst1 hr1 =>
    simp only[TkOk,hx] at ht1
    obtain⟨_,rfl,w3,w4,w5⟩:=ht1
    have hn1':n1=ps.length:=by simpa using hn1
    refine .sl (b:=b) (o:=0) (s:=1) (by rw[List.length_map,hql];exact hn1') hc1 hm1 ?_ (.inr rfl) (fun x hx=>by obtain⟨p,_,rfl⟩:=List.mem_map.1 hx;rfl) (fun d hd=>?_) (fun j d hj=>?_) (fun j d v hj hv=>?_)
    ·simp only[TkOk,hx]
     refine⟨⟨trivial,trivial⟩,trivial,w3,?_,fun x hx=>by obtain⟨p,_,rfl⟩:=List.mem_map.1 hx;rfl⟩
     rw[←w4]
     unfold World.shape?
     rw[hqc,t3]
     simp[Go.Sort.putCells]
    ·rw[flat_intsT] at hd
     obtain⟨p,hpq,rfl⟩:=List.mem_map.1 hd
     exact hqm p hpq
    ·rw[flat_intsT] at hj
     have hjl:j<ps.length:=by have:=(List.getElem?_eq_some_iff.1 hj).1;rw[List.length_map,hql] at this;exact this
     rw[Nat.zero_add]
     exact⟨by omega,hqex j hjl⟩
    ·rw[flat_intsT,List.getElem?_map] at hj
     obtain⟨p,hpj,rfl⟩:=Option.map_eq_some_iff.1 hj
     rw[Nat.zero_add] at hv
     exact hqcell j p v hpj hv
  have hne2:∀b',b'<w.heap.size→b'≠b→(sortWorld enc w b 0 m d' os).heap[b']?=w.heap[b']?:=q2
  have hbox:∀ {g'} {cs cs':List D},BoxAt G w g' cs→g'≠b→cs'.length≤cs.length→(∀(j:Nat) (d':D),cs'[j]?=some d'→∃d,cs[j]?=some d∧Srt k e2 L.toks ps qs d d')→BoxAt G (sortWorld enc w b 0 m d' os) g' cs':=fun {g' cs cs'} ⟨vs,e0,h1,h2,h3⟩ hgb hl hc=>by
   refine⟨vs,e0,by rw[hne2 g' (heap_lt h1) hgb];exact h1,by omega,fun j d1 v hd hv=>?_⟩
   obtain⟨d0,hd0,hd1⟩:=hc j d1 hd
   exact hR _ _ _ hd1 (h3 j d0 v hd0 hv)
  refine⟨rfl,qs,hperm2,hpw,?_,fun g' cs cs' hb1 ⟨i,hi⟩ hl hc=>hbox hb1 (by rintro rfl;exact t5 i hi) hl hc,hR⟩
  exact {
   boxes:=fun id cs h=>by cases h
   robs:=fun id cs h=>by cases h
   toks:=hW.toks
   tau:=fun k' g' e' z' hg=>by
    obtain⟨h1,h2,⟨cur',y3,y4⟩,h5⟩:=hW.tau k' g' e' z' hg
    refine⟨h1,h2,?_,h5⟩
    by_cases eb:g'=b
    ·subst eb
     have:Obj.cells cur e2 (0,0)=Obj.cells cur' e' (0,0):=Option.some.inj (t3.symm.trans y3)
     obtain⟨rfl,rfl,_⟩:=Obj.cells.inj this
     exact⟨_,hqc,by simpa[Go.Sort.putCells] using t4⟩
    ·exact⟨cur',by rw[hne2 g' (heap_lt y3) eb];exact y3,y4⟩
   tinj:=hW.tinj
   binj:=hW.binj
   blt:=fun i g' hi=>by have:=hW.blt i g' hi;omega
   lablt:=fun b' hb'=>by have:=hW.lablt b' hb';omega
   old:=fun b' hlt hn=>by
    obtain⟨h1,h2⟩:=hW.old b' hlt hn
    have:=hW.sz
    exact⟨by rw[hne2 b' (by omega) (by omega)];exact h1,h2⟩
   olda:=fun b' hlt=>by
    obtain⟨h1,h2⟩:=hW.olda b' hlt
    have:=hW.sz
    refine⟨h1,fun o v ho hv=>?_⟩
    rw[cell_of_heap (hne2 b' (by omega) (by omega))]
    exact h2 o v ho hv
   oldl:=hW.oldl
   tlab:=hW.tlab
   blab:=hW.blab
   oldu:=hW.oldu
   labw:=fun b' hb' hor=>by
    obtain⟨vs,e0,h1⟩:=hW.labw b' hb' hor
    by_cases eb:b'=b
    ·subst eb;exact⟨_,_,hqc⟩
    ·exact⟨vs,e0,by rw[hne2 b' (heap_lt h1) eb];exact h1⟩
   ids:=hW.ids
   sz:=by have:=hW.sz;omega
   os:=hW.os
   tape:=hW.tape
   out:=hW.out
   dr:=dr_t hW.dr (Nat.le_add_right _ _)}
theorem LopsW.sortOwn {S:Setup} {B:Base} {ops:Array Oper} {l:List Oper} {L:LS} {K:LS→Prop} {t:Nat} {f:Operand} {args:Array Operand} {tys:Array TypeId} {ty:TypeId} {pos:String} {aft:Array Edge} {g0:Option (Nat×Bool)}
  (hg:guardY ops L g0=some true) {fs g:FuncId} (hent:Enters S.P fs) (hkit:SortKit S.P fs g) (cf:List Int→List Int→Int) (Pr:List Int→Prop)
  (hcmp:∀x y:List Int,Pr x→Pr y→FC S g [] [] [] [intsD x,intsD y] (.int .i64 (cf x y)) [] [])
  (hO:(∀x,¬cf x x<0)∧(∀x y z,cf x y<0→cf y z<0→cf x z<0)∧(∀x y z,¬cf x y<0→¬cf y z<0→¬cf x z<0))
  (hB:∀b,¬B.ab b) {k:Nat} {e:TypeId} (hk:k∈L.toks) {ps:List (Tk×List Int)} (hf:evalO L f=some (.fn fs [])) (hds:mapO (evalO L) args.toList=some [.sl (.own k e 1) (ps.map intsT),.fn g []])
  (hp:∀p∈ps,Pr p.2∧(intsT p).memOk=true) (hlen:ps.length≤100000) (env':List (Tk×List Int)→List (Nat×D)) (bx':List (Tk×List Int)→List (Nat×List D))
  (henv:∀qs,∀p∈env' qs,∃d,look L.env p.1=some d∧Srt k e L.toks ps qs d p.2)
  (hbx:∀qs,∀p∈bx' qs,∃cs,look L.boxes p.1=some cs∧p.2.length≤cs.length∧∀(j:Nat) (d':D),p.2[j]?=some d'→∃d,cs[j]?=some d∧Srt k e L.toks ps qs d d') (ht:t<L.n)
  (h:∀qs:List (Tk×List Int),qs.Perm ps→qs.Pairwise (fun a b=>¬cf b.2 a.2<0)→LopsW S B ops l ((⟨L.n,env' qs,bx' qs,[],L.toks,L.fix⟩:LS).put t (.tup [])) K) :
  LopsW S B ops (⟨some t,.call ⟨.value f,args,tys⟩,ty,pos,aft,g0⟩::l) L K:=by
 intro G a w hs Q hQ
 refine wpList_step fun N hN=>?_
 rw[if_pos (guardY_sound (S:=S) rfl hs (o:=⟨some t,.call ⟨.value f,args,tys⟩,ty,pos,aft,g0⟩) hg)]
 obtain⟨e1,e2⟩:=mapO_sound hs hds
 have hal:(args.toList.map a.eval).length=2:=by simpa using e1.symm
 obtain⟨u,v,hu⟩:=length_two hal
 have hx:=e2 0 _ u rfl (by rw[hu];rfl)
 have hy:=e2 1 _ v rfl (by rw[hu];rfl)
 have ha:args.map a.eval=#[u,v]:=by rw[←Array.toArray_toList (xs:=args.map a.eval),Array.toList_map,hu]
 obtain rfl:v=.func (.func g) #[] #[]:=by
  cases hy with
  | @fn _ _ vl hl hr =>
   have:vl=[]:=List.length_eq_zero_iff.1 (by simpa using hl)
   subst this;rfl
 have hv:=eval_sound hs hf
 generalize hu:a.eval f=u0 at hv
 cases hv with
 | @fn _ _ vl hl hr =>
 have hvl:vl=[]:=List.length_eq_zero_iff.1 (by simpa using hl)
 subst hvl
 have hrun:(execOp a.eval ⟨some t,.call ⟨.value f,args,tys⟩,ty,pos,aft,g0⟩).run S.P w=.ok (.enter fs #[u,.func (.func g) #[] #[]]) w:=by
  simp[execOp,resolve,hu,Deferred.ofValue,invoke,enter_run hent,ha]
 unfold Oper.wp
 rw[hrun,Oper.upon_enter]
 refine(sortOwn_sound hs hkit cf Pr hcmp hO hB hk hp hlen hx).mono ?_
 rintro e' w' ⟨rfl,qs,q1,q2,hW',hb',hr'⟩
 have hW:=hs.W
 refine hN _ _ (h qs q1 q2 G _ w' (Sim.put (L:=(⟨L.n,env' qs,bx' qs,[],L.toks,L.fix⟩:LS)) (t:=t) (d:=.tup []) ⟨hs.defers,hs.size,fun t' d hd=>?_,?_,hs.fixed⟩ ht (.tup (vl:=[]) rfl (fun j d v hj=>by simp at hj))) Q hQ)
 ·obtain⟨d0,h1,h2⟩:=henv qs _ (mem_of_look hd)
  obtain⟨v,h3,h4⟩:=hs.env t' d0 h1
  exact⟨v,h3,hr' _ _ _ h2 h4⟩
 ·exact {hW' with
   boxes:=fun id cs hl=>by
    obtain⟨cs0,h1,h2,h3⟩:=hbx qs _ (mem_of_look hl)
    obtain⟨g',k1,k2,k3,k4⟩:=hW.boxes id cs0 h1
    exact⟨g',k1,hb' g' cs0 cs k2 ⟨id,k1⟩ h2 h3,k3,k4⟩
   robs:=fun id cs hl=>by cases hl}
end Go.Lg
