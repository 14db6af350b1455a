import Derived.Test.YtmfmgoceeedonaaGreatLgK11
namespace Go.Lg
open Go Go.RowKit
mutual
def D.lb(l:List Nat):D->D
 | .sl .any xs=>.sl (.lab l) (D.lbL l xs)
 | .agg cs=>.agg (D.lbL l cs)
 | d=>d
def D.lbL(l:List Nat):List D->List D
 | []=>[]
 | d::ds=>d.lb l::D.lbL l ds
end
mutual
def D.okLb:D->Bool
 | .int ..|.bool _|.str _=>true
 | .sl .any xs=>D.okLbL xs
 | .agg cs=>!cs.isEmpty&&D.okLbL cs
 | _=>false
def D.okLbL:List D->Bool
 | []=>true
 | d::ds=>d.okLb&&D.okLbL ds
end
mutual
def D.noLb:D->Bool
 | .int ..|.bool _|.str _|.raw _=>true
 | .sl (.lab _) _=>false
 | .sl _ xs=>D.noLbL xs
 | .agg cs|.tup cs=>D.noLbL cs
 | _=>false
def D.noLbL:List D->Bool
 | []=>true
 | d::ds=>d.noLb&&D.noLbL ds
end
theorem j2(l:List Nat)(ds:List D):D.lbL l ds=ds.map (D.lb l):=by
 induction ds with
 | nil=>rfl
 | cons d r ih=>simp[D.lbL,ih]
theorem pL{α:Type}(l:List Nat)(f:α->D)(xs:List α):D.lbL l (xs.map f)=xs.map λx=>(f x).lb l:=by rw[j2,List.map_map];rfl
theorem mP(l:List Nat)(k:IntKind)(xs:List Int):D.lbL l (xs.map (.int k))=xs.map (.int k):=by rw[pL];rfl
theorem nL{ds:List D}(h:D.okLbL ds=true){d:D}(hd:d∈ds):d.okLb=true:=by
 induction ds with
 | nil=>cases hd
 | cons x r ih =>
  simp only[D.okLbL,Bool.and_eq_true] at h;rcases zO.1 hd with rfl|hd
  ·exact h.1
  ·exact ih h.2 hd
theorem jY{α:Type}{f:α->D}(h:∀x,(f x).okLb=true):∀xs:List α,D.okLbL (xs.map f)=true
 | []=>rfl
 | x::r=>by simp only[List.map_cons,D.okLbL,h x,jY h r,Bool.and_self]
theorem wV{ds:List D}(h:D.noLbL ds=true){d:D}(hd:d∈ds):d.noLb=true:=by
 induction ds with
 | nil=>cases hd
 | cons x r ih =>
  simp only[D.noLbL,Bool.and_eq_true] at h;rcases zO.1 hd with rfl|hd
  ·exact h.1
  ·exact ih h.2 hd
theorem aBx{α:Type}{f:α->D}(h:∀x,(f x).noLb=true):∀xs:List α,D.noLbL (xs.map f)=true
 | []=>rfl
 | x::r=>by simp only[List.map_cons,D.noLbL,h x,aBx h r,Bool.and_self]
theorem aFn(l:List Nat)(d:D):(d.lb l).cells=d.cells.map (D.lb l):=by
 cases d with
 | agg cs=>simp[D.lb,D.cells,j2]
 | sl tk xs=>cases tk<;>simp[D.lb,D.cells]
 | _=>simp[D.lb,D.cells]
theorem aA5(l:List Nat)(xs:List D):flat (D.lbL l xs)=(flat xs).map (D.lb l):=by
 induction xs with
 | nil=>rfl
 | cons d r ih=>simp[flat,D.lbL,aFn] at ih ⊢;exact ih
theorem aVQ(l:List Nat){d:D}(h:d.memOk=true):(d.lb l).memOk=true:=by
 cases d with
 | sl tk xs=>cases tk<;>first|rfl|(simp[D.memOk] at h)
 | _=>exact h
theorem aE9{x:D}(h:x.okLb=true):x.cells≠[]/\∀d∈x.cells,d.okLb=true:=by
 cases x with
 | agg cs =>
  simp only[D.okLb,Bool.and_eq_true,Bool.not_eq_true',List.isEmpty_eq_false_iff] at h;exact⟨h.1,λd hd=>nL h.2 hd⟩
 | _=>exact⟨by simp[D.cells],λd hd=>by rw[show d=_ from List.mem_singleton.1 hd];exact h⟩
theorem aSa{xs:List D}(h:D.okLbL xs=true):∀d∈flat xs,d.okLb=true:=λd hd=>by
 obtain⟨x,hx,hd⟩:=List.mem_flatMap.1 hd;exact(aE9 (nL h hx)).2 d hd
theorem aMF{x:D}(h:x.noLb=true):∀d∈x.cells,d.noLb=true:=by
 cases x with
 | agg cs=>exact λd hd=>wV (ds:=cs) (by simpa[D.noLb] using h) hd
 | _=>intro d hd;rw[show d=_ from zN.1 hd];exact h
theorem aQV{xs:List D}(h:D.noLbL xs=true):∀d∈flat xs,d.noLb=true:=λd hd=>by
 obtain⟨x,hx,hd⟩:=List.mem_flatMap.1 hd;exact aMF (wV h hx) d hd
theorem aVG{l:List Nat}(hl:l≠[]){G G':Ghost}{w:World}(hlim:G'.lim=G.lim)(hlab:∀b,b<w.heap.size->G'.lab b=l){d:D}{v:Value}(h:Rel G w d v):d.okLb=true->Rel G' w (d.lb l) v:=by
 have hj:∀ {ds:List D} {j:Nat} {d:D},(D.lbL l ds)[j]?=some d->∃d0,ds[j]?=some d0/\d=d0.lb l:=λ{ds j d} h=>by
  rw[j2,zI] at h;obtain⟨d0,h1,h2⟩:=Option.map_eq_some_iff.1 h;exact⟨d0,h1,h2.symm⟩
 induction h with
 | int=>exact λ_=>.int
 | bool=>exact λ_=>.bool
 | str=>exact λ_=>.str
 | agg hlen hr ih =>
  intro h;simp only[D.okLb,Bool.and_eq_true] at h;refine .agg (by rw[j2,zC];exact hlen) λj d v h1 hv=>?_;obtain⟨d0,h2,rfl⟩:=hj h1;exact ih j d0 v h2 hv (nL h.2 (zF h2))
 | @sl tk0 xs A n c b o s hn hc hm ht hA hu hk hst hr ih =>
  intro h;cases tk0 with
  | any =>
   have hP:D.okLbL xs=true:=by simpa[D.okLb] using h
   have hnil:xs=[]->D.lbL l xs=[]:=λe=>by rw[e];rfl
   have hlen:(D.lbL l xs).length=xs.length:=by rw[j2,zC]
   refine .sl (b:=b) (o:=o) (s:=s) (hn.trans hlen.symm) hc hm ?_ (hA.imp hnil id) (λx hx=>?_) (λd hd=>?_) (λj d h1=>?_) (λj d v h1 hv=>?_)
   ·rcases hA with hA|hA
    ·exact .inl (hnil hA)
    ·cases hx:xs with
     | nil=>exact .inl (by rfl)
     | cons x r =>
      refine .inr ⟨b,o,hA,hlab b ?_,hl⟩;have hxx:=aE9 (nL hP (show x∈xs by rw[hx];exact zH));obtain⟨c0,hc0⟩:∃c0,(flat xs)[0]?=some c0:=by
       rw[hx];simp only[flat,List.flatMap_cons];cases hxc:x.cells with
       | nil=>exact absurd hxc hxx.1
       | cons c0 r0=>exact⟨c0,by simp⟩
      obtain⟨_,v0,hv0⟩:=hst 0 c0 hc0;exact kK hv0
   ·rw[j2] at hx;obtain⟨x0,h1,rfl⟩:=zJ.1 hx;rw[aFn,zC];exact hu x0 h1
   ·rw[aA5] at hd;obtain⟨d0,h1,rfl⟩:=zJ.1 hd;exact aVQ l (hk d0 h1)
   ·rw[aA5,zI] at h1;obtain⟨d0,h2,rfl⟩:=Option.map_eq_some_iff.1 h1;rw[hlim];exact hst j d0 h2
   ·rw[aA5,zI] at h1;obtain⟨d0,h2,rfl⟩:=Option.map_eq_some_iff.1 h1;exact ih j d0 v h2 hv (aSa hP d0 (zF h2))
  | _=>simp[D.okLb] at h
 | _=>intro h;simp[D.okLb] at h
theorem aVk{G G':Ghost}{w}(hlim:G'.lim=G.lim)(hτ:G'.τ=G.τ){d:D}{v:Value}(h:Rel G w d v):d.noLb=true->Rel G' w d v:=by
 induction h with
 | int=>exact λ_=>.int
 | bool=>exact λ_=>.bool
 | str=>exact λ_=>.str
 | raw h=>exact λ_=>.raw h
 | agg hlen hr ih=>exact λh=>.agg hlen λj d v hj hv=>ih j d v hj hv (wV (by simpa[D.noLb] using h) (List.mem_of_getElem? hj))
 | tup hlen hr ih=>exact λh=>.tup hlen λj d v hj hv=>ih j d v hj hv (wV (by simpa[D.noLb] using h) (List.mem_of_getElem? hj))
 | @sl tk0 xs A n c b o s hn hc hm ht hA hu hk hst hr ih =>
  intro h;have key:D.noLbL xs=true->dZ G' w tk0 xs A n c->Rel G' w (.sl tk0 xs) (.slice A n c):=λhP ht' =>
   .sl (b:=b) (o:=o) hn hc hm ht' hA hu hk (λj d hj=>by rw[hlim];exact hst j d hj) λj d v hj hv=>ih j d v hj hv (aQV hP d (zF hj))
  cases tk0 with
  | lab l=>simp[D.noLb] at h
  | own k e z=>exact key (by simpa[D.noLb] using h) (by simp only[dZ] at ht ⊢;rw[hτ,hlim];exact ht)
  | que k e=>exact key (by simpa[D.noLb] using h) (by simp only[dZ] at ht ⊢;rw[hτ,hlim];exact ht)
  | any=>exact key (by simpa[D.noLb] using h) ht
  | nil=>exact key (by simpa[D.noLb] using h) ht
  | nl=>exact key (by simpa[D.noLb] using h) ht
  | nn=>exact key (by simpa[D.noLb] using h) ht
  | full=>exact key (by simpa[D.noLb] using h) ht
 | _=>intro h;simp[D.noLb] at h
theorem aVR{S}{f:FuncId}{args:List D}{d:D}{tk':List Nat}(l:List Nat)(hl:l≠[])(hok:D.okLbL args=true)(hd:d.noLb=true)(h:FC S f [] [] [] (D.lbL l args) d [] tk'):FC S f [] [] [] args d [] tk':=by
 refine⟨h.1,λw G vals hs=>?_⟩;have hW:=hs.W;let G0:Ghost:={lim:=G.lim,lab:=λb=>if b<w.heap.size then l else [],β:=λ_=>none,τ:=λ_=>none};have hlab0:∀b,b<w.heap.size->G0.lab b=l:=λb hb=>by simp[G0,hb]
 have hno:∀(G1:Ghost) b,¬(dE G1 w [] []).ab b:=λG1 b=>by
  rintro (⟨p,hp,_⟩|⟨k,hk,_⟩)
  ·cases hp
  ·cases hk
 have hlen:(D.lbL l args).length=args.length:=by rw[j2,zC]
 have h0:Sim (dE G0 w [] []) ⟨(D.lbL l args).length,eY 0 (D.lbL l args),[],[],[],[]⟩ G0 ⟨vals,[]⟩ w:=by
  refine⟨rfl,by rw[hlen];exact hs.size,λt d' hd'=>?_,?_,λp hp=>by cases hp⟩
  ·rw[iB] at hd';simp only[Nat.zero_le,if_true,Nat.sub_zero,j2,zI] at hd';obtain⟨d0,h1,rfl⟩:=Option.map_eq_some_iff.1 hd';obtain⟨v,h2,h3⟩:=hs.env t d0 (by simp only[iB,Nat.zero_le,if_true,Nat.sub_zero];exact h1);exact⟨v,h2,aVG hl (G:=G) (G':=G0) rfl hlab0 h3 (nL hok (zF h1))⟩
  ·exact {
    boxes:=λid cs hl=>by cases hl
    robs:=λid cs hl=>by cases hl
    toks:=λk hk=>by cases hk
    tau:=λk g e z hk=>by cases hk
    tinj:=λk k' g e z e' z' hk=>by cases hk
    binj:=λi j g hi=>by cases hi
    blt:=λi g hi=>by cases hi
    lablt:=λb hb=>by
     simp only[G0] at hb;split at hb
     ·assumption
     ·exact absurd rfl hb
    old:=λ_ _ _=>⟨rfl,rfl⟩
    olda:=λ_ _=>⟨zQ _,λ_ _ _ h=>h⟩
    oldl:=λ_ _ _=>rfl
    tlab:=λk g e z hk=>by cases hk
    blab:=λi g hi=>by cases hi
    oldu:=λ_ _ _ h=>h
    labw:=λb hb hor=>by
     rcases hor with hor|hor
     ·simp only[G0] at hb;split at hb
      ·rename_i hlt;exact absurd hlt (Nat.not_lt.2 hor)
      ·exact absurd rfl hb
     ·exact absurd hor (hno _ b)
    ids:=λp hp=>by cases hp
    sz:=zQ _
    os:=rfl
    tape:=rfl
    out:=rfl
    dr:=zQ _}
 refine(h.2 w G0 vals h0).mono ?_;rintro e w' ⟨v,G',rfl,hend⟩;have hE:=hend.W;let G2:Ghost:={lim:=G'.lim,lab:=λb=>if b<w.heap.size then G.lab b else G'.lab b,β:=G'.β,τ:=G'.τ};have hl2:∀b,¬b<w.heap.size->G2.lab b=G'.lab b:=λb hb=>by simp[G2,hb]
 have hl1:∀b,b<w.heap.size->G2.lab b=G.lab b:=λb hb=>by simp[G2,hb]
 have hold:∀b,b<w.heap.size->G'.lab b=l:=λb hb=>by
  have e0:=hlab0 b hb;exact(hE.oldl b hb (show G0.lab b≠[] by rw[e0];exact hl)).trans e0
 refine⟨v,G2,rfl,hend.defers,hend.size,λt d' hd'=>?_,?_,λp hp=>by cases hp⟩
 ·obtain⟨v',h1,h2⟩:=hend.env t d' hd';simp only[look] at hd';split at hd'
  ·obtain rfl:=zA hd';exact⟨v',h1,aVk (G:=G') (G':=G2) rfl rfl h2 hd⟩
  ·cases hd'
 ·exact {
   boxes:=λid cs hl=>by cases hl
   robs:=λid cs hl=>by cases hl
   toks:=hE.toks
   tau:=λk g e z hk=>by
    obtain⟨h1,h2⟩:=hE.tau k g e z hk;exact⟨.inl (h1.resolve_right (hno _ g)),h2⟩
   tinj:=hE.tinj
   binj:=hE.binj
   blt:=hE.blt
   lablt:=λb hb=>by
    by_cases hlt:b<w.heap.size
    ·exact Nat.lt_of_lt_of_le hlt hE.sz
    ·rw[hl2 b hlt] at hb;exact hE.lablt b hb
   old:=λb hlt _=>hE.old b hlt (hno _ b)
   olda:=hE.olda
   oldl:=λb hlt _=>hl1 b hlt
   tlab:=λk g e z hk=>by
    have h1:=hE.tlab k g e z hk;by_cases hlt:g<w.heap.size
    ·rw[hold g hlt] at h1;exact absurd h1 hl
    ·rw[hl2 g hlt];exact h1
   blab:=λi g hi=>by
    have h1:=hE.blab i g hi;by_cases hlt:g<w.heap.size
    ·rw[hold g hlt] at h1;exact absurd h1 hl
    ·rw[hl2 g hlt];exact h1
   oldu:=λb hlt _ hb=>by rw[hl1 b hlt];exact hb
   labw:=λb hb hor=>by
    rcases hor with hor|hor
    ·rw[hl2 b (Nat.not_lt.2 hor)] at hb;exact hE.labw b hb (.inl hor)
    ·exact absurd hor (hno _ b)
   ids:=λp hp=>by cases hp
   sz:=hE.sz
   os:=hE.os
   tape:=hE.tape
   out:=hE.out
   dr:=hE.dr}
def StO(k:Nat)(e:TypeId)(tk:List Nat)(ys zs:List Int)(d d':D):Prop :=
 (d.safeI k tk=true/\d'=d)∨(d=.sl (.own k e 1) (ys.map (.int .i64))/\d'=.sl (.own k e 1) (zs.map (.int .i64)))
theorem aJA{B:Base}{L:LS}{G:Ghost}{a}{w:World}(hs:Sim B L G a w)(hB:∀b,¬B.ab b){k:Nat}{e:TypeId}(hk:k∈L.toks){ys:List Int}{A:Option Addr}{n c:Nat}(hv:Rel G w (.sl (.own k e 1) (ys.map (.int .i64))) (.slice A n c)){j:Nat}(hj:j<ys.length) :
  ∃g,A=some ⟨g,0,none⟩/\n=ys.length/\w.cell? ⟨g,j,none⟩=some (.int .i64 (ys.getD j default))/\∀m,∃w',(∀P:Program,(storeCells ⟨g,j,none⟩ [.int .i64 m]).run P w=.ok () w') ∧
   SimW B [] [] L.toks G w' ∧
   (∀d d' u,StO k e L.toks ys (ys.set j m) d d'->Rel G w d u->Rel G w' d' u)/\∀b',b'≠g->w'.heap[b']?=w.heap[b']?:=by
 have hW:=hs.W;obtain⟨x,hx⟩:=hW.toks k hk;have hne':ys.map (D.int .i64)≠[]:=by rintro h;rw[List.map_eq_nil_iff.1 h] at hj;cases hj
 cases hv with
 | @sl _ _ _ _ _ b o s hn hc hm ht hA hu hmem hst hr =>
 have hA':=hA.resolve_left hne';subst hA';simp only[dZ,hx] at ht;match x,hx,ht with
 | none,_,ht=>exact absurd (List.length_eq_zero_iff.1 (hn.symm.trans ht.1)) hne'
 | some (g,e2,z2),hx,ht =>
 obtain⟨⟨rfl,rfl⟩,h2,h3,h4,h5⟩:=ht;simp only[Option.some.injEq,Addr.mk.injEq,and_true] at h2;obtain⟨rfl,rfl⟩:=h2;obtain⟨t1,t2,⟨cur,t3,t4⟩,t5⟩:=hW.tau k b e2 1 hx;have hg:=bX t3;have hnew:B.w.heap.size≤b:=t1.resolve_right (hB b);have hfl:flat (ys.map (D.int .i64))=ys.map (.int .i64):=dA ys;have hnl:n=ys.length:=by simpa using hn
 have hlimb:G.lim b=ys.length:=by omega
 have hcell:∀i,w.cell? ⟨b,i,none⟩=cur[i]?:=λi=>by simp[World.cell?,t3]
 have hval:∀i,(hi:i<ys.length)->cur[i]?=some (.int .i64 ys[i]):=λi hi=>by
  have hlt:i<cur.size:=by omega
  have h0:(flat (ys.map (D.int .i64)))[i]?=some (.int .i64 ys[i]):=by rw[hfl];simp[hi]
  have:=hr i _ cur[i] h0 (by rw[Nat.zero_add,hcell];simp[hlt]);rw[Array.getElem?_eq_getElem hlt];generalize cur[i]=u at this;cases this;rfl
 refine⟨b,rfl,hnl,?_,λm=>?_⟩
 ·rw[hcell,hval j hj];simp[List.getD,hj]
 have hsl:∀o v,o<G.lim b->w.cell? ⟨b,o,none⟩=some v->∃m,v=.int .i64 m:=λo v ho hv=>by
  rw[hcell,hval o (by omega)] at hv;exact⟨_,(zA hv).symm⟩
 have hide:∀ {d v},d.safeI k L.toks=true->Rel G w d v->Rel (G.hide b) w d v:=λ{d v} hd hr=>aOJ hW.toks (λk' e z h=>hW.tinj k' k b e z e2 1 h hx) (hW.tlab k b e2 1 hx) hsl hr hd;let vs':=(cur.toList.take (j+0)++[Value.int .i64 m]++cur.toList.drop (j+0+1)).toArray;have hsame:(w.setRow b vs').heap[b]?=some (.cells vs' e2 (0,0)):=setRow_heap w b cur vs' e2 (0,0) t3;have hother:∀b',b'≠b->(w.setRow b vs').heap[b']?=w.heap[b']?:=λb' hb=>setRow_other w b b' vs' hb;have hsize:vs'.size=cur.size:=by simp[vs'];omega
 have hcell':∀i,(w.setRow b vs').cell? ⟨b,i,none⟩=if i=j then some (.int .i64 m) else cur[i]?:=λi=>by
  have:(w.setRow b vs').cell? ⟨b,i,none⟩=vs'[i]?:=by simp[World.cell?,hsame]
  rw[this];simp only[vs',List.getElem?_toArray];have hjc:j<cur.size:=by omega
  rcases Nat.lt_trichotomy i j with h|h|h
  ·rw[if_neg (by omega),List.append_assoc,List.getElem?_append_left (by simp;omega),List.getElem?_take,if_pos (by omega)];simp
  ·subst h;rw[if_pos rfl,List.append_assoc,List.getElem?_append_right (by simp;omega)];simp[Nat.min_eq_left (Nat.le_of_lt hjc)]
  ·rw[if_neg (by omega),List.getElem?_append_right (by simp;omega)];simp[Nat.min_eq_left (Nat.le_of_lt hjc)];congr 1;omega
 have hshape:(w.setRow b vs').shape? b=w.shape? b:=by
  unfold World.shape?;rw[hsame,t3];simp[hsize]
 have stay:∀ {d v},Rel (G.hide b) w d v->Rel (G.hide b) (w.setRow b vs') d v:=λ{d v} h=>by
  refine h.mono ⟨λb' o v h1 h2=>⟨h1,?_⟩,λ_ _=>rfl⟩ (λ_ _ _ h=>h) (λk' _=>?_)
  ·have hne:b'≠b:=λe=>by subst e;simp[Ghost.hide] at h1
   rw[bY (hother b' hne)];exact h2
  ·refine .inr ⟨rfl,λg' e' z' _=>⟨rfl,?_⟩⟩;by_cases e:g'=b
   ·subst e;exact hshape
   ·exact dP (hother g' e)
 have hback:∀ {d v},d.safeI k L.toks=true->Rel (G.hide b) (w.setRow b vs') d v->Rel G (w.setRow b vs') d v:=λ{d v} hsf h=>by
  refine h.mono (show Mono (G.hide b) G (w.setRow b vs') (w.setRow b vs') from⟨λb' o v h1 h2=>⟨?_,h2⟩,λ_ _=>rfl⟩) (λ_ _ _ h=>h) (λk' hk'=>?_)
  ·simp only[Ghost.hide] at h1;split at h1
   ·omega
   ·exact h1
  ·refine .inr ⟨rfl,λg' e' z' hg=>⟨?_,rfl⟩⟩;have hg0:G.τ k'=some (some (g',e',z')):=hg;simp only[Ghost.hide];rw[if_neg];rintro rfl;exact aHd _ hsf k' hk' (hW.tinj k' k g' e' z' e2 1 hg0 hx)
 have keep:∀ {d v},d.safeI k L.toks=true->Rel G w d v->Rel G (w.setRow b vs') d v:=λhsf h=>hback hsf (stay (hide hsf h));refine⟨w.setRow b vs',λP=>?_,?_,λd d' u hd hr0=>?_,hother⟩
 ·exact run_storeCells_at P b j e2 [.int .i64 m] 0 cur w t3 (by simp;omega) (λv hv=>by rw[List.mem_singleton.1 hv];rfl)
 ·have hsz:(w.setRow b vs').heap.size=w.heap.size:=by simp[World.setRow]
  exact {
   boxes:=λid cs h=>by cases h
   robs:=λid cs h=>by cases h
   toks:=hW.toks
   tau:=λk' g' e' z' hg=>by
    obtain⟨h1,h2,⟨cur',y3,y4⟩,h5⟩:=hW.tau k' g' e' z' hg;refine⟨h1,h2,?_,h5⟩;by_cases eb:g'=b
    ·subst eb;have:Obj.cells cur e2 (0,0)=Obj.cells cur' e' (0,0):=zA (t3.symm.trans y3);obtain⟨rfl,rfl,_⟩:=Obj.cells.inj this;exact⟨_,hsame,by rw[hsize];exact t4⟩
    ·exact⟨cur',by rw[hother g' eb];exact y3,y4⟩
   tinj:=hW.tinj
   binj:=hW.binj
   blt:=λi g' hi=>by rw[hsz];exact hW.blt i g' hi
   lablt:=λb' hb'=>by rw[hsz];exact hW.lablt b' hb'
   old:=λb' hlt hn=>by
    rw[hother b' (by omega)];exact hW.old b' hlt hn
   olda:=λb' hlt=>by
    obtain⟨h1,h2⟩:=hW.olda b' hlt;refine⟨h1,λo v ho hc=>?_⟩;rw[bY (hother b' (by omega))];exact h2 o v ho hc
   oldl:=hW.oldl
   tlab:=hW.tlab
   blab:=hW.blab
   oldu:=hW.oldu
   labw:=λb' hb hor=>by
    obtain⟨vs,e',h1⟩:=hW.labw b' hb hor;by_cases eb:b'=b
    ·subst eb;exact⟨_,_,hsame⟩
    ·exact⟨vs,e',by rw[hother b' eb];exact h1⟩
   ids:=hW.ids
   sz:=by rw[hsz];exact hW.sz
   os:=hW.os
   tape:=hW.tape
   out:=hW.out
   dr:=hW.dr}
 ·rcases hd with⟨hsf,rfl⟩|⟨rfl,rfl⟩
  ·exact keep hsf hr0
  ·cases hr0 with
   | @sl _ _ A1 n1 c1 b1 o1 s1 hn1 hc1 hm1 ht1 hA1 hu1 hk1 hst1 hr1 =>
   simp only[dZ,hx] at ht1;obtain⟨_,rfl,w3,w4,w5⟩:=ht1;have hn1':n1=ys.length:=by simpa using hn1
   have hfz:flat ((ys.set j m).map (D.int .i64))=(ys.set j m).map (.int .i64):=dA _;refine .sl (b:=b) (o:=0) (s:=1) (by simpa using hn1') hc1 hm1 ?_ (.inr rfl) (λx hx=>by obtain⟨p,_,rfl⟩:=List.mem_map.1 hx;rfl) (λd hd=>?_) (λi d hi=>?_) (λi d v hi hv=>?_)
   ·simp only[dZ,hx];exact⟨⟨trivial,trivial⟩,trivial,w3,by rw[hshape];exact w4,λx hx=>by obtain⟨p,_,rfl⟩:=zJ.1 hx;rfl⟩
   ·rw[hfz] at hd;obtain⟨p,_,rfl⟩:=zJ.1 hd;rfl
   ·rw[hfz] at hi;have hil:i<ys.length:=by have:=(List.getElem?_eq_some_iff.1 hi).1;simpa using this
    rw[Nat.zero_add,hcell'];refine⟨by omega,?_⟩;split
    ·exact⟨_,rfl⟩
    ·exact⟨_,hval i hil⟩
   ·rw[hfz,zI] at hi;obtain⟨p,hp,rfl⟩:=Option.map_eq_some_iff.1 hi;rw[Nat.zero_add,hcell'] at hv;have hil:i<ys.length:=by have:=(List.getElem?_eq_some_iff.1 hp).1;simpa using this
    rw[List.getElem?_set] at hp;by_cases hij:j=i
    ·subst hij;rw[if_pos rfl,if_pos hj] at hp;rw[if_pos rfl] at hv;obtain rfl:=zA hp;obtain rfl:=zA hv;exact .int
    ·rw[if_neg hij] at hp;rw[if_neg (λe=>hij e.symm),hval i hil] at hv;rw[zB hil] at hp;obtain rfl:=zA hp;obtain rfl:=zA hv;exact .int
theorem aK.storeOwn{S:Setup}{B:Base}{ops l}{L:LS}{K:LS->Prop}{t:Nat}{T T2 e2:TypeId}{x i v:Operand}{ty1 ty2:TypeId}{pos1 pos2 aft1 aft2}
  (hB:∀b,¬B.ab b) {inf inf2:TyI} (hkd:S.kd T=some (.slice e2)) (htab:S.tab e2=some inf) (hsz:inf.size=1) (htab2:S.tab T2=some inf2) (hsz2:inf2.size=1) {k:Nat} {e:TypeId} {ys:List Int} {ki:IntKind} {j m:Int}
  (hx:aM L x=some (.sl (.own k e 1) (ys.map (.int .i64)))) (hk:k∈L.toks) (hi:aM L i=some (.int ki j)) (hj:0≤j/\j<ys.length) (ht:t<L.n) (hv:∀u,aM (L.put t (.raw u)) v=some (.int .i64 m))
  (env':List (Nat×D)) (bx':List (Nat×List D)) (henv:∀p∈env',p.1≠t/\∃d,look L.env p.1=some d/\StO k e L.toks ys (ys.set j.toNat m) d p.2)
  (hbx:∀p∈bx',∃cs,look L.boxes p.1=some cs/\p.2.length≤cs.length/\∀(j':Nat) (d':D),p.2[j']?=some d'->∃d,cs[j']?=some d/\StO k e L.toks ys (ys.set j.toNat m) d d')
  (h:aK S B ops l ⟨L.n,env',bx',[],L.toks,L.fix⟩ K):aK S B ops (⟨some t,.indexAddr T x i,ty1,pos1,aft1,none⟩::⟨none,.store T2 (.tmp t) v,ty2,pos2,aft2,none⟩::l) L K:=by
 intro G a w hs Q hQ;have hW:=hs.W;have hxv:=aO hs hx;have hiv:=aO hs hi;generalize hu:a.eval x=u at hxv;generalize hui:a.eval i=ui at hiv;cases hiv;obtain⟨A,n,c,rfl⟩:∃A n c,u=.slice A n c:=by cases hxv;exact⟨_,_,_,rfl⟩
 obtain⟨g,rfl,rfl,hcell,hst⟩:=aJA hs hB hk hxv (j:=j.toNat) (by omega);obtain⟨w',hrun,hW',hR,hheap⟩:=hst m;refine wpList_step λN hN=>?_;rw[if_pos (bS (S:=S) (b:=true) rfl hs rfl)];unfold Oper.wp;have hop:(execOp a.eval ⟨some t,.indexAddr T x i,ty1,pos1,aft1,none⟩).run S.P w=.ok (.value (.pointer (some ⟨g,j.toNat,none⟩))) w:=by
  have hin:0≤j/\j<(ys.length:Int):=hj;simp[execOp,hu,hui,Instr.indexAt,asIntOf,run_underlying (aN hkd),run_sizeOf (S.ok e2 inf htab),hin,e8,hsz]
 rw[hop];have hs1:Sim B (L.put t (.raw (.pointer (some ⟨g,j.toNat,none⟩)))) G (a.put (some t) (.pointer (some ⟨g,j.toNat,none⟩))) w:=hs.put ht (.raw (λcs e=>by cases e));refine hN _ _ ?_;have hvv:=aO hs1 (hv _);generalize huv:(a.put (some t) (.pointer (some ⟨g,j.toNat,none⟩))).eval v=uv at hvv;cases hvv;have hpt:(a.put (some t) (.pointer (some ⟨g,j.toNat,none⟩))).eval (.tmp t)=.pointer (some ⟨g,j.toNat,none⟩):=by
  obtain⟨v0,h1,h2⟩:=hs1.env t (.raw (.pointer (some ⟨g,j.toNat,none⟩))) (by simp only[LS.put,b7,if_true]);cases h2;show Array.getD _ t undef=_;rw[Array.getD_eq_getD_getElem?,h1];rfl
 refine wpList_step λN2 hN2=>?_;rw[if_pos (bS (S:=S) (b:=true) rfl hs1 rfl)];unfold Oper.wp;have hop2:(execOp (a.put (some t) (.pointer (some ⟨g,j.toNat,none⟩))).eval ⟨none,.store T2 (.tmp t) v,ty2,pos2,aft2,none⟩).run S.P w=.ok .skip w':=by
  have hsz:=run_sizeOf (S.ok T2 inf2 htab2) w;simp[execOp,Instr.storeAt,hpt,huv,Instr.sureAddr,storeVar,hsz,hsz2,Value.cells,hrun S.P]
 rw[hop2];refine hN2 _ _ (h G _ w' ⟨hs1.defers,hs1.size,λt' d hd=>?_,?_,hs.fixed⟩ Q hQ)
 ·obtain⟨hne,d0,h1,h2⟩:=henv _ (bB hd);obtain⟨v0,h3,h4⟩:=hs1.env t' d0 (by simp only[LS.put,b7];rw[if_neg (λe=>hne e.symm)];exact h1);exact⟨v0,h3,hR _ _ _ h2 h4⟩
 ·have hbox:∀ {g'} {cs cs':List D},dD G w g' cs->g'≠g->cs'.length≤cs.length->(∀(j':Nat) (d':D),cs'[j']?=some d'->∃d,cs[j']?=some d/\StO k e L.toks ys (ys.set j.toNat m) d d')->dD G w' g' cs':=λ{g' cs cs'} ⟨vs,e0,h1,h2,h3⟩ hgb hl hc=>by
   refine⟨vs,e0,by rw[hheap g' hgb];exact h1,by omega,λj d1 v hd hv=>?_⟩;obtain⟨d0,hd0,hd1⟩:=hc j d1 hd;exact hR _ _ _ hd1 (h3 j d0 v hd0 hv)
  have hβ:∀id,G.β id≠some g:=λid hb=>by
   obtain⟨y,hy⟩:=hW.toks k hk;cases hxv with
   | sl hn hc hm ht' hA hu hmem hst hr =>
    simp only[dZ,hy] at ht';match y,hy,ht' with
    | none,_,ht'=>omega
    | some (g',e',z'),hy,ht' =>
     obtain⟨_,h2,_⟩:=ht';simp only[Option.some.injEq,Addr.mk.injEq,and_true] at h2;subst h2;exact(hW.tau k _ e' z' hy).2.2.2 id hb
  exact {hW' with
   boxes:=λid cs' hl=>by
    obtain⟨cs,h1,h2,h3⟩:=hbx _ (bB hl);obtain⟨g',q1,q2,q3,q4⟩:=hW.boxes id cs h1;exact⟨g',q1,hbox q2 (λe0=>hβ id (by rw[←e0];exact q1)) h2 h3,q3,q4⟩
   robs:=λid cs' hl=>by cases hl}
theorem aC5(k:Nat)(tk:List Nat)(ki:IntKind)(xs:List Int):D.safeIL k tk (xs.map (.int ki))=true:=aGR λd hd=>by
 obtain⟨x,_,rfl⟩:=zJ.1 hd;rfl
theorem sK{k:Nat}{e:TypeId}{tk:List Nat}{ys zs:List Int}(l:List Nat)(ki:IntKind)(xs:List Int):StO k e tk ys zs (.sl (.lab l) (xs.map (.int ki))) (.sl (.lab l) (xs.map (.int ki))):=.inl ⟨aC5 k tk ki xs,rfl⟩
theorem bW{k:Nat}{e:TypeId}{tk:List Nat}{ys zs:List Int}{d:D}(h:d.safeI k tk=true):StO k e tk ys zs d d:=.inl ⟨h,rfl⟩
theorem aIn{k:Nat}{e:TypeId}{tk:List Nat}{ys zs:List Int}:StO k e tk ys zs (.sl (.own k e 1) (ys.map (.int .i64))) (.sl (.own k e 1) (zs.map (.int .i64))):=.inr ⟨rfl,rfl⟩
def aZl(k:Nat)(e:TypeId)(tk:List Nat)(ys zs:List Int):List D->List D->Prop
 | [],[]=>True
 | c::cs,d::ds=>StO k e tk ys zs c d/\aZl k e tk ys zs cs ds
 | _,_=>False
theorem aKp{k:Nat}{e:TypeId}{tk:List Nat}{ys zs:List Int}:∀ {cs ds:List D},aZl k e tk ys zs cs ds->ds.length≤cs.length/\∀(j:Nat) (d':D),ds[j]?=some d'->∃d,cs[j]?=some d/\StO k e tk ys zs d d'
 | [],[],_=>⟨Nat.le_refl _,λj d' h=>by simp at h⟩
 | c::cs,d::ds,⟨h1,h2⟩=>by
  obtain⟨q1,q2⟩:=aKp h2;refine⟨by simpa using q1,λj d' h=>?_⟩;cases j with
  | zero=>obtain rfl:=zA h;exact⟨c,rfl,h1⟩
  | succ j=>exact q2 j d' h
 | [],_::_,h=>h.elim
 | _::_,[],h=>h.elim
def aY1(k:Nat)(e:TypeId)(tk:List Nat)(ys zs:List Int)(L:LS)(t:Nat):List (Nat×D)->Prop
 | []=>True
 | (i,d)::r=>(i≠t/\∃d0,look L.env i=some d0/\StO k e tk ys zs d0 d)/\aY1 k e tk ys zs L t r
def aYN(k:Nat)(e:TypeId)(tk:List Nat)(ys zs:List Int)(L:LS):List (Nat×List D)->Prop
 | []=>True
 | (i,ds)::r=>(∃cs,look L.boxes i=some cs/\aZl k e tk ys zs cs ds)/\aYN k e tk ys zs L r
theorem aJ3{k:Nat}{e:TypeId}{tk:List Nat}{ys zs:List Int}{L:LS}{t:Nat}:∀ {l:List (Nat×D)},aY1 k e tk ys zs L t l->∀p∈l,p.1≠t/\∃d,look L.env p.1=some d/\StO k e tk ys zs d p.2
 | [],_,p,hp=>by cases hp
 | (i,d)::r,⟨h1,h2⟩,p,hp=>by
  rcases zO.1 hp with rfl|hp
  ·exact h1
  ·exact aJ3 h2 p hp
theorem aK9{k:Nat}{e:TypeId}{tk:List Nat}{ys zs:List Int}{L:LS}:∀ {l:List (Nat×List D)},aYN k e tk ys zs L l->∀p∈l,∃cs,look L.boxes p.1=some cs/\p.2.length≤cs.length/\∀(j:Nat) (d':D),p.2[j]?=some d'->∃d,cs[j]?=some d/\StO k e tk ys zs d d'
 | [],_,p,hp=>by cases hp
 | (i,ds)::r,⟨⟨cs,h0,h1⟩,h2⟩,p,hp=>by
  rcases zO.1 hp with rfl|hp
  ·exact⟨cs,h0,aKp h1⟩
  ·exact aK9 h2 p hp
theorem aK.storeOwnL{S:Setup}{B:Base}{ops l}{L:LS}{K:LS->Prop}{t:Nat}{T T2 e2:TypeId}{x i v:Operand}{ty1 ty2:TypeId}{pos1 pos2 aft1 aft2}
  (env':List (Nat×D)) (bx':List (Nat×List D)) (hB:∀b,¬B.ab b) {inf inf2:TyI} (hkd:S.kd T=some (.slice e2)) (htab:S.tab e2=some inf) (hsz:inf.size=1) (htab2:S.tab T2=some inf2) (hsz2:inf2.size=1) {k:Nat} {e:TypeId} {ys:List Int} {ki:IntKind} {j m:Int}
  (hx:aM L x=some (.sl (.own k e 1) (ys.map (.int .i64)))) (hi:aM L i=some (.int ki j)) (hv:∀u,aM (L.put t (.raw u)) v=some (.int .i64 m)) (hk:k∈L.toks) (hj:0≤j/\j<ys.length) (ht:t<L.n)
  (henv:aY1 k e L.toks ys (ys.set j.toNat m) L t env') (hbx:aYN k e L.toks ys (ys.set j.toNat m) L bx')
  (h:aK S B ops l ⟨L.n,env',bx',[],L.toks,L.fix⟩ K):aK S B ops (⟨some t,.indexAddr T x i,ty1,pos1,aft1,none⟩::⟨none,.store T2 (.tmp t) v,ty2,pos2,aft2,none⟩::l) L K :=
 aK.storeOwn hB hkd htab hsz htab2 hsz2 hx hk hi hj ht hv env' bx' (aJ3 henv) (aK9 hbx) h
theorem aIu{S B}{R:LS->Prop}{k:List VItem}{L}(kp:List (Nat×List Nat))(m:Nat){id:Nat}{l:List Oper}(hB:aHg .any l.toArray m=true)(h:∀Kq:List Oper->LS->Prop,QOk S l.toArray (λL'=>aK S B l.toArray (l.drop m) L' λL3=>SW S B R k (L3.keepAt kp id)) Kq->bC S l.toArray Kq (l.take m) L):SW S B R (.code (.region id l.toArray true)::k) L:=by
 have hq:∀l' L',bC S l.toArray (λl' L'=>fP S l.toArray L (λL2=>aK S B l.toArray (l.drop m) L2 λL3=>SW S B R k L3) l' L') l' L'->fP S l.toArray L (λL2=>aK S B l.toArray (l.drop m) L2 λL3=>SW S B R k L3) l' L' :=
  mA (K':=λl' L'=>fP S l.toArray L (λL2=>aK S B l.toArray (l.drop m) L2 λL3=>SW S B R k L3) l' L') (λ_ _ h=>h)
 intro G a w hsim;refine aCC hB (hq _ _ (h _ ?_)) hsim (λL' G' a' w' hK hs'=>hK G' a' w' hs');exact {
  nil:=λh=>fP.nil (h.mono λ_ h'=>gV kp id h')
  split:=λt _ ht h1 h0=>fP.split t ht (λe=>hq _ _ (h1 e)) (λe=>hq _ _ (h0 e))
  skip:=λhg hd h=>fP.skip hg hd (hq _ _ h)
  call:=λhg _ _ _ _ _ hf hds fc hside h=>fP.call hg hf hds fc hside (hq _ _ h)}
theorem aLH{S ops}{bx:Nat->Option (List D)}{n:Nat}{Q:jB->Prop}{l2}:∀(l1:List Oper) (E:jB),aJ7 S ops bx n (aJ7 S ops bx n Q l2) l1 E->aJ7 S ops bx n Q (l1++l2) E
 | [],_,h=>h
 | _::l1,_,⟨p,h1,h2⟩=>⟨p,h1,aLH l1 _ h2⟩
theorem aHP{S ops}{bx:Nat->Option (List D)}{n:Nat}{Q Q':jB->Prop}(hQ:∀E,Q E->Q' E):∀(l:List Oper) (E:jB),aJ7 S ops bx n Q l E->aJ7 S ops bx n Q' l E
 | [],E,h=>hQ E h
 | _::l,_,⟨p,h1,h2⟩=>⟨p,h1,aHP hQ l _ h2⟩
theorem eI.go{S ops L0}{N:List (Nat×Fact)->LS->Prop}{F:List (Nat×Fact)}{l L}(h:∀Kq:List (Nat×Fact)->List Oper->LS->Prop,XOk S ops N Kq->bC S ops (Kq F) l L):eI S ops L0 N F l L:=by
 have hq:∀F l' L',bC S ops (eI S ops L0 N F) l' L'->eI S ops L0 N F l' L':=λF =>
  oT (K':=eI S ops L0 N) (λ_ _ _ h=>h)
 refine hq _ _ _ (h (eI S ops L0 N) ?_);exact {
  nil:=λh=>eI.nil h
  split:=λt _ ht h1 h0=>eI.split t ht (λe=>hq _ _ _ (h1 e)) (λe=>hq _ _ _ (h0 e))
  skip:=λhg hd h=>eI.skip rfl hg hd (hq _ _ _ h)
  store:=λhF0 hx hi hside h=>eI.store hF0 hx hi hside (hq _ _ _ h)
  call:=λhg _ _ _ _ _ hf hds fc hside h=>eI.call hg hf hds fc hside (hq _ _ _ h)
  own:=by
   intro k F l' L' t f args tys ty pos aft g hg fid cap ds xs ro e z hf hds fc hside h;exact eI.own k hg hf hds fc hside (hq _ _ _ h)
  alloc:=λhg hi hside h=>eI.alloc hg hi hside (hq _ _ _ h)}
theorem eI.part(q:Nat){S ops L0}{N:List (Nat×Fact)->LS->Prop}{l:List Oper}{L}
  (h:∀Kq:List (Nat×Fact)->List Oper->LS->Prop,XOk S ops (λF L'=>(F.all λp=>uU p.1 (l.drop q))=true/\eI S ops L0 N F (l.drop q) L') Kq->bC S ops (Kq []) (l.take q) L):eI S ops L0 N [] l L:=by
 have h1:=eI.go (L0:=L0) h;intro hL hF;have h2:=h1 hL (λt f hf=>by simp[look] at hf);have h3:=aLH (l2:=l.drop q) (Q:=λE=>∃F' L',E=fM L' F'/\xH L' L0/\sX F' [] L'/\N F' L') _ _ (aHP (λE ⟨F',L',e,hs,hf,ha,hN⟩=>by
  subst e;refine hN hs λt f ht=>⟨(hf t f ht).1,λo ho=>?_⟩;have:=List.all_eq_true.1 (List.all_eq_true.1 ha _ (bB ht)) o ho;simpa using this) _ _ h2)
 rwa [List.take_append_drop] at h3
theorem aWK{S B}{R:LS->Prop}{k:List VItem}{L:LS}(base:Nat)(kp:List (Nat×List Nat))(m:Nat)(re:List Nat){id:Nat}{l:List Oper}(hB:aG8 .any l.toArray m=true)(hre:re.all (λi=>decide (i<m)&&aR1 .any l.toArray i&&(match l[i]? with|some o=>(match o.dst with|some d=>decide (d<L.n)|none=>false)|none=>false))=true)
  (h:eI S l.toArray L (λF L'=>toF base F L' λL2=>d7 S (re.filterMap (l[·]?)) L2 λL3=>aK S B l.toArray (l.drop m) L3 λL4=>SW S B R k (L4.keepAt kp id)) [] (l.take m) L):SW S B R (.code (.region id l.toArray true)::k) L:=λ_ _ _ hs =>
 aIl (base:=base) hre hB h hs λ_ G' a' w' hK hs'=>gV kp id hK G' a' w' hs'
theorem aFY{B}{L:LS}{G:Ghost}{a}{w:World}(h:Sim B L G a w){i0 j id n s:Nat}{cs0 cs xs:List D}{tk:Tk}(h0:look L.boxes i0=some cs0)(hj:cs0[j]?=some (.ms id n))(hne:i0≠id)(hb:look L.boxes id=some cs)(hx:cs=flat xs)(hn:n=xs.length)
  (hu:∀x∈xs,x.cells.length=s) (hk:∀d∈cs,d.memOk=true) (htk:tk=.any∨tk=.nn) :
  ∃G',Sim B {L with boxes:=eU (dG id L.boxes) i0 (cs0.set j (.sl tk xs))} G' a w:=by
 have hW:=h.W;obtain⟨g,hg,⟨vs,e,e1,e2,e3⟩,hl0,hown⟩:=hW.boxes id cs hb;have hmn:Mono G (G.grow g cs.length) w w:=⟨λb o u h1 h2=>⟨by
  simp only[Ghost.grow];split
  ·rename_i hbg;subst hbg;omega
  ·exact h1,h2⟩,λ_ _=>rfl⟩
 have rG:∀ {d u},Rel G w d u->Rel (G.grow g cs.length) w d u:=λ{d u} hr=>hr.mono hmn (λ_ _ _ h=>h) (λk _=>.inr ⟨rfl,λg' e' z hk'=>by
  obtain⟨_,_,_,h5⟩:=hW.tau k g' e' z hk';refine⟨?_,rfl⟩;simp only[Ghost.grow];rw[if_neg (by rintro rfl;exact h5 id hg)]⟩)
 have hbox:∀ {g' cs'},dD G w g' cs'->dD (G.grow g cs.length) w g' cs':=λ⟨vs,e,e1,e2,e3⟩=>⟨vs,e,e1,e2,λj d v hd hv=>rG (e3 j d v hd hv)⟩;have hcell:∀j,w.cell? ⟨g,j,none⟩=vs[j]?:=λj=>by simp[World.cell?,e1]
 have hlim:(G.grow g cs.length).lim g=cs.length:=by simp[Ghost.grow]
 have hlim':∀b,b≠g->(G.grow g cs.length).lim b=G.lim b:=λb hb=>by simp[Ghost.grow,hb]
 have conv:∀ {u},Rel G w (.ms id n) u->Rel (G.grow g cs.length) w (.sl tk xs) u:=λ{u} hr=>by
  cases hr with
  | @ms _ _ c1 g1 hb' hc' hn' =>
   have e0:g1=g:=zA (hb'.symm.trans hg);rw[e0];refine .sl (b:=g) (o:=0) (s:=s) (by omega) hc' hn' ?_ (.inr rfl) hu (hx ▸ hk) (λj d hj=>?_) (λj d u hj hu'=>?_)
   ·rcases htk with rfl|rfl
    ·trivial
    ·simp[dZ]
   ·rw[←hx] at hj;have hlt:j<cs.length:=(zE.1 hj).1;rw[Nat.zero_add,hlim,hcell];exact⟨hlt,vs[j]'(by omega),by simp[show j<vs.size by omega]⟩
   ·rw[←hx] at hj;rw[Nat.zero_add,hcell] at hu';exact rG (e3 j d u hj hu')
 refine⟨G.grow g cs.length,h.defers,h.size,λt' d hd=>?_,?_,h.fixed⟩
 ·obtain⟨u,h1,h2⟩:=h.env t' d hd;exact⟨u,h1,rG h2⟩
 ·exact {hW with
   boxes:=λi cs' hl=>by
    simp only[b7] at hl;by_cases e9:i0=i
    ·subst e9;rw[if_pos rfl] at hl;obtain rfl:=zA hl;obtain⟨g',k1,⟨vs',ee,b1,b2,b3⟩,k3,k4⟩:=hW.boxes i0 cs0 h0;refine⟨g',k1,⟨vs',ee,b1,by simpa using b2,λj' d v hd hv=>?_⟩,?_,k4⟩
     ·rw[List.getElem?_set] at hd;by_cases ej:j=j'
      ·subst ej;have hlt:j<cs0.length:=(zE.1 hj).1;rw[if_pos rfl,if_pos hlt] at hd;obtain rfl:=zA hd;exact conv (b3 j _ v hj hv)
      ·rw[if_neg ej] at hd;exact rG (b3 j' d v hd hv)
     ·rw[hlim' g' (by rintro rfl;exact hne (hW.binj _ _ _ k1 hg))];exact k3
    ·rw[if_neg e9] at hl;simp only[fD] at hl;by_cases e0:id=i
     ·rw[if_pos e0] at hl;cases hl
     ·rw[if_neg e0] at hl;obtain⟨g',k1,k2,k3,k4⟩:=hW.boxes i cs' hl;refine⟨g',k1,hbox k2,?_,k4⟩;rw[hlim' g' (by rintro rfl;exact e0 (hW.binj _ _ _ hg k1))];exact k3
   robs:=λi cs' hl=>by
    obtain⟨g',k1,k2,k3⟩:=hW.robs i cs' hl;exact⟨g',k1,hbox k2,k3⟩
   tau:=λk g' e' z hk'=>by
    obtain⟨h1,h2,⟨cur,h3,h4⟩,h5⟩:=hW.tau k g' e' z hk';refine⟨h1,h2,⟨cur,h3,?_⟩,h5⟩;rw[hlim' g' (by rintro rfl;exact h5 id hg)];exact h4
   old:=λb hb1 hb2=>by
    refine⟨(hW.old b hb1 hb2).1,?_⟩;rw[hlim' b]
    ·exact(hW.old b hb1 hb2).2
    ·rintro rfl;rcases hown with h|h
     ·omega
     ·exact hb2 h
   olda:=λb hb1=>by
    refine⟨?_,(hW.olda b hb1).2⟩;have:=(hW.olda b hb1).1;by_cases hbg:b=g
    ·subst hbg;rw[hl0] at this;omega
    ·rw[hlim' b hbg];exact this
   lablt:=hW.lablt}
theorem aJp{S B}{R:LS->Prop}{k:List VItem}{L:LS}(i0 j s:Nat)(tk:Tk){id n:Nat}{cs0 cs:List D}(xs:List D)(h0:look L.boxes i0=some cs0)(hj:cs0[j]?=some (.ms id n))(hb:look L.boxes id=some cs)(hne:i0≠id)(hx:cs=flat xs)(hn:n=xs.length)
  (hu:∀x∈xs,x.cells.length=s) (hk:∀d∈cs,d.memOk=true) (htk:tk=.any∨tk=.nn) (hh:SW S B R k {L with boxes:=eU (dG id L.boxes) i0 (cs0.set j (.sl tk xs))}):SW S B R k L:=λ_ a w hs=>by
 obtain⟨G',h'⟩:=aFY hs h0 hj hne hb hx hn hu hk htk;exact hh G' a w h'
theorem aAm{S B}{R:LS->Prop}{k:List VItem}{L:LS}(id:Nat){cs:List D}(cs':List D)(hb:look L.boxes id=some cs)(hl:cs'.length=cs.length)(hle:∀(j:Nat) c d,cs[j]?=some c->cs'[j]?=some d->D.le c d)(hh:SW S B R k {L with boxes:=eU L.boxes id cs'}):SW S B R k L:=λG a w hs=>by
 refine hh G a w ⟨hs.defers,hs.size,hs.env,{hs.W with boxes:=λi c hi=>?_},hs.fixed⟩;simp only[b7] at hi;by_cases e:id=i
 ·subst e;rw[if_pos rfl] at hi;obtain rfl:=zA hi;obtain⟨g,h1,⟨vs,ee,b1,b2,b3⟩,h3⟩:=hs.W.boxes id cs hb;refine⟨g,h1,⟨vs,ee,b1,by omega,λj d v hd hv=>?_⟩,h3⟩;have hlt:j<cs.length:=by have:=(zE.1 hd).1;omega
  exact(b3 j _ v (zB hlt) hv).le (hle j _ d (zB hlt) hd)
 ·rw[if_neg e] at hi;exact hs.W.boxes i c hi
theorem aZn{a b c d:D}(h1:D.le a c)(h2:D.le b d):∀(j:Nat) (x y:D),[a,b][j]?=some x->[c,d][j]?=some y->D.le x y
 | 0,x,y,hx,hy=>by obtain rfl:=zA hx;obtain rfl:=zA hy;exact h1
 | 1,x,y,hx,hy=>by obtain rfl:=zA hx;obtain rfl:=zA hy;exact h2
 | j+2,x,y,hx,_=>by simp at hx
end Go.Lg
