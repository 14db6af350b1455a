import Derived.Test.YtmfmgoceeedonaaGreatLgK4
import Derived.KernelRfl
namespace Go.Lg
open Go Go.RowKit

inductive Fact
 | box (cs:List D)
 | own (k:Nat) (e:TypeId) (z:Nat) (xs:List D)

structure Bare (B:Base) (G:Ghost) (w:World) (g:Nat):Prop where
 ge:B.w.heap.size≤g
 lt:g<w.heap.size
 beta:∀i,G.β i≠some g
 tau:∀k e z,G.τ k≠some (some (g,e,z))
 lab:G.lab g=[]

def oF(B:Base)(G:Ghost)(w:World)(o:Option Nat):Fact->Value->Prop
 | .box cs,v=>∃g,o=some g/\v=.pointer (some ⟨g,0,none⟩)/\Bare B G w g/\dD G w g cs/\G.lim g=0/\D.idsL cs=[]/\D.tksL cs=[]
 | .own _ e z xs,v=>Rel G w (.sl .any xs) v/\∃A n c,v=.slice A n c/\((o=none/\n=0/\c=0)∨∃g,o=some g/\Bare B G w g/\A=some ⟨g,0,none⟩/\n*z=G.lim g/\(∀x∈xs,x.cells.length=z)/\0<z/\∃cur,w.heap[g]?=some (.cells cur e (0,0))/\G.lim g≤cur.size/\w.shape? g=some (e,c*z))

section
variable {B:Base} {bx ro:List (Nat×List D)} {tk:List Nat} {G G':Ghost} {w w':World}
theorem Quiet.mono(hW:SimW B bx ro tk G w)(hq:Quiet G G' w w'):Mono G G' w w' :=
 ⟨λb o v h1 h2=>by
  obtain⟨e1,e2,_⟩:=hq.heap b (kK h2);exact⟨by rw[e2];exact h1,by rw[bY e1];exact h2⟩,λb hb=>(hq.heap b (hW.lablt b hb)).2.2⟩
theorem Quiet.rel(hW:SimW B bx ro tk G w)(hq:Quiet G G' w w'){d:D}{v:Value}(hr:Rel G w d v):Rel G' w' d v :=
 hr.mono (hq.mono hW) (λi _ g hg=>by rw[hq.beta];exact hg) (λk _=>.inr ⟨by rw[hq.tau],λg e z hk=>by
  obtain⟨_,_,⟨cur,hc,_⟩,_⟩:=hW.tau k g e z hk;obtain⟨e1,e2,_⟩:=hq.heap g (bX hc);exact⟨e2,dP e1⟩⟩)
theorem Quiet.bare(hq:Quiet G G' w w'){g:Nat}(h:Bare B G w g):Bare B G' w' g :=
 ⟨h.ge,Nat.lt_of_lt_of_le h.lt hq.sz,by rw[hq.beta];exact h.beta,by rw[hq.tau];exact h.tau,(hq.heap g h.lt).2.2.trans h.lab⟩
theorem Quiet.fact(hW:SimW B bx ro tk G w)(hq:Quiet G G' w w'){o:Option Nat}{f:Fact}{v:Value}(h:oF B G w o f v):oF B G' w' o f v:=by
 cases f with
 | box cs =>
  obtain⟨g,h1,h2,h3,⟨vs,e,e1,e2,e3⟩,h5,h6⟩:=h;obtain⟨q1,q2,_⟩:=hq.heap g h3.lt;exact⟨g,h1,h2,hq.bare h3,⟨vs,e,by rw[q1];exact e1,e2,λj d v hd hv=>hq.rel hW (e3 j d v hd hv)⟩,by rw[q2];exact h5,h6⟩
 | own _ e z xs =>
  obtain⟨h1,A,n,c,h2,h3⟩:=h;refine⟨hq.rel hW h1,A,n,c,h2,?_⟩;rcases h3 with h3|⟨g,k1,k2,k3,k4,k5,k6,cur,k7,k8,k9⟩
  ·exact .inl h3
  ·obtain⟨q1,q2,_⟩:=hq.heap g k2.lt;exact .inr ⟨g,k1,hq.bare k2,k3,by rw[q2];exact k4,k5,k6,cur,by rw[q1];exact k7,by rw[q2];exact k8,by rw[dP q1];exact k9⟩
theorem oF.lt{o:Option Nat}{f:Fact}{v:Value}{g:Nat}(h:oF B G w o f v)(ho:o=some g):g<w.heap.size:=by
 cases f with
 | box cs =>
  obtain⟨g',h1,_,h3,_⟩:=h;rw[ho] at h1;obtain rfl:=zA h1;exact h3.lt
 | own _ e z xs =>
  obtain⟨_,A,n,c,_,⟨h1,_⟩|⟨g',h1,h2,_⟩⟩:=h
  ·rw[ho] at h1;cases h1
  ·rw[ho] at h1;obtain rfl:=zA h1;exact h2.lt
theorem oF.ghost{G2:Ghost}{o:Option Nat}{f:Fact}{v:Value}(h:oF B G w o f v)(hlim:G2.lim=G.lim)(hlab:G2.lab=G.lab)(hb:∀g,o=some g->Bare B G w g->Bare B G2 w g):oF B G2 w o f v:=by
 have hm:Mono G G2 w w:=⟨λb o v h1 h2=>⟨by rw[hlim];exact h1,h2⟩,λb _=>by rw[hlab]⟩;have rr:∀ {d v},d.ids=[]->d.tks=[]->Rel G w d v->Rel G2 w d v:=λhi ht hr=>hr.mono hm (by rw[hi];intro i hi;cases hi) (by rw[ht];intro i hi;cases hi);cases f with
 | box cs =>
  obtain⟨g,h1,h2,h3,⟨vs,e,e1,e2,e3⟩,h5,h6,h7⟩:=h;refine⟨g,h1,h2,hb g h1 h3,⟨vs,e,e1,e2,λj d v hd hv=>rr ?_ ?_ (e3 j d v hd hv)⟩,by rw[hlim];exact h5,h6,h7⟩
  ·exact List.eq_nil_iff_forall_not_mem.2 λi hi=>by have:=iF (zF hd) hi;rw[h6] at this;cases this
  ·exact List.eq_nil_iff_forall_not_mem.2 λi hi=>by have:=fN (zF hd) hi;rw[h7] at this;cases this
 | own _ e z xs =>
  obtain⟨h1,A,n,c,h2,h3⟩:=h;refine⟨rr rfl rfl h1,A,n,c,h2,?_⟩;rcases h3 with h3|⟨g,k1,k2,k3,k4,k5,k6,cur,k7,k8,k9⟩
  ·exact .inl h3
  ·exact .inr ⟨g,k1,hb g k1 k2,k3,by rw[hlim];exact k4,k5,k6,cur,k7,by rw[hlim];exact k8,k9⟩
end

theorem aUw{B L}{G:Ghost}{a}{w:World}(h:Sim B L G a w){g:Nat}{cs new:List D}{vl:List Value}(hb:Bare B G w g)(hbx:dD G w g cs)(h0:G.lim g=0)(hoff:new.length≤cs.length)
  (hn:vl.length=new.length) (hr:∀(j:Nat) d v,new[j]?=some d->vl[j]?=some v->Rel G w d v) (h1:∀v∈vl,v.oneCell'=true) :
  ∃w',(∀P:Program,(storeCells ⟨g,0,none⟩ vl).run P w=.ok () w')/\Sim B L G a w'/\dD G w' g (dF cs 0 new)/\w'.heap.size=w.heap.size/\(∀b,b≠g->w'.heap[b]?=w.heap[b]?)/\∀d v,Rel G w d v->Rel G w' d v:=by
 have hW:=h.W;obtain⟨vs,e,e1,e2,e3⟩:=hbx;let vs':=(vs.toList.take (0+0)++vl++vs.toList.drop (0+0+vl.length)).toArray;have hg:=bX e1;have hsame:(w.setRow g vs').heap[g]?=some (.cells vs' e (0,0)):=setRow_heap w g vs vs' e (0,0) e1;have hother:∀b,b≠g->(w.setRow g vs').heap[b]?=w.heap[b]?:=λb hb=>setRow_other w g b vs' hb;have hmn:Mono G G w (w.setRow g vs'):=by
  refine⟨λb o v h1 h2=>⟨h1,?_⟩,λ_ _=>rfl⟩;have hb:b≠g:=λe=>by subst e;rw[h0] at h1;omega
  rw[bY (hother b hb)];exact h2
 have hτg:∀ {k g' e' z},G.τ k=some (some (g',e',z))->g'≠g:=λ{k g' e' z} hk e=>by
  subst e;exact hb.tau k e' z hk
 have hβg:∀ {i g'},G.β i=some g'->g'≠g:=λ{i g'} hi e=>by
  subst e;exact hb.beta i hi
 have rG:∀ {d v},Rel G w d v->Rel G (w.setRow g vs') d v:=λhr =>
  hr.mono hmn (λ_ _ _ h=>h) (λk _=>.inr ⟨rfl,λg' e' z hk=>⟨rfl,dP (hother g' (hτg hk))⟩⟩)
 have hbox:∀ {g' cs},g'≠g->dD G w g' cs->dD G (w.setRow g vs') g' cs:=λ{g' cs} hne ⟨vs,e',e1,e2,e3⟩ =>
  ⟨vs,e',by rw[hother _ hne];exact e1,e2,λj d v hd hv=>rG (e3 j d v hd hv)⟩
 have hsz:(w.setRow g vs').heap.size=w.heap.size:=by simp[World.setRow]
 have hge:=hb.ge;refine⟨w.setRow g vs',λP=>?_,⟨h.defers,h.size,λt d hd=>?_,?_,h.fixed⟩,⟨vs',e,hsame,?_,λj d v hd hv=>?_⟩,hsz,hother,λd v hr=>rG hr⟩
 ·exact run_storeCells_at P g 0 e vl 0 vs w e1 (by omega) h1
 ·obtain⟨v,h1,h2⟩:=h.env t d hd;exact⟨v,h1,rG h2⟩
 ·exact {hW with
   boxes:=λi cs' hl'=>by
    obtain⟨g',q1,q2,q3,q4⟩:=hW.boxes i cs' hl';exact⟨g',q1,hbox (hβg q1) q2,q3,q4⟩
   robs:=λi cs' hl'=>by
    obtain⟨g',q1,q2,q3,q4⟩:=hW.robs i cs' hl';exact⟨g',q1,hbox (hβg q1) q2,q3,q4⟩
   tau:=λk g' e' z hk=>by
    obtain⟨q1,q2,⟨cur,q3,q4⟩,q5⟩:=hW.tau k g' e' z hk;exact⟨q1,q2,⟨cur,by rw[hother _ (hτg hk)];exact q3,q4⟩,q5⟩
   blt:=λi g' hi=>by rw[hsz];exact hW.blt i g' hi
   lablt:=λb hb=>by rw[hsz];exact hW.lablt b hb
   old:=λb hlt hab=>by
    rw[hother b (by omega)];exact hW.old b hlt hab
   olda:=λb hlt=>by
    obtain⟨q1,q2⟩:=hW.olda b hlt;refine⟨q1,λo v ho hc=>?_⟩;rw[bY (hother b (by omega))];exact q2 o v ho hc
   labw:=λb hb' hor=>by
    obtain⟨vs,e',h1⟩:=hW.labw b hb' hor;refine⟨vs,e',?_⟩;rw[hother b (λe0=>hb' (by rw[e0];exact hb.lab))];exact h1
   sz:=by rw[hsz];exact hW.sz
   os:=hW.os
   tape:=hW.tape
   out:=hW.out
   dr:=hW.dr}
 ·rw[mX (by omega)];simp[vs'];omega
 ·rw[rS (by omega)] at hd;have hvg:vs'[j]?=if 0≤j/\j<0+new.length then vl[j-0]? else vs.toList[j]?:=by
   simp only[vs',List.getElem?_toArray];by_cases c2:j<new.length
   ·rw[if_pos (by omega),List.append_assoc,List.getElem?_append_right (by simp)];simp;rw[zL (by omega)]
   ·rw[if_neg (by omega),List.getElem?_append_right (by simp;omega),List.getElem?_drop];congr 1
    simp;omega
  rw[hvg] at hv;by_cases hc:0≤j/\j<0+new.length
  ·rw[if_pos hc] at hd hv;exact rG (hr _ d v hd hv)
  ·rw[if_neg hc] at hd hv;exact rG (e3 j d v hd (by simpa using hv))

abbrev PX:=D×Option Fact
abbrev jB:=Nat->Option PX
def mU(E:jB):Env:=λt=>(E t).map (·.1)
def lK(E:jB)(t:Option Nat)(p:PX):jB:=match t with|some t=>λt'=>if t=t' then some p else E t'|none=>E
theorem aFq(E:jB)(t:Option Nat)(p:PX):mU (lK E t p)=lX (mU E) t p.1:=by
 cases t with
 | none=>rfl
 | some t =>
  funext t'
  by_cases h:t=t'<;>simp[mU,lK,lX,h]
theorem aQH(E:jB){x y:Option Nat}(d e:PX)(h:∀t,x=some t->y≠some t):lK (lK E x d) y e=lK (lK E y e) x d:=by
 cases x with
 | none=>rfl
 | some t =>
  cases y with
  | none=>rfl
  | some u =>
   have hne:t≠u:=λe=>h t rfl (by rw[e])
   funext t'
   simp only[lK];by_cases h1:t=t'
   ·subst h1;have:¬u=t:=λe=>hne e.symm;simp[this]
   ·simp[h1]

def aNp:Op->Bool
 | .store _ _ _=>true
 | _=>false
def wrX(o:Oper):Option Nat:=match o.op with
 | .store _ (.tmp t) _=>some t
 | _=>o.dst
theorem mJ{o:Oper}(h:aNp o.op=false):wrX o=o.dst:=by
 unfold wrX;split
 ·rename_i h1;rw[h1] at h;cases h
 ·rfl

theorem aOv{S:Setup}{B L}{G:Ghost}{a}{w:World}(hs:Sim B L G a w){t ty e:TypeId}{tk:Tk}{ys:List D}{i:TyI}{v u:Value}(hx:Rel G w (.sl .full []) v)(hy:Rel G w (.sl tk ys) u)(ht0:S.kd t=some (.slice e))(hi:S.tab e=some i)
  (hb:0<i.size/\(∀x∈ys,x.cells.length=i.size)/\ys.length*i.bytes≤140737488355328/\ys.length≤140737488355328) :
  ∃A n c G' w',(Builtin.append_ #[t,t] ty #[v,u]).run S.P w=.ok (.slice A n c) w'/\Sim B L G' a w'/\Rel G' w' (.sl .any ys) (.slice A n c)/\Quiet G G' w w' ∧
   ((n=0/\c=0)∨∃g,w.heap.size≤g/\g<w'.heap.size/\G'.lab g=[]/\A=some ⟨g,0,none⟩/\n*i.size=G'.lim g/\0<i.size/\∃cur,w'.heap[g]?=some (.cells cur e (0,0))/\G'.lim g≤cur.size/\w'.shape? g=some (e,c*i.size)):=by
 obtain⟨hz,huy,hbt,h63⟩:=hb;have ht:=aN ht0;obtain⟨inf,i1,i2,i3,z,i4,i5,_⟩:=(S.ok e i hi).info;obtain⟨A,n,c,rfl⟩:∃A n c,v=.slice A n c:=by cases hx;exact⟨_,_,_,rfl⟩
 obtain⟨A2,m,c2,rfl⟩:∃A n c,u=.slice A n c:=by cases hy;exact⟨_,_,_,rfl⟩
 obtain⟨xn,xc,xm,xk,xl⟩:=kI hx;obtain⟨yn,yc,ym,yk,yl⟩:=kI hy;have hml:(140737488355328:Nat)≤maxLen:=by simp[maxLen]
 have hfy:=dC huy;have hnc:n=c:=by
  cases hx with
  | @sl _ _ _ _ _ b o s hn hcc hm htk hA hu hk0 hstt hrr=>exact htk
 have hn0:n=0:=xn;subst hn0;obtain rfl:c=0:=hnc.symm;by_cases hm0:ys=[]
 ·subst hm0;have hm:m=0:=by rw[yn];rfl
  subst hm;exact⟨_,_,_,G,w,mV (P:=S.P) w t ty e inf ht i1 A 0 0 xc A2 c2,hs,hx.le .any,Quiet.refl _ _,.inl ⟨rfl,rfl⟩⟩
 ·obtain⟨b2,o2,rfl,news,n1,n2,n3,n4,_⟩:=yl hm0;have hmp:0<m:=by rw[yn];exact List.length_pos_iff.2 hm0
  have hnl:news.length=m*inf.size:=by rw[n1,hfy,yn,i2]
  have hnews:∀(j:Nat) u,news[j]?=some u->w.cell? ((⟨b2,o2,none⟩:Addr).add j)=some u:=λj u hu=>by rw[e8];exact n2 j u hu
  have hzs:z.cells.size=inf.size:=by rw[i5,i2];simp[TyI.size]
  have hbytes:(0+m)*inf.bytes≤140737488355328:=by rw[i3,yn,Nat.zero_add];exact hbt
  have hsd:Sim B L G a w.drew:=aHv hs;have hrd:∀d v,Rel G w d v->Rel G w.drew d v:=λd v hr =>
   hr.mono (show Mono G G w w.drew from⟨λ_ _ _ h1 h2=>⟨h1,h2⟩,λ_ _=>rfl⟩) (λ_ _ _ h=>h) (λ_ _=>.inr ⟨rfl,λ_ _ _ _=>⟨rfl,rfl⟩⟩)
  have hrun:(Builtin.append_ #[t,t] ty #[.slice A 0 0,.slice (some ⟨b2,o2,none⟩) m c2]).run S.P w =
    .ok (.slice (some ⟨w.heap.size,0,none⟩) (0+m) (grownCap w (0+m) 0 e)) (w.drew.alloc (.cells (#[]++news.toArray++Builtin.zeroCells z.cells (grownCap w (0+m) 0 e-(0+m))) e)):=by
   cases A with
   | none=>simpa using run_append_nil (P:=S.P) w t ty e inf z ht i1 i4 ⟨b2,o2,none⟩ m c2 news hnl hnews hmp (by omega) (by simp only[Nat.zero_add] at hbytes;omega)
   | some ad=>exact run_append_grow (P:=S.P) w t ty e inf z ht i1 i4 ad 0 0 [] (by simp) (by simp) ⟨b2,o2,none⟩ m c2 news hnl hnews (by omega) (by omega) (growslice_fits (by omega) hbytes)
  have hcap:=grownCap_ge w (0+m) 0 e;generalize harr:#[]++news.toArray++Builtin.zeroCells z.cells (grownCap w (0+m) 0 e-(0+m))=arr at hrun;generalize hcc:grownCap w (0+m) 0 e=cap at *;have hcm:cap≤maxLen:=by rw[←hcc];exact grownCap_le_maxLen w (0+m) 0 e (by omega)
  have hasz:arr.size=cap*i.size:=by
   rw[←harr];have hzc:(Builtin.zeroCells z.cells (cap-(0+m))).size=(cap-(0+m))*z.cells.size:=by simp[Builtin.zeroCells]
   simp only[Array.size_append,hzc,hzs,i2];simp only[List.size_toArray,List.length_nil,hnl,i2,Nat.zero_add];rw[←Nat.add_mul];congr 1
   omega
  have hlarr:(flat ys).length≤arr.size:=by rw[hfy,hasz,←yn];exact Nat.mul_le_mul_right _ (by omega)
  have hrl:∀d v,Rel G w d v->Rel (G.grow w.drew.heap.size ((flat ys).length)) (w.drew.alloc (.cells arr e)) d v:=λd v hr=>mB hsd.W (.cells arr e) ((flat ys).length) (hrd d v hr);have e0:w.heap.size=w.drew.heap.size:=rfl;have hnew:(w.drew.alloc (.cells arr e)).heap[w.heap.size]?=some (.cells arr e (0,0)):=heap_alloc_new w.drew _;refine⟨_,_,_,_,_,hrun,nI hsd (.cells arr e) ((flat ys).length),?_,aE1 (mN G w.drew _ _),.inr ⟨w.heap.size,zQ _,bX hnew,?_,rfl,?_,hz,arr,hnew,?_,?_⟩⟩
  ·refine .sl (b:=w.heap.size) (o:=0) (s:=i.size) (by rw[Nat.zero_add];exact yn) hcap hcm trivial (.inr rfl) huy yk (λj d hd=>?_) (λj d v hd hv=>?_)
   ·have hj:j<(flat ys).length:=(zE.1 hd).1;rw[Nat.zero_add,e0,i7];exact⟨by simpa[Ghost.grow] using hj,arr[j]'(by omega),by simp[show j<arr.size by omega]⟩
   ·rw[Nat.zero_add,e0,i7,←harr] at hv;refine hrl d v ?_;have hlt:=(zE.1 hd).1;rw[Array.append_assoc,Array.getElem?_append_right (by simp),Array.getElem?_append_left (by simp;omega)] at hv;exact n3 _ d v hd (by simpa using hv)
  ·show G.lab w.heap.size=[];by_cases e1:G.lab w.heap.size=[]
   ·exact e1
   ·exact absurd (hs.W.lablt _ e1) (Nat.lt_irrefl _)
  ·simp only[Ghost.grow,e0,if_true,Nat.zero_add,hfy,yn]
  ·simp only[Ghost.grow,e0,if_true];exact hlarr
  ·unfold World.shape?;simp only[hnew,hasz]

inductive Eff (S:Setup) (op:Op) (E:jB) (bx:Nat->Option (List D)):PX->Prop
 | quiet {d:D} (hn:aNp op=false) (h:∀K:D->Prop,K d->opY S op (lA (mU E)) bx K):Eff S op E bx (d,none)
 | alloc {ty:TypeId} {i:TyI} (h:op=.alloc ty) (hi:S.tab ty=some i):Eff S op E bx (.pred λ_ _ _=>True,some (.box (i.zero.map ZK.d)))
 | own {f:Operand} {args:Array Operand} {tys:Array TypeId} {fid:Nat} {cap ds xs:List D} {ro:List (Nat×List D)} {e:TypeId} {z:Nat} (k:Nat) (h:op=.call ⟨.value f,args,tys⟩) (hf:lA (mU E) f=some (.fn fid cap)) (hds:fQ (lA (mU E)) args.toList=some ds)
   (hro:∀p∈ro,bx p.1=some p.2) (fc:FC S fid ro [] [] (ds++cap) (.sl (.own 0 e z) xs) [] [0]):Eff S op E bx (.sl .any xs,some (.own k e z xs))
 | app {x y:Operand} {ty e:TypeId} {tk:Tk} {ys:List D} {i:TyI} (k:Nat) (h:op=.call ⟨.builtin .append,#[x,y],#[ty,ty]⟩) (hx:lA (mU E) x=some (.sl .full [])) (hy:lA (mU E) y=some (.sl tk ys)) (hkd:S.kd ty=some (.slice e)) (hi:S.tab e=some i)
   (hb:0<i.size/\(∀x∈ys,x.cells.length=i.size)/\ys.length*i.bytes≤140737488355328/\ys.length≤140737488355328):Eff S op E bx (.sl .any ys,some (.own k e i.size ys))
 | store {T:TypeId} {t:Nat} {x:Operand} {d d0:D} {i:TyI} {cs:List D} (h:op=.store T (.tmp t) x) (he:E t=some (d0,some (.box cs))) (hx:lA (mU E) x=some d) (hi:S.tab T=some i)
   (hs:d.cells.length=i.size/\d.cells.length=cs.length/\d.cells.all D.one=true/\D.idsL d.cells=[]/\D.tksL d.cells=[]):Eff S op E bx (d0,some (.box d.cells))

theorem Eff.congr{S}{op:Op}{E E':jB}{bx:Nat->Option (List D)}{p:PX}(h:∀u,Operand.tmp u∈op.operands->E u=E' u)(he:Eff S op E bx p):Eff S op E' bx p:=by
 have hop:∀x∈op.operands,lA (mU E) x=lA (mU E') x:=λx hx=>by
  cases x with
  | tmp u=>simp only[lA,mU,h u hx]
  | _=>rfl
 cases he with
 | quiet hn hq=>exact .quiet hn λK hK=>aBN hop (hq K hK)
 | alloc h1 hi=>exact .alloc h1 hi
 | @own f args tys fid cap ds xs ro e z k h1 hf hds hro fc =>
  subst h1;simp only[Op.operands,Call.operands] at hop;refine .own k rfl ?_ ?_ hro fc
  ·rw[←hop f (by simp)];exact hf
  ·rw[←iZ (ρ:=lA (mU E)) λx hx=>hop x (by simp at hx ⊢;exact .inr hx)];exact hds
 | @app x y ty e tk ys i k h1 hx hy hkd hi hb =>
  subst h1;simp only[Op.operands,Call.operands] at hop;exact .app k rfl (by rw[←hop x (by simp)];exact hx) (by rw[←hop y (by simp)];exact hy) hkd hi hb
 | @store T t x d d0 i cs h1 he hx hi hs =>
  subst h1;refine .store rfl ?_ ?_ hi hs
  ·rw[←h t (by simp[Op.operands])];exact he
  ·rw[←hop x (by simp[Op.operands])];exact hx

def yN(ops:Array Oper)(o p:Oper):Bool :=
 (match wrX o with|none=>true|some t=>!(p.looksAt ops).contains t&&wrX p != some t)&&(match wrX p with|none=>true|some t=>!(o.looksAt ops).contains t)
theorem aLQ{ops}{o p:Oper}(h:yN ops o p=true):(∀u,wrX o=some u->u∉p.looksAt ops)/\(∀t,wrX o=some t->wrX p≠some t)/\∀u,wrX p=some u->u∉o.looksAt ops:=by
 unfold yN at h;rw[Bool.and_eq_true] at h;obtain⟨h1,h2⟩:=h;refine⟨λu hu=>?_,λu hu=>?_,λu hu=>?_⟩
 ·rw[hu] at h1;simp only[Bool.and_eq_true] at h1;simpa using h1.1
 ·rw[hu] at h1;simp only[Bool.and_eq_true] at h1;simpa using h1.2
 ·rw[hu] at h2;simpa using h2
def aVD(md:Region.Mode)(ops:Array Oper)(listed:Array Bool)(i:Nat):Bool:=match ops[i]? with
 | none=>false
 | some oi=>(List.range ops.size).all λj=>j==i||listed.getD j true||(ons md ops j).contains i||(match ops[j]? with|none=>true|some oj=>yN ops oi oj)
theorem aMX{md:Region.Mode}{ops}{listed:Array Bool}{i:Nat}{oi}(hi:ops[i]?=some oi)(h:aVD md ops listed i=true):∀j oj,ops[j]?=some oj->j≠i->listed.getD j true=false->(∀e∈oj.after,Region.binds md e=true->e.on≠i)->yN ops oi oj=true:=λj oj hj hne hun hno=>by
 unfold aVD at h;simp only[hi] at h;have hlt:=(Array.getElem?_eq_some_iff.1 hj).1;have:=List.all_eq_true.1 h j (List.mem_range.2 hlt);simp only[hj,Bool.or_eq_true,beq_iff_eq,hun] at this;rcases this with ((h1|h1)|h1)|h1
 ·exact absurd h1 hne
 ·cases h1
 ·have h2:i∈ons md ops j:=by simpa using h1
  simp only[ons,hj,zJ,List.mem_filter] at h2;obtain⟨e,⟨he,hb⟩,hon⟩:=h2;exact absurd hon (hno e (by simpa using he) hb)
 ·exact h1
def aAY(md:Region.Mode)(ops:Array Oper):Nat->Nat->Array Bool->Bool
 | 0,_,_=>true
 | f+1,k,listed=>(Region.ready md ops listed).contains k&&aVD md ops listed k&&aAY md ops f (k+1) (listed.setIfInBounds k true)
def aG8(md:Region.Mode)(ops:Array Oper)(m:Nat):Bool:=aAY md ops m 0 (Array.replicate ops.size false)&&tK md ops m&&decide (m≤ops.size)

section
variable {S:Setup} {ops:Array Oper} {bx:Nat->Option (List D)} {n m:Nat} {md:Region.Mode}
def mK(S:Setup)(ops:Array Oper)(bx:Nat->Option (List D))(n:Nat)(o:Oper)(p:PX)(E:jB):Prop :=
 aLg n o.dst/\((guardE ops (mU E) o.guard=some true/\Eff S o.op E bx p/\(aNp o.op=true->o.dst=none))∨(guardE ops (mU E) o.guard=some false/\aNp o.op=false/\p=(.raw undef,none)))
def qX(S:Setup)(ops:Array Oper)(bx:Nat->Option (List D))(n:Nat)(i:Nat)(K:jB->Prop)(E:jB):Prop :=
 match ops[i]? with
 | none=>K E
 | some o=>∃d,mK S ops bx n o d E/\K (lK E (wrX o) d)
theorem aWF{i:Nat}{E:jB}{K K':jB->Prop}(h:∀E,K E->K' E)(hh:qX S ops bx n i K E):qX S ops bx n i K' E:=by
 unfold qX at *;split
 ·exact h _ (by simpa[*] using hh)
 ·rename_i o ho;simp only[ho] at hh;obtain⟨d,h1,h2⟩:=hh;exact⟨d,h1,h _ h2⟩
theorem mK.qX{i:Nat}{o}{d:PX}{E:jB}(hi:ops[i]?=some o)(hy:mK S ops bx n o d E){K:jB->Prop}(h:K (lK E (wrX o) d)):qX S ops bx n i K E:=by
 unfold Go.Lg.qX;simp only[hi];exact⟨d,hy,h⟩
theorem aCQ(o:Oper)(E:jB)(t:Option Nat)(e d:PX)(h:∀u,t=some u->u∉o.looksAt ops):mK S ops bx n o d (lK E t e)↔mK S ops bx n o d E:=by
 have hop:∀u,Operand.tmp u∈o.op.operands->lK E t e u=E u:=λu hu=>by
  cases t with
  | none=>rfl
  | some t =>
   have hne:t≠u:=λe0=>h t rfl (by
    subst e0;exact List.mem_append_left _ (List.mem_filterMap.2 ⟨.tmp t,by simpa using hu,rfl⟩))
   simp[lK,hne]
 have hgd:guardE ops (mU (lK E t e)) o.guard=guardE ops (mU E) o.guard:=by
  rw[aFq];exact aFy o (mU E) t e.1 h
 unfold mK;rw[hgd];constructor
 ·rintro⟨h0,⟨h1,h2,h3⟩|h2⟩
  ·exact⟨h0,.inl ⟨h1,h2.congr hop,h3⟩⟩
  ·exact⟨h0,.inr h2⟩
 ·rintro⟨h0,⟨h1,h2,h3⟩|h2⟩
  ·exact⟨h0,.inl ⟨h1,h2.congr λx hx=>(hop x hx).symm,h3⟩⟩
  ·exact⟨h0,.inr h2⟩
theorem aZq{j:Nat}{oi oj}{d:PX}(hj:ops[j]?=some oj)(hap:yN ops oi oj=true){K:jB->Prop}{E:jB}
  (hy:mK S ops bx n oi d E) (h:qX S ops bx n j K (lK E (wrX oi) d)):qX S ops bx n j (λE'=>mK S ops bx n oi d E'/\K (lK E' (wrX oi) d)) E:=by
 obtain⟨h1,h2,h3⟩:=aLQ hap;unfold qX at *;simp only[hj] at *;obtain⟨e,he,hK⟩:=h;refine⟨e,(aCQ oj E (wrX oi) d e h1).1 he,(aCQ oi E (wrX oj) e d h3).2 hy,?_⟩;rw[←aQH E d e h2];exact hK

def aBj(S:Setup)(md:Region.Mode)(ops:Array Oper)(bx:Nat->Option (List D))(n:Nat)(Q:jB->Prop):Nat->Array Bool->jB->Prop
 | 0,_,E=>Q E
 | f+1,listed,E=>Region.ready md ops listed≠[]/\∀i∈Region.ready md ops listed,qX S ops bx n i (aBj S md ops bx n Q f (listed.setIfInBounds i true)) E

theorem aJs{Q:jB->Prop}{i:Nat}{oi}{d:PX}(hi:ops[i]?=some oi)(hB:tK md ops m=true)(him:i<m) :
  ∀(f:Nat) (listed:Array Bool) (E:jB),InvT md ops m (f+1) listed →
   (∀j oj,ops[j]?=some oj->j≠i->listed.getD j true=false->(∀e∈oj.after,Region.binds md e=true->e.on≠i)->yN ops oi oj=true) →
   i∈Region.ready md ops listed->mK S ops bx n oi d E →
   aBj S md ops bx n Q f (listed.setIfInBounds i true) (lK E (wrX oi) d)->aBj S md ops bx n Q (f+1) listed E:=by
 intro f;induction f with
 | zero =>
  intro listed E hinv _ hr hy H;refine⟨λh=>(by rw[h] at hr;cases hr),λj hj=>?_⟩;have hjm:=hinv.lt hB hj;obtain rfl:=aKT hinv.cnt (mem_ready.1 hr).1 (mem_ready.1 hj).1 him hjm;exact hy.qX hi H
 | succ f ih =>
  intro listed E hinv hfree hr hy H;refine⟨λh=>(by rw[h] at hr;cases hr),λj hj=>?_⟩;by_cases hji:j=i
  ·subst hji;exact hy.qX hi H
  ·have h1:=H.2 j (ready_mono hj hji);obtain⟨hjun,oj,hoj,hall⟩:=mem_ready.1 hj;have hnot:∀e∈oj.after,Region.binds md e=true->e.on≠i:=λe he hb heq=>by
    have h1:=hall e he hb;have h0:=(aAA (mem_ready.1 hr).1).1;rw[heq,h0] at h1;cases h1
   have h2:=aZq hoj (hfree j oj hoj hji hjun hnot) hy h1;have hfree':∀k ok,ops[k]?=some ok->k≠i->(listed.setIfInBounds j true).getD k true=false →
     (∀e∈ok.after,Region.binds md e=true->e.on≠i)->yN ops oi ok=true:=λk ok hk hki hun hno=>by
    refine hfree k ok hk hki ?_ hno;by_cases hjk:j=k
    ·subst hjk;exact hjun
    ·rw[getD_set_ne true hjk] at hun;exact hun
   refine aWF (λE' h3=>ih (listed.setIfInBounds j true) E' (hinv.set hj (hinv.lt hB hj)) hfree' (ready_mono hr (Ne.symm hji)) h3.1 ?_) h2;rw[Array.setIfInBounds_comm _ _ hji];exact h3.2

def aJ7(S:Setup)(ops:Array Oper)(bx:Nat->Option (List D))(n:Nat)(Q:jB->Prop):List Oper->jB->Prop
 | [],E=>Q E
 | o::l,E=>∃d,mK S ops bx n o d E/\aJ7 S ops bx n Q l (lK E (wrX o) d)
theorem x9{Q:jB->Prop}(hB:tK md ops m=true):∀(l:List Oper) (k:Nat) (listed:Array Bool) (E:jB),(∀j,j<l.length->l[j]?=ops[k+j]?)->k+l.length=m->InvT md ops m l.length listed →
  aAY md ops l.length k listed=true->aJ7 S ops bx n Q l E->aBj S md ops bx n Q l.length listed E
 | [],_,_,_,_,_,_,_,h=>h
 | o::l,k,listed,E,hl,hk,hinv,hL,h=>by
  have h0:ops[k]?=some o:=by simpa using (hl 0 (by simp)).symm
  simp only[List.length_cons,aAY,Bool.and_eq_true] at hL;obtain⟨⟨hr,hf⟩,hL'⟩:=hL;have hr':k∈Region.ready md ops listed:=by simpa using hr
  obtain⟨d,hy,hK⟩:=h;simp only[List.length_cons] at hk;exact aJs h0 hB (by omega) l.length listed E hinv (aMX h0 hf) hr' hy
   (x9 hB l (k+1) _ _ (λj hj=>by have:=hl (j+1) (by simpa using hj);simpa[Nat.add_assoc,Nat.add_comm 1 j] using this) (by omega) (hinv.set hr' (by omega)) hL' hK)
end

def aML(B:Base)(L0:LS)(E:jB)(G:Ghost)(a:Act)(w:World):Prop :=
 ∃(L:LS) (γ:Nat->Option Nat),(look L.env=mU E/\L.n=L0.n/\L.boxes=L0.boxes/\L.ro=L0.ro/\L.toks=L0.toks/\L.fix=L0.fix)/\Sim B L G a w ∧
  (∀t d f,E t=some (d,some f)->∃v,a.tmps[t]?=some v/\oF B G w (γ t) f v) ∧
  ∀t t' d d' f f' g,E t=some (d,some f)->E t'=some (d',some f')->γ t=some g->γ t'=some g->t=t'

theorem oE       {B : Base} {L0 L : LS} {E : jB  } {G G' : Ghost} {a : Act} {w w' : World} {γ : Nat → Option Nat} (hE : look L.env = mU   E ∧ L.n = L0.n ∧ L.boxes = L0.boxes ∧ L.ro = L0.ro ∧ L.toks = L0.toks ∧ L.fix = L0.fix) (hs : Sim B L G a w) (hs' : Sim B L G' a w') (hq : Quiet G G' w w')
    (hf:∀t d f,E t=some (d,some f)->∃v,a.tmps[t]?=some v/\oF B G w (γ t) f v) (hi:∀t t' d d' f f' g,E t=some (d,some f)->E t'=some (d',some f')->γ t=some g->γ t'=some g->t=t')
    {t:Option Nat} {d:D} {φ:Option Fact} {o:Option Nat} {v:Value} (ht:aLg L0.n t) (hr:Rel G' w' d v) (hφ:∀f,φ=some f->oF B G' w' o f v) (ho:∀g,o=some g->w.heap.size≤g):aML B L0 (lK E t (d,φ)) G' (a.put t v) w':=by
  obtain⟨h1,h2,h3,h4,h5,h6⟩:=hE;cases t with
  | none =>
    exact⟨L,γ,⟨h1,h2,h3,h4,h5,h6⟩,hs',λt d f he=>let ⟨v,e1,e2⟩:=hf t d f he;⟨v,e1,hq.fact hs.W e2⟩,hi⟩
  | some t =>
    refine⟨L.put t d,λt'=>if t=t' then o else γ t',⟨?_,h2,h3,h4,h5,h6⟩,hs'.put (by rw[h2];exact ht) hr,λt' d' f he=>?_,λt1 t2 d1 d2 f1 f2 g e1 e2 g1 g2=>?_⟩
    · rw[aFq,←h1]
      funext t'
      simp only[LS.put,b7,lX]
    · simp only[lK] at he;by_cases e:t=t'
      · subst e;simp only[if_true,Option.some.injEq,Prod.mk.injEq] at he
        exact ⟨v, by have := hs'.size; have hlt : t < L.n := by rw [h2]; exact ht
                     simp[Act.put,this,hlt],by simp only[if_true];exact hφ f he.2⟩
      · rw[if_neg e] at he;obtain⟨v',e1,e2⟩:=hf t' d' f he;exact⟨v',by simp only[Act.put];rw[Array.getElem?_setIfInBounds_ne e];exact e1,by simp only[if_neg e];exact hq.fact hs.W e2⟩
    · simp only[lK] at e1 e2;have old:∀t' d' f',E t'=some (d',some f')->γ t'=some g->g<w.heap.size:=λt' d' f' he hg=>by
        obtain⟨v',_,e4⟩:=hf t' d' f' he;exact e4.lt hg
      by_cases q1:t=t1<;>by_cases q2:t=t2
      · omega
      · simp only[if_pos q1,if_neg q2] at g1 g2 e2;have:=old t2 d2 f2 e2 g2;have:=ho g g1;omega
      · simp only[if_neg q1,if_pos q2] at g1 g2 e1;have:=old t1 d1 f1 e1 g1;have:=ho g g2;omega
      · simp only[if_neg q1,if_neg q2] at g1 g2 e1 e2;exact hi t1 t2 d1 d2 f1 f2 g e1 e2 g1 g2

theorem ZK.d_ids(l:List ZK):D.idsL (l.map ZK.d)=[]:=by
 induction l with
 | nil=>rfl
 | cons q r ih =>
  simp only[List.map_cons,D.idsL,ih,List.append_nil];cases q<;>rfl
theorem ZK.d_tks(l:List ZK):D.tksL (l.map ZK.d)=[]:=by
 induction l with
 | nil=>rfl
 | cons q r ih =>
  simp only[List.map_cons,D.tksL,ih,List.append_nil];cases q<;>rfl

theorem aDT{B}{bx ro:List (Nat×List D)}{tk:List Nat}{G G':Ghost}{w w':World}(hW:SimW B bx ro tk G w)(hq:Quiet G G' w w'){g:Nat}(h1:w.heap.size≤g)(h2:g<w'.heap.size)(hl:G'.lab g=[]):Bare B G' w' g where
 ge:=Nat.le_trans hW.sz h1
 lt:=h2
 beta:=λi hi=>by
  rw[hq.beta] at hi;have:=hW.blt i g hi;omega
 tau:=λk e z hk=>by
  rw[hq.tau] at hk;obtain⟨_,_,⟨cur,hc,_⟩,_⟩:=hW.tau k g e z hk;have:=bX hc;omega
 lab:=hl

theorem aFE{S:Setup}{ops B}{L0:LS}{i:Nat}{E:jB}{G:Ghost}{a:Act}{w:World}{K:jB->Prop}{K':Act->World->Prop}{Q':Exit->Act->World->Prop}(hs:aML B L0 E G a w)
  (h:∀E G a' w',aML B L0 E G a' w'->K E->K' a' w') (hh:qX S ops L0.getBox L0.n i K E):wpOp S.P ops Q' i K' a w:=by
 unfold qX at hh;unfold wpOp;split
 ·rename_i ho;simp only[ho] at hh;exact h E G a w hs hh
 ·rename_i o ho;simp only[ho] at hh;obtain⟨p,⟨hd,hy⟩,hK⟩:=hh;obtain⟨L,γ,hE,hsim,hf,hi⟩:=hs;obtain⟨h1,h2,h3,h4,h5,h6⟩:=id hE;rcases hy with⟨hg,heff,hdn⟩|⟨hg,hst,rfl⟩
  ·rw[if_pos (bS (S:=S) rfl hsim (by rw[lS h1];exact hg))];left
   rw[←pK (L:=L) (L0:=L0) h3 h4] at heff;have hev:lA (mU E)=aM L:=(aAW h1).symm;have hp:∀op:Op,o.op=op->o=⟨o.dst,op,o.type,o.pos,o.after,o.guard⟩:=λop e=>by subst e;rfl
   cases heff with
   | @quiet d hst hop =>
    rw[mJ hst] at hK;rw[hev] at hop;obtain⟨d',hd',hyld⟩:=aBI hsim (hop (λx=>x=d) rfl);subst hd';exact hyld K' Q' λv G' w' hs' hr hq=>h _ G' _ w' (oE hE hsim hs' hq hf hi (o:=none) hd hr (λf hf=>by cases hf) (λg hg=>by cases hg)) hK
   | @alloc ty inf hop hi0 =>
    rw[mJ (by rw[hop];rfl)] at hK;obtain⟨z,hz,hr,_⟩:=jN (S:=S) (G:=G) (w:=w) hi0;have hrun:(execOp a.eval o).run S.P w=.ok (.value (.pointer (some ⟨w.heap.size,0,none⟩))) (w.alloc (.cells z.cells ty)):=by
     rw[hp _ hop];simp[execOp,Instr.alloc,newVar,newRow,hz]
    unfold Oper.wp;rw[hrun];have hs':=nI hsim (.cells z.cells ty) 0;have hq:=mN G w (.cells z.cells ty) 0;refine h _ _ _ _ (oE hE hsim hs' hq hf hi (o:=some w.heap.size) hd (.pred (by intro cs h;cases h) λ_ _ _=>trivial) (λf hf=>?_) (λg hg=>by have:=zA hg;omega)) hK;obtain rfl:=zA hf;refine⟨_,rfl,rfl,aDT hsim.W hq (Nat.le_refl _) (by simp) ?_,⟨z.cells,ty,heap_alloc_new w _,Nat.le_of_eq hr.1.symm,λj d v hd hv=>mB hsim.W _ _ (hr.2 j d v hd hv)⟩,by simp[Ghost.grow],ZK.d_ids _,ZK.d_tks _⟩;show G.lab w.heap.size=[];by_cases e:G.lab w.heap.size=[]
    ·exact e
    ·exact absurd (hsim.W.lablt _ e) (Nat.lt_irrefl _)
   | @own f args tys fid cap ds xs ro e z kk hop hf0 hds hro fc =>
    rw[mJ (by rw[hop];rfl)] at hK;rw[hev] at hf0 hds;obtain⟨e1,e2⟩:=eE hsim hds;have hv:=aO hsim hf0;generalize hu:a.eval f=u at hv;cases hv with
    | @fn _ _ vl hl hr =>
    have hrun:(execOp a.eval o).run S.P w=.ok (.enter fid (args.map a.eval++vl.toArray)) w:=by
     rw[hp _ hop];simp[execOp,resolve,hu,Deferred.ofValue,invoke,gW fc.1]
    unfold Oper.wp;rw[hrun,Oper.upon_enter];refine(aC6 hsim (vals:=args.map a.eval++vl.toArray) ?_ ?_ hro fc).mono ?_
    ·simp at e1;simp[e1,hl]
    ·intro j d v hd hv;have hsz:(args.map a.eval).size=ds.length:=by simp at e1;simp[e1]
     by_cases hj:j<ds.length
     ·rw[zL hj] at hd;rw[Array.getElem?_append_left (by omega)] at hv;exact e2 j d v hd (by simpa using hv)
     ·rw[zM (by omega)] at hd;rw[Array.getElem?_append_right (by omega),hsz] at hv;exact hr _ d v hd (by simpa using hv)
    ·rintro e' w' ⟨v,G',rfl,hs',hq,w0,hend⟩;obtain⟨v',q1,q2⟩:=hend.env 0 _ rfl;obtain rfl:v=v':=by simpa using q1
     obtain⟨x,hx⟩:=hend.W.toks 0 (by simp);have hab:∀b,¬(dE {G with τ:=λ_=>none} w [] []).ab b:=by
      rintro b (⟨p,hp,_⟩|⟨k,hk,_⟩)
      ·cases hp
      ·cases hk
     have r2:Rel {G' with β:=G.β,τ:=G.τ} w' (.sl .any xs) v:=by
      have q3:Rel G' w' (.sl .any xs) v:=q2.le .any;exact q3.mono (show Mono G' {G' with β:=G.β,τ:=G.τ} w' w' from⟨λ_ _ _ h1 h2=>⟨h1,h2⟩,λ_ _=>rfl⟩) (by simp[D.ids]) (by simp[D.tks])
     cases q2 with
     | @sl _ _ A n c b o' s hn hc hm ht hA hu2 hk hst hrr =>
     simp only[dZ,hx] at ht;match x,hx,ht with
     | none,_,ht =>
      refine h _ _ _ _ (oE hE hsim hs' hq hf hi (o:=none) hd r2 (λf hf=>?_) (λg hg=>by cases hg)) hK;obtain rfl:=zA hf;exact⟨r2,A,n,c,rfl,.inl ⟨rfl,ht.1,ht.2⟩⟩
     | some (g,e2',z2),hx,ht =>
      obtain⟨⟨rfl,rfl⟩,k2,k3,k4,k5⟩:=ht;obtain⟨t1,t2,⟨cur,t3,t4⟩,_⟩:=hend.W.tau 0 g _ _ hx;have hge:w.heap.size≤g:=t1.resolve_right (hab g);refine h _ _ _ _ (oE hE hsim hs' hq hf hi (o:=some g) hd r2 (λf hf=>?_) (λg' hg=>by have:=zA hg;omega)) hK;obtain rfl:=zA hf;exact⟨r2,A,n,c,rfl,.inr ⟨g,rfl,aDT hsim.W hq hge (bX t3) (hend.W.tlab 0 g _ _ hx),k2,k3,k5,t2,cur,t3,t4,k4⟩⟩
   | @app x y ty e tk ys inf kk hop hx hy hkd hi0 hb =>
    rw[mJ (by rw[hop];rfl)] at hK;rw[hev] at hx hy;obtain⟨A,n,c,G',w',hrun,hs',r2,hq,hown⟩:=aOv (ty:=o.type) hsim (aO hsim hx) (aO hsim hy) hkd hi0 hb;have hr:(execOp a.eval o).run S.P w=.ok (.value (.slice A n c)) w':=by
     rw[hp _ hop];simp[execOp,resolve,invoke,builtin,hrun]
    unfold Oper.wp;rw[hr];rcases hown with⟨u1,u2⟩|⟨g,hge,hlt,hlab,k2,k3,t2,cur,t3,t4,k4⟩
    ·refine h _ _ _ _ (oE hE hsim hs' hq hf hi (o:=none) hd r2 (λf hf=>?_) (λg hg=>by cases hg)) hK;obtain rfl:=zA hf;exact⟨r2,A,n,c,rfl,.inl ⟨rfl,u1,u2⟩⟩
    ·refine h _ _ _ _ (oE hE hsim hs' hq hf hi (o:=some g) hd r2 (λf hf=>?_) (λg' hg=>by have:=zA hg;omega)) hK;obtain rfl:=zA hf;exact⟨r2,A,n,c,rfl,.inr ⟨g,rfl,aDT hsim.W hq hge hlt hlab,k2,k3,hb.2.1,t2,cur,t3,t4,k4⟩⟩
   | @store T t x d d0 inf cs hop he hx hi0 hs =>
    obtain⟨s1,s2,s3,s4,s5⟩:=hs;obtain⟨v,hv,hfo⟩:=hf t d0 _ he;obtain⟨g,q1,rfl,q3,q4,q5,_,_⟩:=hfo;rw[hev] at hx;have hvx:=aO hsim hx;obtain⟨c1,c2⟩:=hvx.cells;have hone:∀u∈(a.eval x).cells.toList,u.oneCell'=true:=λu hu=>by
     obtain⟨j,hj⟩:=List.getElem?_of_mem hu;have hlt:j<d.cells.length:=by rw[←c1];have:=(List.getElem?_eq_some_iff.1 hj).1;simpa using this
     exact(c2 j _ u (List.getElem?_eq_getElem hlt) (by simpa using hj)).one (List.all_eq_true.1 s3 _ (List.getElem_mem hlt))
    obtain⟨w',k2,k3,k4,k5,k6,k7⟩:=aUw hsim q3 q4 q5 (new:=d.cells) (vl:=(a.eval x).cells.toList) (by omega) (by simpa using c1) (λj d u hd hu=>c2 j d u hd (by simpa using hu)) hone;have hput:dF cs 0 d.cells=d.cells:=by
     unfold dF;rw[List.take_zero,List.nil_append,List.drop_of_length_le (by omega),List.append_nil]
    rw[hput] at k4;have hsz:=run_sizeOf (S.ok T inf hi0) w;have hdst:=hdn (by rw[hop];rfl);have hat:a.eval (.tmp t)=.pointer (some ⟨g,0,none⟩):=by simp[Act.eval,hv]
    have hr:(execOp a.eval o).run S.P w=.ok .skip w':=by
     rw[hp _ hop];simp[execOp,Instr.storeAt,hat,Instr.sureAddr,storeVar,hsz,c1,s1,k2 S.P]
    unfold Oper.wp;rw[hr];have hwr:wrX o=some t:=by unfold wrX;rw[hop]
    rw[hwr] at hK;have hbare:∀ {g'},Bare B G w g'->Bare B G w' g':=λhb=>⟨hb.ge,by rw[k5];exact hb.lt,hb.beta,hb.tau,hb.lab⟩;have hput2:a.put o.dst undef=a:=by rw[hdst];rfl
    show K' (a.put o.dst undef) w';rw[hput2];refine h _ G a w' ⟨L,γ,⟨?_,h2,h3,h4,h5,h6⟩,k3,λt' d' f' he'=>?_,λt1 t2 d1 d2 f1 f2 g' e1 e2=>?_⟩ hK
    ·rw[aFq,h1]
     funext t'
     by_cases e:t=t'
     ·subst e;simp[lX,mU,he]
     ·simp[lX,e]
    ·simp only[lK] at he';by_cases e:t=t'
     ·subst e;simp only[if_true,Option.some.injEq,Prod.mk.injEq] at he';obtain⟨_,rfl⟩:=he';exact⟨_,hv,g,q1,rfl,hbare q3,k4,q5,s4,s5⟩
     ·rw[if_neg e] at he';obtain⟨v',e1,e2⟩:=hf t' d' f' he';refine⟨v',e1,?_⟩;have hno:γ t'≠some g:=λe0=>e (hi t t' d0 d' _ _ g he he' q1 e0);cases f' with
      | box cs' =>
       obtain⟨g2,r1,r2,r3,⟨vs,ee,b1,b2,b3⟩,r5⟩:=e2;have hne:g2≠g:=λe0=>hno (by rw[r1,e0]);exact⟨g2,r1,r2,hbare r3,⟨vs,ee,by rw[k6 _ hne];exact b1,b2,λj d v hd hv=>k7 _ _ (b3 j d v hd hv)⟩,r5⟩
      | own _ e0 z xs =>
       obtain⟨r0,A,n,c,r1,r2⟩:=e2;refine⟨k7 _ _ r0,A,n,c,r1,?_⟩;rcases r2 with r2|⟨g2,u1,u2,u3,u4,u5,u6,cur,u7,u8,u9⟩
       ·exact .inl r2
       ·have hne:g2≠g:=λe0=>hno (by rw[u1,e0]);exact .inr ⟨g2,u1,hbare u2,u3,u4,u5,u6,cur,by rw[k6 _ hne];exact u7,u8,by rw[dP (k6 _ hne)];exact u9⟩
    ·simp only[lK] at e1 e2;have back:∀u d' f',(if t=u then some (d0,some (Fact.box d.cells)) else E u)=some (d',some f')->∃d2 f2,E u=some (d2,some f2):=λu d' f' hu=>by
      by_cases e:t=u
      ·subst e;exact⟨_,_,he⟩
      ·rw[if_neg e] at hu;exact⟨_,_,hu⟩
     obtain⟨_,_,e1'⟩:=back _ _ _ e1;obtain⟨_,_,e2'⟩:=back _ _ _ e2;exact hi t1 t2 _ _ _ _ g' e1' e2'
  ·rw[mJ hst] at hK;rw[if_neg (by rw[bS (S:=S) rfl hsim (by rw[lS h1];exact hg)];simp)];exact h _ G _ w (oE hE hsim hsim (.refl G w) hf hi (o:=none) hd (.raw (by intro cs h;cases h)) (λf hf=>by cases hf) (λg hg=>by cases hg)) hK

theorem aE7{S:Setup}{ops}{m:Nat}{md:Region.Mode}{B}{L0:LS}{r:Nat}{Q:jB->Prop}{Q':Exit->Act->World->Prop}(hB:tK md ops m=true)(hQ:∀listed E G a w,InvT md ops m 0 listed->aML B L0 E G a w->Q E->wpAny S.P md ops Q' r listed a w):∀(f:Nat) (listed:Array Bool) (E:jB) (G:Ghost) (a:Act) (w:World),InvT md ops m f listed->aML B L0 E G a w →
  aBj S md ops L0.getBox L0.n Q f listed E->wpAny S.P md ops Q' (f+r) listed a w
 | 0,listed,E,G,a,w,hinv,hs,h=>by rw[Nat.zero_add];exact hQ listed E G a w hinv hs h
 | f+1,listed,E,G,a,w,hinv,hs,h=>by
  rw[show f+1+r=(f+r)+1 by omega];exact⟨λh0=>absurd h0 h.1,λi hi=>aFE hs (λE G a' w' hs' hK=>aE7 hB hQ f _ E G a' w' (hinv.set hi (hinv.lt hB hi)) hs' hK) (h.2 i hi)⟩

def fM(L:LS)(F:List (Nat×Fact)):jB:=λt=>(look L.env t).map λd=>(d,look F t)
theorem pW(L:LS)(F:List (Nat×Fact)):mU (fM L F)=look L.env:=by
 funext t
 simp only[mU,fM,Option.map_map];cases look L.env t<;>rfl
def sX(F:List (Nat×Fact))(l:List Oper)(L:LS):Prop:=∀t f,look F t=some f->(look L.env t).isSome=true/\∀o∈l,o.dst≠some t
def xH(L L0:LS):Prop:=L.n=L0.n/\L.boxes=L0.boxes/\L.ro=L0.ro/\L.toks=L0.toks/\L.fix=L0.fix
def eI(S:Setup)(ops:Array Oper)(L0:LS)(K:List (Nat×Fact)->LS->Prop)(F:List (Nat×Fact))(l:List Oper)(L:LS):Prop :=
 xH L L0->sX F l L->aJ7 S ops L0.getBox L0.n (λE=>∃F' L',E=fM L' F'/\xH L' L0/\sX F' [] L'/\K F' L') l (fM L F)

section
variable {S:Setup} {ops:Array Oper} {L0 L:LS} {K:List (Nat×Fact)->LS->Prop} {F:List (Nat×Fact)} {o:Oper} {l:List Oper}
theorem aHz{t:Option Nat}{d:D}(hF:∀u,t=some u->look F u=none):fM (L.putO t d) F=lK (fM L F) t (d,none):=by
 cases t with
 | none=>rfl
 | some t =>
  funext t'
  simp only[LS.putO,LS.put,fM,lK,b7];by_cases e:t=t'
  ·subst e;simp[hF t rfl]
  ·simp[e]
theorem aBS{t:Nat}{d:D}{f:Fact}:fM (L.put t d) ((t,f)::F)=lK (fM L F) (some t) (d,some f):=by
 funext t'
 simp only[LS.put,fM,lK,b7,look];by_cases e:t=t'<;>simp[e]
theorem aGY(h:sX F (o::l) L):∀u,o.dst=some u->look F u=none:=λu hu=>by
 cases hf:look F u with
 | none=>rfl
 | some f=>exact absurd hu ((h u f hf).2 o zH)
theorem vD{t:Option Nat}{d:D}{u:Nat}(h:(look L.env u).isSome=true):(look (L.putO t d).env u).isSome=true:=by
 cases t with
 | none=>exact h
 | some t =>
  simp only[LS.putO,LS.put,b7];split
  ·rfl
  ·exact h
theorem aPs{t:Option Nat}{d:D}(h:sX F (o::l) L):sX F l (L.putO t d):=λt f hf=>⟨vD (h t f hf).1,λo' ho=>(h t f hf).2 o' (zG _ ho)⟩
theorem nY(g:Option (Nat×Bool)):guardE ops (mU (fM L F)) g=bQ ops L g:=by
 rw[pW];exact(lS rfl g).symm
theorem nN:lA (mU (fM L F))=aM L:=by rw[pW];exact(aAW rfl).symm
theorem eI.nil(h:K F L):eI S ops L0 K F [] L:=λhL hF=>⟨F,L,rfl,hL,hF,h⟩
theorem qD{t:Option Nat}{d:D}(h:xH L L0):xH (L.putO t d) L0:=by cases t<;>exact h
theorem yW(h:xH L L0){t:Option Nat}(hd:fG t L):aLg L0.n t:=by
 unfold aLg;unfold fG at hd;rw[h.1] at hd;exact hd
theorem aUA{op:Op}{ρ:Operand->Option D}{bx:Nat->Option (List D)}{K:D->Prop}(h:opY S op ρ bx K):aNp op=false:=by
 cases op<;>first|rfl|exact h.elim
theorem eI.step(hg:bQ ops L o.guard=some true)(h:opY S o.op (aM L) L.getBox λd=>fG o.dst L/\eI S ops L0 K F l (L.putO o.dst d)):eI S ops L0 K F (o::l) L:=by
 intro hL hF;have hst:=aUA h;obtain⟨d,⟨hd,hK⟩,hy⟩:=aD9 S o.op (aM L) L.getBox _ h;refine⟨(d,none),⟨yW hL hd,.inl ⟨by rw[nY];exact hg,.quiet hst λK' hk=>?_,λe=>by rw[hst] at e;cases e⟩⟩,?_⟩
 ·rw[nN,←pK (L:=L) (L0:=L0) hL.2.1 hL.2.2.1];exact hy K' hk
 ·rw[mJ hst,←aHz (aGY hF)];exact hK (qD hL) (aPs hF)
theorem eI.skip(hst:aNp o.op=false)(hg:bQ ops L o.guard=some false)(hd:fG o.dst L)(h:eI S ops L0 K F l (L.putO o.dst (.raw undef))):eI S ops L0 K F (o::l) L:=by
 intro hL hF;refine⟨(.raw undef,none),⟨yW hL hd,.inr ⟨by rw[nY];exact hg,hst,rfl⟩⟩,?_⟩;rw[mJ hst,←aHz (aGY hF)];exact h (qD hL) (aPs hF)
theorem eI.split(t:Nat){b:Bool}(ht:L.get t=some (.bool b))(h1:b=true->eI S ops L0 K F l (L.put t (.bool true)))(h0:b=false->eI S ops L0 K F l (L.put t (.bool false))):eI S ops L0 K F l L:=by
 intro hL hF;have key:∀c,b=c->fM (L.put t (.bool c)) F=fM L F:=λc hc=>by
  funext t'
  simp only[fM,LS.put,b7];by_cases e:t=t'
  ·subst e;rw[if_pos rfl,←hc];show _=Option.map _ (look L.env t);rw[show look L.env t=some (.bool b) from ht]
  ·rw[if_neg e]
 cases hb:b with
 | true=>rw[←key true hb];exact h1 hb hL λu f hf=>⟨vD (t:=some t) (hF u f hf).1,(hF u f hf).2⟩
 | false=>rw[←key false hb];exact h0 hb hL λu f hf=>⟨vD (t:=some t) (hF u f hf).1,(hF u f hf).2⟩
theorem eI.call{dst:Option Nat}{f:Operand}{args:Array Operand}{tys:Array TypeId}{ty:TypeId}{pos aft}{g:Option (Nat×Bool)}
  (hg:bQ ops L g=some true) {fid:Nat} {cap ds:List D} {ro:List (Nat×List D)} {d:D} (hf:aM L f=some (.fn fid cap)) (hds:fQ (aM L) args.toList=some ds) (fc:FC S fid ro [] [] (ds++cap) d [] [])
  (hside:(∀p∈ro,L.getBox p.1=some p.2)/\d.ids=[]/\d.tks=[]/\fG dst L) (h:eI S ops L0 K F l (L.putO dst d)):eI S ops L0 K F (⟨dst,.call ⟨.value f,args,tys⟩,ty,pos,aft,g⟩::l) L:=by
 refine eI.step hg ?_;show opY S (.call ⟨.value f,args,tys⟩) (aM L) L.getBox _;unfold opY;simp only[hf,hds,aL];exact⟨ro,d,fc,hside.1,hside.2.1,hside.2.2.1,hside.2.2.2,h⟩
def uU(t:Nat)(l:List Oper):Bool:=l.all λo=>o.dst != some t
theorem aBU{t:Nat}{d:D}{f:Fact}(h:sX F (o::l) L)(ha:uU t l=true):sX ((t,f)::F) l (L.put t d):=λu f' hf=>by
 simp only[look] at hf;by_cases e:t=u
 ·subst e;refine⟨by simp[LS.put,b7],λo' ho=>?_⟩;have:=List.all_eq_true.1 ha o' ho;simpa using this
 ·rw[if_neg e] at hf;exact⟨vD (t:=some t) (h u f' hf).1,λo' ho=>(h u f' hf).2 o' (zG _ ho)⟩
theorem eI.own(k:Nat){t:Nat}{f:Operand}{args:Array Operand}{tys:Array TypeId}{ty:TypeId}{pos aft}{g:Option (Nat×Bool)}
  (hg:bQ ops L g=some true) {fid:Nat} {cap ds xs:List D} {ro:List (Nat×List D)} {e:TypeId} {z:Nat} (hf:aM L f=some (.fn fid cap)) (hds:fQ (aM L) args.toList=some ds) (fc:FC S fid ro [] [] (ds++cap) (.sl (.own 0 e z) xs) [] [0])
  (hside:(t<L.n/\∀p∈ro,L.getBox p.1=some p.2)/\uU t l=true) (h:eI S ops L0 K ((t,.own k e z xs)::F) l (L.put t (.sl .any xs))):eI S ops L0 K F (⟨some t,.call ⟨.value f,args,tys⟩,ty,pos,aft,g⟩::l) L:=by
 intro hL hF;refine⟨(.sl .any xs,some (.own k e z xs)),⟨yW (t:=some t) hL hside.1.1,.inl ⟨by rw[nY];exact hg,.own k rfl ?_ ?_ ?_ fc,λe=>by cases e⟩⟩,?_⟩
 ·rw[nN];exact hf
 ·rw[nN];exact hds
 ·rw[←pK (L:=L) (L0:=L0) hL.2.1 hL.2.2.1];exact hside.1.2
 ·rw[mJ rfl,←aBS];exact h (qD (t:=some t) hL) (aBU hF hside.2)
theorem eI.app(k:Nat){t:Nat}{x y:Operand}{tyx e:TypeId}{ty:TypeId}{pos aft}{g:Option (Nat×Bool)}
  (hg:bQ ops L g=some true) {tk:Tk} {ys:List D} {i:TyI} (hx:aM L x=some (.sl .full [])) (hy:aM L y=some (.sl tk ys)) (hkd:S.kd tyx=some (.slice e)) (hi:S.tab e=some i)
  (hb:0<i.size/\(∀x∈ys,x.cells.length=i.size)/\ys.length*i.bytes≤140737488355328/\ys.length≤140737488355328)
  (hside:t<L.n/\uU t l=true) (h:eI S ops L0 K ((t,.own k e i.size ys)::F) l (L.put t (.sl .any ys))):eI S ops L0 K F (⟨some t,.call ⟨.builtin .append,#[x,y],#[tyx,tyx]⟩,ty,pos,aft,g⟩::l) L:=by
 intro hL hF;refine⟨(.sl .any ys,some (.own k e i.size ys)),⟨yW (t:=some t) hL hside.1,.inl ⟨by rw[nY];exact hg,.app (tk:=tk) k rfl ?_ ?_ hkd hi hb,λe=>by cases e⟩⟩,?_⟩
 ·rw[nN];exact hx
 ·rw[nN];exact hy
 ·rw[mJ rfl,←aBS];exact h (qD (t:=some t) hL) (aBU hF hside.2)
theorem eI.alloc{t:Nat}{T:TypeId}{i:TyI}{ty:TypeId}{pos aft}{g:Option (Nat×Bool)}
  (hg:bQ ops L g=some true) (hi:S.tab T=some i) (hside:t<L.n/\uU t l=true) (h:eI S ops L0 K ((t,.box (i.zero.map ZK.d))::F) l (L.put t (.pred λ_ _ _=>True))):eI S ops L0 K F (⟨some t,.alloc T,ty,pos,aft,g⟩::l) L:=by
 intro hL hF;refine⟨(.pred λ_ _ _=>True,some (.box (i.zero.map ZK.d))),⟨yW (t:=some t) hL hside.1,.inl ⟨by rw[nY];exact hg,.alloc rfl hi,λe=>by cases e⟩⟩,?_⟩;rw[mJ rfl,←aBS];exact h (qD (t:=some t) hL) (aBU hF hside.2)
theorem eI.store{t:Nat}{T:TypeId}{x:Operand}{i:TyI}{d:D}{cs:List D}{ty:TypeId}{pos aft}
  (hF0:look F t=some (.box cs)) (hx:aM L x=some d) (hi:S.tab T=some i) (hside:(d.cells.length=i.size/\d.cells.length=cs.length)/\d.cells.all D.one=true/\D.idsL d.cells=[]/\D.tksL d.cells=[]) (h:eI S ops L0 K (eU F t (.box d.cells)) l L):eI S ops L0 K F (⟨none,.store T (.tmp t) x,ty,pos,aft,none⟩::l) L:=by
 intro hL hF;obtain⟨d0,hd0⟩:=Option.isSome_iff_exists.1 (hF t _ hF0).1;refine⟨(d0,some (.box d.cells)),⟨trivial,.inl ⟨rfl,.store rfl (cs:=cs) (by simp[fM,hd0,hF0]) (by rw[nN];exact hx) hi ⟨hside.1.1,hside.1.2,hside.2.1,hside.2.2.1,hside.2.2.2⟩,λ_=>rfl⟩⟩,?_⟩;have e:lK (fM L F) (wrX ⟨none,.store T (.tmp t) x,ty,pos,aft,none⟩) (d0,some (.box d.cells))=fM L (eU F t (.box d.cells)):=by
  funext u
  simp only[lK,wrX,fM,b7];by_cases e0:t=u
  ·subst e0;simp[hd0]
  ·simp[e0]
 rw[e];refine h hL λu f hu=>?_;simp only[b7] at hu;by_cases e0:t=u
 ·subst e0;exact⟨by rw[hd0];rfl,λo' ho=>(hF t _ hF0).2 o' (zG _ ho)⟩
 ·rw[if_neg e0] at hu;exact⟨(hF u f hu).1,λo' ho=>(hF u f hu).2 o' (zG _ ho)⟩
theorem oT{K':List (Nat×Fact)->List Oper->LS->Prop}(hK:∀F l L,K' F l L->eI S ops L0 K F l L):∀(l:List Oper) (L:LS),bC S ops (K' F) l L->eI S ops L0 K F l L
 | [],L,h=>hK F [] L h
 | ⟨dst,op,ty,pos,aft,g⟩::l,L,h=>by
  unfold bC at h;split at h
  ·exact hK F _ L h
  ·exact hK F _ L h
  ·exact hK F _ L h
  ·rename_i q1 q2 q3;have hst:aNp op=false:=by
    cases op<;>first|rfl|exact(q3 _ _ _ rfl).elim
   split at h
   ·rename_i hg;exact eI.step (o:=⟨dst,op,ty,pos,aft,g⟩) hg (aKF h λd ⟨h1,h2⟩=>⟨h1,oT hK l _ h2⟩)
   ·rename_i hg;exact eI.skip (o:=⟨dst,op,ty,pos,aft,g⟩) hst hg h.1 (oT hK l _ h.2)
   ·exact hK F _ L h
end

def toF(base:Nat):List (Nat×Fact)->LS->(LS->Prop)->Prop
 | [],L,N=>N L
 | (t,.box cs)::F,L,N=>(t<L.n/\base+t∉L.fix)/\(look F t).isNone=true/\toF base F (L.newBox t (base+t) cs (.box (base+t) 0)) N
 | (t,.own kk e z xs)::F,L,N=>(t<L.n/\(L.purge (λk=>k==kk)).clean (λk=>k==kk)=true)/\(look F t).isNone=true ∧
   toF base F {L.purge (λk=>k==kk) with env:=eU (L.purge (λk=>k==kk)).env t (.sl (.own (kk) e z) xs),toks:=kk::L.toks} N
theorem aV8(base:Nat)(L:LS)(N:LS->Prop):toF base [] L N=N L:=rfl
theorem aW5(base t:Nat)(cs:List D)(F:List (Nat×Fact))(L:LS)(N:LS->Prop):toF base ((t,.box cs)::F) L N=((t<L.n/\base+t∉L.fix)/\(look F t).isNone=true/\toF base F (L.newBox t (base+t) cs (.box (base+t) 0)) N):=rfl
theorem aWG     (base t kk : Nat) (e : TypeId) (z : Nat) (xs : List D) (F : List (Nat × Fact)) (L : LS) (N : LS → Prop) : toF base ((t, .own kk e z xs) :: F) L N = ((t < L.n ∧ (L.purge (fun k => k == kk)).clean (fun k => k == kk) = true) ∧ (look F t).isNone = true ∧
   toF base F {L.purge (λk=>k==kk) with env:=eU (L.purge (λk=>k==kk)).env t (.sl (.own (kk) e z) xs),toks:=kk::L.toks} N):=rfl
attribute [go_sem] aV8 aW5 aWG Option.isNone_none
def aXL(B:Base)(G:Ghost)(a:Act)(w:World)(F:List (Nat×Fact)):Prop :=
 ∃γ:Nat->Option Nat,(∀t f,look F t=some f->∃v,a.tmps[t]?=some v/\oF B G w (γ t) f v)/\∀t t' f f' g,look F t=some f->look F t'=some f'->γ t=some g->γ t'=some g->t=t'

theorem aKv{B}{L:LS}{G:Ghost}{a:Act}{w}(h:Sim B L G a w){t id g:Nat}{cs:List D}(_ht:t<L.n)(hfix:id∉L.fix)(hcs:D.idsL cs=[])(hv:a.tmps[t]?=some (.pointer (some ⟨g,0,none⟩)))(hb:Bare B G w g)(hbx:dD G w g cs)(hl0:G.lim g=0) :
  Sim B (L.newBox t id cs (.box id 0)) {G with β:=λi=>if i=id then some g else G.β i} a w:=by
 have hW:=h.W;let G2:Ghost:={G with β:=λi=>if i=id then some g else G.β i};have hmn:Mono G G2 w w:=⟨λ_ _ _ h1 h2=>⟨h1,h2⟩,λ_ _=>rfl⟩;have hβ:∀i q,i≠id->G.β i=some q->G2.β i=some q:=λi q hne hq=>by simp only[G2];rw[if_neg hne];exact hq
 have rG:∀ {d v},id∉d.ids->Rel G w d v->Rel G2 w d v:=λ{d v} hid hr =>
  hr.mono hmn (λi hi q hq=>hβ i q (λe=>hid (e ▸ hi)) hq) (λk _=>.inr ⟨rfl,λ_ _ _ _=>⟨rfl,rfl⟩⟩)
 have hbox:∀ {q cs},id∉D.idsL cs->dD G w q cs->dD G2 w q cs:=λ{q cs} hid ⟨vs,e',e1,e2,e3⟩ =>
  ⟨vs,e',e1,e2,λj d v hd hv=>rG (λhi=>hid (iF (zF hd) hi)) (e3 j d v hd hv)⟩
 refine⟨h.defers,h.size,λt' d hd=>?_,?_,h.fixed⟩
 ·simp only[LS.newBox,b7] at hd;by_cases e0:t=t'
  ·subst e0;simp only[if_true,Option.some.injEq] at hd;subst hd;exact⟨_,hv,.box (by simp)⟩
  ·rw[if_neg e0] at hd;simp only[LS.forget] at hd;obtain⟨h1,h2⟩:=fX _ _ _ _ hd;obtain⟨v,h3,h4⟩:=h.env t' d h1;exact⟨v,h3,rG (v8 h2) h4⟩
 ·exact {hW with
   boxes:=λi cs' hl=>by
    simp only[LS.newBox,b7] at hl;by_cases e0:id=i
    ·subst e0;simp only[if_true,Option.some.injEq] at hl;subst hl;exact⟨g,by simp,hbox (by rw[hcs];simp) hbx,hl0,.inl hb.ge⟩
    ·rw[if_neg e0] at hl;simp only[LS.forget,fD,if_neg e0] at hl;obtain⟨h1,h2⟩:=fX _ _ _ _ hl;obtain⟨q,k1,k2,k3,k4⟩:=hW.boxes i cs' h1;exact⟨q,hβ i q (λe=>e0 e.symm) k1,hbox (jQ h2) k2,k3,k4⟩
   robs:=λi cs' hl=>by
    simp only[LS.newBox,LS.forget,fD] at hl;by_cases e0:id=i
    ·rw[if_pos e0] at hl;cases hl
    ·rw[if_neg e0] at hl;obtain⟨h1,h2⟩:=fX _ _ _ _ hl;obtain⟨q,k1,k2,k3,k4⟩:=hW.robs i cs' h1;exact⟨q,hβ i q (λe=>e0 e.symm) k1,hbox (jQ h2) k2,k3,k4⟩
   tau:=λk q e' z hk=>by
    obtain⟨h1,h2,h3,h5⟩:=hW.tau k q e' z hk;refine⟨h1,h2,h3,λi hi=>?_⟩;simp only at hi;split at hi
    ·obtain rfl:=zA hi;exact hb.tau k e' z hk
    ·exact h5 i hi
   binj:=λi j q hi hj=>by
    simp only at hi hj;split at hi<;>split at hj
    ·omega
    ·obtain rfl:=zA hi;exact absurd hj (hb.beta j)
    ·obtain rfl:=zA hj;exact absurd hi (hb.beta i)
    ·exact hW.binj i j q hi hj
   blt:=λi q hi=>by
    simp only at hi;split at hi
    ·obtain rfl:=zA hi;exact hb.lt
    ·exact hW.blt i q hi
   blab:=λi q hi=>by
    simp only at hi;split at hi
    ·obtain rfl:=zA hi;exact hb.lab
    ·exact hW.blab i q hi
   ids:=λp hp=>hβ p.1 p.2 (λe=>hfix (e ▸ h.fixed p hp)) (hW.ids p hp)}

theorem wC{B}{base:Nat}{N:LS->Prop}{a}{w:World}:∀(F:List (Nat×Fact)) (L:LS) (G:Ghost),Sim B L G a w->aXL B G a w F->toF base F L N->∃L' G',N L'/\Sim B L' G' a w
 | [],L,G,hs,_,h=>⟨L,G,h,hs⟩
 | (t,f)::F,L,G,hs,⟨γ,hf,hi⟩,h=>by
  have hlk:look ((t,f)::F) t=some f:=by simp[look]
  obtain⟨v,hv,hfo⟩:=hf t f hlk;have hback:∀u f',look F t=none->look F u=some f'->t≠u/\look ((t,f)::F) u=some f':=λu f' hn hu=>by
   have hne:t≠u:=λe=>by subst e;rw[hn] at hu;cases hu
   exact⟨hne,by simp only[look,if_neg hne];exact hu⟩
  cases f with
  | box cs =>
   obtain⟨⟨h1,h2⟩,h3,h4⟩:=h;have h3':look F t=none:=by simpa using h3
   obtain⟨g,q1,rfl,q3,q4,q5,q6,q7⟩:=hfo;have hs':=aKv hs (id:=base+t) h1 h2 q6 hv q3 q4 q5;refine wC F _ _ hs' ⟨γ,λu f' hu=>?_,λu u' f1 f2 g' e1 e2 g1 g2=>?_⟩ h4
   ·obtain⟨hne,hu'⟩:=hback u f' h3' hu;obtain⟨v',e1,e2⟩:=hf u f' hu';refine⟨v',e1,e2.ghost rfl rfl λg' hg' hb'=>⟨hb'.ge,hb'.lt,λi hi'=>?_,hb'.tau,hb'.lab⟩⟩;simp only at hi';split at hi'
    ·obtain rfl:=zA hi';exact hne (hi t u _ _ _ hlk hu' q1 hg')
    ·exact hb'.beta i hi'
   ·exact hi u u' f1 f2 g' (hback u f1 h3' e1).2 (hback u' f2 h3' e2).2 g1 g2
  | own kk e z xs =>
   obtain⟨⟨h1,h2⟩,h3,h4⟩:=h;have h3':look F t=none:=by simpa using h3
   obtain⟨r0,A,n,c,rfl,hcase⟩:=hfo;have hp:=nH hs (λk=>k==kk);have main:∀x:Option (Nat×TypeId×Nat),(∀g e' z',x=some (g,e',z')->γ t=some g/\Bare B G w g/\0<z'/\∃cur,w.heap[g]?=some (.cells cur e' (0,0))/\G.lim g≤cur.size) →
     Rel (G.setTok (kk) (some x)) w (.sl (.own (kk) e z) xs) (.slice A n c)->∃L' G',N L'/\Sim B L' G' a w:=λx hx hr=>by
    have hstep:TokStep B G (G.setTok (kk) (some x)) w w (kk):={
     mono:=⟨λ_ _ _ h1 h2=>⟨h1,h2⟩,λ_ _=>rfl⟩
     beta:=rfl,lab:=rfl,sz:=zQ _,os:=rfl,tape:=rfl,out:=rfl,dr:=by first|exact zQ _|exact Nat.le_succ _
     tau:=λk' hk'=>.inr ⟨by simp[Ghost.setTok,hk'],λ_ _ _ _=>⟨rfl,rfl⟩⟩
     block:=λ_ _=>.inl ⟨rfl,rfl⟩
     new:=λg e' z' hg=>by
      simp only[Ghost.setTok,if_true,Option.some.injEq] at hg;obtain⟨_,k2,k3,k4⟩:=hx g e' z' hg;refine⟨.inl k2.ge,k3,k4,k2.beta,λk e2 z2 hk hk2=>?_,k2.lab⟩;simp only[Ghost.setTok,if_neg hk] at hk2;exact k2.tau k e2 z2 hk2
     live:=by simp[Ghost.setTok]}
    have hsim:=gE hp hstep h2 (tk:=kk::L.toks) (λk' hk'=>by
     by_cases e:k'=kk
     ·exact .inl e
     ·rcases zO.1 hk' with h|h
      ·exact absurd h e
      ·exact .inr ⟨by simp[Ghost.setTok,e],h⟩)
    refine wC F _ _ (mL hsim hv hr) ⟨γ,λu f' hu=>?_,λu u' f1 f2 g' e1 e2 g1 g2=>?_⟩ h4
    ·obtain⟨hne,hu'⟩:=hback u f' h3' hu;obtain⟨v',e1,e2⟩:=hf u f' hu';refine⟨v',e1,e2.ghost rfl rfl λg' hg' hb'=>⟨hb'.ge,hb'.lt,hb'.beta,λk e' z' hk=>?_,hb'.lab⟩⟩;simp only[Ghost.setTok] at hk;split at hk
     ·simp only[Option.some.injEq] at hk;obtain⟨k1,_⟩:=hx g' e' z' hk;exact hne (hi t u _ _ _ hlk hu' k1 hg')
     ·exact hb'.tau k e' z' hk
    ·exact hi u u' f1 f2 g' (hback u f1 h3' e1).2 (hback u' f2 h3' e2).2 g1 g2
   have r1:∀x,Rel (G.setTok (kk) (some x)) w (.sl .any xs) (.slice A n c):=λx =>
    r0.mono (show Mono G (G.setTok (kk) (some x)) w w from⟨λ_ _ _ h1 h2=>⟨h1,h2⟩,λ_ _=>rfl⟩) (by simp[D.ids]) (by simp[D.tks])
   rcases hcase with⟨q0,q1,q2⟩|⟨g,q0,q1,q2,q3,q4,q5,cur,q6,q7,q8⟩
   ·refine main none (λg e' z' hx=>by cases hx) ?_;cases r1 none with
    | @sl _ _ _ _ _ b o s hn hc hm ht hA hu hk hst hrr =>
     exact .sl (b:=b) (o:=o) (s:=s) hn hc hm (by simp only[dZ,Ghost.setTok,if_true];exact⟨q1,q2⟩) hA hu hk hst hrr
   ·refine main (some (g,e,z)) (λg' e' z' hx=>by
     simp only[Option.some.injEq,Prod.mk.injEq] at hx;obtain⟨rfl,rfl,rfl⟩:=hx;exact⟨q0,q1,q5,cur,q6,q7⟩) ?_
    cases r1 (some (g,e,z)) with
    | @sl _ _ _ _ _ b o s hn hc hm ht hA hu hk hst hrr =>
     exact .sl (b:=b) (o:=o) (s:=s) hn hc hm (by simp only[dZ,Ghost.setTok,if_true];exact⟨⟨trivial,trivial⟩,q2,q3,q8,q4⟩) hA hu hk hst hrr

theorem aJJ{S:Setup}{B}{base id m:Nat}{l:List Oper}{L:LS}{G a}{w:World}{K:LS->Prop}(hB:aG8 .any l.toArray m=true)(h:eI S l.toArray L (λF L'=>toF base F L' λL2=>aK S B l.toArray (l.drop m) L2 K) [] (l.take m) L)(hs:Sim B L G a w){Q:Exit->Act->World->Prop}
  (hQ:∀L' G' a' w',K L'->Sim B L' G' a' w'->Q .normal a' w'):(Code.region id l.toArray true).wp S.P Q a w:=by
 simp only[aG8,Bool.and_eq_true,decide_eq_true_eq] at hB;obtain⟨⟨hL,hT⟩,hm⟩:=hB;have hml:m≤l.length:=by simpa using hm
 have hlen:(l.take m).length=m:=by simp;omega
 have hinv:InvT .any l.toArray m m (Array.replicate l.toArray.size false):=by
  refine⟨λj hj=>?_,by simp,λj _ hj=>?_,?_⟩
  ·by_cases hlt:j<l.length<;>simp[hlt] at hj
  ·have hj':j<l.length:=by simpa using hj
   simp[hj']
  ·unfold aB3;rw[List.filter_eq_self.2,List.length_range];intro j hj;have hj:=List.mem_range.1 hj;simp[show j<l.length by omega]
 refine wp_region_any S.mixed ?_;have hsz:l.toArray.size=m+(l.toArray.size-m):=by simp;omega
 have key:=aE7 (S:=S) (B:=B) (L0:=L) (r:=l.toArray.size-m) (Q':=Q) (Q:=λE=>∃F' L',E=fM L' F'/\xH L' L/\sX F' [] L'/\toF base F' L' λL2=>aK S B l.toArray (l.drop m) L2 K) hT ?_ m _ (fM L []) G a {w with drawn:=w.drawn+1} hinv ⟨L,λ_=>none,⟨(pW L []).symm,rfl,rfl,rfl,rfl,rfl⟩,t0 hs,λt d f he=>?_,λt t' d d' f f' g he=>?_⟩ ?_
 ·have e:m+(l.toArray.size-m)=l.toArray.size:=hsz.symm;rw[e] at key;exact key
 ·rintro listed E G' a' w' hinv' ⟨L1,γ,⟨e1,e2,e3,e4,e5,e6⟩,hs',hf,hi⟩ ⟨F',L',rfl,⟨f2,f3,f4,f5,f6⟩,hfr,hK⟩;rw[pW] at e1;have hs2:Sim B L' G' a' w':=⟨hs'.defers,by rw[f2,←e2];exact hs'.size,λt d hd=>by
   rw[←e1] at hd;exact hs'.env t d hd,by rw[f3,f4,f5,←e3,←e4,←e5];exact hs'.W,by rw[f6,←e6];exact hs'.fixed⟩
  have hpr:∀t f,look F' t=some f->∃d,fM L' F' t=some (d,some f):=λt f hl=>by
   obtain⟨d,hd⟩:=Option.isSome_iff_exists.1 (hfr t f hl).1;exact⟨d,by simp[fM,hd,hl]⟩
  obtain⟨L2,G2,hK2,hs3⟩:=wC (B:=B) (base:=base) F' L' G' hs2 ⟨γ,λt f hl=>by
   obtain⟨d,hd⟩:=hpr t f hl;exact hf t d f hd,λt t' f f' g hl hl'=>by
   obtain⟨d,hd⟩:=hpr t f hl;obtain⟨d',hd'⟩:=hpr t' f' hl';exact hi t t' d d' f f' g hd hd'⟩ hK
  exact aAr hT _ m listed a' w' (by simp;omega) (Nat.le_refl _) hinv'.size hinv'.down (qC hinv'.cnt) hinv'.rest (by simpa using hK2 G2 a' w' hs3 Q hQ)
 ·simp[fM,look] at he
 ·simp[fM,look] at he
 ·have h2:=x9 (S:=S) (bx:=L.getBox) (n:=L.n) (Q:=λE=>∃F' L',E=fM L' F'/\xH L' L/\sX F' [] L'/\toF base F' L' λL2=>aK S B l.toArray (l.drop m) L2 K) hT (l.take m) 0 (Array.replicate l.toArray.size false) (fM L []) (λj hj=>by
   rw[hlen] at hj;rw[List.getElem?_take,if_pos hj,Nat.zero_add];simp) (by omega) (by rw[hlen];exact hinv) (by rw[hlen];exact hL) (h ⟨rfl,rfl,rfl,rfl,rfl⟩ (λt f hf=>by simp[look] at hf))
  rw[hlen] at h2;exact h2

structure XOk (S:Setup) (ops:Array Oper) (N:List (Nat×Fact)->LS->Prop) (K:List (Nat×Fact)->List Oper->LS->Prop):Prop where
 nil:∀ {F L},N F L->K F [] L
 split:∀ {F l L} (t:Nat) {b:Bool},L.get t=some (.bool b)->(b=true->bC S ops (K F) l (L.put t (.bool true)))->(b=false->bC S ops (K F) l (L.put t (.bool false)))->K F l L
 skip:∀ {F l L} {dst:Option Nat} {c:Call} {ty:TypeId} {pos:String} {aft:Array Edge} {g:Option (Nat×Bool)},bQ ops L g=some false->fG dst L->bC S ops (K F) l (L.putO dst (.raw undef))->K F (⟨dst,.call c,ty,pos,aft,g⟩::l) L
 store:∀ {F:List (Nat×Fact)} {l:List Oper} {L:LS} {t:Nat} {T:TypeId} {x:Operand} {i:TyI} {d:D} {cs:List D} {ty:TypeId} {pos:String} {aft:Array Edge}
  (_:look F t=some (.box cs)) (_:aM L x=some d) (_:S.tab T=some i) (_:(d.cells.length=i.size/\d.cells.length=cs.length)/\d.cells.all D.one=true/\D.idsL d.cells=[]/\D.tksL d.cells=[]) (_:bC S ops (K (eU F t (.box d.cells))) l L),K F (⟨none,.store T (.tmp t) x,ty,pos,aft,none⟩::l) L
 call:∀ {F:List (Nat×Fact)} {l:List Oper} {L:LS} {dst:Option Nat} {f:Operand} {args:Array Operand} {tys:Array TypeId} {ty:TypeId} {pos:String} {aft:Array Edge} {g:Option (Nat×Bool)}
  (_:bQ ops L g=some true) {fid:Nat} {cap ds:List D} {ro:List (Nat×List D)} {d:D} (_:aM L f=some (.fn fid cap)) (_:fQ (aM L) args.toList=some ds) (_:FC S fid ro [] [] (ds++cap) d [] [])
  (_:(∀p∈ro,L.getBox p.1=some p.2)/\d.ids=[]/\d.tks=[]/\fG dst L) (_:bC S ops (K F) l (L.putO dst d)),K F (⟨dst,.call ⟨.value f,args,tys⟩,ty,pos,aft,g⟩::l) L
 own:∀(k:Nat) {F:List (Nat×Fact)} {l:List Oper} {L:LS} {t:Nat} {f:Operand} {args:Array Operand} {tys:Array TypeId} {ty:TypeId} {pos:String} {aft:Array Edge} {g:Option (Nat×Bool)}
  (_:bQ ops L g=some true) {fid:Nat} {cap ds xs:List D} {ro:List (Nat×List D)} {e:TypeId} {z:Nat} (_:aM L f=some (.fn fid cap)) (_:fQ (aM L) args.toList=some ds) (_:FC S fid ro [] [] (ds++cap) (.sl (.own 0 e z) xs) [] [0])
  (_:(t<L.n/\∀p∈ro,L.getBox p.1=some p.2)/\uU t l=true) (_:bC S ops (K ((t,.own k e z xs)::F)) l (L.put t (.sl .any xs))),K F (⟨some t,.call ⟨.value f,args,tys⟩,ty,pos,aft,g⟩::l) L
 alloc:∀ {F:List (Nat×Fact)} {l:List Oper} {L:LS} {t:Nat} {T:TypeId} {i:TyI} {ty:TypeId} {pos:String} {aft:Array Edge} {g:Option (Nat×Bool)}
  (_:bQ ops L g=some true) (_:S.tab T=some i) (_:t<L.n/\uU t l=true) (_:bC S ops (K ((t,.box (i.zero.map ZK.d))::F)) l (L.put t (.pred λ_ _ _=>True))),K F (⟨some t,.alloc T,ty,pos,aft,g⟩::l) L
theorem XOk.skp{S ops}{N:List (Nat×Fact)->LS->Prop}{K:List (Nat×Fact)->List Oper->LS->Prop}(hK:XOk S ops N K){F:List (Nat×Fact)}{l:List Oper}{L:LS}{dst:Option Nat}{c:Call}{ty:TypeId}{pos:String}{aft:Array Edge}{g:Option (Nat×Bool)}(hg:bQ ops L g=some false)(hd:aF0 dst L.n=true)(h:bC S ops (K F) l (L.putO dst (.raw undef))):K F (⟨dst,.call c,ty,pos,aft,g⟩::l) L:=hK.skip hg (aB1 hd) h
theorem XOk.c0{S ops}{N:List (Nat×Fact)->LS->Prop}{K:List (Nat×Fact)->List Oper->LS->Prop}(hK:XOk S ops N K){F:List (Nat×Fact)}{l:List Oper}{L:LS}{dst:Option Nat}{f:Operand}{args:Array Operand}{tys:Array TypeId}{ty:TypeId}{pos:String}{aft:Array Edge}{g:Option (Nat×Bool)}
  (hg:bQ ops L g=some true) {fid:Nat} {cap ds:List D} {d:D} (hf:aM L f=some (.fn fid cap)) (hds:fQ (aM L) args.toList=some ds) (fc:FC S fid [] [] [] (ds++cap) d [] []) (h1:d.ids=[]) (h2:d.tks=[]) (h3:aF0 dst L.n=true)
  (h:bC S ops (K F) l (L.putO dst d)):K F (⟨dst,.call ⟨.value f,args,tys⟩,ty,pos,aft,g⟩::l) L:=hK.call hg hf hds fc ⟨λ_ hp=>(by cases hp),h1,h2,aB1 h3⟩ h
theorem XOk.fork{S ops}{N:List (Nat×Fact)->LS->Prop}{K:List (Nat×Fact)->List Oper->LS->Prop}(hK:XOk S ops N K){F:List (Nat×Fact)}{l:List Oper}{L:LS}{o:Oper}{p:Nat×Bool}(_:o.guard=some p){t:Nat}(_:(ops[p.1]?).bind (·.dst)=some t){b:Bool}(ht:L.get t=some (.bool b))(h1:b=true->bC S ops (K F) (o::l) (L.put t (.bool true)))(h0:b=false->bC S ops (K F) (o::l) (L.put t (.bool false))):K F (o::l) L :=
 hK.split t ht h1 h0

theorem aEt{S B}{R:LS->Prop}{k:List VItem}{L}(base:Nat)(kp:List (Nat×List Nat))(m:Nat){id:Nat}{l:List Oper}(hB:aG8 .any l.toArray m=true)(h:∀Kq:List (Nat×Fact)->List Oper->LS->Prop,XOk S l.toArray (λF L'=>∀K:List Oper->LS->Prop,KOk S base B l.toArray (λL'=>SW S B R k (L'.keepAt kp id)) K->toF base F L' λL2=>bA S base l.toArray K (l.drop m) L2) Kq->bC S l.toArray (Kq []) (l.take m) L):SW S B R (.code (.region id l.toArray true)::k) L:=by
 have hs:∀l' L',bA S base l.toArray (λl' L'=>aK S B l.toArray l' L' (λL2=>SW S B R k L2)) l' L'->aK S B l.toArray l' L' (λL2=>SW S B R k L2) :=
  nV (base:=base) (K':=λl' L'=>aK S B l.toArray l' L' (λL2=>SW S B R k L2)) (λ_ _ h=>h)
 let NX:List (Nat×Fact)->LS->Prop:=λF L'=>toF base F L' λL2=>aK S B l.toArray (l.drop m) L2 λL3=>SW S B R k L3;have hq:∀F l' L',bC S l.toArray (eI S l.toArray L NX F) l' L'->eI S l.toArray L NX F l' L':=λF =>
  oT (K':=eI S l.toArray L NX) (λ_ _ _ h=>h)
 have hmono:∀F L' (N N':LS->Prop),(∀L,N L->N' L)->toF base F L' N->toF base F L' N':=by
  intro F;induction F with
  | nil=>exact λL' N N' h h1=>h L' h1
  | cons p F ih =>
   obtain⟨t,f⟩:=p;intro L' N N' h h1;cases f with
   | box cs=>exact⟨h1.1,h1.2.1,ih _ N N' h h1.2.2⟩
   | own _ e z xs=>exact⟨h1.1,h1.2.1,ih _ N N' h h1.2.2⟩
 intro G a w hsim;refine aJJ (base:=base) hB (hq _ _ _ (h (eI S l.toArray L NX) ?_)) hsim (λL' G' a' w' hK hs'=>hK G' a' w' hs');exact {
  nil:=λ{F L} h=>eI.nil (hmono F L _ _ (λ_ h=>hs _ _ h) (h _ {
   nil:=λh=>aK.nil (gV kp id h)
   raw:=λh=>h.mono λ_ h'=>gV kp id h'
   weak:=λhc h=>aK.weak hc (hs _ _ h)
   split:=λt _ ht h1 h0=>aK.split t ht (λe=>hs _ _ (h1 e)) (λe=>hs _ _ (h0 e))
   skip:=λhg hd h=>aK.skip hg hd (hs _ _ h)
   call:=λhg _ _ _ _ _ hf hds fc hside h=>aK.call hg hf hds fc hside (hs _ _ h)
   callB:=λhg _ _ _ _ _ _ _ _ _ hf hds fc hside h=>aK.callB hg hf hds fc hside (hs _ _ h)
   callT:=λhg _ _ _ _ _ _ _ hf hds fc hside h=>aK.callTi hg (base+_) hf hds fc hside (hs _ _ h)
   callM:=λhg _ _ _ _ _ _ _ hf hds fc hside h=>aK.callM hg (base+_) hf hds fc hside (hs _ _ h)}))
  split:=λt _ ht h1 h0=>eI.split t ht (λe=>hq _ _ _ (h1 e)) (λe=>hq _ _ _ (h0 e))
  skip:=λhg hd h=>eI.skip rfl hg hd (hq _ _ _ h)
  store:=λhF0 hx hi hside h=>eI.store hF0 hx hi hside (hq _ _ _ h)
  call:=λhg _ _ _ _ _ hf hds fc hside h=>eI.call hg hf hds fc hside (hq _ _ _ h)
  own:=by
   intro k F l' L' t f args tys ty pos aft g hg fid cap ds xs ro e z hf hds fc hside h;exact eI.own k hg hf hds fc hside (hq _ _ _ h)
  alloc:=λhg hi hside h=>eI.alloc hg hi hside (hq _ _ _ h)}

theorem aIZ{S:Setup}{G w}{t:TypeId}{ps:List (Nat×D)}{vs:Array (Nat×Value)}(hv:PRel G w ps vs.toList){K:D->Prop}(h:sN S t ps K) :
  ∃d arr,K d/\S.P.built t vs.toList=some arr/\Rel G w d (.agg arr):=by
 obtain⟨i,hi,h⟩:=aI h;split at h
 ·rename_i fs hk;obtain⟨cs,hb,hK⟩:=aI h;obtain⟨fields,hu,hfs,places,hpl⟩:=nC (S:=S) (t:=t) (fs:=fs) (by unfold Setup.kd;rw[hi];simp[hk]);obtain⟨z,hz,hrz,_⟩:=jN (S:=S) (G:=G) (w:=w) hi;have hp:∀(q:Nat) p j,fs[q]?=some p->S.tab p.2=some j->(places.toArray[q]?:Option (Nat×Nat))=some (p.1,j.size):=λq p j hq hj=>by
   obtain⟨fl,hf,ho,hty⟩:=lW hfs hq;obtain⟨y,h1,h2⟩:=pR hpl q fl (by simpa using hf);obtain⟨inf,k1,k2,_⟩:=(S.ok p.2 j hj).info;rw[hty,k1] at h1;simp at h1;subst h1;simpa[ho,k2] using h2
  obtain⟨arr,e1,e2⟩:=aEn (S:=S) hp hv hrz hb;refine⟨_,arr,hK,?_,?_⟩
  ·obtain⟨inf,k1,_,_,z',k2,_⟩:=(S.ok t i hi).info;have hzz:z'=z:=by
    have:(zeroValue t).run S.P w=.ok z' w:=by simp[zeroValue,typeInfo,k1,k2]
    rw[this] at hz;simpa using hz
   subst hzz;simp only[Program.built,k1,hu,k2,hpl];exact e1
  ·have:arr=arr.toList.toArray:=by simp
   rw[this];exact .agg (by simpa using e2.1) λj d v hd hv=>e2.2 j d v hd (by simpa using hv)
 ·rename_i n e hk;obtain⟨je,hje,rfl,hK⟩:=aI h;have hvs:vs=#[]:=by
   cases vs with
   | mk l =>
    cases l with
    | nil=>rfl
    | cons _ _=>cases hv
  subst hvs;have hu:=aAP (S:=S) (t:=t) (n:=n) (e:=e) (by unfold Setup.kd;rw[hi];simp[hk]);obtain⟨z,hz,hrz,_⟩:=jN (S:=S) (G:=G) (w:=w) hi;obtain⟨inf,k1,_,_,z',k2,_⟩:=(S.ok t i hi).info;have hzz:z'=z:=by
   have:(zeroValue t).run S.P w=.ok z' w:=by simp[zeroValue,typeInfo,k1,k2]
   rw[this] at hz;simpa using hz
  subst hzz;obtain⟨ie,hie,_⟩:=(S.ok e je hje).info;refine⟨_,z'.cells,hK,?_,?_⟩
  ·simp[Program.built,k1,hu,k2,hie,Instr.fill]
  ·have:z'.cells=z'.cells.toList.toArray:=by simp
   rw[this];exact .agg (by simpa using hrz.1) λj d v hd hv=>hrz.2 j d v hd (by simpa using hv)
 ·exact h.elim

def aZw(P:Program)(o:Oper)(a:Act):Prop:=∃d T ps v w0 w1,o.op=.build T ps/\o.dst=some d/\a.tmps[d]?=some v/\(execOp a.eval o).run P w0=.ok (.value v) w1
def aIf(o:Op):List Nat:=o.operands.toList.filterMap fun|.tmp t=>some t|_=>none
theorem aFL{o:Op}{u:Nat}:u∈aIf o↔Operand.tmp u∈o.operands:=by
 unfold aIf;rw[List.mem_filterMap];constructor
 ·rintro⟨x,hx,h⟩;cases x<;>simp at h
  subst h;simpa using hx
 ·intro h;exact⟨.tmp u,by simpa using h,rfl⟩
def aR1(md:Region.Mode)(ops:Array Oper)(i:Nat):Bool:=match ops[i]? with
 | some o=>(match o.op with|.build _ _=>true|_=>false)&&o.guard.isNone&&(match o.dst with
  | some d=>(List.range ops.size).all λj=>j==i||match ops[j]? with
   | some p=>p.dst != some d&&(match p.dst with|some u=>!(aIf o.op).contains u||(ons md ops i).contains j|none=>true)
   | none=>true
  | none=>false)&&(match o.dst with|some d=>!(aIf o.op).contains d|none=>false)
 | none=>false
def Nxt(P:Program)(ops:Array Oper)(i:Nat)(a a':Act):Prop:=match ops[i]? with
 | none=>a'=a
 | some o=>∃v,a'.tmps=(a.put o.dst v).tmps/\(o.guard=none->∀T ps,o.op=.build T ps->∃w0 w1,(execOp a.eval o).run P w0=.ok (.value v) w1)

section
variable {P:Program} {ops:Array Oper} {Q:Exit->Act->World->Prop}
theorem aUg{i:Nat}{a:Act}{w}{K:Act->World->Prop}(hh:wpOp P ops Q i K a w):wpOp P ops Q i (λa' w'=>Nxt P ops i a a'/\K a' w') a w:=by
 unfold wpOp at hh ⊢;split
 ·rename_i ho;simp only[ho] at hh;exact⟨by simp only[Nxt,ho],hh⟩
 ·rename_i o ho;simp only[ho] at hh;by_cases hw:Region.wanted o (yielded ops a.tmps)=true
  ·rw[if_pos hw] at hh ⊢;refine hh.imp (λhh=>?_) id;have nx:∀v,∀a':Act,a'.tmps=(a.put o.dst v).tmps->(∀T ps,o.op=.build T ps->∃w0 w1,(execOp a.eval o).run P w0=.ok (.value v) w1)->Nxt P ops i a a':=λv a' h1 h2=>by
    simp only[Nxt,ho];exact⟨v,h1,λ_=>h2⟩
   have nb:∀(x:Next) (w':World),(execOp a.eval o).run P w=.ok x w'->(∀v,x≠.value v)->∀T ps,o.op=.build T ps->∀v,∃w0 w1,(execOp a.eval o).run P w0=.ok (.value v) w1:=λx w' hr hn T ps hop=>by
    exfalso;unfold execOp at hr;rw[hop] at hr;simp only at hr;rw[Sem.run_bind] at hr;cases hb:Sem.run P (Instr.build T (Array.map (λx=>(x.fst,a.eval x.snd)) ps)) w with
    | ok v w2 =>
     rw[hb] at hr;simp[Result.andThen] at hr;exact hn _ hr.1.symm
    | halt x w2 =>
     rw[hb] at hr;simp[Result.andThen] at hr
   unfold Oper.wp at hh ⊢;generalize hr:(execOp a.eval o).run P w=r at hh ⊢;cases r with
   | ok x w' =>
    cases x with
    | value v=>exact⟨nx v _ rfl λT ps _=>⟨w,w',hr⟩,hh⟩
    | skip=>exact⟨nx undef _ rfl λT ps hop=>nb _ _ hr (by simp) T ps hop _,hh⟩
    | defer d=>exact⟨nx undef _ (by cases o.dst<;>rfl) λT ps hop=>nb _ _ hr (by simp) T ps hop _,hh⟩
    | enter f args =>
     refine Calls.mono hh λe w'' he=>?_;cases e with
     | returned v=>exact⟨nx v _ rfl λT ps hop=>nb _ _ hr (by simp) T ps hop _,he⟩
     | _=>exact he
    | row r args=>exact Rows.mono hh λv w'' he=>⟨nx v _ rfl λT ps hop=>nb _ _ hr (by simp) T ps hop _,he⟩
    | _=>exact hh
   | halt x w'=>cases x<;>exact hh
  ·rw[if_neg hw] at hh ⊢;refine⟨?_,hh⟩;simp only[Nxt,ho];refine⟨undef,rfl,λhg=>?_⟩;simp[Region.wanted,hg] at hw

structure ReInv (P:Program) (ops:Array Oper) (re:List Nat) (listed:Array Bool) (a:Act):Prop where
 sz:∀i∈re,∀o d,ops[i]?=some o->o.dst=some d->d<a.tmps.size
 at_:∀i∈re,∀o,ops[i]?=some o->listed.getD i false=true->aZw P o a
theorem aIr{a a':Act}{dst:Option Nat}{v:Value}(h:a'.tmps=(a.put dst v).tmps){t:Nat}(ht:∀u,dst=some u->u≠t):a'.tmps[t]?=a.tmps[t]?:=by
 rw[h];cases dst with
 | none=>rfl
 | some u =>
  simp only[Act.put];rw[Array.getElem?_setIfInBounds_ne (ht u rfl)]
theorem aTT{a a':Act}{dst:Option Nat}{v:Value}(h:a'.tmps=(a.put dst v).tmps):a'.tmps.size=a.tmps.size:=by
 rw[h];cases dst<;>simp[Act.put]
theorem oB{a a':Act}{o:Oper}{T:TypeId}{ps:Array (Nat×Operand)}(hop:o.op=.build T ps)(h:∀u,Operand.tmp u∈o.op.operands->a'.tmps[u]?=a.tmps[u]?):execOp a'.eval o=execOp a.eval o:=by
 unfold execOp;rw[hop];simp only;congr 2
 refine Array.map_congr_left λx hx=>?_;have:a'.eval x.2=a.eval x.2:=by
  cases hx2:x.2 with
  | tmp u =>
   have:=h u (by rw[hop];simp only[Op.operands];rw[←hx2];simp;exact⟨x.1,by simpa using hx⟩);simp only[Act.eval,Array.getD_eq_getD_getElem?,this]
  | _=>rfl
 rw[this]
theorem ReInv.step{md:Region.Mode}{re:List Nat}(hre:re.all (aR1 md ops)=true){listed:Array Bool}{a a':Act}{i:Nat}(hd:aKU md ops listed)(_:listed.size=ops.size)(hi:i∈Region.ready md ops listed)(h:ReInv P ops re listed a)(hn:Nxt P ops i a a'):ReInv P ops re (listed.setIfInBounds i true) a':=by
 have hil:=(mem_ready.1 hi).1;obtain⟨o,ho,hal⟩:=(mem_ready.1 hi).2;unfold Nxt at hn;rw[ho] at hn;obtain⟨v,hv,hb⟩:=hn;refine⟨λj hj oj d hoj hdj=>by rw[aTT hv];exact h.sz j hj oj d hoj hdj,λj hj oj hoj hl=>?_⟩;have hr:=List.all_eq_true.1 hre j hj;unfold aR1 at hr;rw[hoj] at hr;simp only[Bool.and_eq_true] at hr;obtain⟨⟨⟨hbu,hg⟩,hall⟩,hself⟩:=hr;cases hop:oj.op with
 | build T ps =>
  cases hdst:oj.dst with
  | none=>rw[hdst] at hall;cases hall
  | some d =>
   rw[hdst] at hall hself;simp only at hall hself;by_cases hji:j=i
   ·subst hji;rw[ho] at hoj;obtain rfl:=zA hoj;obtain⟨w0,w1,hrun⟩:=hb (by simpa using hg) T ps hop;have hlt:=h.sz j hj o d ho hdst;refine⟨d,T,ps,v,w0,w1,hop,hdst,?_,?_⟩
    ·rw[hv,hdst];simp[Act.put,hlt]
    ·rw[oB hop λu hu=>aIr hv λu' hu' e=>?_]
     ·exact hrun
     ·rw[hdst] at hu';obtain rfl:=zA hu';subst e;have:=aFL.2 hu;simp[this] at hself
   ·have hl':listed.getD j false=true:=by
     have hne:i≠j:=Ne.symm hji;simpa[Array.getD_eq_getD_getElem?,Array.getElem?_setIfInBounds_ne hne] using hl
    obtain⟨d',T',ps',v',w0,w1,e1,e2,e3,e4⟩:=h.at_ j hj oj hoj hl';rw[hdst] at e2;obtain rfl:=zA e2;have hlt:i<ops.size:=(Array.getElem?_eq_some_iff.1 ho).1;have hk:=List.all_eq_true.1 hall i (List.mem_range.2 hlt);rw[ho] at hk;have hij:(i==j)=false:=by simpa using Ne.symm hji
    simp only[hij,Bool.false_or,Bool.and_eq_true] at hk;obtain⟨k1,k2⟩:=hk;refine⟨d,T',ps',v',w0,w1,e1,hdst,?_,?_⟩
    ·rw[aIr hv λu hu e=>?_]
     ·exact e3
     ·rw[hu,e] at k1;simp at k1
    ·rw[oB e1 λu hu=>aIr hv λu' hu' e=>?_]
     ·exact e4
     ·subst e;rw[hu'] at k2;simp only[Bool.or_eq_true,Bool.not_eq_true'] at k2;rcases k2 with k2|k2
      ·have:=aFL.2 hu;simp[this] at k2
      ·have:=hd j hl' i (by simpa using k2);have h3:=(aAA hil).1;rw[h3] at this;cases this
 | _=>simp[hop] at hbu

theorem aC8{S:Setup}{ops}{m:Nat}{md:Region.Mode}{B}{L0:LS}{r:Nat}{Q:jB->Prop}{Q':Exit->Act->World->Prop}{re:List Nat}(hre:re.all (aR1 md ops)=true)(hB:tK md ops m=true)(hQ:∀listed E G a w,InvT md ops m 0 listed->ReInv S.P ops re listed a->aML B L0 E G a w->Q E->wpAny S.P md ops Q' r listed a w):∀(f:Nat) (listed:Array Bool) (E:jB) (G:Ghost) (a:Act) (w:World),InvT md ops m f listed->ReInv S.P ops re listed a->aML B L0 E G a w →
  aBj S md ops L0.getBox L0.n Q f listed E->wpAny S.P md ops Q' (f+r) listed a w
 | 0,listed,E,G,a,w,hinv,hri,hs,h=>by rw[Nat.zero_add];exact hQ listed E G a w hinv hri hs h
 | f+1,listed,E,G,a,w,hinv,hri,hs,h=>by
  rw[show f+1+r=(f+r)+1 by omega];exact⟨λh0=>absurd h0 h.1,λi hi=>wpOp_mono (λa' w' hh=>hh.2 hh.1) (aUg (aFE hs (λE G a' w' hs' hK (hn:Nxt S.P ops i a a')=>aC8 hre hB hQ f _ E G a' w' (hinv.set hi (hinv.lt hB hi)) (hri.step hre hinv.down hinv.size hi hn) hs' hK) (h.2 i hi)))⟩

def aPH(S:Setup)(o:Oper)(L:LS)(N:LS->Prop):Prop:=match o.dst,o.op,o.guard with
 | some d,.build t ps,none=>aL (uV (aM L) ps.toList) λq=>sN S t q λd'=>d<L.n/\N (L.put d d')
 | _,_,_=>False
def d7(S:Setup):List Oper->LS->(LS->Prop)->Prop
 | [],L,N=>N L
 | o::l,L,N=>aPH S o L λL'=>d7 S l L' N
theorem aRs(S:Setup)(L:LS)(N:LS->Prop):d7 S [] L N=N L:=rfl
theorem aKI(S:Setup)(d:Nat)(t:TypeId)(ps:Array (Nat×Operand))(ty:TypeId)(pos:String)(aft:Array Edge)(l:List Oper)(L:LS)(N:LS->Prop):d7 S (⟨some d,.build t ps,ty,pos,aft,none⟩::l) L N=aL (uV (aM L) ps.toList) λq=>sN S t q λd'=>d<L.n/\d7 S l (L.put d d') N:=by
 simp only[d7,aPH]
theorem aLr{S:Setup}{B L G}{a:Act}{w}{N:LS->Prop}{o:Oper}(he:aZw S.P o a)(hs:Sim B L G a w)(h:aPH S o L N):∃L',N L'/\Sim B L' G a w:=by
 obtain⟨d,T,ps,v,w0,w1,e1,e2,e3,e4⟩:=he;unfold aPH at h;rw[e1,e2] at h;cases hg:o.guard with
 | some g=>rw[hg] at h;exact h.elim
 | none =>
  rw[hg] at h;simp only at h;obtain⟨q,hq,h⟩:=aI h;obtain⟨d',arr,⟨_,hK⟩,hbu,hrel⟩:=aIZ (vs:=ps.map λ(i,x)=>(i,a.eval x)) (by simpa using nU hs hq) h;have hrun:=run_build (P:=S.P) w0 T (ps.map λ(i,x)=>(i,a.eval x)) arr hbu;have:v=.agg arr:=by
   unfold execOp at e4;rw[e1] at e4;simp only[Sem.run_bind] at e4;rw[hrun] at e4;simp[Result.andThen] at e4;exact e4.1.symm
  subst this;exact⟨_,hK,mL hs e3 hrel⟩
theorem aCT{S:Setup}{B G a w}{N:LS->Prop}:∀(l:List Oper) (L:LS),(∀o∈l,aZw S.P o a)->Sim B L G a w->d7 S l L N->∃L',N L'/\Sim B L' G a w
 | [],L,_,hs,h=>⟨L,h,hs⟩
 | o::l,L,he,hs,h=>by
  obtain⟨L1,h1,hs1⟩:=aLr (he o zH) hs h;exact aCT l L1 (λo ho=>he o (zG _ ho)) hs1 h1
end

theorem aIl{S:Setup}{B}{base id m:Nat}{l:List Oper}{L:LS}{G a}{w:World}{K:LS->Prop}{re:List Nat}(hre:re.all (λi=>decide (i<m)&&aR1 .any l.toArray i&&(match l[i]? with|some o=>(match o.dst with|some d=>decide (d<L.n)|none=>false)|none=>false))=true)(hB:aG8 .any l.toArray m=true)(h:eI S l.toArray L (λF L'=>toF base F L' λL2=>d7 S (re.filterMap (l[·]?)) L2 λL3=>aK S B l.toArray (l.drop m) L3 K) [] (l.take m) L)(hs:Sim B L G a w){Q:Exit->Act->World->Prop}
  (hQ:∀L' G' a' w',K L'->Sim B L' G' a' w'->Q .normal a' w'):(Code.region id l.toArray true).wp S.P Q a w:=by
 simp only[aG8,Bool.and_eq_true,decide_eq_true_eq] at hB;obtain⟨⟨hL,hT⟩,hm⟩:=hB;have hre1:re.all (aR1 .any l.toArray)=true:=by
  rw[List.all_eq_true] at hre ⊢;intro i hi;have:=hre i hi;simp only[Bool.and_eq_true] at this;exact this.1.2
 have hre2:∀i∈re,i<m:=λi hi=>by
  have:=List.all_eq_true.1 hre i hi;simp only[Bool.and_eq_true,decide_eq_true_eq] at this;exact this.1.1
 have hre3:∀i∈re,∀o d,l.toArray[i]?=some o->o.dst=some d->d<L.n:=λi hi o d ho hd=>by
  have:=List.all_eq_true.1 hre i hi;simp only[Bool.and_eq_true] at this;have h2:=this.2;simp only[List.getElem?_toArray] at ho;rw[ho] at h2;simp only[hd,decide_eq_true_eq] at h2;exact h2
 have hml:m≤l.length:=by simpa using hm
 have hlen:(l.take m).length=m:=by simp;omega
 have hinv:InvT .any l.toArray m m (Array.replicate l.toArray.size false):=by
  refine⟨λj hj=>?_,by simp,λj _ hj=>?_,?_⟩
  ·by_cases hlt:j<l.length<;>simp[hlt] at hj
  ·have hj':j<l.length:=by simpa using hj
   simp[hj']
  ·unfold aB3;rw[List.filter_eq_self.2,List.length_range];intro j hj;have hj:=List.mem_range.1 hj;simp[show j<l.length by omega]
 refine wp_region_any S.mixed ?_;have hsz:l.toArray.size=m+(l.toArray.size-m):=by simp;omega
 have hri0:ReInv S.P l.toArray re (Array.replicate l.toArray.size false) a:=⟨λi hi o d ho hd=>by rw[hs.size];exact hre3 i hi o d ho hd,λi hi o ho hl=>by
  by_cases hlt:i<l.length<;>simp[hlt] at hl⟩
 have key:=aC8 (S:=S) (B:=B) (L0:=L) (r:=l.toArray.size-m) (Q':=Q) (re:=re) (Q:=λE=>∃F' L',E=fM L' F'/\xH L' L/\sX F' [] L'/\toF base F' L' λL2=>d7 S (re.filterMap (l[·]?)) L2 λL3=>aK S B l.toArray (l.drop m) L3 K) hre1 hT ?_ m _ (fM L []) G a {w with drawn:=w.drawn+1} hinv hri0 ⟨L,λ_=>none,⟨(pW L []).symm,rfl,rfl,rfl,rfl,rfl⟩,t0 hs,λt d f he=>?_,λt t' d d' f f' g he=>?_⟩ ?_
 ·have e:m+(l.toArray.size-m)=l.toArray.size:=hsz.symm;rw[e] at key;exact key
 ·rintro listed E G' a' w' hinv' hri ⟨L1,γ,⟨e1,e2,e3,e4,e5,e6⟩,hs',hf,hi⟩ ⟨F',L',rfl,⟨f2,f3,f4,f5,f6⟩,hfr,hK⟩;rw[pW] at e1;have hs2:Sim B L' G' a' w':=⟨hs'.defers,by rw[f2,←e2];exact hs'.size,λt d hd=>by
   rw[←e1] at hd;exact hs'.env t d hd,by rw[f3,f4,f5,←e3,←e4,←e5];exact hs'.W,by rw[f6,←e6];exact hs'.fixed⟩
  have hpr:∀t f,look F' t=some f->∃d,fM L' F' t=some (d,some f):=λt f hl=>by
   obtain⟨d,hd⟩:=Option.isSome_iff_exists.1 (hfr t f hl).1;exact⟨d,by simp[fM,hd,hl]⟩
  obtain⟨L2,G2,hK2,hs3⟩:=wC (B:=B) (base:=base) F' L' G' hs2 ⟨γ,λt f hl=>by
   obtain⟨d,hd⟩:=hpr t f hl;exact hf t d f hd,λt t' f f' g hl hl'=>by
   obtain⟨d,hd⟩:=hpr t f hl;obtain⟨d',hd'⟩:=hpr t' f' hl';exact hi t t' d d' f f' g hd hd'⟩ hK
  obtain⟨L3,hK3,hs4⟩:=aCT (re.filterMap (l[·]?)) L2 (λo ho=>by
   obtain⟨i,hi,hio⟩:=List.mem_filterMap.1 ho;refine hri.at_ i hi o (by simpa using hio) ?_;have hcl:=qC hinv'.cnt i (hre2 i hi);have hil:i<l.toArray.size:=by have:=hre2 i hi;simp;omega
   have hsz2:=hinv'.size;simp[Array.getD_eq_getD_getElem?,show i<listed.size by omega] at hcl ⊢;exact hcl) hs3 hK2
  exact aAr hT _ m listed a' w' (by simp;omega) (Nat.le_refl _) hinv'.size hinv'.down (qC hinv'.cnt) hinv'.rest (by simpa using hK3 G2 a' w' hs4 Q hQ)
 ·simp[fM,look] at he
 ·simp[fM,look] at he
 ·have h2:=x9 (S:=S) (bx:=L.getBox) (n:=L.n) (Q:=λE=>∃F' L',E=fM L' F'/\xH L' L/\sX F' [] L'/\toF base F' L' λL2=>d7 S (re.filterMap (l[·]?)) L2 λL3=>aK S B l.toArray (l.drop m) L3 K) hT (l.take m) 0 (Array.replicate l.toArray.size false) (fM L []) (λj hj=>by
   rw[hlen] at hj;rw[List.getElem?_take,if_pos hj,Nat.zero_add];simp) (by omega) (by rw[hlen];exact hinv) (by rw[hlen];exact hL) (h ⟨rfl,rfl,rfl,rfl,rfl⟩ (λt f hf=>by simp[look] at hf))
  rw[hlen] at h2;exact h2

attribute [go_sem] aRs aKI List.filterMap_cons List.filterMap_nil

def first(n m:Nat):Array Bool:=((List.range n).map λj=>decide (j<m)).toArray
theorem Oper.wp_congrQ{P:Program}{o:Oper}{a:Act}{w}{K:Act->World->Prop}{Q Q':Exit->Act->World->Prop}(h:∀e a w,e≠.normal->Q e a w->Q' e a w)(hh:o.wp P a w K Q):o.wp P a w K Q':=by
 have hl:LetsOut Q->LetsOut Q':=λ⟨a,w,hq⟩=>⟨a,w,h _ a w (by simp) hq⟩;unfold Oper.wp at *;generalize (execOp a.eval o).run P w=r at hh ⊢;cases r with
 | ok x w' =>
  cases x with
  | enter f args =>
   refine Calls.mono hh λe w'' he=>?_;cases e with
   | returned v=>exact he
   | panicked c=>exact h _ _ _ (by simp) he
   | outgrown=>exact hl he
  | _=>exact hh
 | halt x w' =>
  cases x<;>first|exact h _ _ _ (by simp) hh|exact hh

theorem tTT:True:=trivial
section
variable {S:Setup} {base:Nat} {B:Base} {ops:Array Oper} {N:LS->Prop} {K:List Oper->LS->Prop} {l:List Oper} {L L':LS} {p q:Prop}
theorem aB(h:q)(e:bA S base ops K l L=q:=by
 simp(disch:=apply aR;omega)only[go_sem];rfl):bA S base ops K l L:=e ▸ h
theorem aQ(h:q)(e:bC S ops K l L=q:=by
 simp(disch:=apply aR;omega)only[go_sem];rfl):bC S ops K l L:=e ▸ h
theorem aH{a:Prop}(h:q)(e:a:=by first|omega|(simp only[lens];omega)):a/\q:=⟨e,h⟩
theorem cvA(h:L.covers L':=by
 refine aD rfl rfl ?_ ?_ ?_ ?_<;>simp(disch:=apply aR;omega)only[go_sem]<;>(try omega)):L.covers L':=h
theorem cvB(h:L.covers L':=by
 refine aD rfl rfl ?_ ?_ ?_ ?_<;>simp(disch:=apply aR;omega)only[go_sem]<;>(try omega)
 all_goals first|exact⟨rfl,rfl⟩|exact⟨rfl,rfl,rfl⟩|exact⟨rfl,by omega⟩|rfl):L.covers L':=h
section
variable {R:LS->Prop} {k:List VItem}
class Nrm (k:List VItem) (k':outParam (List VItem)):Prop where
 sw:∀ {S:Setup} {B:Base} {R:LS->Prop} {L:LS},SW S B R k' L->SW S B R k L
instance {x y:Code}:Nrm (.code (.seq x y)::k) (.code x::.code y::k):=⟨aZc⟩
instance {id:Nat} {c:Code}:Nrm (.code (.block id c)::k) (.code c::.inBlock id::k):=⟨aS2⟩
instance:Nrm (.code .skip::k) k:=⟨aXE⟩
instance {id:Nat}:Nrm (.inBlock id::k) k:=⟨aNM⟩
theorem aG{k':List VItem} [Nrm k k'] (h:SW S B R k' L):SW S B R k L:=Nrm.sw h
theorem gL(h:q)(e:R L=q:=by
 first
  | (simp(disch:=apply aR;omega)only[go_sem];rfl)
  | rfl):SW S B R (.code .ret::k) L:=aT2 (e ▸ h)
theorem aC{rs:List ResultVar}{d:D}{bx':List (Nat×List D)}(h:q)(e:aYw S rs d bx' L=q:=by
 first
  | (simp(disch:=apply aR;omega)only[go_sem];rfl)
  | rfl):SW S B (Ret S rs d bx') (.code .ret::k) L:=aT2 (aZd (e ▸ h))
theorem aA{c:Operand}{x y:Code}{b:Bool}(hc:aM L c=some (.bool b))(h1:p->SW S B R (.code x::k) L)(h0:q->SW S B R (.code y::k) L)(e1:(b=true)=p:=by
 first
  | (simp(disch:=apply aR;omega)only[go_sem];rfl)
  | rfl) (e0:(b=false)=q:=by
 first
  | (simp(disch:=apply aR;omega)only[go_sem];rfl)
  | rfl):SW S B R (.code (.cond c x y)::k) L:=aPa hc (λh=>h1 (e1 ▸ h)) λh=>h0 (e0 ▸ h)
end
theorem aZ{o:Oper}{g:Option Bool}{r:Nat×Bool}{t:Nat}{b:Bool}(h1:p->bA S base ops K (o::l) (L.put t (.bool true)))(h0:q->bA S base ops K (o::l) (L.put t (.bool false)))(hp:o.guard=some r:=by exact rfl)(hj:(ops[r.1]?).bind (·.dst)=some t:=by exact rfl)(ht:L.get t=some (.bool b):=by exact rfl)(hc:r9 o.op=false:=by exact rfl)(hg:g=pD r.2 (L.get t):=by exact rfl)(e1:(b=true)=p:=by
 first
  | (simp(disch:=apply aR;omega)only[go_sem];rfl)
  | rfl) (e0:(b=false)=q:=by
 first
  | (simp(disch:=apply aR;omega)only[go_sem];rfl)
  | rfl):dM S base ops K l L o g:=aQJ hp hj ht hc hg (λh=>h1 (e1 ▸ h)) λh=>h0 (e0 ▸ h)
theorem bH{o:Oper}{g:Option Bool}{r:Nat×Bool}{t:Nat}{b:Bool}(h1:p->bC S ops K (o::l) (L.put t (.bool true)))(h0:q->bC S ops K (o::l) (L.put t (.bool false)))(hp:o.guard=some r:=by exact rfl)(hj:(ops[r.1]?).bind (·.dst)=some t:=by exact rfl)(ht:L.get t=some (.bool b):=by exact rfl)(hc:wY o.op=false:=by exact rfl)(hg:g=pD r.2 (L.get t):=by exact rfl)(e1:(b=true)=p:=by
 first
  | (simp(disch:=apply aR;omega)only[go_sem];rfl)
  | rfl) (e0:(b=false)=q:=by
 first
  | (simp(disch:=apply aR;omega)only[go_sem];rfl)
  | rfl):bZ S ops K l L o g:=aOY hp hj ht hc hg (λh=>h1 (e1 ▸ h)) λh=>h0 (e0 ▸ h)
theorem KOk.n0(hK:KOk S base B ops N K)(h:q)(e:N L=q:=by
 simp only[go_sem];rfl):K [] L:=hK.nil (e ▸ h)
theorem QOk.n0(hK:QOk S ops N K)(h:q)(e:N L=q:=by
 simp only[go_sem];rfl):K [] L:=hK.nil (e ▸ h)
theorem XOk.n0{N:List (Nat×Fact)->LS->Prop}{K:List (Nat×Fact)->List Oper->LS->Prop}(hK:XOk S ops N K){F:List (Nat×Fact)}(h:q)(e:N F L=q:=by
 simp only[go_sem];rfl):K F [] L:=hK.nil (e ▸ h)
variable {f:Operand} {args:Array Operand} {tys:Array TypeId} {ty:TypeId} {pos:String} {aft:Array Edge} {g:Option (Nat×Bool)} {fid:Nat} {cap ds:List D} {d:D} {dst:Option Nat}
theorem KOk.c1(hK:KOk S base B ops N K)(hg:bQ ops L g=some true)(hf:aM L f=some (.fn fid cap))(hds:fQ (aM L) args.toList=some ds)(fc:FC S fid [] [] [] (ds++cap) d [] [])(h:bA S base ops K l (L.putO dst d))(h1:d.ids=[]:=by exact rfl)(h2:d.tks=[]:=by exact rfl)(h3:aF0 dst L.n=true:=by exact rfl):K (⟨dst,.call ⟨.value f,args,tys⟩,ty,pos,aft,g⟩::l) L:=hK.c0 hg hf hds fc h1 h2 h3 h
theorem QOk.c1(hK:QOk S ops N K)(hg:bQ ops L g=some true)(hf:aM L f=some (.fn fid cap))(hds:fQ (aM L) args.toList=some ds)(fc:FC S fid [] [] [] (ds++cap) d [] [])(h:bC S ops K l (L.putO dst d))(h1:d.ids=[]:=by exact rfl)(h2:d.tks=[]:=by exact rfl)(h3:aF0 dst L.n=true:=by exact rfl):K (⟨dst,.call ⟨.value f,args,tys⟩,ty,pos,aft,g⟩::l) L:=hK.c0 hg hf hds fc h1 h2 h3 h
theorem XOk.c1{N:List (Nat×Fact)->LS->Prop}{K:List (Nat×Fact)->List Oper->LS->Prop}(hK:XOk S ops N K){F:List (Nat×Fact)}(hg:bQ ops L g=some true)(hf:aM L f=some (.fn fid cap))(hds:fQ (aM L) args.toList=some ds)(fc:FC S fid [] [] [] (ds++cap) d [] [])(h:bC S ops (K F) l (L.putO dst d))(h1:d.ids=[]:=by exact rfl)(h2:d.tks=[]:=by exact rfl)(h3:aF0 dst L.n=true:=by exact rfl):K F (⟨dst,.call ⟨.value f,args,tys⟩,ty,pos,aft,g⟩::l) L:=hK.c0 hg hf hds fc h1 h2 h3 h
theorem KOk.cR(hK:KOk S base B ops N K)(hg:bQ ops L g=some true)(hf:aM L f=some (.fn fid cap))(hds:fQ (aM L) args.toList=some ds){ro:List (Nat×List D)}(fc:FC S fid ro [] [] (ds++cap) d [] [])(h:bA S base ops K l (L.putO dst d))(h0:∀p∈ro,L.getBox p.1=some p.2:=by simp[LS.getBox,Lg.look])(h1:d.ids=[]:=by exact rfl)(h2:d.tks=[]:=by exact rfl)(h3:fG dst L:=by simp only[fG,Nat.reduceLT]):K (⟨dst,.call ⟨.value f,args,tys⟩,ty,pos,aft,g⟩::l) L:=hK.call hg hf hds fc ⟨h0,h1,h2,h3⟩ h
theorem QOk.cR(hK:QOk S ops N K)(hg:bQ ops L g=some true)(hf:aM L f=some (.fn fid cap))(hds:fQ (aM L) args.toList=some ds){ro:List (Nat×List D)}(fc:FC S fid ro [] [] (ds++cap) d [] [])(h:bC S ops K l (L.putO dst d))(h0:∀p∈ro,L.getBox p.1=some p.2:=by simp[LS.getBox,Lg.look])(h1:d.ids=[]:=by exact rfl)(h2:d.tks=[]:=by exact rfl)(h3:fG dst L:=by simp only[fG,Nat.reduceLT]):K (⟨dst,.call ⟨.value f,args,tys⟩,ty,pos,aft,g⟩::l) L:=hK.call hg hf hds fc ⟨h0,h1,h2,h3⟩ h
theorem XOk.cR{N:List (Nat×Fact)->LS->Prop}{K:List (Nat×Fact)->List Oper->LS->Prop}(hK:XOk S ops N K){F:List (Nat×Fact)}(hg:bQ ops L g=some true)(hf:aM L f=some (.fn fid cap))(hds:fQ (aM L) args.toList=some ds){ro:List (Nat×List D)}(fc:FC S fid ro [] [] (ds++cap) d [] [])(h:bC S ops (K F) l (L.putO dst d))(h0:∀p∈ro,L.getBox p.1=some p.2:=by simp[LS.getBox,Lg.look])(h1:d.ids=[]:=by exact rfl)(h2:d.tks=[]:=by exact rfl)(h3:fG dst L:=by simp only[fG,Nat.reduceLT]):K F (⟨dst,.call ⟨.value f,args,tys⟩,ty,pos,aft,g⟩::l) L:=hK.call hg hf hds fc ⟨h0,h1,h2,h3⟩ h
theorem KOk.cB(hK:KOk S base B ops N K){t:Nat}(hg:bQ ops L g=some true)(hf:aM L f=some (.fn fid cap))(hds:fQ (aM L) args.toList=some ds){ro cx cx':List (Nat×List D)}{tk0 tk':List Nat}(fc:FC S fid ro cx tk0 (ds++cap) d cx' tk')(h:q)(s1:t<L.n:=by simp only[Nat.reduceLT])
  (s2:∀p∈ro,L.getBox p.1=some p.2/\p.1∉cx.map (·.1):=by first|(simp;all_goals fail)|(simp[LS.getBox,Lg.look];all_goals fail)) (s3:∀p∈cx,look L.boxes p.1=some p.2:=by(simp[Lg.look];all_goals fail)) (s4:∀k∈tk0,k∈L.toks:=by(simp;all_goals fail)) (s5:∀p∈cx',p.1∈cx.map (·.1):=by(simp;all_goals fail))
  (s6:∀i∈d.ids,i∈cx.map (·.1):=by(simp[D.ids,D.idsL];all_goals fail)) (s7:∀p∈cx',∀i∈D.idsL p.2,i∈cx.map (·.1):=by(simp[D.ids,D.idsL];all_goals fail)) (s8:∀k∈d.tks,k∈tk':=by(simp[D.tks,D.tksL];all_goals fail)) (s9:∀p∈cx',∀k∈D.tksL p.2,k∈tk':=by(simp[D.tks,D.tksL];all_goals fail)) (s10:∀k∈tk',k<1000:=by(simp;all_goals fail))
  (s11:L.clean (dR (1000*(t+1)))=true:=by exact rfl) (e:bA S base ops K l ((L.after (1000*(t+1)) cx tk0 cx' tk').put t (d.shT (1000*(t+1))))=q:=by
 simp(disch:=apply aR;omega)only[go_sem];rfl):K (⟨some t,.call ⟨.value f,args,tys⟩,ty,pos,aft,g⟩::l) L:=hK.callB hg hf hds fc ⟨⟨s1,s2,s3,s4,s5⟩,⟨s6,s7,s8,s9,s10⟩,s11⟩ (e ▸ h)
theorem KOk.cT(hK:KOk S base B ops N K){t:Nat}(hg:bQ ops L g=some true)(hf:aM L f=some (.fn fid cap))(hds:fQ (aM L) args.toList=some ds){ro:List (Nat×List D)}{ys:List Int}{e0:TypeId}{z0:Nat}(fc:FC S fid ro [] [] (ds++cap) (.sl (.own 0 e0 z0) (ys.map (.int .i64))) [] [0])(h:q)(s1:t<L.n:=by simp only[Nat.reduceLT])(s2:base+t∉L.fix:=by simp)(s3:∀p∈ro,L.getBox p.1=some p.2:=by simp[Lg.look])(s4:ys≠[]:=by assumption)
  (e:bA S base ops K l ((L.thawed (base+t) (ys.map (.int .i64))).put t (.ms (base+t) ys.length))=q:=by
 simp(disch:=apply aR;omega)only[go_sem];rfl):K (⟨some t,.call ⟨.value f,args,tys⟩,ty,pos,aft,g⟩::l) L:=hK.callT hg hf hds fc ⟨⟨s1,s2,s3⟩,s4⟩ (e ▸ h)
theorem KOk.cM(hK:KOk S base B ops N K){t:Nat}(hg:bQ ops L g=some true)(hf:aM L f=some (.fn fid cap))(hds:fQ (aM L) args.toList=some ds){ro:List (Nat×List D)}{cs0:List D}{j0 n0:Nat}(fc:FC S fid ro [] [] (ds++cap) (.ms j0 n0) [(j0,cs0)] [])(h:q)(s1:t<L.n:=by simp only[Nat.reduceLT])(s2:base+t∉L.fix:=by simp)(s3:∀p∈ro,L.getBox p.1=some p.2:=by simp[Lg.look])(s4:∀d∈cs0,d.memOk=true:=by first|exact fJ _|simp)
  (e:bA S base ops K l ((L.thawed (base+t) cs0).put t (.ms (base+t) n0))=q:=by
 simp(disch:=apply aR;omega)only[go_sem];rfl):K (⟨some t,.call ⟨.value f,args,tys⟩,ty,pos,aft,g⟩::l) L:=hK.callM hg hf hds fc ⟨⟨s1,s2,s3⟩,s4⟩ (e ▸ h)
theorem XOk.cO{N:List (Nat×Fact)->LS->Prop}{K:List (Nat×Fact)->List Oper->LS->Prop}(hK:XOk S ops N K)(k:Nat){F:List (Nat×Fact)}{t:Nat}(hg:bQ ops L g=some true)(hf:aM L f=some (.fn fid cap))(hds:fQ (aM L) args.toList=some ds){xs:List D}{ro:List (Nat×List D)}{ee:TypeId}{z:Nat}(fc:FC S fid ro [] [] (ds++cap) (.sl (.own 0 ee z) xs) [] [0])(h:q)(s1:t<L.n:=by simp only[Nat.reduceLT])(s2:∀p∈ro,L.getBox p.1=some p.2:=by simp[LS.getBox,Lg.look])(s3:uU t l=true:=by exact rfl)
  (e:bC S ops (K ((t,.own k ee z xs)::F)) l (L.put t (.sl .any xs))=q:=by
 simp(disch:=apply aR;omega)only[go_sem];rfl):K F (⟨some t,.call ⟨.value f,args,tys⟩,ty,pos,aft,g⟩::l) L:=hK.own k hg hf hds fc ⟨⟨s1,s2⟩,s3⟩ (e ▸ h)
end
theorem bM{S B}{R:LS->Prop}{k:List VItem}{L:LS}(t:Nat){d:D}{p:Prop}(hk:p->SW S B R k L)(h:look L.env t=some d:=by exact rfl)(e:d.bnd=p:=by
 simp only[D.bnd,zC];rfl):SW S B R k L:=aYo t h λhd=>hk (e ▸ hd)
theorem b6{S B}{R:LS->Prop}{k:List VItem}{L:LS}(t j:Nat){cs:List D}{d:D}{p:Prop}(hk:p->SW S B R k L)(h:look L.env t=some (.agg cs):=by exact rfl)(hj:cs[j]?=some d:=by exact rfl)(e:d.bnd=p:=by
 simp only[D.bnd,zC];rfl):SW S B R k L:=aN0 t j h hj λhd=>hk (e ▸ hd)
theorem fcb {S:Setup} {f:FuncId} {fn:Func} {c:Code} {ro bx:List (Nat×List D)} {tk:List Nat} {args:List D} {d:D} {bx':List (Nat×List D)} {L0} (hf:S.P.funcs[f]?=some fn) (h:∀B:Base,SW S B (Ret S fn.results.toList d bx') [.code c] L0) (hb:fn.body=some c:=by exact rfl) (hname:(fn.name == "runtime.NumGoroutine")=false:=by kernel_rfl) (hn:Nat.ble args.length fn.ntmps=true:=by kernel_rfl) (e:(⟨fn.ntmps,eY 0 args,bx,ro,tk,bx.map (·.1)⟩:LS)=L0:=by
 simp only[go_sem];rfl):FC S f ro bx tk args d bx' []:=aWj hf hb hname (Nat.le_of_ble_eq_true hn) (by rw[e];exact h)
theorem aQz {S:Setup} {f:FuncId} {fn:Func} {c:Code} {ro bx:List (Nat×List D)} {tk:List Nat} {args:List D} {d:D} {bx':List (Nat×List D)} {L0} (hf:S.P.funcs[f]?=some fn) (h:∀B:Base,SW S B (dX S fn.results.toList d bx') [.code c] L0) (hb:fn.body=some c:=by exact rfl) (hname:(fn.name == "runtime.NumGoroutine")=false:=by kernel_rfl) (hn:Nat.ble args.length fn.ntmps=true:=by kernel_rfl) (e:(⟨fn.ntmps,eY 0 args,bx,ro,tk,bx.map (·.1)⟩:LS)=L0:=by
 simp only[go_sem];rfl):FC S f ro bx tk args d bx' [0]:=aVc hf hb hname (Nat.le_of_ble_eq_true hn) (by rw[e];exact h)
end Go.Lg
