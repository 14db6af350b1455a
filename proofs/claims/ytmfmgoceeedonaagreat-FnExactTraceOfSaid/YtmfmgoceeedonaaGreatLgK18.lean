import Derived.Test.YtmfmgoceeedonaaGreatLgK6
import Derived.ArgAppend
import Derived.Laws.Tables
namespace Go.Lg
open Go Go.RowKit
theorem Rel.toQue{G:Ghost}{w}{k:Nat}{e:TypeId}{xs:List D}{v:Value}(h:Rel G w (.sl (.own k e 1) xs) v):Rel G w (.sl (.que k e) xs) v:=by
 cases h with
 | @sl _ _ A n c b o s hn hc hm ht hA hu hk hst hr =>
 refine .sl (b:=b) (o:=o) (s:=s) hn hc hm ?_ hA hu hk hst hr;simp only[dZ] at ht ⊢;generalize G.τ k=x at *;match x,ht with
 | none,_=>exact trivial
 | some none,ht=>exact ht
 | some (some (g,e',z')),ht =>
  obtain⟨⟨rfl,rfl⟩,h2,h3,h4,h5⟩:=ht;exact⟨⟨rfl,rfl⟩,.inr ⟨0,h2,by omega,by rw[h4];simp,h5⟩⟩
theorem aUe{G:Ghost}{w}{k:Nat}{e:TypeId}{xs:List D}{A:Option Addr}{n c:Nat}(h1:∀x∈xs,x.cells.length=1)(h:Rel G w (.sl (.que k e) xs) (.slice A n c)){m:Nat}(hm:m≤xs.length) :
  Rel G w (.sl (.que k e) (xs.drop m)) (.slice (if c=m then A else A.map (·.add m)) (n-m) (c-m)):=by
 cases h with
 | @sl _ _ _ _ _ b o s hn hc hmx ht hA hu hk hst hr =>
 have hfl:flat (xs.drop m)=(flat xs).drop m:=by
  have h0:=dC (xs:=xs.take m) (s:=1) λx hx=>h1 x (List.mem_of_mem_take hx);have h2:flat xs=flat (xs.take m)++flat (xs.drop m):=by rw[←gD,List.take_append_drop]
  have h3:=congrArg (List.drop m) h2;rw[List.drop_left' (by rw[h0,List.length_take];omega)] at h3;exact h3.symm
 have hget:∀(j:Nat) d,(flat (xs.drop m))[j]?=some d->(flat xs)[m+j]?=some d:=λj d hj=>by rw[hfl,List.getElem?_drop] at hj;exact hj
 by_cases hcm:c=m
 ·have hnm:n=m:=by omega
  have hx0:xs.drop m=[]:=List.drop_eq_nil_of_le (by omega);rw[if_pos hcm,hx0,hcm,hnm,Nat.sub_self];refine .sl (b:=b) (o:=o) (s:=s) rfl (by omega) (by omega) ?_ (.inl rfl) (by simp) (by simp[flat]) (by simp[flat]) (by simp[flat]);simp only[dZ] at ht ⊢;generalize G.τ k=x at *;match x,ht with
  | none,_=>exact trivial
  | some none,ht=>exact⟨trivial,trivial⟩
  | some (some (g,e',z')),ht=>exact⟨ht.1,.inl ⟨trivial,trivial⟩⟩
 ·rw[if_neg hcm];refine .sl (b:=b) (o:=o+m) (s:=s) (by rw[List.length_drop];omega) (by omega) (by omega) ?_ ?_ (λx hx=>hu x (List.mem_of_mem_drop hx)) (λd hd=>?_) (λj d hj=>?_) (λj d v hj hv=>?_)
  ·simp only[dZ] at ht ⊢;generalize G.τ k=x at *;match x,ht with
   | none,_=>exact trivial
   | some none,ht=>exact⟨by omega,by omega⟩
   | some (some (g,e',z')),ht =>
    obtain⟨he,⟨h0,h2⟩|⟨o1,rfl,h3,h4,h5⟩⟩:=ht
    ·exact⟨he,.inl ⟨by omega,by omega⟩⟩
    ·refine⟨he,.inr ⟨o1+m,by rw[Option.map_some,e8],by omega,by rw[h4];congr 2;omega,λx hx=>h5 x (List.mem_of_mem_drop hx)⟩⟩
  ·rcases hA with hA|hA
   ·exact .inl (by rw[hA];simp)
   ·exact .inr (by rw[hA,Option.map_some,e8])
  ·rw[hfl] at hd;exact hk d (List.mem_of_mem_drop hd)
  ·have:=hst (m+j) d (hget j d hj);rw[←Nat.add_assoc] at this;exact this
  ·rw[Nat.add_assoc] at hv;exact hr (m+j) d v (hget j d hj) hv
theorem aK.sliceQue{S:Setup}{B ops l}{L:LS}{K:LS->Prop}{t:Nat}{x loO:Operand}{T ty e:TypeId}{pos aft}{j:TyI}{kd:IntKind}{m:Int}{tk:Tk}{k:Nat}{xs:List D}
  (hx:aM L x=some (.sl tk xs)) (htk:tk=.own k e 1∨tk=.que k e) (hh:aM L loO=some (.int kd m)) (hT:S.kd T=some (.slice e)) (he:S.tab e=some j) (h1:j.size=1) (hm:0≤m/\m≤xs.length) (hc:∀x∈xs,x.cells.length=1) (ht:t<L.n)
  (h:aK S B ops l (L.put t (.sl (.que k e) (xs.drop m.toNat))) K) :
  aK S B ops (⟨some t,.slice T x (some loO) none none,ty,pos,aft,none⟩::l) L K:=by
 intro G a w hs Q hQ;refine wpList_step λN hN=>?_;rw[if_pos (bS (S:=S) (b:=true) rfl hs rfl)];have hr:=aO hs hx;have hi:=aO hs hh;generalize hu:a.eval x=u at hr;generalize hi2:a.eval loO=iv at hi;cases hi;obtain⟨A,n,c,rfl⟩:∃A n c,u=.slice A n c:=by cases hr;exact⟨_,_,_,rfl⟩
 obtain⟨hn,hcc⟩:n=xs.length/\n≤c:=by
  cases hr with
  | sl hn hc hm ht hA hu hmem hst hr=>exact⟨hn,hc⟩
 have hq:Rel G w (.sl (.que k e) xs) (.slice A n c):=by
  rcases htk with rfl|rfl
  ·exact hr.toQue
  ·exact hr
 have hd:=aUe hc hq (m:=m.toNat) (by omega);have hu':=aN hT;have hel:S.P.elem T=e:=by simp[Program.elem,hu']
 have hu2:S.P.underlying T=some (.slice (S.P.elem T)):=by rw[hel];exact hu'
 have hok:=S.ok e j he;have hrun:(execOp a.eval ⟨some t,.slice T x (some loO) none none,ty,pos,aft,none⟩).run S.P w=.ok (.value (.slice (if c=m.toNat then A else A.map (·.add m.toNat)) (n-m.toNat) (c-m.toNat))) w:=by
  have h1':=fK (P:=S.P) w true n c (some (.int kd m)) none (some m) none (.inr ⟨kd,m,rfl,rfl⟩) (.inl ⟨rfl,rfl⟩) (by simpa using hm.1) (by simp;omega) (by simp) hcc;have h2:(Instr.sliceAt T (.slice A n c) (some (.int kd m)) none none).run S.P w=.ok (.slice (if c=m.toNat then A else A.map (·.add m.toNat)) (n-m.toNat) (c-m.toNat)) w:=by
   rw[run_sliceAt_slice w T _ _ _ _ hu2,run_slice_any w T _ _ _ hu2,h1'];simp[hel,run_sizeOf hok,sliced,h1]
  simp[execOp,hu,hi2,h2]
 unfold Oper.wp;rw[hrun];exact hN _ _ (h G _ w (hs.put ht hd) Q hQ)
theorem aSM{S B}{R:LS->Prop}{kk:List VItem}{L:LS}(t:Nat){k:Nat}{e:TypeId}{xs:List D}(ht:look L.env t=some (.sl (.own k e 1) xs))(h:SW S B R kk {L with env:=eU L.env t (.sl (.que k e) xs)}):SW S B R kk L:=λG a w hs=>by
 obtain⟨v,hv,hr⟩:=hs.env t _ ht;exact h G a w (mL hs hv hr.toQue)
theorem aSO{B}{L:LS}{G:Ghost}{a}{w:World}(hs:Sim B L G a w){tok:Nat}(hc:L.clean (λk=>k==tok)=true){k:Nat}{e:TypeId}{g o:Nat}{xs:List D}{y:D}{u:Value}{n c:Nat}(hτ:G.τ k=some (some (g,e,1)))
  (hr:Rel G w (.sl (.que k e) xs) (.slice (some ⟨g,o,none⟩) n c)) (hlim:o+n=G.lim g) (hsh:w.shape? g=some (e,o+c)) (hux:∀y∈xs,y.cells.length=1) (hy1:y.cells=[y])
  (hmy:y.memOk=true) (hnr:Rel G w y u) (hroom:n+1≤c) {cur:Array Value} (hcur:w.heap[g]?=some (.cells cur e (0,0))) :
  ∃G',Sim B {L with toks:=tok::jH (.own k e 1) L.toks} G' a (w.setRow g (cur.setIfInBounds (o+n) u)) ∧
   Rel G' (w.setRow g (cur.setIfInBounds (o+n) u)) (.sl (.que tok e) (xs++[y])) (.slice (some ⟨g,o,none⟩) (n+1) c):=by
 have hW:=hs.W;let row:=cur.setIfInBounds (o+n) u;let w':=w.setRow g row;have hgl:=bX hcur;have hcs:cur.size=o+c:=by
  have:=hsh;simp only[World.shape?,hcur,Option.some.injEq,Prod.mk.injEq] at this;exact this.2
 have hrow:w'.heap[g]?=some (.cells row e (0,0)):=setRow_heap w g cur row e (0,0) hcur;have hrs:row.size=o+c:=by simp[row];omega
 have hother:∀b,b≠g->w'.heap[b]?=w.heap[b]?:=λb hb=>setRow_other w g b row hb;have hget1:∀j,j<o+n->row[j]?=cur[j]?:=λj hj=>by
  simp only[row];rw[Array.getElem?_setIfInBounds_ne (by omega)]
 have hget2:row[o+n]?=some u:=by
  simp only[row];rw[Array.getElem?_setIfInBounds_self_of_lt (by omega)]
 have hcell':∀j,w'.cell? ⟨g,j,none⟩=row[j]?:=λj=>by simp[World.cell?,hrow]
 have hcell:∀j,w.cell? ⟨g,j,none⟩=cur[j]?:=λj=>by simp[World.cell?,hcur]
 let G':Ghost:=({G.grow g (o+n+1) with τ:=killτ (.own k e 1) G.τ}:Ghost).setTok tok (some (some (g,e,1)));have hl':G'.lim g=o+n+1:=by simp[G',Ghost.setTok,Ghost.grow]
 have hlo:∀b,b≠g->G'.lim b=G.lim b:=λb hb=>by simp[G',Ghost.setTok,Ghost.grow,hb]
 have hst:TokStep B G G' w w' tok:=by
  obtain⟨q1,q2,q3,q4⟩:=hW.tau k g e 1 hτ;refine {
   mono:=⟨λb o' v h1 h2=>?_,λ_ _=>rfl⟩
   beta:=rfl
   lab:=rfl
   sz:=by simp[w',World.setRow]
   os:=rfl
   tape:=rfl
   out:=rfl
   dr:=by first|exact zQ _|exact Nat.le_succ _
   tau:=λk' hk'=>?_
   block:=λb hb=>?_
   new:=λg' e' z' hg=>?_
   live:=by simp[G',Ghost.setTok]}
  ·by_cases hb:b=g
   ·subst hb;rw[←hlim] at h1;refine⟨by rw[hl'];omega,?_⟩;rw[hcell',hget1 o' h1,←hcell];exact h2
   ·exact⟨by rw[hlo b hb];exact h1,by rw[bY (hother b hb)];exact h2⟩
  ·simp only[G',Ghost.setTok,if_neg hk',killτ];by_cases hkk:k'=k
   ·exact .inl (by rw[if_pos hkk])
   ·refine .inr ⟨by rw[if_neg hkk],λg2 e2 z2 h2=>?_⟩;have hne:g2≠g:=λe0=>by subst e0;exact hkk (hW.tinj k' k _ e2 z2 e 1 h2 hτ)
    exact⟨by simp[Ghost.grow,hne],hother g2 hne⟩
  ·by_cases hb':b=g
   ·subst hb';refine .inr ⟨q1,q4,?_,hW.tlab k b e 1 hτ⟩;rw[hl',←hlim];omega
   ·exact .inl ⟨hother b hb',hlo b hb'⟩
  ·simp only[G',Ghost.setTok,if_true,Option.some.injEq,Prod.mk.injEq] at hg;obtain⟨rfl,rfl,rfl⟩:=hg;refine⟨q1,q2,⟨row,hrow,by rw[hl',hrs];omega⟩,q4,λk' e' z' hk' hkk=>?_,hW.tlab k _ _ _ hτ⟩;simp only[G',Ghost.setTok,if_neg hk',killτ] at hkk;split at hkk
   ·cases hkk
   ·rename_i hne;exact hne (hW.tinj k' k _ e' z' _ _ hkk hτ)
 refine⟨G',gE hs hst hc (λk' hk'=>?_),?_⟩
 ·rcases zO.1 hk' with rfl|hk'
  ·exact .inl rfl
  ·by_cases hkt:k'=tok
   ·exact .inl hkt
   ·refine .inr ⟨?_,(jU hk' G.τ).2⟩;simp only[G',Ghost.setTok,if_neg hkt];exact(jU hk' G.τ).1
 ·obtain⟨hn,hnc,hcm,hmx,_⟩:=kI hr;have hfx:(flat xs).length=n:=by rw[dC hux,←hn,Nat.mul_one]
  have hfy:flat [y]=[y]:=by simp[flat,hy1]
  have huxy:∀x∈xs++[y],x.cells.length=1:=λx hx=>by
   rcases zP.1 hx with hx|hx
   ·exact hux x hx
   ·rw[zN.1 hx,hy1];rfl
  have hmxy:∀d∈flat (xs++[y]),d.memOk=true:=λd hd=>by
   rw[gD,hfy] at hd;rcases zP.1 hd with hd|hd
   ·exact hmx d hd
   ·rw[zN.1 hd];exact hmy
  have hxcell:∀(j:Nat) d,(flat xs)[j]?=some d->∃v,cur[o+j]?=some v/\Rel G w d v:=λj d hd=>by
   cases hr with
   | @sl _ _ _ _ _ b o' s hn hcc hm _ hA hu hk hstt hrr =>
   have hne:xs≠[]:=λe0=>by subst e0;simp[flat] at hd
   have hA':=hA.resolve_left hne;simp only[Option.some.injEq,Addr.mk.injEq,and_true] at hA';obtain⟨rfl,rfl⟩:=hA';obtain⟨_,v,hv⟩:=hstt j d hd;have hv2:=hrr j d v hd hv;rw[hcell] at hv;exact⟨v,hv,hv2⟩
  have key:∀(j:Nat) d,(flat (xs++[y]))[j]?=some d->j<n+1/\∃v,row[o+j]?=some v/\Rel G w d v:=λj d hd=>by
   rw[gD,hfy] at hd;by_cases hj:j<n
   ·rw[zL (by rw[hfx];exact hj)] at hd;obtain⟨v,h1,h2⟩:=hxcell j d hd;exact⟨by omega,v,by rw[hget1 _ (by omega)];exact h1,h2⟩
   ·rw[zM (by rw[hfx];omega),hfx] at hd;have hlt:=(zE.1 hd).1;simp only[List.length_singleton] at hlt;obtain rfl:j=n:=by omega
    rw[Nat.sub_self] at hd;obtain rfl:=zA hd;exact⟨by omega,u,hget2,hnr⟩
  refine .sl (b:=g) (o:=o) (s:=1) (by simp[hn]) hroom hcm ?_ (.inr rfl) huxy hmxy (λj d hd=>?_) (λj d v hd hv=>?_)
  ·have e1:G'.τ tok=some (some (g,e,1)):=by simp[G',Ghost.setTok]
   simp only[dZ,e1];refine⟨⟨trivial,trivial⟩,.inr ⟨o,rfl,by rw[hl'];omega,?_,huxy⟩⟩;show w'.shape? g=some (e,o+c);simp[World.shape?,hrow,hrs]
  ·obtain⟨hj,v,h1,_⟩:=key j d hd;refine⟨?_,v,?_⟩
   ·rw[hl'];omega
   ·show w'.cell? _=_;rw[hcell'];exact h1
  ·have hv:w'.cell? ⟨g,o+j,none⟩=some v:=hv;rw[hcell'] at hv;obtain⟨_,v',h1,h2⟩:=key j d hd;rw[h1] at hv;obtain rfl:=zA hv;exact uM hst h2 (hmxy d (zF hd))
theorem aNt{S:Setup}{B}{L:LS}{G a}{w:World}(hs:Sim B L G a w){tok:Nat}(hc:L.clean (λk=>k==tok)=true){t ty e:TypeId}{i:TyI}(hk:S.kd t=some (.slice e))(hi:S.tab e=some i)
  (h1:i.size=1) {k:Nat} (hkt:k∈L.toks) {tk2:Tk} {xs:List D} {y:D} {v u:Value} (hx:Rel G w (.sl (.que k e) xs) v) (hy:Rel G w (.sl tk2 [y]) u) (hux:∀x∈xs,x.cells.length=1) (hy1:y.cells=[y])
  (hb:(xs.length+1)*i.bytes≤140737488355328) (h63:xs.length+1≤140737488355328) :
  ∃v' G' w',(Builtin.append_ #[t,t] ty #[v,u]).run S.P w=.ok v' w'/\Sim B {L with toks:=tok::jH (.own k e 1) L.toks} G' a w'/\Rel G' w' (.sl (.que tok e) (xs++[y])) v':=by
 have ht:=aN hk;obtain⟨inf,i1,i2,i3,z,i4,i5,_⟩:=(S.ok e i hi).info;obtain⟨A,n,c,rfl⟩:∃A n c,v=.slice A n c:=by cases hx;exact⟨_,_,_,rfl⟩
 obtain⟨A2,m,c2,rfl⟩:∃A n c,u=.slice A n c:=by cases hy;exact⟨_,_,_,rfl⟩
 obtain⟨xn,xc,xm,xk,xl⟩:=kI hx;obtain⟨yn,yc,ym,yk,yl⟩:=kI hy;have hml:(140737488355328:Nat)≤maxLen:=by simp[maxLen]
 have hfx:(flat xs).length=n:=by rw[dC hux,←xn,Nat.mul_one]
 have hfy:flat [y]=[y]:=by simp[flat,hy1]
 obtain rfl:m=1:=yn;have huxy:∀x∈xs++[y],x.cells.length=1:=λx hx=>by
  rcases zP.1 hx with hx|hx
  ·exact hux x hx
  ·rw[zN.1 hx,hy1];rfl
 have hmy:y.memOk=true:=yk y (by rw[hfy];exact zN.2 rfl);have hmxy:∀d∈flat (xs++[y]),d.memOk=true:=λd hd=>by
  rw[gD] at hd;rcases zP.1 hd with hd|hd
  ·exact xk d hd
  ·exact yk d hd
 obtain⟨b2,o2,rfl,news,n1,n2,n3,n4,_⟩:=yl (by simp);rw[hfy] at n1 n3;have hsz:inf.size=1:=i2.symm ▸ h1;have hnl:news.length=1*inf.size:=by rw[n1,hsz];rfl
 obtain⟨q,rfl⟩:∃q,news=[q]:=by
  cases news with
  | nil=>simp at n1
  | cons q r=>cases r with
   | nil=>exact⟨q,rfl⟩
   | cons q2 r2=>simp at n1
 have hq:Rel G w y q:=n3 0 y q rfl rfl;have hnews:∀(j:Nat) u,([q]:List Value)[j]?=some u->w.cell? ((⟨b2,o2,none⟩:Addr).add j)=some u:=λj u hu=>by rw[e8];exact n2 j u hu
 have hzs:z.cells.size=1:=by rw[i5];simpa[TyI.size] using h1
 have grow:∀(olds:List Value),olds.length=n->(∀(j:Nat) d u,(flat xs)[j]?=some d->olds[j]?=some u->Rel G w d u) →
   (Builtin.append_ #[t,t] ty #[.slice A n c,.slice (some ⟨b2,o2,none⟩) 1 c2]).run S.P w =
    .ok (.slice (some ⟨w.heap.size,0,none⟩) (n+1) (grownCap w (n+1) c e)) (w.drew.alloc (.cells (olds.toArray++[q].toArray++Builtin.zeroCells z.cells (grownCap w (n+1) c e-(n+1))) e)) →
   ∃v' G' w',(Builtin.append_ #[t,t] ty #[.slice A n c,.slice (some ⟨b2,o2,none⟩) 1 c2]).run S.P w=.ok v' w'/\Sim B {L with toks:=tok::jH (.own k e 1) L.toks} G' a w'/\Rel G' w' (.sl (.que tok e) (xs++[y])) v':=λolds ho hor hrun=>by
  have hcap:=grownCap_ge w (n+1) c e;have hlen:(xs++[y]).length=n+1:=by rw[zK,←xn];rfl
  obtain⟨G',q1,q2⟩:=aHe hs hc (.own k e 1) (z:=1) (by omega) huxy hmxy (olds.toArray++[q].toArray++Builtin.zeroCells z.cells (grownCap w (n+1) c e-(n+1))) (grownCap w (n+1) c e) (by rw[hlen];exact hcap)
   (grownCap_le_maxLen w (n+1) c e (by omega)) (by
    simp only[Array.size_append,List.size_toArray,size_zeroCells,hzs,ho,List.length_singleton];omega) (λj d u hd hu=>by
    rw[gD,hfy] at hd;by_cases hj:j<(flat xs).length
    ·rw[zL hj] at hd;rw[Array.append_assoc,Array.getElem?_append_left (by simp;omega)] at hu;exact hor j d u hd (by simpa using hu)
    ·rw[zM (by omega)] at hd;have hlt:=(zE.1 hd).1;simp only[List.length_singleton] at hlt;rw[Array.append_assoc,Array.getElem?_append_right (by simp;omega),Array.getElem?_append_left (by simp;omega)] at hu;exact n3 _ d u hd (by rw[hfx];simpa[ho] using hu))
  rw[hlen] at q2;exact⟨_,G',_,hrun,q1,q2.toQue⟩
 have hnm63:((n+1:Nat):Int)≤9223372036854775807:=by omega
 have hbytes:(n+1)*inf.bytes≤140737488355328:=by rw[i3,xn];exact hb
 have nospare:n=c->∃v' G' w',(Builtin.append_ #[t,t] ty #[.slice A n c,.slice (some ⟨b2,o2,none⟩) 1 c2]).run S.P w=.ok v' w'/\Sim B {L with toks:=tok::jH (.own k e 1) L.toks} G' a w'/\Rel G' w' (.sl (.que tok e) (xs++[y])) v':=λhnc=>by
  subst hnc;cases A with
  | none =>
   have hxs:xs=[]:=by
    cases hxe:xs with
    | nil=>rfl
    | cons q r =>
     obtain⟨b,o,h0,_⟩:=xl (by rw[hxe];simp);cases h0
   subst hxs;obtain rfl:n=0:=xn;have hr:=run_append_nil (P:=S.P) w t ty e inf z ht i1 i4 ⟨b2,o2,none⟩ 1 c2 [q] hnl hnews (by omega) (by omega) (by simp only[Nat.zero_add] at hbytes;omega);exact grow [] (by simp) (by simp[flat]) (by simpa using hr)
  | some ad =>
   by_cases hxe:xs=[]
   ·subst hxe;obtain rfl:n=0:=xn;have hr:=run_append_grow (P:=S.P) w t ty e inf z ht i1 i4 ad 0 0 [] (by simp) (by simp) ⟨b2,o2,none⟩ 1 c2 [q] hnl hnews (by omega) (by omega) (growslice_fits (by omega) hbytes);exact grow [] (by simp) (by simp[flat]) hr
   ·obtain⟨b,o,h0,olds,o1,o2',o3,_,_⟩:=xl hxe;obtain rfl:=zA h0;have hr:=run_append_grow (P:=S.P) w t ty e inf z ht i1 i4 ⟨b,o,none⟩ n n olds (by rw[o1,hfx,hsz,Nat.mul_one]) (λj u hu=>by rw[e8];exact o2' j u hu) ⟨b2,o2,none⟩ 1 c2 [q] hnl hnews (by omega) hnm63 (growslice_fits (by omega) hbytes);exact grow olds (by rw[o1,hfx]) o3 hr
 obtain⟨x0,hx0⟩:=hs.W.toks k hkt;have htk:dZ G w (.que k e) xs A n c:=by cases hx;assumption
 simp only[dZ,hx0] at htk;match x0,hx0,htk with
 | none,hx0,htk=>exact nospare (by omega)
 | some (g,e',z'),hx0,htk =>
  obtain⟨⟨rfl,rfl⟩,⟨q1,q2⟩|⟨o,rfl,h3,h4,h5⟩⟩:=htk
  ·exact nospare (by omega)
  ·obtain⟨_,_,⟨cur,hcur,hlc⟩,_⟩:=hs.W.tau k g _ _ hx0;have hcs:cur.size=o+c:=by
    simp only[World.shape?,hcur,Option.some.injEq,Prod.mk.injEq] at h4;exact h4.2
   by_cases hroom:n+1≤c
   ·have hsome:(w.cell? ⟨g,o+n,none⟩).isSome=true:=by
     simp only[World.cell?,hcur];rw[Array.getElem?_eq_getElem (by omega)];rfl
    have hfr:w.frozen? ⟨g,o+n,none⟩=false:=by simp[World.frozen?,hcur]
    have hr:=run_append_room_cells (P:=S.P) w t ty e' inf ht i1 g o n c ⟨b2,o2,none⟩ 1 c2 [q] hnl hnews n4 hroom (λj hj=>by
     obtain rfl:j=0:=by simpa using hj
     rw[hsz,Nat.mul_one,Nat.add_zero];exact hsome) (λj hj=>by
     obtain rfl:j=0:=by simpa using hj
     rw[hsz,Nat.mul_one,Nat.add_zero];exact hfr)
    obtain⟨G',k1,k2⟩:=aSO hs hc hx0 hx h3 h4 h5 hy1 hmy hq hroom hcur;have hw:w.setCells g (o+n*inf.size) [q]=w.setRow g (cur.setIfInBounds (o+n) q):=by
     rw[hsz,Nat.mul_one];show w.setCell ⟨g,o+n,none⟩ q=_;rw[setCell_eq_setRow w g (o+n) cur e' (0,0) q hcur]
    rw[hw] at hr;exact⟨_,G',_,hr,k1,k2⟩
   ·by_cases hxe:xs=[]
    ·subst hxe;obtain rfl:n=0:=xn;have hr:=run_append_grow (P:=S.P) w t ty e' inf z ht i1 i4 ⟨g,o,none⟩ 0 c [] (by simp) (by simp) ⟨b2,o2,none⟩ 1 c2 [q] hnl hnews (by omega) hnm63 (growslice_fits (by omega) hbytes);exact grow [] (by simp) (by simp[flat]) hr
    ·obtain⟨b,o',h0,olds,o1,o2',o3,_,_⟩:=xl hxe;have h0:=zA h0;have hr:=run_append_grow (P:=S.P) w t ty e' inf z ht i1 i4 ⟨g,o,none⟩ n c olds (by rw[o1,hfx,hsz,Nat.mul_one]) (λj u hu=>by rw[h0,e8];exact o2' j u hu) ⟨b2,o2,none⟩ 1 c2 [q] hnl hnews (by omega) hnm63 (growslice_fits (by omega) hbytes);exact grow olds (by rw[o1,hfx]) o3 hr
theorem aK.appQue{S:Setup}{B ops l}{L:LS}{K:LS->Prop}{t:Nat}{xo yo:Operand}{T ty e:TypeId}{pos aft}{i:TyI}{k:Nat}{tk2:Tk}{xs:List D}{y:D}(tok:Nat)
  (hx:aM L xo=some (.sl (.que k e) xs)) (hy:aM L yo=some (.sl tk2 [y])) (hT:S.kd T=some (.slice e)) (he:S.tab e=some i) (h1:i.size=1) (hkt:k∈L.toks) (hc:(L.purge λq=>q==tok).clean (λq=>q==tok)=true)
  (hux:∀x∈xs,x.cells.length=1) (hy1:y.cells=[y]) (hb:(xs.length+1)*i.bytes≤140737488355328) (h63:xs.length+1≤140737488355328) (ht:t<L.n)
  (h:aK S B ops l (({L.purge (λq=>q==tok) with toks:=tok::jH (.own k e 1) L.toks}:LS).put t (.sl (.que tok e) (xs++[y]))) K) :
  aK S B ops (⟨some t,.call ⟨.builtin .append,#[xo,yo],#[T,T]⟩,ty,pos,aft,none⟩::l) L K:=by
 intro G a w hs Q hQ;refine wpList_step λN hN=>?_;rw[if_pos (bS (S:=S) (b:=true) rfl hs rfl)];have hs':=nH hs (λq=>q==tok);have hr:=aO hs hx;have hi:=aO hs hy;obtain⟨v',G',w',hrun,q1,q2⟩:=aNt (S:=S) (ty:=ty) hs' hc hT he h1 hkt hr hi hux hy1 hb h63;unfold Oper.wp;have hex:(execOp a.eval ⟨some t,.call ⟨.builtin .append,#[xo,yo],#[T,T]⟩,ty,pos,aft,none⟩).run S.P w=.ok (.value v') w':=by
  simp[execOp,resolve,invoke,builtin,hrun]
 rw[hex];exact hN _ _ (h G' _ w' (q1.put ht q2) Q hQ)
end Go.Lg
