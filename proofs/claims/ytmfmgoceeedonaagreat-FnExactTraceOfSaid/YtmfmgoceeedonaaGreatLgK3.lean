import Derived.Test.YtmfmgoceeedonaaGreatLgK2
import Derived.Laws.Append
import Derived.Deep.LoopGhost
namespace Go.Lg
open Go Go.RowKit

def D.sca:D->Bool
 | .int ..|.bool _|.str _=>true
 | _=>false
theorem aV4{d:D}(h:d.sca=true){G G':Ghost}{w w':World}{v:Value}(hr:Rel G w d v):Rel G' w' d v:=by
 cases hr<;>first|exact .int|exact .bool|exact .str|(simp[D.sca] at h)
def Ghost.thaw(G G':Ghost)(g id:Nat):Ghost:={lim:=λb=>if b=g then 0 else G'.lim b,lab:=G'.lab,β:=λi=>if i=id then some g else G.β i,τ:=G.τ}

theorem aKl{S:Setup}{B}{L:LS}{G:Ghost}{a}{w:World}(h:Sim B L G a w){f:FuncId}{ro:List (Nat×List D)}{ds cs0:List D}{j0 n0:Nat}{vals:Array Value}(id:Nat)(hfix:id∉L.fix)
  (hv:vals.size=ds.length) (hr:∀(j:Nat) d v,ds[j]?=some d->vals[j]?=some v->Rel G w d v) (hro:∀p∈ro,L.getBox p.1=some p.2)
  (fc:FC S f ro [] [] ds (.ms j0 n0) [(j0,cs0)] []) (hmo:∀d∈cs0,d.memOk=true) :
  Calls S.P f vals w λe w'=>∃v G',e=.returned v/\Sim B {L.forget id with boxes:=eU (L.forget id).boxes id cs0} G' a w'/\Rel G' w' (.ms id n0) v:=by
 have hW:=h.W;let G1:Ghost:={G with τ:=λ_=>none};have hm1:Mono G G1 w w:=⟨λ_ _ _ h1 h2=>⟨h1,h2⟩,λ_ _=>rfl⟩;have r1:∀ {d v},Rel G w d v->Rel G1 w d v:=λhr=>hr.mono hm1 (λ_ _ _ h=>h) (λk _=>.inl rfl);have hb1:∀ {g cs},dD G w g cs->dD G1 w g cs:=λ⟨vs,e,e1,e2,e3⟩=>⟨vs,e,e1,e2,λj d v hd hv=>r1 (e3 j d v hd hv)⟩;have hab:∀b,¬(dE G1 w [] []).ab b:=by
  rintro b (⟨p,hp,_⟩|⟨k,hk,_⟩)
  ·cases hp
  ·cases hk
 have hget:∀id cs,L.getBox id=some cs->∃g,G.β id=some g/\dD G w g cs:=λid cs hgb=>by
  unfold LS.getBox at hgb;split at hgb
  ·rename_i c hc;obtain rfl:c=cs:=by simpa using hgb
   obtain⟨g,h1,h2,_⟩:=hW.boxes id c hc;exact⟨g,h1,h2⟩
  ·obtain⟨g,h1,h2,_⟩:=hW.robs id cs hgb;exact⟨g,h1,h2⟩
 have hstart:Sim (dE G1 w [] []) ⟨ds.length,eY 0 ds,[],ro,[],[]⟩ G1 ⟨vals,[]⟩ w:=by
  refine⟨rfl,hv,λt d hd=>?_,?_,λp hp=>by cases hp⟩
  ·rw[iB] at hd;simp only[Nat.zero_le,if_true,Nat.sub_zero] at hd;have hlt:t<vals.size:=by rw[hv];exact(zE.1 hd).1
   exact⟨vals[t],by simp[hlt],r1 (hr t d _ hd (by simp[hlt]))⟩
  ·exact {
    boxes:=λid cs hl=>by cases hl
    robs:=λid cs hl=>by
     obtain⟨g,h1,h2⟩:=hget id cs (hro _ (bB hl));exact⟨g,h1,hb1 h2,hW.blt _ _ h1,hab g⟩
    toks:=λk hk=>by cases hk
    tau:=λk g e z hk=>by cases hk
    tinj:=λk k' g e z e' z' hk=>by cases hk
    binj:=hW.binj
    blt:=hW.blt
    lablt:=hW.lablt
    old:=λ_ _ _=>⟨rfl,rfl⟩
    olda:=λ_ _=>⟨zQ _,λ_ _ _ h=>h⟩
    oldl:=λ_ _ _=>rfl
    tlab:=λk g e z hk=>by cases hk
    blab:=hW.blab
    oldu:=λ_ _ _ h=>h
    labw:=λb hb hor=>by
     rcases hor with hor|hor
     ·exact absurd (hW.lablt b hb) (Nat.not_lt.2 hor)
     ·exact absurd hor (hab b)
    ids:=λp hp=>by cases hp
    sz:=zQ _
    os:=rfl
    tape:=rfl
    out:=rfl
    dr:=by first|exact zQ _|exact Nat.le_succ _}
 refine(fc.2 w G1 vals hstart).mono ?_;rintro e' w' ⟨v,G',he,hend⟩;have hE:=hend.W;obtain⟨v',hv',hrel⟩:=hend.env 0 _ rfl;obtain rfl:v=v':=by simpa using hv'
 cases hrel with
 | @ms _ _ c b hb0 hc hm =>
 obtain⟨b',hβb,⟨cur,e2,t3,t4,t6⟩,t5,t1⟩:=hE.boxes j0 cs0 (by simp[look]);obtain rfl:b'=b:=zA (hβb.symm.trans hb0);have hg:w.heap.size≤b':=t1.resolve_right (hab b');have hold:∀q,q<w.heap.size->w'.heap[q]?=w.heap[q]?/\G'.lim q=G.lim q:=λq hq=>hE.old q hq (hab q);have hlim:∀q,q<w.heap.size->(Ghost.thaw G G' b' id).lim q=G.lim q:=λq hq=>by
  simp only[Ghost.thaw];rw[if_neg (by omega)];exact(hold q hq).2
 have hmn:Mono G (Ghost.thaw G G' b' id) w w':=by
  refine⟨λq j u h1 h2=>?_,λq hq=>hE.oldl q (hW.lablt q hq) hq⟩;have hlt:=kK h2;exact⟨by rw[hlim q hlt];exact h1,by rw[bY (hold q hlt).1];exact h2⟩
 have hβ:∀i g,i≠id->G.β i=some g->(Ghost.thaw G G' b' id).β i=some g:=λi g hne hg=>by simp only[Ghost.thaw];rw[if_neg hne];exact hg
 have rG:∀ {d v},id∉d.ids->Rel G w d v->Rel (Ghost.thaw G G' b' id) w' d v:=λ{d v} hid hr =>
  hr.mono hmn (λi hi g hg=>hβ i g (λe=>hid (e ▸ hi)) hg) (λk _=>.inr ⟨rfl,λg e' z hk=>by
   obtain⟨_,_,⟨cur,hc,_⟩,_⟩:=hW.tau k g e' z hk;have hlt:=bX hc;exact⟨hlim g hlt,dP (hold g hlt).1⟩⟩)
 have hbox:∀ {g cs},id∉D.idsL cs->dD G w g cs->dD (Ghost.thaw G G' b' id) w' g cs:=λ{g cs} hid ⟨vs,e',e1,e2,e3⟩ =>
  ⟨vs,e',by rw[(hold _ (bX e1)).1];exact e1,e2,λj d v hd hv=>rG (λhi=>hid (iF (zF hd) hi)) (e3 j d v hd hv)⟩
 have rE:∀ {d v},d.memOk=true->Rel G' w' d v->Rel (Ghost.thaw G G' b' id) w' d v:=λ{d v} hm hr =>
  hr.mono (show Mono G' (Ghost.thaw G G' b' id) w' w' from⟨λq j u h1 h2=>⟨by
   simp only[Ghost.thaw];split
   ·rename_i e;subst e;omega
   ·exact h1,h2⟩,λ_ _=>rfl⟩) (by rw[iM hm];simp) (by rw[jE hm];simp)
 refine⟨_,Ghost.thaw G G' b' id,he,⟨h.defers,h.size,λt' d hd=>?_,?_,h.fixed⟩,?_⟩
 ·simp only[LS.forget] at hd;obtain⟨h1,h2⟩:=fX _ _ _ _ hd;obtain⟨v,h3,h4⟩:=h.env t' d h1;exact⟨v,h3,rG (v8 h2) h4⟩
 ·exact {
   boxes:=λi cs' hl=>by
    simp only[b7] at hl;by_cases e0:id=i
    ·subst e0;simp only[if_true,Option.some.injEq] at hl;subst hl;exact⟨b',by simp[Ghost.thaw],⟨cur,e2,t3,t4,λj d v hd hv=>rE (hmo d (List.mem_of_getElem? hd)) (t6 j d v hd hv)⟩,by simp[Ghost.thaw],.inl (Nat.le_trans hW.sz hg)⟩
    ·rw[if_neg e0] at hl;simp only[LS.forget,fD,if_neg e0] at hl;obtain⟨h1,h2⟩:=fX _ _ _ _ hl;obtain⟨g,k1,k2,k3,k4⟩:=hW.boxes i cs' h1;exact⟨g,hβ i g (λe=>e0 e.symm) k1,hbox (jQ h2) k2,by rw[hlim g (hW.blt _ _ k1)];exact k3,k4⟩
   robs:=λi cs' hl=>by
    simp only[LS.forget,fD] at hl;by_cases e0:id=i
    ·rw[if_pos e0] at hl;cases hl
    ·rw[if_neg e0] at hl;obtain⟨h1,h2⟩:=fX _ _ _ _ hl;obtain⟨g,k1,k2,k3⟩:=hW.robs i cs' h1;exact⟨g,hβ i g (λe=>e0 e.symm) k1,hbox (jQ h2) k2,k3⟩
   toks:=hW.toks
   tau:=λk g e' z hk=>by
    obtain⟨h1,h2,⟨cur,h3,h4⟩,h5⟩:=hW.tau k g e' z hk;have hlt:=bX h3;refine⟨h1,h2,⟨cur,by rw[(hold _ hlt).1];exact h3,by rw[hlim _ hlt];exact h4⟩,λi hi=>?_⟩;simp only[Ghost.thaw] at hi;split at hi
    ·have:=zA hi;omega
    ·exact h5 i hi
   tinj:=hW.tinj
   binj:=λi j g hi hj=>by
    simp only[Ghost.thaw] at hi hj;split at hi<;>split at hj
    ·omega
    ·have:=hW.blt _ _ hj;have:=zA hi;omega
    ·have:=hW.blt _ _ hi;have:=zA hj;omega
    ·exact hW.binj i j g hi hj
   blt:=λi g hi=>by
    simp only[Ghost.thaw] at hi;split at hi
    ·have:=zA hi;have:=bX t3;omega
    ·exact Nat.lt_of_lt_of_le (hW.blt _ _ hi) hE.sz
   lablt:=hE.lablt
   old:=λq hlt hqa=>by
    have hs:=hW.sz;have hq:q<w.heap.size:=by omega
    rw[(hold q hq).1,hlim q hq];exact hW.old q hlt hqa
   olda:=λq hlt=>by
    have hs:=hW.sz;have hq:q<w.heap.size:=by omega
    rw[hlim q hq];refine⟨(hW.olda q hlt).1,λj v hj hc=>?_⟩;rw[bY (hold q hq).1];exact(hW.olda q hlt).2 j v hj hc
   oldl:=λq hlt hq=>by
    have hs:=hW.sz;have h0:=hW.oldl q hlt hq;have h1:G'.lab q=G.lab q:=hE.oldl q (show q<w.heap.size by omega) (show G.lab q≠[] by rw[h0];exact hq);exact h1.trans h0
   tlab:=λk g e' z hk=>by
    obtain⟨_,_,⟨cur,h3,_⟩,_⟩:=hW.tau k g e' z hk;exact hE.oldu g (bX h3) (hab g) (hW.tlab k g e' z hk)
   blab:=λi g hi=>by
    simp only[Ghost.thaw] at hi;split at hi
    ·obtain rfl:=zA hi;exact hE.blab j0 _ hβb
    ·exact hE.oldu g (hW.blt _ _ hi) (hab g) (hW.blab i g hi)
   oldu:=λq hlt hqa hq=>by
    have hs:=hW.sz;exact hE.oldu q (show q<w.heap.size by omega) (hab q) (hW.oldu q hlt hqa hq)
   labw:=λq hq hor=>by
    rcases Nat.lt_or_ge q w.heap.size with hlt|hge
    ·have hq0:G.lab q≠[]:=λe=>hq (hE.oldu q hlt (hab q) e);obtain⟨vs,e',h1⟩:=hW.labw q hq0 hor;exact⟨vs,e',by rw[(hold q hlt).1];exact h1⟩
    ·exact hE.labw q hq (.inl hge)
   ids:=λp hp=>hβ p.1 p.2 (λe=>hfix (e ▸ h.fixed p hp)) (hW.ids p hp)
   sz:=Nat.le_trans hW.sz hE.sz
   os:=hE.os.trans hW.os
   tape:=hE.tape.trans hW.tape
   out:=hE.out.trans hW.out
   dr:=Nat.le_trans hW.dr hE.dr}
 ·exact .ms (by simp[Ghost.thaw]) hc hm

theorem FC.thaw{S}{f:FuncId}{ro:List (Nat×List D)}{args xs:List D}{e0:TypeId}{z0:Nat}(fc:FC S f ro [] [] args (.sl (.own 0 e0 z0) xs) [] [0])(hne:xs≠[])(hsc:∀d∈flat xs,d.sca=true) :
  FC S f ro [] [] args (.ms 0 xs.length) [(0,flat xs)] []:=⟨fc.1,λw G vals hs=>(fc.2 w G vals hs).mono λe' w' ⟨v,G',he,hend⟩=>by
 have hE:=hend.W;obtain⟨v',hv',hrel⟩:=hend.env 0 _ rfl;obtain rfl:v=v':=by simpa using hv'
 obtain⟨x,hx⟩:=hE.toks 0 (by simp);cases hrel with
 | @sl _ _ A n c b o s hn hc hm ht hA hu hk hst hrr =>
 have hA':=hA.resolve_left hne;subst hA';simp only[dZ,hx] at ht;match x,hx,ht with
 | none,_,ht=>exact absurd (List.length_eq_zero_iff.1 (hn.symm.trans ht.1)) hne
 | some (g,e2,z2),hx,ht =>
 obtain⟨⟨rfl,rfl⟩,h2,h3,h4,h5⟩:=ht;simp only[Option.some.injEq,Addr.mk.injEq,and_true] at h2;obtain⟨rfl,rfl⟩:=h2;have hab:∀b,¬(dE G w [] []).ab b:=by
  rintro b (⟨p,hp,_⟩|⟨k,hk,_⟩)
  ·cases hp
  ·cases hk
 obtain⟨t1,t2,⟨cur,t3,t4⟩,t5⟩:=hE.tau 0 b e2 z2 hx;have hg:w.heap.size≤b:=t1.resolve_right (hab b);have hfl:(flat xs).length=xs.length*z2:=dC h5;refine⟨_,{lim:=λq=>if q=b then 0 else G'.lim q,lab:=G'.lab,β:=λi=>if i=0 then some b else none,τ:=λ_=>none},he,⟨rfl,rfl,λt d hd=>?_,?_,λp hp=>by cases hp⟩⟩
 ·simp only[look] at hd;split at hd
  ·rename_i e;subst e;obtain rfl:=zA hd;exact⟨_,rfl,by rw[hn];exact .ms (by simp) (hn ▸ hc) hm⟩
  ·cases hd
 ·exact {
   boxes:=λi cs' hl=>by
    simp only[look] at hl;split at hl
    ·rename_i e;subst e;obtain rfl:=zA hl;refine⟨b,by simp,⟨cur,e2,t3,by rw[hfl,←hn,h3];exact t4,λj d v hd hv=>?_⟩,by simp,.inl hg⟩;have hc:w'.cell? ⟨b,0+j,none⟩=some v:=by
      rw[Nat.zero_add];unfold World.cell?;simp only[t3];exact hv
     exact aV4 (hsc d (zF hd)) (hrr j d v hd hc)
    ·cases hl
   robs:=λi cs' hl=>by cases hl
   toks:=λk hk=>by cases hk
   tau:=λk g e' z hk=>by cases hk
   tinj:=λk k' g e z e' z' hk=>by cases hk
   binj:=λi j g hi hj=>by
    simp only at hi hj;split at hi<;>split at hj
    ·omega
    ·cases hj
    ·cases hi
    ·cases hi
   blt:=λi g hi=>by
    simp only at hi;split at hi
    ·obtain rfl:=zA hi;exact bX t3
    ·cases hi
   lablt:=hE.lablt
   old:=λq hlt hqa=>by
    have hlt':q<w.heap.size:=hlt;obtain⟨k1,k2⟩:=hE.old q hlt hqa;exact⟨k1,by simp only;rw[if_neg (by omega)];exact k2⟩
   olda:=λq hlt=>by
    have hlt':q<w.heap.size:=hlt;simp only;rw[if_neg (by omega)];exact hE.olda q hlt
   oldl:=hE.oldl
   tlab:=λk g e z hk=>by cases hk
   blab:=λi g hi=>by
    simp only at hi;split at hi
    ·obtain rfl:=zA hi;exact hE.tlab 0 _ e2 z2 hx
    ·cases hi
   oldu:=hE.oldu
   labw:=hE.labw
   ids:=λp hp=>by cases hp
   sz:=hE.sz
   os:=hE.os
   tape:=hE.tape
   out:=hE.out
   dr:=hE.dr}⟩

def LS.thawed(L:LS)(id:Nat)(cs:List D):LS:={L.forget id with boxes:=eU (L.forget id).boxes id cs}
theorem aK.callM{S:Setup}{B ops l}{L:LS}{K:LS->Prop}{t:Nat}{f:Operand}{args:Array Operand}{tys:Array TypeId}{ty:TypeId}{pos aft}{g:Option (Nat×Bool)}
  (hg:bQ ops L g=some true) {fid:Nat} {cap ds:List D} {ro:List (Nat×List D)} {cs0:List D} {j0 n0:Nat} (id:Nat) (hf:aM L f=some (.fn fid cap)) (hds:fQ (aM L) args.toList=some ds) (fc:FC S fid ro [] [] (ds++cap) (.ms j0 n0) [(j0,cs0)] [])
  (hside:(t<L.n/\id∉L.fix/\(∀p∈ro,L.getBox p.1=some p.2))/\∀d∈cs0,d.memOk=true)
  (h:aK S B ops l ((L.thawed id cs0).put t (.ms id n0)) K):aK S B ops (⟨some t,.call ⟨.value f,args,tys⟩,ty,pos,aft,g⟩::l) L K:=by
 intro G a w hs Q hQ;obtain⟨⟨s1,s2,s3⟩,s4⟩:=hside;refine wpList_step λN hN=>?_;rw[if_pos (bS (S:=S) rfl hs (o:=⟨some t,.call ⟨.value f,args,tys⟩,ty,pos,aft,g⟩) hg)];obtain⟨e1,e2⟩:=eE hs hds;have hv:=aO hs hf;generalize hu:a.eval f=u at hv;cases hv with
 | @fn _ _ vl hl hr =>
 have hrun:(execOp a.eval ⟨some t,.call ⟨.value f,args,tys⟩,ty,pos,aft,g⟩).run S.P w=.ok (.enter fid (args.map a.eval++vl.toArray)) w:=by
  simp[execOp,resolve,hu,Deferred.ofValue,invoke,gW fc.1]
 unfold Oper.wp;rw[hrun,Oper.upon_enter];refine(aKl hs (vals:=args.map a.eval++vl.toArray) id s2 ?_ ?_ s3 fc s4).mono ?_
 ·simp at e1;simp[e1,hl]
 ·intro j d v hd hv;have hsz:(args.map a.eval).size=ds.length:=by simp at e1;simp[e1]
  by_cases hj:j<ds.length
  ·rw[zL hj] at hd;rw[Array.getElem?_append_left (by omega)] at hv;exact e2 j d v hd (by simpa using hv)
  ·rw[zM (by omega)] at hd;rw[Array.getElem?_append_right (by omega),hsz] at hv;exact hr _ d v hd (by simpa using hv)
 ·rintro e w' ⟨v,G',rfl,h1,h2⟩;exact hN _ _ (h G' _ w' (Sim.put (L:=L.thawed id cs0) h1 (show t<L.n from s1) h2) Q hQ)

theorem dA(ys:List Int):flat (ys.map (D.int .i64))=ys.map (.int .i64):=by
 induction ys with
 | nil=>rfl
 | cons y r ih=>simp[flat] at ih ⊢;simp[D.cells,ih]
theorem aK.callTi{S B ops l}{L:LS}{K:LS->Prop}{t:Nat}{f:Operand}{args:Array Operand}{tys:Array TypeId}{ty:TypeId}{pos aft}{g:Option (Nat×Bool)}
  (hg:bQ ops L g=some true) {fid:Nat} {cap ds:List D} {ro:List (Nat×List D)} {ys:List Int} {e0:TypeId} {z0:Nat} (id:Nat) (hf:aM L f=some (.fn fid cap)) (hds:fQ (aM L) args.toList=some ds) (fc:FC S fid ro [] [] (ds++cap) (.sl (.own 0 e0 z0) (ys.map (.int .i64))) [] [0])
  (hside:(t<L.n/\id∉L.fix/\(∀p∈ro,L.getBox p.1=some p.2))/\ys≠[])
  (h:aK S B ops l ((L.thawed id (ys.map (.int .i64))).put t (.ms id ys.length)) K):aK S B ops (⟨some t,.call ⟨.value f,args,tys⟩,ty,pos,aft,g⟩::l) L K:=by
 have hsc:∀d∈flat (ys.map (D.int .i64)),d.sca=true:=λd hd=>by
  rw[dA] at hd;obtain⟨x,_,rfl⟩:=zJ.1 hd;rfl
 refine aK.callM hg id hf hds (fc.thaw (by simpa using hside.2) hsc) ⟨hside.1,λd hd=>?_⟩ (by rw[dA,List.length_map];exact h);have:=hsc d hd;cases d<;>first|rfl|(simp[D.sca] at this)
theorem fJ(ys:List Int):∀d∈ys.map (D.int .i64),d.memOk=true:=λd hd=>by
 obtain⟨x,_,rfl⟩:=zJ.1 hd;rfl


inductive VItem where
 | code (c:Code)
 | inBlock (id:Nat)
 | loopEnd (J:LS->Prop)

def rN(P:Program)(B:Base)(R:LS->Prop):List VItem->Exit->Act->World->Prop
 | []=>λe a w=>((e=.normal∨e=.ret)/\∃G L,Sim B L G a w/\R L)∨∃c,e=.panic c/\B.pan c/\a.defers=[]/\∃G,SimW B [] [] [] G w
 | .inBlock id::k=>Exit.inBlock id (rN P B R k)
 | .loopEnd J::k=>Exit.then (λa w=>∃G L,Sim B L G a w/\J L) (rN P B R k)
 | .code c::k=>Exit.then (λa w=>c.wp P (rN P B R k) a w) (rN P B R k)

def SW(S:Setup)(B:Base)(R:LS->Prop)(k:List VItem)(L:LS):Prop:=∀G a w,Sim B L G a w->rN S.P B R k .normal a w

section
variable {S:Setup} {B:Base} {R:LS->Prop} {k:List VItem} {L:LS}

theorem aYW(h:R L):SW S B R [] L:=λG _ _ hs=>.inl ⟨.inl rfl,G,L,hs,h⟩
theorem aZc{x y:Code}(h:SW S B R (.code x::.code y::k) L):SW S B R (.code (.seq x y)::k) L:=λG a w hs=>wp_seq (h G a w hs)
theorem aS2{id:Nat}{c:Code}(h:SW S B R (.code c::.inBlock id::k) L):SW S B R (.code (.block id c)::k) L:=λG a w hs=>wp_block (h G a w hs)
theorem aXE(h:SW S B R k L):SW S B R (.code .skip::k) L:=λG a w hs=>wp_skip (h G a w hs)
theorem aNM{id:Nat}(h:SW S B R k L):SW S B R (.inBlock id::k) L:=λG a w hs=>h G a w hs
theorem aF{J:LS->Prop}(h:J L):SW S B R (.loopEnd J::k) L:=λG _ _ hs=>⟨G,L,hs,h⟩
theorem aPa{c:Operand}{x y:Code}{b:Bool}(hc:aM L c=some (.bool b))(h1:b=true->SW S B R (.code x::k) L)(h0:b=false->SW S B R (.code y::k) L):SW S B R (.code (.cond c x y)::k) L:=λG a w hs=>by
 have hv:=aO hs hc;generalize hu:a.eval c=u at hv;cases hv;exact wp_cond_split hu (λhb=>h1 hb G a w hs) (λhb=>h0 hb G a w hs)

theorem aAH{P:Program}{B}{R:LS->Prop}{G L a w}(hs:Sim B L G a w)(h:R L):∀k:List VItem,rN P B R k .ret a w
 | []=>.inl ⟨.inr rfl,G,L,hs,h⟩
 | .inBlock _::k=>aAH hs h k
 | .loopEnd _::k=>aAH hs h k
 | .code _::k=>aAH hs h k
theorem aT2(h:R L):SW S B R (.code .ret::k) L:=λ_ _ _ hs=>wp_ret (aAH hs h k)

theorem nW{P:Program}{B:Base}{R:LS->Prop}{G}{a:Act}{w}{c:List PanicEntry}(hc:B.pan c)(hd:a.defers=[])(hs:SimW B [] [] [] G w):∀k:List VItem,rN P B R k (.panic c) a w
 | []=>.inr ⟨c,rfl,hc,hd,G,hs⟩
 | .inBlock _::k=>nW hc hd hs k
 | .loopEnd _::k=>nW hc hd hs k
 | .code _::k=>nW hc hd hs k

def aGx(id:Nat):List VItem->Option (List VItem)
 | []=>none
 | .inBlock id'::k=>if id=id' then some k else aGx id k
 | .loopEnd _::k=>aGx id k
 | .code _::k=>aGx id k
theorem wF{P:Program}{B}{R:LS->Prop}{id:Nat}{a w}:∀ {k k':List VItem},aGx id k=some k'->rN P B R k' .normal a w->rN P B R k (.exit id) a w
 | [],_,h,_=>by cases h
 | .inBlock id'::k,k',h,hk=>by
  simp only[aGx] at h;show Exit.inBlock id' (rN P B R k) (.exit id) a w;simp only[Exit.inBlock];split at h
  ·rename_i he;rw[if_pos he];obtain rfl:=zA h;exact hk
  ·rename_i he;rw[if_neg he];exact wF h hk
 | .loopEnd _::k,_,h,hk=>wF (k:=k) h hk
 | .code _::k,_,h,hk=>wF (k:=k) h hk
theorem aJ{id:Nat}{k':List VItem}(he:aGx id k=some k')(h:SW S B R k' L):SW S B R (.code (.exit id)::k) L:=λG a w hs=>wp_exit (wF he (h G a w hs))

theorem aB8{id:Nat}{ops:Array Oper}(h:aK S B ops ops.toList L λL'=>SW S B R k L'):SW S B R (.code (.region id ops false)::k) L:=λG a w hs =>
 wp_region_list (h G a w hs _ λ_ G' a' w' hK hs'=>hK G' a' w' hs')
theorem aXK{id:Nat}{ops:Array Oper}(hB:Region.lexB .any ops=true)(h:fP S ops L (λL'=>SW S B R k L') ops.toList L):SW S B R (.code (.region id ops true)::k) L:=λ_ _ _ hs =>
 aMD hB h hs λ_ G' a' w' hK hs'=>hK G' a' w' hs'

theorem aXy{L'}(hc:L.covers L')(h:SW S B R k L'):SW S B R k L:=λG a w hs=>h G a w (hs.less hc)

theorem mI{ι:Type}(F:ι->LS)(p:ι->Prop)(μ:ι->Nat)(i0:ι){c:Code}(hc:L.covers (F i0))(hp:p i0)
  (round:∀i,p i->SW S B R (.code c::.loopEnd (λL'=>∃i',L'.covers (F i')/\p i'/\μ i'<μ i)::k) (F i)):SW S B R (.code (.loop c)::k) L:=λG a w hs=>by
 refine wp_loop_ghost (λn a w=>∃i,μ i=n/\p i/\∃G,Sim B (F i) G a w) (μ i0) ⟨i0,rfl,hp,G,hs.less hc⟩ ?_;rintro n a w ⟨i,rfl,hpi,G,hs⟩;refine wp_mono (round i hpi G a w hs) λe a' w' h=>?_;cases e with
 | normal =>
  obtain⟨G',L',hs',i',h1,h2,h3⟩:=h;exact⟨μ i',h3,i',rfl,h2,G',hs'.less h1⟩
 | _=>exact h
end


mutual
def D.sT(n:Nat):D->D
 | .sl (.own _ e z) xs=>.sl (.own n e z) xs
 | .sl (.que _ e) xs=>.sl (.que n e) xs
 | .agg cs=>.agg (D.sTL n cs)
 | .fn f cap=>.fn f (D.sTL n cap)
 | .tup ds=>.tup (D.sTL n ds)
 | d=>d
def D.sTL(n:Nat):List D->List D
 | []=>[]
 | d::ds=>d.sT n::D.sTL n ds
end
theorem aIk(n:Nat)(ds:List D):D.sTL n ds=ds.map (D.sT n):=by
 induction ds with
 | nil=>rfl
 | cons d ds ih=>simp[D.sTL,ih]

theorem Rel.setT{G G':Ghost}{w}(hl:G'.lim=G.lim)(hb:G'.lab=G.lab)(hβ:G'.β=G.β)(n:Nat){d:D}{v:Value}(h:Rel G w d v):(∀k∈d.tks,G'.τ n=G.τ k)->Rel G' w (d.sT n) v:=by
 have hm:Mono G G' w w:=⟨λb o v h1 h2=>⟨by rw[hl];exact h1,h2⟩,λb _=>by rw[hb]⟩;induction h with
 | int=>exact λ_=>.int
 | bool=>exact λ_=>.bool
 | str=>exact λ_=>.str
 | @sl tk xs A m c b o s hn hc hmx ht hA hu hk hst hr ih =>
  intro hkk;have key:∀tk',(dZ G' w tk' xs A m c)->Rel G' w (.sl tk' xs) (.slice A m c):=λtk' ht'=>by
   refine .sl (b:=b) (o:=o) hn hc hmx ht' hA hu hk (λj d hj=>?_) (λj d v hj hv=>?_)
   ·rw[hl];exact hst j d hj
   ·have hmem:=hk d (zF hj);exact(hr j d v hj hv).mono hm (by rw[iM hmem];simp) (by rw[jE hmem];simp)
  cases tk with
  | que k e =>
   refine key (.que n e) ?_;simp only[dZ] at ht ⊢;rw[hkk k (by simp[D.tks]),hl];exact ht
  | own k e z =>
   refine key (.own n e z) ?_;simp only[dZ] at ht ⊢;rw[hkk k (by simp[D.tks]),hl];exact ht
  | lab l =>
   refine key (.lab l) ?_;rcases ht with ht|⟨g,o',e1,e2,e3⟩
   ·exact .inl ht
   ·exact .inr ⟨g,o',e1,by rw[hb];exact e2,e3⟩
  | _=>exact key _ ht
 | @agg cs vl hlen hr ih =>
  intro hk;simp only[D.sT,aIk];refine .agg (by simpa using hlen) λj d v hj hv=>?_;simp only[zI,Option.map_eq_some_iff] at hj;obtain⟨d0,hj,rfl⟩:=hj;exact ih j d0 v hj hv (λi hi'=>hk i (fN (zF hj) hi'))
 | @fn f cap vl hlen hr ih =>
  intro hk;simp only[D.sT,aIk];refine .fn (by simpa using hlen) λj d v hj hv=>?_;simp only[zI,Option.map_eq_some_iff] at hj;obtain⟨d0,hj,rfl⟩:=hj;exact ih j d0 v hj hv (λi hi'=>hk i (fN (zF hj) hi'))
 | box hb'=>exact λ_=>.box (by rw[hβ];exact hb')
 | ms hb' hc hn=>exact λ_=>.ms (by rw[hβ];exact hb') hc hn
 | vw hb' hc hn=>exact λ_=>.vw (by rw[hβ];exact hb') hc hn
 | @imm cs b o hk hst hr ih =>
  intro _;refine .imm hk (λj d hj=>?_) (λj d v hj hv=>?_)
  ·rw[hl];exact hst j d hj
  ·have hmem:=hk d (zF hj);exact(hr j d v hj hv).mono hm (by rw[iM hmem];simp) (by rw[jE hmem];simp)
 | @tup ds vl hlen hr ih =>
  intro hk;simp only[D.sT,aIk];refine .tup (by simpa using hlen) λj d v hj hv=>?_;simp only[zI,Option.map_eq_some_iff] at hj;obtain⟨d0,hj,rfl⟩:=hj;exact ih j d0 v hj hv (λi hi'=>hk i (fN (zF hj) hi'))
 | raw h=>exact λ_=>.raw h
 | pred hv h=>exact λ_=>.pred hv λG2 w2 hm2=>h G2 w2 (hm.trans hm2)

def aP0(S:Setup)(L:LS)(r:ResultVar)(K:D->Prop):Prop:=match r with
 | .tmp t=>aL (L.get t) K
 | .cell c ty=>aL (L.get c) λd=>(match d with
  | .box id off=>yX S ty L.getBox (.box id off) K
  | _=>False)
def aCD(S:Setup)(L:LS):List ResultVar->(List D->Prop)->Prop
 | [],K=>K []
 | r::rs,K=>aP0 S L r λd=>aCD S L rs λds=>K (d::ds)
def aXD:List D->D
 | [d]=>d
 | ds=>.tup ds
def aM1(S:Setup)(L:LS)(rs:List ResultVar)(K:D->Prop):Prop:=aCD S L rs λds=>K (aXD ds)

def aSy(a:Array Value)(r:ResultVar):Sem Value:=match r with
 | .tmp t=>pure (a.getD t undef)
 | .cell c ty=>do loadVar ty (←asAddr (a.getD c undef))

theorem aLs{S:Setup}{B L G}{a:Act}{w}(hs:Sim B L G a w){r:ResultVar}{K:D->Prop}(h:aP0 S L r K):∃d v,K d/\(aSy a.tmps r).run S.P w=.ok v w/\Rel G w d v:=by
 cases r with
 | tmp t =>
  obtain⟨d,hd,hK⟩:=aI h;obtain⟨v,h1,h2⟩:=hs.env t d hd;exact⟨d,v,hK,by simp[aSy,h1],h2⟩
 | cell c ty =>
  obtain⟨d,hd,h⟩:=aI h;obtain⟨v,h1,h2⟩:=hs.env c d hd;split at h
  ·obtain⟨d,u,k1,k2,k3⟩:=aCL hs h2 h;cases h2;refine⟨d,u,k1,?_,k3⟩;simpa[aSy,h1,asAddr,Instr.loadAt,Instr.sureAddr] using k2
  ·exact h.elim

theorem aCO{S:Setup}{B L G}{a:Act}{w}(hs:Sim B L G a w):∀(rs:List ResultVar) {K:List D->Prop},aCD S L rs K →
  ∃ds vs,K ds/\(rs.mapM (aSy a.tmps)).run S.P w=.ok vs w/\vs.length=ds.length/\∀(j:Nat) d v,ds[j]?=some d->vs[j]?=some v->Rel G w d v
 | [],K,h=>⟨[],[],h,by simp,rfl,by simp⟩
 | r::rs,K,h=>by
  obtain⟨d,v,h1,h2,h3⟩:=aLs hs h;obtain⟨ds,vs,k1,k2,k3,k4⟩:=aCO hs rs h1;refine⟨d::ds,v::vs,k1,by simp[List.mapM_cons,h2,k2],by simp[k3],λj d' v' hd hv=>?_⟩;cases j with
  | zero=>simp at hd hv;subst hd;subst hv;exact h3
  | succ j=>exact k4 j d' v' (by simpa using hd) (by simpa using hv)

theorem kU{S:Setup}{B L G}{a:Act}{w}(hs:Sim B L G a w){fn:Func}{K:D->Prop}(h:aM1 S L fn.results.toList K):∃d v,K d/\(results fn a.tmps).run S.P w=.ok v w/\Rel G w d v:=by
 obtain⟨ds,vs,h1,h2,h3,h4⟩:=aCO hs _ h;have hrun:(fn.results.mapM (aSy a.tmps)).run S.P w=.ok vs.toArray w:=by
  rw[Array.mapM_eq_mapM_toList];simp[h2]
 refine⟨_,(if h:vs.toArray.size=1 then vs.toArray[0] else .tuple vs.toArray),h1,?_,?_⟩
 ·show (do let vs ←fn.results.mapM (aSy a.tmps);pure (if h:vs.size=1 then vs[0] else .tuple vs):Sem Value).run S.P w=_;simp[hrun]
 ·match ds,vs,h3 with
  | [d],[v],_=>exact h4 0 d v rfl rfl
  | [],[],_=>exact .tup (vl:=[]) rfl (by simp)
  | d::d'::ds,v::v'::vs,h3 =>
   have:¬(v::v'::vs).toArray.size=1:=by simp
   rw[dif_neg this];exact .tup h3 h4

theorem kX{S:Setup}{f:FuncId}{fn:Func}{c:Code}{ro bx:List (Nat×List D)}{tk:List Nat}{args:List D}{R:LS->Prop}{Rx:Ending->World->Prop}{w G}{vals:Array Value}
  (hf:S.P.funcs[f]?=some fn) (hb:fn.body=some c) (hn:args.length≤fn.ntmps) (hs:Sim (dE G w bx tk) ⟨args.length,eY 0 args,bx,ro,tk,bx.map (·.1)⟩ G ⟨vals,[]⟩ w)
  (h:SW S (dE G w bx tk) R [.code c] ⟨fn.ntmps,eY 0 args,bx,ro,tk,bx.map (·.1)⟩)
  (hR:∀G' L' a' w',Sim (dE G w bx tk) L' G' a' w'->R L'->∃v,(results fn a'.tmps).run S.P w'=.ok v w'/\Rx (.returned v) w'):Calls S.P f vals w Rx:=by
 have hsz:vals.size=args.length:=hs.size;refine calls_of_wp hf hb (wp_mono (h G _ w ⟨rfl,?_,λt d hd=>?_,hs.W,hs.fixed⟩) ?_)
 ·simp[hsz];omega
 ·obtain⟨v,h1,h2⟩:=hs.env t d hd;refine⟨v,?_,h2⟩;have hlt:t<vals.size:=(Array.getElem?_eq_some_iff.1 h1).1;simp only;rw[Array.getElem?_append_left hlt];exact h1
 ·intro e a' w' he;rcases he with⟨h0,G',L',hs',hr⟩|⟨c,_,hp,_⟩
  ·obtain⟨v,h1,h2⟩:=hR G' L' a' w' hs' hr;rcases h0 with rfl|rfl<;>exact⟨hs'.defers,v,h1,h2⟩
  ·exact hp.elim

theorem aT5{B}{p:List PanicEntry->Prop}{bx ro:List (Nat×List D)}{tk:List Nat}{G w}(h:SimW {B with pan:=p} bx ro tk G w):SimW B bx ro tk G w :=
 ⟨h.boxes,h.robs,h.toks,h.tau,h.tinj,h.binj,h.blt,h.lablt,h.old,h.olda,h.oldl,h.tlab,h.blab,h.oldu,h.labw,h.ids,h.sz,h.os,h.tape,h.out,h.dr⟩
theorem aSe{B}{p:List PanicEntry->Prop}{bx ro:List (Nat×List D)}{tk:List Nat}{G w}(h:SimW B bx ro tk G w):SimW {B with pan:=p} bx ro tk G w :=
 ⟨h.boxes,h.robs,h.toks,h.tau,h.tinj,h.binj,h.blt,h.lablt,h.old,h.olda,h.oldl,h.tlab,h.blab,h.oldu,h.labw,h.ids,h.sz,h.os,h.tape,h.out,h.dr⟩
theorem aAn{S:Setup}{f:FuncId}{fn:Func}{c:Code}{ro bx:List (Nat×List D)}{tk:List Nat}{args:List D}{ch:List PanicEntry}
  (hf:S.P.funcs[f]?=some fn) (hb:fn.body=some c) (hname:(fn.name == "runtime.NumGoroutine")=false) (hn:args.length≤fn.ntmps)
  (h:∀B:Base,B.pan ch->(∀c,B.pan c->c=ch)->SW S B (λ_=>False) [.code c] ⟨fn.ntmps,eY 0 args,bx,ro,tk,bx.map (·.1)⟩):FCX S f ro bx tk args ch:=by
 refine⟨⟨fn,hf,hname,by rw[hb];rfl⟩,λw G vals hs=>?_⟩;have hsz:vals.size=args.length:=hs.size;refine calls_of_wp hf hb (wp_mono (h {dE G w bx tk with pan:=λc=>c=ch} rfl (λ_ h=>h) G _ w ⟨rfl,?_,λt d hd=>?_,aSe hs.W,hs.fixed⟩) ?_)
 ·simp[hsz];omega
 ·obtain⟨v,h1,h2⟩:=hs.env t d hd;refine⟨v,?_,h2⟩;have hlt:t<vals.size:=(Array.getElem?_eq_some_iff.1 h1).1;simp only;rw[Array.getElem?_append_left hlt];exact h1
 ·intro e a' w' he;rcases he with⟨_,_,_,_,hr⟩|⟨c,rfl,hp,hd,G',hs'⟩
  ·exact hr.elim
  ·obtain rfl:c=ch:=hp;refine⟨hd,undef,G',rfl,⟨rfl,rfl,λt d hd=>?_,aT5 hs',hs.fixed⟩⟩;simp only[look] at hd;split at hd
   ·rename_i ht;subst ht;obtain rfl:=zA hd;exact⟨undef,rfl,.raw (by intro cs h;cases h)⟩
   ·cases hd

theorem l7{B}{bx:List (Nat×List D)}{G w}(h:SimW B bx [] [] G w):SimW B bx [] [] {G with τ:=λ_=>none} w:=by
 have hr:∀ {d v},Rel G w d v->Rel {G with τ:=λ_=>none} w d v:=λhr =>
  hr.mono (show Mono G {G with τ:=λ_=>none} w w from⟨λ_ _ _ h1 h2=>⟨h1,h2⟩,λ_ _=>rfl⟩) (λ_ _ _ h=>h) (λ_ _=>.inl rfl)
 exact {
  boxes:=λid cs hl=>by
   obtain⟨g,h1,⟨vs,e,e1,e2,e3⟩,h3⟩:=h.boxes id cs hl;exact⟨g,h1,⟨vs,e,e1,e2,λj d v hd hv=>hr (e3 j d v hd hv)⟩,h3⟩
  robs:=λid cs hl=>by cases hl
  toks:=λk hk=>by cases hk
  tau:=λk g e z hk=>by cases hk
  tinj:=λk k' g e z e' z' hk=>by cases hk
  binj:=h.binj
  blt:=h.blt
  lablt:=h.lablt
  old:=h.old
  olda:=h.olda
  oldl:=h.oldl
  tlab:=λk g e z hk=>by cases hk
  blab:=h.blab
  oldu:=h.oldu
  labw:=h.labw
  ids:=h.ids
  sz:=h.sz
  os:=h.os
  tape:=h.tape
  out:=h.out
  dr:=h.dr}

theorem aLe{B}{bx:List (Nat×List D)}{G:Ghost}{w}(t:Nat)(h:SimW B bx [] [t] G w)(hno:∀p∈bx,0∉D.tksL p.2):SimW B bx [] [0] {G with τ:=λk=>if k=0 then G.τ t else none} w:=by
 let G':Ghost:={G with τ:=λk=>if k=0 then G.τ t else none};have hr:∀ {d v},0∉d.tks->Rel G w d v->Rel G' w d v:=λhn hr =>
  hr.mono (show Mono G G' w w from⟨λ_ _ _ h1 h2=>⟨h1,h2⟩,λ_ _=>rfl⟩) (λ_ _ _ h=>h) (λk hk=>.inl (by
   have:k≠0:=λe=>hn (e ▸ hk);simp[G',this]))
 have hτ:∀ {k x},G'.τ k=some x->k=0/\G.τ t=some x:=λ{k x} hk=>by
  simp only[G'] at hk;split at hk
  ·rename_i h0;exact⟨h0,hk⟩
  ·cases hk
 exact {
  boxes:=λid cs hl=>by
   obtain⟨g,h1,⟨vs,e,e1,e2,e3⟩,h3⟩:=h.boxes id cs hl;exact⟨g,h1,⟨vs,e,e1,e2,λj d v hd hv=>hr (λhi=>hno _ (bB hl) (fN (zF hd) hi)) (e3 j d v hd hv)⟩,h3⟩
  robs:=λid cs hl=>by cases hl
  toks:=λk hk=>by
   obtain rfl:=zN.1 hk;obtain⟨x,hx⟩:=h.toks t (zN.2 rfl);exact⟨x,by simp[hx]⟩
  tau:=λk g e z hk=>h.tau t g e z (hτ hk).2
  tinj:=λk k' g e z e' z' hk hk'=>by rw[(hτ hk).1,(hτ hk').1]
  binj:=h.binj
  blt:=h.blt
  lablt:=h.lablt
  old:=h.old
  olda:=h.olda
  oldl:=h.oldl
  tlab:=λk g e z hk=>h.tlab t g e z (hτ hk).2
  blab:=h.blab
  oldu:=h.oldu
  labw:=h.labw
  ids:=h.ids
  sz:=h.sz
  os:=h.os
  tape:=h.tape
  out:=h.out
  dr:=h.dr}

def Ret(S:Setup)(rs:List ResultVar)(d:D)(bx':List (Nat×List D))(L:LS):Prop :=
 aM1 S L rs λd0=>D.le d0 d/\∀p∈bx',look L.boxes p.1=some p.2

theorem aWj{S:Setup}{f:FuncId}{fn:Func}{c:Code}{ro bx:List (Nat×List D)}{tk:List Nat}{args:List D}{d:D}{bx':List (Nat×List D)}
  (hf:S.P.funcs[f]?=some fn) (hb:fn.body=some c) (hname:(fn.name == "runtime.NumGoroutine")=false) (hn:args.length≤fn.ntmps)
  (h:∀B,SW S B (Ret S fn.results.toList d bx') [.code c] ⟨fn.ntmps,eY 0 args,bx,ro,tk,bx.map (·.1)⟩):FC S f ro bx tk args d bx' []:=by
 refine⟨⟨fn,hf,hname,by rw[hb];rfl⟩,λw G vals hs=>kX hf hb hn hs (h _) λG' L' a' w' hs' hr=>?_⟩;obtain⟨d0,v,⟨h1,h2⟩,h3,h4⟩:=kU hs' hr;refine⟨v,h3,v,{G' with τ:=λ_=>none},rfl,rfl,rfl,λt d' hd=>?_,?_,hs.fixed⟩
 ·simp only[look] at hd;split at hd
  ·rename_i ht;subst ht;obtain rfl:=zA hd;refine⟨v,rfl,?_⟩;exact(h4.le h1).mono (show Mono G' {G' with τ:=λ_=>none} w' w' from⟨λ_ _ _ h1 h2=>⟨h1,h2⟩,λ_ _=>rfl⟩) (λ_ _ _ h=>h) (λ_ _=>.inl rfl)
  ·cases hd
 ·exact l7 (hs'.W.less h2 (ro':=[]) (by simp) (tk':=[]) (by simp))


def dX(S:Setup)(rs:List ResultVar)(d:D)(bx':List (Nat×List D))(L:LS):Prop :=
 aM1 S L rs λd0=>∃t d1,D.le d0 d1/\t∈L.toks/\(∀k∈d1.tks,k=t)/\d1.sT 0=d/\(∀p∈bx',look L.boxes p.1=some p.2)/\∀p∈bx',0∉D.tksL p.2

theorem aVc{S:Setup}{f:FuncId}{fn:Func}{c:Code}{ro bx:List (Nat×List D)}{tk:List Nat}{args:List D}{d:D}{bx':List (Nat×List D)}
  (hf:S.P.funcs[f]?=some fn) (hb:fn.body=some c) (hname:(fn.name == "runtime.NumGoroutine")=false) (hn:args.length≤fn.ntmps)
  (h:∀B,SW S B (dX S fn.results.toList d bx') [.code c] ⟨fn.ntmps,eY 0 args,bx,ro,tk,bx.map (·.1)⟩):FC S f ro bx tk args d bx' [0]:=by
 refine⟨⟨fn,hf,hname,by rw[hb];rfl⟩,λw G vals hs=>kX hf hb hn hs (h _) λG' L' a' w' hs' hr=>?_⟩;obtain⟨d0,v,⟨t,d1,h1,h2,h3,rfl,h5,h6⟩,h7,h8⟩:=kU hs' hr;refine⟨v,h7,v,{G' with τ:=λk=>if k=0 then G'.τ t else none},rfl,rfl,rfl,λt' d' hd=>?_,?_,hs.fixed⟩
 ·simp only[look] at hd;split at hd
  ·rename_i ht;subst ht;obtain rfl:=zA hd;exact⟨v,rfl,Rel.setT (G:=G') (G':={G' with τ:=λk=>if k=0 then G'.τ t else none}) rfl rfl rfl 0 (h8.le h1) λk hk=>by simp[h3 k hk]⟩
  ·cases hd
 ·exact aLe t (hs'.W.less h5 (ro':=[]) (by simp) (tk':=[t]) (by simpa using h2)) h6

mutual
def D.mT(f:Nat->Nat):D->D
 | .sl (.own k e z) xs=>.sl (.own (f k) e z) xs
 | .sl (.que k e) xs=>.sl (.que (f k) e) xs
 | .agg cs=>.agg (D.mTL f cs)
 | .fn g cap=>.fn g (D.mTL f cap)
 | .tup ds=>.tup (D.mTL f ds)
 | d=>d
def D.mTL(f:Nat->Nat):List D->List D
 | []=>[]
 | d::ds=>d.mT f::D.mTL f ds
end
theorem y0(f:Nat->Nat)(ds:List D):D.mTL f ds=ds.map (D.mT f):=by
 induction ds with
 | nil=>rfl
 | cons d ds ih=>simp[D.mTL,ih]

theorem Rel.mapT{G G':Ghost}{w}(hl:G'.lim=G.lim)(hb:G'.lab=G.lab)(hβ:G'.β=G.β)(f:Nat->Nat){d:D}{v:Value}(h:Rel G w d v):(∀k∈d.tks,G'.τ (f k)=G.τ k)->Rel G' w (d.mT f) v:=by
 have hm:Mono G G' w w:=⟨λb o v h1 h2=>⟨by rw[hl];exact h1,h2⟩,λb _=>by rw[hb]⟩;induction h with
 | int=>exact λ_=>.int
 | bool=>exact λ_=>.bool
 | str=>exact λ_=>.str
 | @sl tk xs A m c b o s hn hc hmx ht hA hu hk hst hr ih =>
  intro hkk;have key:∀tk',(dZ G' w tk' xs A m c)->Rel G' w (.sl tk' xs) (.slice A m c):=λtk' ht'=>by
   refine .sl (b:=b) (o:=o) hn hc hmx ht' hA hu hk (λj d hj=>?_) (λj d v hj hv=>?_)
   ·rw[hl];exact hst j d hj
   ·have hmem:=hk d (zF hj);exact(hr j d v hj hv).mono hm (by rw[iM hmem];simp) (by rw[jE hmem];simp)
  cases tk with
  | que k e =>
   refine key (.que (f k) e) ?_;simp only[dZ] at ht ⊢;rw[hkk k (by simp[D.tks]),hl];exact ht
  | own k e z =>
   refine key (.own (f k) e z) ?_;simp only[dZ] at ht ⊢;rw[hkk k (by simp[D.tks]),hl];exact ht
  | lab l =>
   refine key (.lab l) ?_;rcases ht with ht|⟨g,o',e1,e2,e3⟩
   ·exact .inl ht
   ·exact .inr ⟨g,o',e1,by rw[hb];exact e2,e3⟩
  | _=>exact key _ ht
 | @agg cs vl hlen hr ih =>
  intro hk;simp only[D.mT,y0];refine .agg (by simpa using hlen) λj d v hj hv=>?_;simp only[zI,Option.map_eq_some_iff] at hj;obtain⟨d0,hj,rfl⟩:=hj;exact ih j d0 v hj hv (λi hi'=>hk i (fN (zF hj) hi'))
 | @fn g cap vl hlen hr ih =>
  intro hk;simp only[D.mT,y0];refine .fn (by simpa using hlen) λj d v hj hv=>?_;simp only[zI,Option.map_eq_some_iff] at hj;obtain⟨d0,hj,rfl⟩:=hj;exact ih j d0 v hj hv (λi hi'=>hk i (fN (zF hj) hi'))
 | box hb'=>exact λ_=>.box (by rw[hβ];exact hb')
 | ms hb' hc hn=>exact λ_=>.ms (by rw[hβ];exact hb') hc hn
 | vw hb' hc hn=>exact λ_=>.vw (by rw[hβ];exact hb') hc hn
 | @imm cs b o hk hst hr ih =>
  intro _;refine .imm hk (λj d hj=>?_) (λj d v hj hv=>?_)
  ·rw[hl];exact hst j d hj
  ·have hmem:=hk d (zF hj);exact(hr j d v hj hv).mono hm (by rw[iM hmem];simp) (by rw[jE hmem];simp)
 | @tup ds vl hlen hr ih =>
  intro hk;simp only[D.mT,y0];refine .tup (by simpa using hlen) λj d v hj hv=>?_;simp only[zI,Option.map_eq_some_iff] at hj;obtain⟨d0,hj,rfl⟩:=hj;exact ih j d0 v hj hv (λi hi'=>hk i (fN (zF hj) hi'))
 | raw h=>exact λ_=>.raw h
 | pred hv h=>exact λ_=>.pred hv λG2 w2 hm2=>h G2 w2 (hm.trans hm2)


def aIc:List Value->List ZK->Bool
 | [],[]=>true
 | v::vs,k::ks=>k.is v&&aIc vs ks
 | _,_=>false
def aGV(P:Program)(t:TypeId):TK->Bool
 | .slice e=>match P.underlying t with|some (.slice e')=>e'==e|_=>false
 | .struct fs=>match P.underlying t with
  | some (.struct fields)=>fields.toList.map (λf=>(f.offset,f.type))==fs&&(fields.toList.mapM (λf=>(P.info? f.type).map λi=>(f.offset,i.size))).isSome
  | _=>false
 | .array n e=>match P.underlying t with|some (.array n' e')=>n'==n&&e'==e|_=>false
 | .string=>match P.underlying t with|some .string=>true|_=>false
 | .bool=>match P.underlying t with|some .bool=>true|_=>false
 | .int k=>match P.underlying t with|some (.int k')=>k'==k|_=>false
 | .other=>match P.underlying t with|some (.struct _)|some (.array _ _)|none=>false|some _=>true
def aDA(P:Program)(t:TypeId)(i:TyI):Bool :=
 match P.info? t with
 | some inf=>inf.size==i.size&&inf.bytes==i.bytes&&(match inf.zero with|some z=>aIc z.cells.toList i.zero|none=>false)&&(i.agg||i.size==1)&&aGV P t i.kind
 | none=>false

theorem aZ1{k:ZK}{v:Value}(h:k.is v=true):v=k.val:=by
 unfold ZK.is at h;split at h<;>first
  | rfl
  | (simp at h;done)
  | skip
 ·simp only[Bool.and_eq_true,beq_iff_eq] at h;obtain⟨rfl,rfl⟩:=h;rfl
 ·simp only[Bool.not_eq_true'] at h;subst h;rfl
 ·rename_i s;have h:s.size=0:=by simpa using h
  have:s=ByteArray.empty:=by
   obtain⟨d⟩:=s;have:d=#[]:=Array.eq_empty_of_size_eq_zero h;subst this;rfl
  subst this;rfl

theorem aGw:∀ {vs:List Value} {ks:List ZK},aIc vs ks=true->vs=ks.map ZK.val
 | [],[],_=>rfl
 | v::vs,k::ks,h=>by
  simp only[aIc,Bool.and_eq_true] at h;simp[aZ1 h.1,aGw h.2]
 | [],_::_,h=>by cases h
 | _::_,[],h=>by cases h

theorem aOn{P:Program}{t:TypeId}{i:TyI}(h:aDA P t i=true):TyOk P t i:=by
 unfold aDA at h;split at h
 ·rename_i inf hi;simp only[Bool.and_eq_true,beq_iff_eq,Bool.or_eq_true] at h;obtain⟨⟨⟨⟨h1,h2⟩,h3⟩,h4⟩,h5⟩:=h;refine⟨⟨inf,hi,h1,h2,?_⟩,?_⟩
  ·split at h3
   ·rename_i z hz;refine⟨z,hz,?_,λha=>?_⟩
    ·rw[←Array.toArray_toList (xs:=z.cells),aGw h3]
    ·rcases h4 with h4|h4
     ·rw[ha] at h4;cases h4
     ·exact h4
   ·cases h3
  ·cases hk:i.kind<;>rw[hk] at h5<;>simp only[aGV] at h5 ⊢
   case slice e=>split at h5<;>first|(simp only[beq_iff_eq] at h5;subst h5;assumption)|cases h5
   case struct fs =>
    split at h5
    ·rename_i fields hu;simp only[Bool.and_eq_true,beq_iff_eq] at h5;exact⟨fields,hu,h5.1,Option.isSome_iff_exists.1 h5.2⟩
    ·cases h5
   case array n e =>
    split at h5
    ·rename_i hu;simp only[Bool.and_eq_true,beq_iff_eq] at h5;obtain⟨rfl,rfl⟩:=h5;exact hu
    ·cases h5
   case string=>split at h5<;>first|assumption|cases h5
   case bool=>split at h5<;>first|assumption|cases h5
   case int k=>split at h5<;>first|(simp only[beq_iff_eq] at h5;subst h5;assumption)|cases h5
   case other =>
    split at h5
    ·cases h5
    ·cases h5
    ·cases h5
    ·rename_i d h1 h2 hu;exact⟨d,hu,by cases d<;>simp_all⟩
 ·cases h

theorem bAj{P:Program}{l:List (Nat×TyI)}(h:l.all (λp=>aDA P p.1 p.2)=true):∀t i,look l t=some i->TyOk P t i:=λ_ _ hl =>
 aOn (List.all_eq_true.1 h _ (bB hl))


section congrs
variable {S:Setup} {K:D->Prop}
theorem aTl(f:Nat)(c:Option (List D)):qW f (some []) c K=aL c λds=>K (.fn f ds):=rfl
end congrs

def aP3(ρ:Operand->Option D)(a b:Operand)(d:D)(K:D->Prop):Prop:=match d with
 | .bool t=>(match t with
  | true=>aL (ρ a) K
  | false=>aL (ρ b) K)
 | _=>False
theorem aXQ(ρ:Operand->Option D)(a b:Operand)(K:D->Prop):aP3 ρ a b (.bool true) K=aL (ρ a) K:=rfl
theorem aWr(ρ:Operand->Option D)(a b:Operand)(K:D->Prop):aP3 ρ a b (.bool false) K=aL (ρ b) K:=rfl

def aS1(d:D)(K:D->Prop):Prop:=match d with
 | .box ..|.imm _|.fn ..=>K d
 | _=>False
def aVP(i:Nat)(d:D)(K:D->Prop):Prop:=match d with
 | .tup ds=>aL ds[i]? K
 | _=>False
section eqs
variable (S:Setup) (base:Nat) (ops:Array Oper) (K:List Oper->LS->Prop) (l:List Oper) (L:LS) (dst:Option Nat) (ty:TypeId) (pos:String) (aft:Array Edge)

def j8(d:D):Prop:=fG dst L/\bA S base ops K l (L.putO dst d)
theorem aOD(t:Nat)(d:D):j8 S base ops K l L (some t) d=(t<L.n/\bA S base ops K l (L.put t d)):=rfl
theorem aUB:bA S base ops K [] L=K [] L:=rfl
theorem aQf(f:Operand)(args:Array Operand)(tys:Array TypeId)(g:Option (Nat×Bool)):bA S base ops K (⟨dst,.call ⟨.value f,args,tys⟩,ty,pos,aft,g⟩::l) L=K (⟨dst,.call ⟨.value f,args,tys⟩,ty,pos,aft,g⟩::l) L:=rfl

theorem eW(op:Op)(h:∀f args tys,op≠.call ⟨.value f,args,tys⟩):bA S base ops K (⟨dst,op,ty,pos,aft,none⟩::l) L=aEf S base ⟨dst,op,ty,pos,aft,none⟩ L (bA S base ops K l):=by
 conv=>lhs;unfold bA
 split
 ·exact absurd rfl (h _ _ _)
 ·rfl
def r9:Op->Bool
 | .call ⟨.value _,_,_⟩=>true
 | _=>false
theorem aRP(op:Op)(p:Nat×Bool)(hc:r9 op=false)(h:bQ ops L (some p)=some true):bA S base ops K (⟨dst,op,ty,pos,aft,some p⟩::l) L=bA S base ops K (⟨dst,op,ty,pos,aft,none⟩::l) L:=by
 rw[eW]
 ·conv=>lhs;unfold bA
  split
  ·cases hc
  ·rw[h];rfl
 ·intro f args tys e;subst e;cases hc
theorem aSx(op:Op)(p:Nat×Bool)(hc:r9 op=false)(h:bQ ops L (some p)=some false):bA S base ops K (⟨dst,op,ty,pos,aft,some p⟩::l) L=j8 S base ops K l L dst (.raw undef):=by
 conv=>lhs;unfold bA
 split
 ·cases hc
 ·rw[h];rfl
def dM(o:Oper):Option Bool->Prop
 | some true=>bA S base ops K (⟨o.dst,o.op,o.type,o.pos,o.after,none⟩::l) L
 | some false=>j8 S base ops K l L o.dst (.raw undef)
 | none=>bA S base ops K (o::l) L
theorem aYq(o:Oper):dM S base ops K l L o (some true)=bA S base ops K (⟨o.dst,o.op,o.type,o.pos,o.after,none⟩::l) L:=rfl
theorem aYV(o:Oper):dM S base ops K l L o (some false)=j8 S base ops K l L o.dst (.raw undef):=rfl
theorem aJ5(op:Op)(p:Nat×Bool)(hc:r9 op=false):bA S base ops K (⟨dst,op,ty,pos,aft,some p⟩::l) L=dM S base ops K l L ⟨dst,op,ty,pos,aft,some p⟩ (bQ ops L (some p)):=by
 cases h:bQ ops L (some p) with
 | none=>rfl
 | some b=>cases b with
  | true=>exact aRP S base ops K l L dst ty pos aft op p hc h
  | false=>exact aSx S base ops K l L dst ty pos aft op p hc h
abbrev aC9 (op:Op):Prop:=∀S base ops K l L dst ty pos aft (p:Nat×Bool),bA S base ops K (⟨dst,op,ty,pos,aft,some p⟩::l) L=dM S base ops K l L ⟨dst,op,ty,pos,aft,some p⟩ (bQ ops L (some p))
theorem aEc{op:Op}(h:r9 op=false):aC9 op:=λS base ops K l L dst ty pos aft p=>aJ5 S base ops K l L dst ty pos aft op p h
theorem aLx{x}:aC9 (.move x):=aEc rfl
theorem aJV{a b c}:aC9 (.pick a b c):=aEc rfl
theorem aMR{t x}:aC9 (.box t x):=aEc rfl
theorem aID{t p}:aC9 (.build t p):=aEc rfl
theorem aJ2{t x}:aC9 (.load t x):=aEc rfl
theorem aDn{x}:aC9 (.nilCheck x):=aEc rfl
theorem aJn{o t u x y}:aC9 (.binOp o t x y u):=aEc rfl
theorem aJY{o t x}:aC9 (.unOp o t x):=aEc rfl
theorem aCr{t x n}:aC9 (.fieldAddr t x n):=aEc rfl
theorem aBX{t x y}:aC9 (.indexAddr t x y):=aEc rfl
theorem aKR{b a tys}:aC9 (.call ⟨.builtin b,a,tys⟩):=aEc rfl
theorem aQ4(x:Operand):bA S base ops K (⟨dst,.move x,ty,pos,aft,none⟩::l) L=aL (aM L x) (j8 S base ops K l L dst) :=
 eW S base ops K l L dst ty pos aft _ (by intro _ _ _ h;cases h)
theorem aK0(x:Operand):bA S base ops K (⟨dst,.assign x,ty,pos,aft,none⟩::l) L=aL (aM L x) (j8 S base ops K l L dst) :=
 eW S base ops K l L dst ty pos aft _ (by intro _ _ _ h;cases h)
theorem aQP(c x y:Operand):bA S base ops K (⟨dst,.pick c x y,ty,pos,aft,none⟩::l) L=aL (aM L c) λd=>aP3 (aM L) x y d (j8 S base ops K l L dst):=by
 rw[eW S base ops K l L dst ty pos aft _ (by intro _ _ _ h;cases h)];congr 1
 show opY S (.pick c x y) (aM L) L.getBox _=_;unfold opY;simp only;congr 1
 funext d
 cases d<;>first|rfl|(rename_i b;cases b<;>rfl)
theorem aQX(t:TypeId)(x:Operand):bA S base ops K (⟨dst,.load t x,ty,pos,aft,none⟩::l) L=aL (aM L x) λd=>yX S t L.getBox d (j8 S base ops K l L dst) :=
 eW S base ops K l L dst ty pos aft _ (by intro _ _ _ h;cases h)
theorem aFS(x:Operand):bA S base ops K (⟨dst,.nilCheck x,ty,pos,aft,none⟩::l) L=aL (aM L x) λd=>aS1 d (j8 S base ops K l L dst):=by
 rw[eW S base ops K l L dst ty pos aft _ (by intro _ _ _ h;cases h)];congr 1
theorem aM5(o:BinOp)(t u:TypeId)(x y:Operand):bA S base ops K (⟨dst,.binOp o t x y u,ty,pos,aft,none⟩::l) L=aL (aM L x) λdx=>aL (aM L y) λdy=>aGe S o t dx dy (j8 S base ops K l L dst) :=
 eW S base ops K l L dst ty pos aft _ (by intro _ _ _ h;cases h)
theorem aRf(o:UnOp)(t:TypeId)(x:Operand):bA S base ops K (⟨dst,.unOp o t x,ty,pos,aft,none⟩::l) L=aL (aM L x) λd=>unY o d (j8 S base ops K l L dst) :=
 eW S base ops K l L dst ty pos aft _ (by intro _ _ _ h;cases h)
theorem aI2(s t:TypeId)(x:Operand):bA S base ops K (⟨dst,.convert s t x,ty,pos,aft,none⟩::l) L=((S.tab s).isSome=true/\aL (aM L x) λd=>aCR S t d (j8 S base ops K l L dst)) :=
 eW S base ops K l L dst ty pos aft _ (by intro _ _ _ h;cases h)
theorem aFW(f:FuncId)(first cap:Array Operand):bA S base ops K (⟨dst,.makeFunc (.func f) first cap,ty,pos,aft,none⟩::l) L=(qW f (fQ (aM L) first.toList) (fQ (aM L) cap.toList) (j8 S base ops K l L dst)) :=
 eW S base ops K l L dst ty pos aft _ (by intro _ _ _ h;cases h)
theorem aEM(t:TypeId)(x:Operand)(f:Nat):bA S base ops K (⟨dst,.fieldAddr t x f,ty,pos,aft,none⟩::l) L=aL (aM L x) λd=>eO S t f d (j8 S base ops K l L dst) :=
 eW S base ops K l L dst ty pos aft _ (by intro _ _ _ h;cases h)
theorem aEF(t:TypeId)(x i:Operand):bA S base ops K (⟨dst,.indexAddr t x i,ty,pos,aft,none⟩::l) L=aL (aM L x) λdx=>aL (aM L i) λdi=>eN S t dx di (j8 S base ops K l L dst) :=
 eW S base ops K l L dst ty pos aft _ (by intro _ _ _ h;cases h)
theorem aN3        (t : TypeId) (x : Operand) (lo hi mx : Option Operand) : bA   S base ops K (⟨dst, .slice t x lo hi mx, ty, pos, aft, none⟩ :: l) L = aL    (aM    L x) fun d => aL    (lU     (lo.bind (aM    L))) fun l' => aL    (lU     (hi.bind (aM    L))) fun h => aL    (lU     (mx.bind (aM    L))) fun m =>
   ((lo.isSome=l'.isSome/\hi.isSome=h.isSome/\mx.isSome=m.isSome)/\(mx.isSome=true->hi.isSome=true))/\oP S t d l' h m (j8 S base ops K l L dst) :=
 eW S base ops K l L dst ty pos aft _ (by intro _ _ _ h;cases h)
theorem aND(t:TypeId)(ps:Array (Nat×Operand)):bA S base ops K (⟨dst,.build t ps,ty,pos,aft,none⟩::l) L=aL (uV (aM L) ps.toList) λq=>sN S t q (j8 S base ops K l L dst) :=
 eW S base ops K l L dst ty pos aft _ (by intro _ _ _ h;cases h)
theorem aDl(t:TypeId)(n:Nat)(ps:Array (Nat×Operand)):bA S base ops K (⟨dst,.buildSlice t n ps,ty,pos,aft,none⟩::l) L=aL (uV (aM L) ps.toList) λq=>gZ S t n q (j8 S base ops K l L dst) :=
 eW S base ops K l L dst ty pos aft _ (by intro _ _ _ h;cases h)
theorem aIC(x:Operand)(i:Nat):bA S base ops K (⟨dst,.extract x i,ty,pos,aft,none⟩::l) L=aL (aM L x) λd=>aVP i d (j8 S base ops K l L dst):=by
 rw[eW S base ops K l L dst ty pos aft _ (by intro _ _ _ h;cases h)];congr 1
theorem aUG(x:Operand)(t:TypeId):bA S base ops K (⟨dst,.call ⟨.builtin .len,#[x],#[t]⟩,ty,pos,aft,none⟩::l) L=aL (aM L x) λd=>aDf S t d (j8 S base ops K l L dst):=by
 rw[eW S base ops K l L dst ty pos aft _ (by intro _ _ _ h;cases h)];congr 1
 show opY S (.call ⟨.builtin .len,#[x],#[t]⟩) (aM L) L.getBox _=_;unfold opY;simp only[fQ];cases aM L x<;>rfl
theorem aUO(x y:Operand)(tys:Array TypeId):bA S base ops K (⟨dst,.call ⟨.builtin .min,#[x,y],tys⟩,ty,pos,aft,none⟩::l) L=aL (aM L x) λdx=>aL (aM L y) λdy=>aL (aTi dx dy) (j8 S base ops K l L dst):=by
 rw[eW S base ops K l L dst ty pos aft _ (by intro _ _ _ h;cases h)];congr 1
 show opY S (.call ⟨.builtin .min,#[x,y],tys⟩) (aM L) L.getBox _=_;unfold opY;simp only[fQ];cases aM L x<;>cases aM L y<;>rfl
theorem aSJ(x y:Operand)(tys:Array TypeId):bA S base ops K (⟨dst,.call ⟨.builtin .max,#[x,y],tys⟩,ty,pos,aft,none⟩::l) L=aL (aM L x) λdx=>aL (aM L y) λdy=>aL (aVH dx dy) (j8 S base ops K l L dst):=by
 rw[eW S base ops K l L dst ty pos aft _ (by intro _ _ _ h;cases h)];congr 1
 show opY S (.call ⟨.builtin .max,#[x,y],tys⟩) (aM L) L.getBox _=_;unfold opY;simp only[fQ];cases aM L x<;>cases aM L y<;>rfl
theorem aT4(t:Nat)(T:TypeId)(x:Operand):bA S base ops K (⟨some t,.box T x,ty,pos,aft,none⟩::l) L=aL (aM L x) λd=>(t<L.n/\base+t∉L.fix/\base+t∉D.idsL d.cells)/\bA S base ops K l (L.newBox t (base+t) d.cells (.box (base+t) 0)) :=
 eW S base ops K l L (some t) ty pos aft _ (by intro _ _ _ h;cases h)
theorem aNe(t:Nat)(T:TypeId):bA S base ops K (⟨some t,.alloc T,ty,pos,aft,none⟩::l) L=aL (S.tab T) λi=>(t<L.n/\base+t∉L.fix)/\bA S base ops K l (L.newBox t (base+t) (i.zero.map ZK.d) (.box (base+t) 0)) :=
 eW S base ops K l L (some t) ty pos aft _ (by intro _ _ _ h;cases h)
theorem aM8(T:TypeId)(x v:Operand):bA S base ops K (⟨dst,.store T x v,ty,pos,aft,none⟩::l) L=aL (aM L x) λda=>aL (aM L v) λd=>aJa S L dst T da d (bA S base ops K l) :=
 eW S base ops K l L dst ty pos aft _ (by intro _ _ _ h;cases h)
theorem aEE(t:Nat)(T:TypeId)(x c:Operand):bA S base ops K (⟨some t,.makeSlice T x c,ty,pos,aft,none⟩::l) L=aL (aM L x) λdl=>aL (aM L c) λdc=>aAU S base L t T (aOu x c) dl dc (bA S base ops K l) :=
 eW S base ops K l L (some t) ty pos aft _ (by intro _ _ _ h;cases h)
theorem aLp(t:Nat)(T T':TypeId)(args:Array Operand):bA S base ops K (⟨some t,.call ⟨.builtin .append,args,#[T,T']⟩,ty,pos,aft,none⟩::l) L=(T=T'/\aL (fQ (aM L) args.toList) λds=>w7 S L t T ds (bA S base ops K l)) :=
 eW S base ops K l L (some t) ty pos aft _ (by intro _ _ _ h;cases h)
end eqs

section yeqs
variable (S:Setup) (K:D->Prop)
theorem aVy(op:BinOp)(t:TypeId)(k k':IntKind)(a b:Int):aGe S op t (.int k a) (.int k' b) K=m5 op k k' a b K:=rfl
theorem aQr(k k':IntKind)(a b:Int):m5 .add k k' a b K=(k=k'/\l9 .add k a b K):=rfl
theorem aRN(k k':IntKind)(a b:Int):m5 .sub k k' a b K=(k=k'/\l9 .sub k a b K):=rfl
theorem aRt(k k':IntKind)(a b:Int):m5 .mul k k' a b K=(k=k'/\l9 .mul k a b K):=rfl
theorem aRi(k k':IntKind)(a b:Int):m5 .quo k k' a b K=(k=k'/\l9 .quo k a b K):=rfl
theorem aQR(k k':IntKind)(a b:Int):m5 .eql k k' a b K=(k=k'/\l9 .eql k a b K):=rfl
theorem aQu(k k':IntKind)(a b:Int):m5 .neq k k' a b K=(k=k'/\l9 .neq k a b K):=rfl
theorem aQA(k k':IntKind)(a b:Int):m5 .lss k k' a b K=(k=k'/\l9 .lss k a b K):=rfl
theorem aQL(k k':IntKind)(a b:Int):m5 .leq k k' a b K=(k=k'/\l9 .leq k a b K):=rfl
theorem aRC(k k':IntKind)(a b:Int):m5 .gtr k k' a b K=(k=k'/\l9 .gtr k a b K):=rfl
theorem aRw(k k':IntKind)(a b:Int):m5 .geq k k' a b K=(k=k'/\l9 .geq k a b K):=rfl
theorem aRd(k k':IntKind)(a b:Int):m5 .and k k' a b K=(k=k'/\l9 .and k a b K):=rfl
theorem aQw(k k':IntKind)(a b:Int):m5 .shr k k' a b K=((0≤b/\b≤k.bits)/\K (.int k (a / 2^b.toNat))):=rfl
theorem aVf(k:IntKind)(a b:Int):l9 .and k a b K=K (.int k (bits .and k a b)):=rfl
theorem aRH(op:BinOp)(t:TypeId)(a b:Bool):aGe S op t (.bool a) (.bool b) K=(S.kd t=some .bool/\aKw op a b K):=rfl
theorem aTx(op:BinOp)(t:TypeId)(tk:Tk)(xs:List D):aGe S op t (.sl tk xs) (.sl .nil []) K=((∃e,S.kd t=some (.slice e))/\aGf op tk xs K):=rfl
theorem aSY(k:IntKind)(a b:Int):l9 .add k a b K=K (.int k (k.wrap (a+b))):=rfl
theorem aTF(k:IntKind)(a b:Int):l9 .sub k a b K=K (.int k (k.wrap (a-b))):=rfl
theorem aUY(k:IntKind)(a b:Int):l9 .mul k a b K=K (.int k (k.wrap (a*b))):=rfl
theorem aT7(k:IntKind)(a b:Int):l9 .quo k a b K=(b≠0/\K (.int k (k.wrap (a.tdiv b)))):=rfl
theorem aU4(k:IntKind)(a b:Int):l9 .eql k a b K=K (.bool (a==b)):=rfl
theorem aTn(k:IntKind)(a b:Int):l9 .neq k a b K=K (.bool (a != b)):=rfl
theorem aUd(k:IntKind)(a b:Int):l9 .lss k a b K=K (.bool (decide (a<b))):=rfl
theorem aTD(k:IntKind)(a b:Int):l9 .leq k a b K=K (.bool (decide (a≤b))):=rfl
theorem aTy(k:IntKind)(a b:Int):l9 .gtr k a b K=K (.bool (decide (b<a))):=rfl
theorem aVq(k:IntKind)(a b:Int):l9 .geq k a b K=K (.bool (decide (b≤a))):=rfl
theorem aQY(a b:Bool):aKw .neq a b K=K (.bool (!(a==b))):=rfl
theorem aJf(xs:List D):aGf .eql .nil xs K=K (.bool true):=rfl
theorem aI4(xs:List D):aGf .neq .nil xs K=K (.bool false):=rfl
theorem aJO(xs:List D):aGf .eql .nl xs K=K (.bool true):=rfl
theorem aKH(xs:List D):aGf .eql .nn xs K=K (.bool false):=rfl
theorem aH2(xs:List D):aGf .eql .any xs K=(xs≠[]/\K (.bool false)):=rfl
theorem aH5(xs:List D):aGf .neq .any xs K=(xs≠[]/\K (.bool true)):=rfl
theorem aXz(b:Bool):unY .not (.bool b) K=K (.bool (!b)):=rfl
theorem aXq(k:IntKind)(n:Int):unY .neg (.int k n) K=K (.int k (k.wrap (0-n))):=rfl
def aYi(k:Option TK)(n:Int):Prop:=match k with
 | some (.int k)=>K (.int k (k.wrap n))
 | _=>False
theorem aRl(k:IntKind)(n:Int):aYi K (some (.int k)) n=K (.int k (k.wrap n)):=rfl
theorem aQ3(dst:TypeId)(k:IntKind)(n:Int):aCR S dst (.int k n) K=aYi K (S.kd dst) n:=rfl
theorem aQv(t:TypeId)(bx:Nat->Option (List D))(cs:List D):yX S t bx (.imm cs) K=pG S t cs K:=rfl
theorem aQF(t:TypeId)(bx:Nat->Option (List D))(id off:Nat):yX S t bx (.box id off) K=aL (bx id) λcs=>pG S t (cs.drop off) K:=rfl
def xU(i:TyI)(cs:List D):Prop:=if i.agg=true then i.size≤cs.length/\K (.agg (cs.take i.size)) else aL cs.head? K
theorem aSi(t:TypeId)(cs:List D):pG S t cs K=aL (S.tab t) λi=>xU K i cs:=rfl
theorem yJ(k:TK)(b:Nat)(z:List ZK)(cs:List D)(h:TyI.agg ⟨k,b,z⟩=false):xU K ⟨k,b,z⟩ cs=aL cs.head? K:=by simp[xU,h]
theorem aNW(k:IntKind)(b:Nat)(z:List ZK)(cs:List D):xU K ⟨.int k,b,z⟩ cs=aL cs.head? K:=yJ K _ b z cs rfl
theorem aLG(b:Nat)(z:List ZK)(cs:List D):xU K ⟨.bool,b,z⟩ cs=aL cs.head? K:=yJ K _ b z cs rfl
theorem aIg(e:TypeId)(b:Nat)(z:List ZK)(cs:List D):xU K ⟨.slice e,b,z⟩ cs=aL cs.head? K:=yJ K _ b z cs rfl
theorem aD6(a:TypeId):(∃e,TK.slice a=TK.slice e)=True:=eq_true ⟨a,rfl⟩
theorem aF8(fs:List (Nat×TypeId))(b:Nat)(z:List ZK)(cs:List D):xU K ⟨.struct fs,b,z⟩ cs=(z.length≤cs.length/\K (.agg (cs.take z.length))):=rfl
def faK(n:Nat)(x:D):Prop:=match x with
 | .imm cs=>K (.imm (cs.drop n))
 | .box id o=>K (.box id (o+n))
 | _=>False
theorem aXP(n:Nat)(cs:List D):faK K n (.imm cs)=K (.imm (cs.drop n)):=rfl
theorem aWi(n id o:Nat):faK K n (.box id o)=K (.box id (o+n)):=rfl
def aZO(k:Option TK)(f:Nat)(x:D):Prop:=match k with
 | some (.struct fs)=>aL fs[f]? λp=>aL (S.tab p.2) λj=>j.size≠0/\faK K p.1 x
 | _=>False
theorem aLB(fs:List (Nat×TypeId))(f:Nat)(x:D):aZO S K (some (.struct fs)) f x=aL fs[f]? λp=>aL (S.tab p.2) λj=>j.size≠0/\faK K p.1 x:=rfl
theorem aFT(t:TypeId)(f:Nat)(x:D):eO S t f x K=aZO S K (S.kd t) f x:=rfl
def aV6(k:Option TK)(x ix:D):Prop:=match k,ix with
 | some (.slice e),.int _ i=>aL (S.tab e) λj=>(match x with
  | .sl _ xs=>(0≤i/\i<xs.length)/\(xs.getD i.toNat default).cells.length=j.size/\K (.imm (xs.getD i.toNat default).cells)
  | .ms id n=>(0≤i/\i<n)/\K (.box id (i.toNat*j.size))
  | _=>False)
 | some (.array n e),.int _ i=>aL (S.tab e) λj=>(match x with
  | .box id o=>(0≤i/\i<n)/\K (.box id (o+i.toNat*j.size))
  | .imm cs=>(0≤i/\i<n)/\K (.imm (cs.drop (i.toNat*j.size)))
  | _=>False)
 | _,_=>False
theorem aWR(e:TypeId)(k:IntKind)(i:Int)(tk:Tk)(xs:List D):aV6 S K (some (.slice e)) (.sl tk xs) (.int k i)=aL (S.tab e) λj=>(0≤i/\i<xs.length)/\(xs.getD i.toNat default).cells.length=j.size/\K (.imm (xs.getD i.toNat default).cells):=rfl
theorem aQM(n:Nat)(e:TypeId)(k:IntKind)(i:Int)(id o:Nat):aV6 S K (some (.array n e)) (.box id o) (.int k i)=aL (S.tab e) λj=>(0≤i/\i<n)/\K (.box id (o+i.toNat*j.size)):=rfl
theorem aWc(e:TypeId)(k:IntKind)(i:Int)(id n:Nat):aV6 S K (some (.slice e)) (.ms id n) (.int k i)=aL (S.tab e) λj=>(0≤i/\i<n)/\K (.box id (i.toNat*j.size)):=rfl
theorem aFU(t:TypeId)(x ix:D):eN S t x ix K=aV6 S K (S.kd t) x ix:=rfl
def aS5(k:Option TK)(x:D):Prop:=match k,x with
 | some (.slice _),.sl _ xs=>K (.int .i64 xs.length)
 | some (.slice _),.ms _ n=>K (.int .i64 n)
 | some .string,.str s=>K (.int .i64 s.size)
 | _,_=>False
theorem aVz(e:TypeId)(tk:Tk)(xs:List D):aS5 K (some (.slice e)) (.sl tk xs)=K (.int .i64 xs.length):=rfl
theorem aUI(e:TypeId)(id n:Nat):aS5 K (some (.slice e)) (.ms id n)=K (.int .i64 n):=rfl
theorem aWM(t:TypeId)(x:D):aDf S t x K=aS5 K (S.kd t) x:=rfl
def slK(k:Option TK)(x:D)(lo hi mx:Option Int):Prop:=match k,x with
 | some (.slice e),.sl _ xs=>aL (S.tab e) λj =>
  (match mx with|none=>True|some m=>m=hi.getD xs.length) ∧
  (0≤lo.getD 0/\lo.getD 0≤hi.getD xs.length/\hi.getD xs.length≤xs.length)/\(∀d∈xs,d.cells.length=j.size) ∧
  K (.sl (match mx with|none=>.any|some _=>.full) ((xs.take (hi.getD xs.length).toNat).drop (lo.getD 0).toNat))
 | some (.slice e),.ms id n=>(S.tab e).isSome=true/\(mx=none/\lo=none)/\(0≤hi.getD n/\hi.getD n≤n)/\K (.ms id (hi.getD n).toNat)
 | some .string,.str s=>mx=none/\(0≤lo.getD 0/\lo.getD 0≤hi.getD s.size/\hi.getD s.size≤s.size) ∧
  K (.str (s.extract (lo.getD 0).toNat (hi.getD s.size).toNat))
 | _,_=>False
theorem aYr(e:TypeId)(tk:Tk)(xs:List D)(lo hi:Option Int):slK S K (some (.slice e)) (.sl tk xs) lo hi none=aL (S.tab e) λj=>True ∧
  (0≤lo.getD 0/\lo.getD 0≤hi.getD xs.length/\hi.getD xs.length≤xs.length)/\(∀d∈xs,d.cells.length=j.size) ∧
  K (.sl .any ((xs.take (hi.getD xs.length).toNat).drop (lo.getD 0).toNat)):=rfl
theorem aZu(e:TypeId)(id n:Nat)(hi:Option Int):slK S K (some (.slice e)) (.ms id n) none hi none=((S.tab e).isSome=true/\(True/\True)/\(0≤hi.getD n/\hi.getD n≤n)/\K (.ms id (hi.getD n).toNat)):=by simp[slK]
theorem aSd(t:TypeId)(x:D)(lo hi mx:Option Int):oP S t x lo hi mx K=slK S K (S.kd t) x lo hi mx:=rfl
def aHY(i:TyI)(ps:List (Nat×D)):Prop:=match i.kind with
 | .struct fs=>aL (yA S fs (i.zero.map ZK.d) ps) λcs=>K (.agg cs)
 | .array _ e=>aL (S.tab e) λ_=>ps=[]/\K (.agg (i.zero.map ZK.d))
 | _=>False
theorem aGk(n:Nat)(e:TypeId)(b:Nat)(z:List ZK)(ps:List (Nat×D)):aHY S K ⟨.array n e,b,z⟩ ps=aL (S.tab e) λ_=>ps=[]/\K (.agg (z.map ZK.d)):=rfl
theorem aEX(fs:List (Nat×TypeId))(b:Nat)(z:List ZK)(ps:List (Nat×D)):aHY S K ⟨.struct fs,b,z⟩ ps=aL (yA S fs (z.map ZK.d) ps) λcs=>K (.agg cs):=rfl
theorem aQg(t:TypeId)(ps:List (Nat×D)):sN S t ps K=aL (S.tab t) λi=>aHY S K i ps:=rfl
def bAf(k:Option TK)(n:Nat)(ps:List (Nat×D)):Prop:=match k with
 | some (.slice e)=>aL (S.tab e) λj=>ps.map (·.1)=List.range n/\n*j.size≤16777216/\(n=0∨0<j.size) ∧
  (∀p∈ps,p.2.cells.length=j.size/\∀c∈p.2.strip.cells,c.memOk=true)/\K (.sl .full (ps.map (·.2.strip)))
 | _=>False
theorem aNI(e:TypeId)(n:Nat)(ps:List (Nat×D)):bAf S K (some (.slice e)) n ps=aL (S.tab e) λj=>ps.map (·.1)=List.range n/\n*j.size≤16777216/\(n=0∨0<j.size) ∧
  (∀p∈ps,p.2.cells.length=j.size/\∀c∈p.2.strip.cells,c.memOk=true)/\K (.sl .full (ps.map (·.2.strip))):=rfl
theorem aEz(t:TypeId)(n:Nat)(ps:List (Nat×D)):gZ S t n ps K=bAf S K (S.kd t) n ps:=rfl
theorem aRQ(id o:Nat):aS1 (.box id o) K=K (.box id o):=rfl
theorem aQB(i:Nat)(ds:List D):aVP i (.tup ds) K=aL ds[i]? K:=rfl
end yeqs
section yeqsL
variable (S:Setup) (N:LS->Prop)
theorem aNj        (L : LS) (t : Option Nat) (ty : TypeId) (id off : Nat) (d : D) : aJa    S L t ty (.box id off) d N = aL    (look L.boxes id) fun cs => aL    (S.tab ty) fun i => (d.cells.length = i.size ∧ off + d.cells.length ≤ cs.length ∧ d.cells.all D.one = true ∧ fG    t L) ∧
   N ({L with boxes:=eU L.boxes id (aQ5 cs off d.cells)}.putO t (.raw undef)):=rfl
def mkK(base:Nat)(L:LS)(t:Nat)(k:Option TK)(n m:Int)(same:Bool):Prop:=match k,same with
 | some (.slice e),true=>aL (S.tab e) λi=>(t<L.n/\base+t∉L.fix/\0≤n/\n=m)/\(i.bytes:Int)*n≤281474976710656/\n≤9223372036854775807/\0<i.size ∧
   N (L.newBox t (base+t) (List.replicate n.toNat (i.zero.map ZK.d)).flatten (.ms (base+t) n.toNat))
 | some (.slice e),false=>aL (S.tab e) λi=>(t<L.n/\0<i.size/\n=0/\0≤m/\(L.purge (λk=>k==1000*(t+1))).clean (λk=>k==1000*(t+1))=true)/\(i.bytes:Int)*m≤281474976710656/\m≤9223372036854775807 ∧
   N ({L.purge (λk=>k==1000*(t+1)) with toks:=1000*(t+1)::L.toks}.put t (.sl (.own (1000*(t+1)) e i.size) []))
 | _,_=>False
theorem aUk      (base : Nat) (L : LS) (t : Nat) (e : TypeId) (n m : Int) : mkK S N base L t (some (.slice e)) n m true = aL    (S.tab e) fun i => (t < L.n ∧ base + t ∉ L.fix ∧ 0 ≤ n ∧ n = m) ∧ (i.bytes : Int) * n ≤ 281474976710656 ∧ n ≤ 9223372036854775807 ∧ 0 < i.size ∧
   N (L.newBox t (base+t) (List.replicate n.toNat (i.zero.map ZK.d)).flatten (.ms (base+t) n.toNat)):=rfl
theorem aQn(base:Nat)(L:LS)(t:Nat)(ty:TypeId)(same:Bool)(k k':IntKind)(n m:Int):aAU S base L t ty same (.int k n) (.int k' m) N=mkK S N base L t (S.kd ty) n m same:=by
 cases h:S.kd ty with
 | none=>simp[aAU,mkK,h]
 | some q=>cases q<;>cases same<;>simp[aAU,mkK,h]
def apK(L:LS)(t:Nat)(k:Option TK)(tk:Tk)(xs ys:List D):Prop:=match k with
 | some (.slice e)=>aL (S.tab e) λi=>(t<L.n/\0<i.size/\(L.purge (λk=>k==1000*(t+1))).clean (λk=>k==1000*(t+1))=true)/\n6 xs ys L.toks e i.size tk ∧
   (∀x∈xs,x.cells.length=i.size)/\(∀x∈ys,x.cells.length=i.size)/\(xs.length+ys.length)*i.bytes≤140737488355328/\xs.length+ys.length≤140737488355328 ∧
   N ({L.purge (λk=>k==1000*(t+1)) with toks:=1000*(t+1)::jH tk L.toks}.put t (.sl (.own (1000*(t+1)) e i.size) (xs++ys)))
 | _=>False
theorem aQ7       (L : LS) (t : Nat) (e : TypeId) (tk : Tk) (xs ys : List D) : apK S N L t (some (.slice e)) tk xs ys = aL    (S.tab e) fun i => (t < L.n ∧ 0 < i.size ∧ (L.purge (fun k => k == 1000 * (t + 1))).clean (fun k => k == 1000 * (t + 1)) = true) ∧ n6         xs ys L.toks e i.size tk ∧
   (∀x∈xs,x.cells.length=i.size)/\(∀x∈ys,x.cells.length=i.size)/\(xs.length+ys.length)*i.bytes≤140737488355328/\xs.length+ys.length≤140737488355328 ∧
   N ({L.purge (λk=>k==1000*(t+1)) with toks:=1000*(t+1)::jH tk L.toks}.put t (.sl (.own (1000*(t+1)) e i.size) (xs++ys))):=rfl
theorem aNu(L:LS)(t:Nat)(ty:TypeId)(tk tk':Tk)(xs ys:List D):w7 S L t ty [.sl tk xs,.sl tk' ys] N=apK S N L t (S.kd ty) tk xs ys:=by
 cases h:S.kd ty with
 | none=>simp[w7,apK,h]
 | some q=>cases q<;>simp[w7,apK,h]
end yeqsL
theorem aR2(L:LS)(t:Nat):aM L (.tmp t)=look L.env t:=rfl
theorem aKM(L:LS)(v:Value):aM L (.const v)=tP v:=rfl
theorem aNr(k:IntKind)(n:Int):tP (.int k n)=some (.int k n):=rfl
theorem aLA(b:Bool):tP (.bool b)=some (.bool b):=rfl
theorem aM9:tP (.slice none 0 0)=some (.sl .nil []):=rfl
def pD(want:Bool):Option D->Option Bool
 | some (.bool b)=>(match b,want with
  | true,true=>some true
  | false,false=>some true
  | true,false=>some false
  | false,true=>some false)
 | some (.raw (.tuple _))=>some false
 | _=>none
theorem aRn:pD true (some (.bool true))=some true:=rfl
theorem aRg:pD true (some (.bool false))=some false:=rfl
theorem aRK:pD false (some (.bool true))=some false:=rfl
theorem aR6:pD false (some (.bool false))=some true:=rfl
theorem aFZ(b:Bool):pD b (some (.raw undef))=some false:=rfl
theorem uG(ops:Array Oper)(L:LS)(j:Nat)(want:Bool):bQ ops L (some (j,want))=match (ops[j]?).bind (·.dst) with|none=>none|some t=>pD want (L.get t):=by
 unfold bQ;simp only;cases (ops[j]?).bind (·.dst) with
 | none=>rfl
 | some t =>
  simp only;cases hx:L.get t with
  | none=>rfl
  | some d =>
   cases d<;>first|rfl|(rename_i b;cases b<;>cases want<;>rfl)|(rename_i v;cases v<;>rfl)

theorem aHK{α:Type}{l:List (Nat×α)}{t:Nat}{d:α}(h:look l t=some d):eU l t d=l:=by
 induction l with
 | nil=>cases h
 | cons p r ih =>
  obtain⟨k,x⟩:=p;simp only[look] at h;by_cases e:k=t
  ·simp only[e,if_true,Option.some.injEq] at h;subst h;subst e;simp[eU]
  ·rw[if_neg e] at h;simp[eU,e,ih h]
theorem aMI{S}{base:Nat}{ops}{K:List Oper->LS->Prop}{l}{L:LS}(t:Nat){b:Bool}(ht:L.get t=some (.bool b))(h1:b=true->bA S base ops K l (L.put t (.bool true)))(h0:b=false->bA S base ops K l (L.put t (.bool false))):bA S base ops K l L:=by
 have e:L.put t (.bool b)=L:=by
  show {L with env:=eU L.env t (.bool b)}=L;rw[aHK ht]
 rw[←e];cases b with
 | true=>exact h1 rfl
 | false=>exact h0 rfl

variable {S:Setup} {B:Base} {R:LS->Prop} {k:List VItem} {L:LS}
def aCI(ks:List Nat):List (Nat×D)->List (Nat×D)
 | []=>[]
 | (k,d)::r=>if ks.contains k=true then (k,d)::aCI ks r else aCI ks r
def LS.keep(L:LS)(ks:List Nat):LS:={L with env:=aCI ks L.env}
theorem aOH(ks:List Nat)(l:List (Nat×D))(t:Nat):look (aCI ks l) t=if ks.contains t=true then look l t else none:=by
 induction l with
 | nil=>simp[aCI,look]
 | cons p r ih =>
  obtain⟨k,d⟩:=p;by_cases h:ks.contains k=true
  ·simp only[aCI,h,if_true,look,ih];by_cases h2:k=t
   ·subst h2;simp only[h,if_true]
   ·simp[h2]
  ·simp only[aCI];rw[if_neg h,ih];simp only[look];by_cases h2:k=t
   ·subst h2;simp only[if_neg h]
   ·simp[h2]
theorem aVY{B}{L:LS}{G a w}(h:Sim B L G a w)(ks:List Nat):Sim B (L.keep ks) G a w:=by
 refine⟨h.defers,h.size,λt d hd=>?_,h.W,h.fixed⟩;simp only[LS.keep,aOH] at hd;split at hd
 ·exact h.env t d hd
 ·cases hd
theorem aW2(ks:List Nat)(h:SW S B R k (L.keep ks)):SW S B R k L:=λG a w hs=>h G a w (aVY hs ks)

def wY:Op->Bool
 | .alloc _=>true
 | .store _ _ _=>true
 | op=>r9 op
section eqsQ
variable (S:Setup) (ops:Array Oper) (K:List Oper->LS->Prop) (l:List Oper) (L:LS) (dst:Option Nat) (ty:TypeId) (pos:String) (aft:Array Edge)
def lE(d:D):Prop:=fG dst L/\bC S ops K l (L.putO dst d)
theorem aMA(t:Nat)(d:D):lE S ops K l L (some t) d=(t<L.n/\bC S ops K l (L.put t d)):=rfl
theorem iY(op:Op)(h:∀f args tys,op≠.call ⟨.value f,args,tys⟩)(h2:∀T,op≠.alloc T)(h3:∀T x y,op≠.store T x y):bC S ops K (⟨dst,op,ty,pos,aft,none⟩::l) L=opY S op (aM L) L.getBox (lE S ops K l L dst):=by
 conv=>lhs;unfold bC
 split
 ·exact absurd rfl (h _ _ _)
 ·exact absurd rfl (h2 _)
 ·exact absurd rfl (h3 _ _ _)
 ·rfl
theorem aRz(op:Op)(p:Nat×Bool)(hc:wY op=false)(h:bQ ops L (some p)=some true):bC S ops K (⟨dst,op,ty,pos,aft,some p⟩::l) L=bC S ops K (⟨dst,op,ty,pos,aft,none⟩::l) L:=by
 rw[iY]
 ·conv=>lhs;unfold bC
  split
  ·cases hc
  ·cases hc
  ·cases hc
  ·rw[h];rfl
 ·intro f args tys e;subst e;cases hc
 ·intro T e;subst e;cases hc
 ·intro T x y e;subst e;cases hc
theorem aRy(op:Op)(p:Nat×Bool)(hc:wY op=false)(h:bQ ops L (some p)=some false):bC S ops K (⟨dst,op,ty,pos,aft,some p⟩::l) L=lE S ops K l L dst (.raw undef):=by
 conv=>lhs;unfold bC
 split
 ·cases hc
 ·cases hc
 ·cases hc
 ·rw[h];rfl
def bZ(o:Oper):Option Bool->Prop
 | some true=>bC S ops K (⟨o.dst,o.op,o.type,o.pos,o.after,none⟩::l) L
 | some false=>lE S ops K l L o.dst (.raw undef)
 | none=>bC S ops K (o::l) L
theorem aWD(o:Oper):bZ S ops K l L o (some true)=bC S ops K (⟨o.dst,o.op,o.type,o.pos,o.after,none⟩::l) L:=rfl
theorem aWX(o:Oper):bZ S ops K l L o (some false)=lE S ops K l L o.dst (.raw undef):=rfl
theorem aKu(op:Op)(p:Nat×Bool)(hc:wY op=false):bC S ops K (⟨dst,op,ty,pos,aft,some p⟩::l) L=bZ S ops K l L ⟨dst,op,ty,pos,aft,some p⟩ (bQ ops L (some p)):=by
 cases h:bQ ops L (some p) with
 | none=>rfl
 | some b=>cases b with
  | true=>exact aRz S ops K l L dst ty pos aft op p hc h
  | false=>exact aRy S ops K l L dst ty pos aft op p hc h
abbrev aDH (op:Op):Prop:=∀S ops K l L dst ty pos aft (p:Nat×Bool),bC S ops K (⟨dst,op,ty,pos,aft,some p⟩::l) L=bZ S ops K l L ⟨dst,op,ty,pos,aft,some p⟩ (bQ ops L (some p))
theorem aFQ{op:Op}(h:wY op=false):aDH op:=λS ops K l L dst ty pos aft p=>aKu S ops K l L dst ty pos aft op p h
theorem aJP{x}:aDH (.move x):=aFQ rfl
theorem aKN{a b c}:aDH (.pick a b c):=aFQ rfl
theorem aLa{t x}:aDH (.load t x):=aFQ rfl
theorem aDm{x}:aDH (.nilCheck x):=aFQ rfl
theorem aIO{o t u x y}:aDH (.binOp o t x y u):=aFQ rfl
theorem aMo{o t x}:aDH (.unOp o t x):=aFQ rfl
theorem aIM{t x a b c}:aDH (.slice t x a b c):=aFQ rfl
theorem aBL{t x n}:aDH (.fieldAddr t x n):=aFQ rfl
theorem aBh{t x y}:aDH (.indexAddr t x y):=aFQ rfl
theorem aKf{b a tys}:aDH (.call ⟨.builtin b,a,tys⟩):=aFQ rfl
theorem aMZ(T:TypeId)(g:Option (Nat×Bool)):bC S ops K (⟨dst,.alloc T,ty,pos,aft,g⟩::l) L=K (⟨dst,.alloc T,ty,pos,aft,g⟩::l) L:=rfl
theorem aN8(T:TypeId)(x y:Operand)(g:Option (Nat×Bool)):bC S ops K (⟨dst,.store T x y,ty,pos,aft,g⟩::l) L=K (⟨dst,.store T x y,ty,pos,aft,g⟩::l) L:=rfl
theorem aTs:bC S ops K [] L=K [] L:=rfl
theorem aRR(f:Operand)(args:Array Operand)(tys:Array TypeId)(g:Option (Nat×Bool)):bC S ops K (⟨dst,.call ⟨.value f,args,tys⟩,ty,pos,aft,g⟩::l) L=K (⟨dst,.call ⟨.value f,args,tys⟩,ty,pos,aft,g⟩::l) L:=rfl

theorem aQ1(x:Operand):bC S ops K (⟨dst,.move x,ty,pos,aft,none⟩::l) L=aL (aM L x) (lE S ops K l L dst) :=
 iY S ops K l L dst ty pos aft _ (by intro _ _ _ h;cases h) (by intro _ h;cases h) (by intro _ _ _ h;cases h)
theorem aKn(x:Operand):bC S ops K (⟨dst,.assign x,ty,pos,aft,none⟩::l) L=aL (aM L x) (lE S ops K l L dst) :=
 iY S ops K l L dst ty pos aft _ (by intro _ _ _ h;cases h) (by intro _ h;cases h) (by intro _ _ _ h;cases h)
theorem aR0(c x y:Operand):bC S ops K (⟨dst,.pick c x y,ty,pos,aft,none⟩::l) L=aL (aM L c) λd=>aP3 (aM L) x y d (lE S ops K l L dst):=by
 rw[iY S ops K l L dst ty pos aft _ (by intro _ _ _ h;cases h) (by intro _ h;cases h) (by intro _ _ _ h;cases h)];congr 1
 show opY S (.pick c x y) (aM L) L.getBox _=_;unfold opY;simp only;congr 1
 funext d
 cases d<;>first|rfl|(rename_i b;cases b<;>rfl)
theorem aSc(t:TypeId)(x:Operand):bC S ops K (⟨dst,.load t x,ty,pos,aft,none⟩::l) L=aL (aM L x) λd=>yX S t L.getBox d (lE S ops K l L dst) :=
 iY S ops K l L dst ty pos aft _ (by intro _ _ _ h;cases h) (by intro _ h;cases h) (by intro _ _ _ h;cases h)
theorem aGg(x:Operand):bC S ops K (⟨dst,.nilCheck x,ty,pos,aft,none⟩::l) L=aL (aM L x) λd=>aS1 d (lE S ops K l L dst):=by
 rw[iY S ops K l L dst ty pos aft _ (by intro _ _ _ h;cases h) (by intro _ h;cases h) (by intro _ _ _ h;cases h)];congr 1
theorem aNR(o:BinOp)(t u:TypeId)(x y:Operand):bC S ops K (⟨dst,.binOp o t x y u,ty,pos,aft,none⟩::l) L=aL (aM L x) λdx=>aL (aM L y) λdy=>aGe S o t dx dy (lE S ops K l L dst) :=
 iY S ops K l L dst ty pos aft _ (by intro _ _ _ h;cases h) (by intro _ h;cases h) (by intro _ _ _ h;cases h)
theorem aQ2(o:UnOp)(t:TypeId)(x:Operand):bC S ops K (⟨dst,.unOp o t x,ty,pos,aft,none⟩::l) L=aL (aM L x) λd=>unY o d (lE S ops K l L dst) :=
 iY S ops K l L dst ty pos aft _ (by intro _ _ _ h;cases h) (by intro _ h;cases h) (by intro _ _ _ h;cases h)
theorem aEs(t:TypeId)(x:Operand)(f:Nat):bC S ops K (⟨dst,.fieldAddr t x f,ty,pos,aft,none⟩::l) L=aL (aM L x) λd=>eO S t f d (lE S ops K l L dst) :=
 iY S ops K l L dst ty pos aft _ (by intro _ _ _ h;cases h) (by intro _ h;cases h) (by intro _ _ _ h;cases h)
theorem aDG(t:TypeId)(x i:Operand):bC S ops K (⟨dst,.indexAddr t x i,ty,pos,aft,none⟩::l) L=aL (aM L x) λdx=>aL (aM L i) λdi=>eN S t dx di (lE S ops K l L dst) :=
 iY S ops K l L dst ty pos aft _ (by intro _ _ _ h;cases h) (by intro _ h;cases h) (by intro _ _ _ h;cases h)
theorem aNG        (t : TypeId) (x : Operand) (lo hi mx : Option Operand) : bC   S ops K (⟨dst, .slice t x lo hi mx, ty, pos, aft, none⟩ :: l) L = aL    (aM    L x) fun d => aL    (lU     (lo.bind (aM    L))) fun l' => aL    (lU     (hi.bind (aM    L))) fun h => aL    (lU     (mx.bind (aM    L))) fun m =>
   ((lo.isSome=l'.isSome/\hi.isSome=h.isSome/\mx.isSome=m.isSome)/\(mx.isSome=true->hi.isSome=true))/\oP S t d l' h m (lE S ops K l L dst) :=
 iY S ops K l L dst ty pos aft _ (by intro _ _ _ h;cases h) (by intro _ h;cases h) (by intro _ _ _ h;cases h)
theorem aOd(t:TypeId)(ps:Array (Nat×Operand)):bC S ops K (⟨dst,.build t ps,ty,pos,aft,none⟩::l) L=aL (uV (aM L) ps.toList) λq=>sN S t q (lE S ops K l L dst) :=
 iY S ops K l L dst ty pos aft _ (by intro _ _ _ h;cases h) (by intro _ h;cases h) (by intro _ _ _ h;cases h)
theorem aDh(t:TypeId)(n:Nat)(ps:Array (Nat×Operand)):bC S ops K (⟨dst,.buildSlice t n ps,ty,pos,aft,none⟩::l) L=aL (uV (aM L) ps.toList) λq=>gZ S t n q (lE S ops K l L dst) :=
 iY S ops K l L dst ty pos aft _ (by intro _ _ _ h;cases h) (by intro _ h;cases h) (by intro _ _ _ h;cases h)
theorem aJk(x:Operand)(i:Nat):bC S ops K (⟨dst,.extract x i,ty,pos,aft,none⟩::l) L=aL (aM L x) λd=>aVP i d (lE S ops K l L dst):=by
 rw[iY S ops K l L dst ty pos aft _ (by intro _ _ _ h;cases h) (by intro _ h;cases h) (by intro _ _ _ h;cases h)];congr 1
theorem aVg(x:Operand)(t:TypeId):bC S ops K (⟨dst,.call ⟨.builtin .len,#[x],#[t]⟩,ty,pos,aft,none⟩::l) L=aL (aM L x) λd=>aDf S t d (lE S ops K l L dst):=by
 rw[iY S ops K l L dst ty pos aft _ (by intro _ _ _ h;cases h) (by intro _ h;cases h) (by intro _ _ _ h;cases h)];congr 1
 show opY S (.call ⟨.builtin .len,#[x],#[t]⟩) (aM L) L.getBox _=_;unfold opY;simp only[fQ];cases aM L x<;>rfl
end eqsQ
theorem aOX{S ops}{K:List Oper->LS->Prop}{l}{L:LS}(t:Nat){b:Bool}(ht:L.get t=some (.bool b))(h1:b=true->bC S ops K l (L.put t (.bool true)))(h0:b=false->bC S ops K l (L.put t (.bool false))):bC S ops K l L:=by
 have e:L.put t (.bool b)=L:=by
  show {L with env:=eU L.env t (.bool b)}=L;rw[aHK ht]
 rw[←e];cases b with
 | true=>exact h1 rfl
 | false=>exact h0 rfl

theorem aOY{S ops}{K:List Oper->LS->Prop}{l}{L:LS}{o:Oper}{g:Option Bool}{p:Nat×Bool}(hp:o.guard=some p){t:Nat}(hj:(ops[p.1]?).bind (·.dst)=some t){b:Bool}(ht:L.get t=some (.bool b))(hc:wY o.op=false)(hg:g=pD p.2 (L.get t))(h1:b=true->bC S ops K (o::l) (L.put t (.bool true)))(h0:b=false->bC S ops K (o::l) (L.put t (.bool false))):bZ S ops K l L o g:=by
 have h:=aOX t ht h1 h0;obtain⟨dst,op,ty,pos,aft,g'⟩:=o;simp only at hp;subst hp;rw[aKu S ops K l L dst ty pos aft op p hc] at h;obtain⟨j,want⟩:=p;simp only[uG] at h;simp only at hj;rw[hj] at h;rw[hg];exact h
theorem aQJ{S}{base:Nat}{ops}{K:List Oper->LS->Prop}{l}{L:LS}{o:Oper}{g:Option Bool}{p:Nat×Bool}(hp:o.guard=some p){t:Nat}(hj:(ops[p.1]?).bind (·.dst)=some t){b:Bool}(ht:L.get t=some (.bool b))(hc:r9 o.op=false)(hg:g=pD p.2 (L.get t))(h1:b=true->bA S base ops K (o::l) (L.put t (.bool true)))(h0:b=false->bA S base ops K (o::l) (L.put t (.bool false))):dM S base ops K l L o g:=by
 have h:=aMI t ht h1 h0;obtain⟨dst,op,ty,pos,aft,g'⟩:=o;simp only at hp;subst hp;rw[aJ5 S base ops K l L dst ty pos aft op p hc] at h;obtain⟨j,want⟩:=p;simp only[uG] at h;simp only at hj;rw[hj] at h;rw[hg];exact h
def LS.keepAt(L:LS)(kp:List (Nat×List Nat))(id:Nat):LS:=match look kp id with
 | some ks=>L.keep ks
 | none=>L
theorem gV{S B}{R:LS->Prop}{k:List VItem}{L:LS}(kp:List (Nat×List Nat))(id:Nat)(h:SW S B R k (L.keepAt kp id)):SW S B R k L:=by
 unfold LS.keepAt at h;split at h
 ·exact aW2 _ h
 ·exact h

structure KOk (S:Setup) (base:Nat) (B:Base) (ops:Array Oper) (N:LS->Prop) (K:List Oper->LS->Prop):Prop where
 nil:∀ {L},N L->K [] L
 raw:∀ {l L},aK S B ops l L N->K l L
 weak:∀ {l L L'},L.covers L'->bA S base ops K l L'->K l L
 split:∀ {l L} (t:Nat) {b:Bool},L.get t=some (.bool b)->(b=true->bA S base ops K l (L.put t (.bool true)))->(b=false->bA S base ops K l (L.put t (.bool false)))->K l L
 skip:∀ {o l L},bQ ops L o.guard=some false->fG o.dst L->bA S base ops K l (L.putO o.dst (.raw undef))->K (o::l) L
 call:∀ {l:List Oper} {L:LS} {dst:Option Nat} {f:Operand} {args:Array Operand} {tys:Array TypeId} {ty:TypeId} {pos:String} {aft:Array Edge} {g:Option (Nat×Bool)}
  (_:bQ ops L g=some true) {fid:Nat} {cap ds:List D} {ro:List (Nat×List D)} {d:D} (_:aM L f=some (.fn fid cap)) (_:fQ (aM L) args.toList=some ds) (_:FC S fid ro [] [] (ds++cap) d [] [])
  (_:(∀p∈ro,L.getBox p.1=some p.2)/\d.ids=[]/\d.tks=[]/\fG dst L) (_:bA S base ops K l (L.putO dst d)),K (⟨dst,.call ⟨.value f,args,tys⟩,ty,pos,aft,g⟩::l) L
 callB:∀ {l:List Oper} {L:LS} {t:Nat} {f:Operand} {args:Array Operand} {tys:Array TypeId} {ty:TypeId} {pos:String} {aft:Array Edge} {g:Option (Nat×Bool)}
  (_:bQ ops L g=some true) {fid:Nat} {cap ds:List D} {ro cx cx':List (Nat×List D)} {tk0 tk':List Nat} {d:D} (_:aM L f=some (.fn fid cap)) (_:fQ (aM L) args.toList=some ds) (_:FC S fid ro cx tk0 (ds++cap) d cx' tk')
  (_:(t<L.n/\(∀p∈ro,L.getBox p.1=some p.2/\p.1∉cx.map (·.1))/\(∀p∈cx,look L.boxes p.1=some p.2)/\(∀k∈tk0,k∈L.toks)/\(∀p∈cx',p.1∈cx.map (·.1)))/\((∀i∈d.ids,i∈cx.map (·.1))/\(∀p∈cx',∀i∈D.idsL p.2,i∈cx.map (·.1)) ∧
   (∀k∈d.tks,k∈tk')/\(∀p∈cx',∀k∈D.tksL p.2,k∈tk')/\(∀k∈tk',k<1000))/\L.clean (dR (1000*(t+1)))=true)
  (_:bA S base ops K l ((L.after (1000*(t+1)) cx tk0 cx' tk').put t (d.shT (1000*(t+1))))),K (⟨some t,.call ⟨.value f,args,tys⟩,ty,pos,aft,g⟩::l) L
 callT:∀ {l:List Oper} {L:LS} {t:Nat} {f:Operand} {args:Array Operand} {tys:Array TypeId} {ty:TypeId} {pos:String} {aft:Array Edge} {g:Option (Nat×Bool)}
  (_:bQ ops L g=some true) {fid:Nat} {cap ds:List D} {ro:List (Nat×List D)} {ys:List Int} {e0:TypeId} {z0:Nat} (_:aM L f=some (.fn fid cap)) (_:fQ (aM L) args.toList=some ds) (_:FC S fid ro [] [] (ds++cap) (.sl (.own 0 e0 z0) (ys.map (.int .i64))) [] [0])
  (_:(t<L.n/\base+t∉L.fix/\(∀p∈ro,L.getBox p.1=some p.2))/\ys≠[])
  (_:bA S base ops K l ((L.thawed (base+t) (ys.map (.int .i64))).put t (.ms (base+t) ys.length))),K (⟨some t,.call ⟨.value f,args,tys⟩,ty,pos,aft,g⟩::l) L
 callM:∀ {l:List Oper} {L:LS} {t:Nat} {f:Operand} {args:Array Operand} {tys:Array TypeId} {ty:TypeId} {pos:String} {aft:Array Edge} {g:Option (Nat×Bool)}
  (_:bQ ops L g=some true) {fid:Nat} {cap ds:List D} {ro:List (Nat×List D)} {cs0:List D} {j0 n0:Nat} (_:aM L f=some (.fn fid cap)) (_:fQ (aM L) args.toList=some ds) (_:FC S fid ro [] [] (ds++cap) (.ms j0 n0) [(j0,cs0)] [])
  (_:(t<L.n/\base+t∉L.fix/\(∀p∈ro,L.getBox p.1=some p.2))/\∀d∈cs0,d.memOk=true)
  (_:bA S base ops K l ((L.thawed (base+t) cs0).put t (.ms (base+t) n0))),K (⟨some t,.call ⟨.value f,args,tys⟩,ty,pos,aft,g⟩::l) L

theorem KOk.fork{S}{base:Nat}{B ops}{N:LS->Prop}{K:List Oper->LS->Prop}(hK:KOk S base B ops N K){l:List Oper}{L:LS}{o:Oper}{p:Nat×Bool}(_:o.guard=some p){t:Nat}(_:(ops[p.1]?).bind (·.dst)=some t){b:Bool}(ht:L.get t=some (.bool b))(h1:b=true->bA S base ops K (o::l) (L.put t (.bool true)))(h0:b=false->bA S base ops K (o::l) (L.put t (.bool false))):K (o::l) L :=
 hK.split t ht h1 h0
section
variable {S:Setup} {B:Base} {R:LS->Prop} {k:List VItem} {L:LS}
theorem aE(base:Nat)(kp:List (Nat×List Nat)){id:Nat}{l:List Oper}(h:∀K:List Oper->LS->Prop,KOk S base B l.toArray (λL'=>SW S B R k (L'.keepAt kp id)) K->bA S base l.toArray K l L):SW S B R (.code (.region id l.toArray false)::k) L:=by
 have hs:∀l' L',bA S base l.toArray (λl' L'=>aK S B l.toArray l' L' (λL2=>SW S B R k L2)) l' L'->aK S B l.toArray l' L' (λL2=>SW S B R k L2) :=
  nV (base:=base) (K':=λl' L'=>aK S B l.toArray l' L' (λL2=>SW S B R k L2)) (λ_ _ h=>h)
 refine aB8 (hs _ _ (h _ ?_));exact {
  nil:=λh=>aK.nil (gV kp id h)
  raw:=λh=>h.mono λ_ h'=>gV kp id h'
  weak:=λhc h=>aK.weak hc (hs _ _ h)
  split:=λt _ ht h1 h0=>aK.split t ht (λe=>hs _ _ (h1 e)) (λe=>hs _ _ (h0 e))
  skip:=λhg hd h=>aK.skip hg hd (hs _ _ h)
  call:=λhg _ _ _ _ _ hf hds fc hside h=>aK.call hg hf hds fc hside (hs _ _ h)
  callB:=λhg _ _ _ _ _ _ _ _ _ hf hds fc hside h=>aK.callB hg hf hds fc hside (hs _ _ h)
  callT:=λhg _ _ _ _ _ _ _ hf hds fc hside h=>aK.callTi hg (base+_) hf hds fc hside (hs _ _ h)
  callM:=λhg _ _ _ _ _ _ _ hf hds fc hside h=>aK.callM hg (base+_) hf hds fc hside (hs _ _ h)}

structure QOk (S:Setup) (ops:Array Oper) (N:LS->Prop) (K:List Oper->LS->Prop):Prop where
 nil:∀ {L},N L->K [] L
 split:∀ {l L} (t:Nat) {b:Bool},L.get t=some (.bool b)->(b=true->bC S ops K l (L.put t (.bool true)))->(b=false->bC S ops K l (L.put t (.bool false)))->K l L
 skip:∀ {o l L},bQ ops L o.guard=some false->fG o.dst L->bC S ops K l (L.putO o.dst (.raw undef))->K (o::l) L
 call:∀ {l:List Oper} {L:LS} {dst:Option Nat} {f:Operand} {args:Array Operand} {tys:Array TypeId} {ty:TypeId} {pos:String} {aft:Array Edge} {g:Option (Nat×Bool)}
  (_:bQ ops L g=some true) {fid:Nat} {cap ds:List D} {ro:List (Nat×List D)} {d:D} (_:aM L f=some (.fn fid cap)) (_:fQ (aM L) args.toList=some ds) (_:FC S fid ro [] [] (ds++cap) d [] [])
  (_:(∀p∈ro,L.getBox p.1=some p.2)/\d.ids=[]/\d.tks=[]/\fG dst L) (_:bC S ops K l (L.putO dst d)),K (⟨dst,.call ⟨.value f,args,tys⟩,ty,pos,aft,g⟩::l) L

abbrev KT:=List Oper->LS->Prop
def aF0(dst:Option Nat)(n:Nat):Bool:=match dst with
 | some t=>Nat.blt t n
 | none=>true
theorem aB1{dst:Option Nat}{L:LS}(h:aF0 dst L.n=true):fG dst L:=by
 cases dst with
 | none=>trivial
 | some t=>exact Nat.blt_eq.mp h
theorem KOk.skp{S}{base:Nat}{B ops}{N:LS->Prop}{K:List Oper->LS->Prop}(hK:KOk S base B ops N K){o:Oper}{l:List Oper}{L:LS}(hg:bQ ops L o.guard=some false)(hd:aF0 o.dst L.n=true)(h:bA S base ops K l (L.putO o.dst (.raw undef))):K (o::l) L:=hK.skip hg (aB1 hd) h
theorem KOk.c0{S}{base:Nat}{B ops}{N:LS->Prop}{K:List Oper->LS->Prop}(hK:KOk S base B ops N K){l:List Oper}{L:LS}{dst:Option Nat}{f:Operand}{args:Array Operand}{tys:Array TypeId}{ty:TypeId}{pos:String}{aft:Array Edge}{g:Option (Nat×Bool)}
  (hg:bQ ops L g=some true) {fid:Nat} {cap ds:List D} {d:D} (hf:aM L f=some (.fn fid cap)) (hds:fQ (aM L) args.toList=some ds) (fc:FC S fid [] [] [] (ds++cap) d [] []) (h1:d.ids=[]) (h2:d.tks=[]) (h3:aF0 dst L.n=true)
  (h:bA S base ops K l (L.putO dst d)):K (⟨dst,.call ⟨.value f,args,tys⟩,ty,pos,aft,g⟩::l) L:=hK.call hg hf hds fc ⟨λ_ hp=>(by cases hp),h1,h2,aB1 h3⟩ h
theorem QOk.skp{S ops}{N:LS->Prop}{K:List Oper->LS->Prop}(hK:QOk S ops N K){o:Oper}{l:List Oper}{L:LS}(hg:bQ ops L o.guard=some false)(hd:aF0 o.dst L.n=true)(h:bC S ops K l (L.putO o.dst (.raw undef))):K (o::l) L:=hK.skip hg (aB1 hd) h
theorem QOk.c0{S ops}{N:LS->Prop}{K:List Oper->LS->Prop}(hK:QOk S ops N K){l:List Oper}{L:LS}{dst:Option Nat}{f:Operand}{args:Array Operand}{tys:Array TypeId}{ty:TypeId}{pos:String}{aft:Array Edge}{g:Option (Nat×Bool)}
  (hg:bQ ops L g=some true) {fid:Nat} {cap ds:List D} {d:D} (hf:aM L f=some (.fn fid cap)) (hds:fQ (aM L) args.toList=some ds) (fc:FC S fid [] [] [] (ds++cap) d [] []) (h1:d.ids=[]) (h2:d.tks=[]) (h3:aF0 dst L.n=true)
  (h:bC S ops K l (L.putO dst d)):K (⟨dst,.call ⟨.value f,args,tys⟩,ty,pos,aft,g⟩::l) L:=hK.call hg hf hds fc ⟨λ_ hp=>(by cases hp),h1,h2,aB1 h3⟩ h
theorem bAy:(∀ {α β:Type} (f:α->β),[].map f=[])/\(∀ {α β:Type} (f:α->β) (x:α) (a:List α),(x::a).map f=f x::a.map f)/\(∀ {α β:Type} (f:α->β) (a:List α),(a.map f).length=a.length)/\∀n:Nat,0+n=n :=
 ⟨λ_=>List.map_nil,λ_ _ _=>List.map_cons,λ_ _=>zC _,Nat.zero_add⟩
theorem lens:(∀ {α:Type} (a b:List α),(a++b).length=a.length+b.length)/\(∀ {α:Type} (n:Nat) (a:List α),(a.take n).length=min n a.length)/\(∀ {α:Type} (n:Nat) (a:List α),(a.drop n).length=a.length-n)/\(∀ {α:Type} (x:α) (a:List α),(x::a).length=a.length+1)/\(∀ {α:Type},([]:List α).length=0)/\∀ {α β:Type} (f:α->β) (a:List α),(a.map f).length=a.length :=
 ⟨λ_ _=>zK,λ_ _=>List.length_take,λ_ _=>List.length_drop,λ_ _=>List.length_cons,List.length_nil,λ_ _=>zC _⟩
theorem QOk.fork{S ops}{N:LS->Prop}{K:List Oper->LS->Prop}(hK:QOk S ops N K){l:List Oper}{L:LS}{o:Oper}{p:Nat×Bool}(_:o.guard=some p){t:Nat}(_:(ops[p.1]?).bind (·.dst)=some t){b:Bool}(ht:L.get t=some (.bool b))(h1:b=true->bC S ops K (o::l) (L.put t (.bool true)))(h0:b=false->bC S ops K (o::l) (L.put t (.bool false))):K (o::l) L :=
 hK.split t ht h1 h0
theorem aU(kp:List (Nat×List Nat)){id:Nat}{l:List Oper}(hB:Region.lexB .any l.toArray=true)(h:∀K:List Oper->LS->Prop,QOk S l.toArray (λL'=>SW S B R k (L'.keepAt kp id)) K->bC S l.toArray K l L):SW S B R (.code (.region id l.toArray true)::k) L:=by
 have hs:∀l' L',bC S l.toArray (λl' L'=>fP S l.toArray L (λL2=>SW S B R k L2) l' L') l' L'->fP S l.toArray L (λL2=>SW S B R k L2) l' L' :=
  mA (K':=λl' L'=>fP S l.toArray L (λL2=>SW S B R k L2) l' L') (λ_ _ h=>h)
 refine aXK hB (hs _ _ (h _ ?_));exact {
  nil:=λh=>fP.nil (gV kp id h)
  split:=λt _ ht h1 h0=>fP.split t ht (λe=>hs _ _ (h1 e)) (λe=>hs _ _ (h0 e))
  skip:=λhg hd h=>fP.skip hg hd (hs _ _ h)
  call:=λhg _ _ _ _ _ hf hds fc hside h=>fP.call hg hf hds fc hside (hs _ _ h)}
theorem iG(base:Nat)(kp:List (Nat×List Nat))(m:Nat){id:Nat}{l:List Oper}(hB:aHg .any l.toArray m=true)(h:∀Kq:List Oper->LS->Prop,QOk S l.toArray (λL'=>∀K:List Oper->LS->Prop,KOk S base B l.toArray (λL'=>SW S B R k (L'.keepAt kp id)) K->bA S base l.toArray K (l.drop m) L') Kq->bC S l.toArray Kq (l.take m) L):SW S B R (.code (.region id l.toArray true)::k) L:=by
 have hs:∀l' L',bA S base l.toArray (λl' L'=>aK S B l.toArray l' L' (λL2=>SW S B R k L2)) l' L'->aK S B l.toArray l' L' (λL2=>SW S B R k L2) :=
  nV (base:=base) (K':=λl' L'=>aK S B l.toArray l' L' (λL2=>SW S B R k L2)) (λ_ _ h=>h)
 have hq:∀l' L',bC S l.toArray (λl' L'=>fP S l.toArray L (λL2=>aK S B l.toArray (l.drop m) L2 λL3=>SW S B R k L3) l' L') l' L'->fP S l.toArray L (λL2=>aK S B l.toArray (l.drop m) L2 λL3=>SW S B R k L3) l' L' :=
  mA (K':=λl' L'=>fP S l.toArray L (λL2=>aK S B l.toArray (l.drop m) L2 λL3=>SW S B R k L3) l' L') (λ_ _ h=>h)
 intro G a w hsim;refine aCC hB (hq _ _ (h _ ?_)) hsim (λL' G' a' w' hK hs'=>hK G' a' w' hs');exact {
  nil:=λh=>fP.nil (hs _ _ (h _ {
   nil:=λh=>aK.nil (gV kp id h)
   raw:=λh=>h.mono λ_ h'=>gV kp id h'
   weak:=λhc h=>aK.weak hc (hs _ _ h)
   split:=λt _ ht h1 h0=>aK.split t ht (λe=>hs _ _ (h1 e)) (λe=>hs _ _ (h0 e))
   skip:=λhg hd h=>aK.skip hg hd (hs _ _ h)
   call:=λhg _ _ _ _ _ hf hds fc hside h=>aK.call hg hf hds fc hside (hs _ _ h)
   callB:=λhg _ _ _ _ _ _ _ _ _ hf hds fc hside h=>aK.callB hg hf hds fc hside (hs _ _ h)
   callT:=λhg _ _ _ _ _ _ _ hf hds fc hside h=>aK.callTi hg (base+_) hf hds fc hside (hs _ _ h)
   callM:=λhg _ _ _ _ _ _ _ hf hds fc hside h=>aK.callM hg (base+_) hf hds fc hside (hs _ _ h)}))
  split:=λt _ ht h1 h0=>fP.split t ht (λe=>hq _ _ (h1 e)) (λe=>hq _ _ (h0 e))
  skip:=λhg hd h=>fP.skip hg hd (hq _ _ h)
  call:=λhg _ _ _ _ _ hf hds fc hside h=>fP.call hg hf hds fc hside (hq _ _ h)}
end

structure Om (p:Prop):Prop where
 out:p
theorem aR{p:Prop}(h:p):Om p:=⟨h⟩
theorem wrap64{n:Int}(h1:-9223372036854775808≤n)(h2:n≤9223372036854775807):IntKind.i64.wrap n=n:=by
 simp[IntKind.wrap,IntKind.signed,IntKind.bits];omega

noncomputable def tst(p:Prop):Bool:=@decide p (Classical.propDecidable p)
theorem b8{p:Prop}(h:p):tst p=true:=by simp[tst,h]
theorem bV{p:Prop}(h:¬p):tst p=false:=by simp[tst,h]
theorem kM{p:Prop}:tst p=true↔p:=by simp[tst]
theorem aPA{p:Prop}:tst p=false↔¬p:=by simp[tst]
theorem lY{p q:Prop}(h:p↔q):tst p=tst q:=by rw[propext h]
theorem rO(p:Prop) [Decidable p]:decide p=tst p:=by
 by_cases h:p
 ·rw[b8 h,decide_eq_true h]
 ·rw[bV h,decide_eq_false h]

theorem aLi(p:Prop):(true=tst p)=p:=propext ⟨λh=>kM.1 h.symm,λh=>(b8 h).symm⟩
theorem aIU(p:Prop):(false=tst p)=¬p:=propext ⟨λh=>aPA.1 h.symm,λh=>(bV h).symm⟩
theorem leq{d d':D}(h:d=d'):D.le d d':=h ▸ D.le.refl d
theorem aXM(d:D):D.le d d=True:=by simp[D.le.refl]
theorem aYB(tk:Tk)(xs:List D):D.le (.sl tk xs) (.sl .any xs)=True:=by simp[D.le.any]

def aP7(env:List (Nat×D)):List (Nat×D)->Prop
 | []=>True
 | (t,d)::r=>(aL (look env t) λd'=>D.le d' d)/\aP7 env r
def oO(bx:List (Nat×List D)):List (Nat×List D)->Prop
 | []=>True
 | (t,cs)::r=>(aL (look bx t) λcs'=>cs'=cs)/\oO bx r
theorem aRh(bx:List (Nat×List D)):oO bx []=True:=rfl
theorem aNA(bx:List (Nat×List D))(t:Nat)(cs:List D)(r:List (Nat×List D)):oO bx ((t,cs)::r)=((aL (look bx t) λcs'=>cs'=cs)/\oO bx r):=rfl
theorem aGH{env:List (Nat×D)}:∀ {r:List (Nat×D)},aP7 env r->∀p∈r,∃d,look env p.1=some d/\D.le d p.2
 | [],_,p,hp=>by cases hp
 | (t,d)::r,h,p,hp=>by
  rcases zO.1 hp with e|e
  ·subst e;exact aI h.1
  ·exact aGH h.2 p e
theorem vK{bx:List (Nat×List D)}:∀ {r:List (Nat×List D)},oO bx r->∀p∈r,look bx p.1=some p.2
 | [],_,p,hp=>by cases hp
 | (t,cs)::r,h,p,hp=>by
  rcases zO.1 hp with e|e
  ·subst e;obtain⟨d,h1,h2⟩:=aI h.1;rw[h1,h2]
  ·exact vK h.2 p e
theorem aSq{L L':LS}(h1:L'.n=L.n)(h2:L'.fix=L.fix)(h3:aP7 L.env L'.env)(h4:oO L.boxes L'.boxes)(h5:oO L.ro L'.ro)(h6:∀k∈L'.toks,k∈L.toks):L.covers L' :=
 ⟨h1,h2,aGH h3,vK h4,vK h5,h6⟩

theorem aPc{n:Int}(h:Om (-9223372036854775808≤n/\n≤9223372036854775807)):IntKind.i64.wrap n=n:=wrap64 h.out.1 h.out.2
theorem aXk{n:Int}(h1:0≤n)(h2:n≤18446744073709551615):IntKind.u64.wrap n=n:=by
 simp only[IntKind.wrap,IntKind.signed,IntKind.bits,Bool.false_and,Bool.false_eq_true,if_false];omega
theorem aTg{n:Int}(h:Om (0≤n/\n≤18446744073709551615)):IntKind.u64.wrap n=n:=aXk h.out.1 h.out.2
theorem aQK{α:Type} [Inhabited α] (f:α->D)(xs:List α)(n:Nat)(h:Om (n<xs.length)):(xs.map f).getD n default=f (xs.getD n default):=by
 simp[List.getD,List.getElem?_map,List.getElem?_eq_getElem h.out]
theorem aN4(i:Nat):((i:Int)-1).toNat=i-1:=by omega
theorem aNc(i:Nat):((i:Int)+1).toNat=i+1:=by omega
theorem bJ{P:Nat->Prop}{i:Nat}(h:∀j<i,P j)(hi:P i):∀j<i+1,P j:=λj hj=>by
 rcases Nat.lt_succ_iff_lt_or_eq.1 hj with e|e
 ·exact h j e
 ·subst e;exact hi
theorem p5{α:Type} [Inhabited α] {xs ys:List α}(h:xs.length=ys.length)(he:∀j<xs.length,xs.getD j default=ys.getD j default):xs=ys:=by
 refine List.ext_getElem h λj h1 h2=>?_;have:=he j h1;simpa[List.getD,List.getElem?_eq_getElem h1,List.getElem?_eq_getElem h2] using this
theorem aRb(n:Nat):(n:Int).toNat=n:=Int.toNat_natCast n

def D.bnd:D->Prop
 | .sl _ xs=>xs.length≤9223372036854775807
 | .ms _ n=>n≤9223372036854775807
 | _=>True
theorem yH{G w}{d:D}{v:Value}(h:Rel G w d v):d.bnd:=by
 cases h with
 | sl hn hc hm=>subst hn;exact Nat.le_trans hc hm
 | ms hb hc hn=>exact Nat.le_trans hc hn
 | _=>trivial

variable {S:Setup} {B:Base} {R:LS->Prop} {k:List VItem} {L:LS}
theorem aYo(t:Nat){d:D}(h:look L.env t=some d)(hk:d.bnd->SW S B R k L):SW S B R k L:=λG a w hs=>by
 obtain⟨v,_,hv⟩:=hs.env t d h;exact hk (yH hv) G a w hs
theorem aN0(t j:Nat){cs:List D}{d:D}(h:look L.env t=some (.agg cs))(hj:cs[j]?=some d)(hk:d.bnd->SW S B R k L):SW S B R k L:=λG a w hs=>by
 obtain⟨v,_,hv⟩:=hs.env t _ h;cases hv with
 | agg hl hr =>
  obtain⟨u,hu⟩:∃u,‹List Value›[j]?=some u:=⟨_,zB (by rw[hl];exact(zE.1 hj).1)⟩;exact hk (yH (hr j d u hj hu)) G a w hs
theorem r7(id j:Nat){cs:List D}{d:D}(h:look L.boxes id=some cs)(hj:cs[j]?=some d)(hk:d.bnd->SW S B R k L):SW S B R k L:=λG a w hs=>by
 obtain⟨g,_,⟨vs,e,h1,h2,h3⟩,_⟩:=hs.W.boxes id cs h;obtain⟨u,hu⟩:∃u,vs[j]?=some u:=⟨_,Array.getElem?_eq_getElem (Nat.lt_of_lt_of_le (zE.1 hj).1 h2)⟩;exact hk (yH (h3 j d u hj hu)) G a w hs

theorem aOE{B}{L:LS}{G:Ghost}{a}{w:World}(h:Sim B L G a w){t id n s:Nat}{cs xs:List D}{tk:Tk}(ht:look L.env t=some (.ms id n))(hb:look L.boxes id=some cs)(hx:cs=flat xs)(hn:n=xs.length)
  (hu:∀x∈xs,x.cells.length=s) (hk:∀d∈cs,d.memOk=true) (htk:tk=.any∨tk=.nn) :
  ∃G',Sim B {L with env:=eU L.env t (.sl tk xs),boxes:=dG id L.boxes} G' a w:=by
 have hW:=h.W;obtain⟨g,hg,⟨vs,e,e1,e2,e3⟩,hl0,hown⟩:=hW.boxes id cs hb;obtain⟨v,hv,hr⟩:=h.env t _ ht;have hmn:Mono G (G.grow g cs.length) w w:=⟨λb o u h1 h2=>⟨by
  simp only[Ghost.grow];split
  ·rename_i hbg;subst hbg;omega
  ·exact h1,h2⟩,λ_ _=>rfl⟩
 have rG:∀ {d u},Rel G w d u->Rel (G.grow g cs.length) w d u:=λ{d u} hr=>hr.mono hmn (λ_ _ _ h=>h) (λk _=>.inr ⟨rfl,λg' e' z hk'=>by
  obtain⟨_,_,_,h5⟩:=hW.tau k g' e' z hk';refine⟨?_,rfl⟩;simp only[Ghost.grow];rw[if_neg (by rintro rfl;exact h5 id hg)]⟩)
 have hbox:∀ {g' cs'},dD G w g' cs'->dD (G.grow g cs.length) w g' cs':=λ⟨vs,e,e1,e2,e3⟩=>⟨vs,e,e1,e2,λj d v hd hv=>rG (e3 j d v hd hv)⟩;have hcell:∀j,w.cell? ⟨g,j,none⟩=vs[j]?:=λj=>by simp[World.cell?,e1]
 have hlim:(G.grow g cs.length).lim g=cs.length:=by simp[Ghost.grow]
 have hlim':∀b,b≠g->(G.grow g cs.length).lim b=G.lim b:=λb hb=>by simp[Ghost.grow,hb]
 refine⟨G.grow g cs.length,h.defers,h.size,λt' d hd=>?_,?_,h.fixed⟩
 ·simp only[b7] at hd;by_cases e0:t=t'
  ·subst e0;simp only[if_true,Option.some.injEq] at hd;subst hd;refine⟨v,hv,?_⟩;cases hr with
   | @ms _ _ c1 g1 hb' hc' hn' =>
    have e0:g1=g:=zA (hb'.symm.trans hg);rw[e0];refine .sl (b:=g) (o:=0) (s:=s) (by omega) hc' hn' ?_ (.inr rfl) hu (hx ▸ hk) (λj d hj=>?_) (λj d u hj hu'=>?_)
    ·rcases htk with rfl|rfl
     ·trivial
     ·simp[dZ]
    ·rw[←hx] at hj;have hlt:j<cs.length:=(zE.1 hj).1;rw[Nat.zero_add,hlim,hcell];exact⟨hlt,vs[j]'(by omega),by simp[show j<vs.size by omega]⟩
    ·rw[←hx] at hj;rw[Nat.zero_add,hcell] at hu';exact rG (e3 j d u hj hu')
  ·rw[if_neg e0] at hd;obtain⟨u,h1,h2⟩:=h.env t' d hd;exact⟨u,h1,rG h2⟩
 ·exact {hW with
   boxes:=λi cs' hl=>by
    simp only[fD] at hl;by_cases e0:id=i
    ·rw[if_pos e0] at hl;cases hl
    ·rw[if_neg e0] at hl;obtain⟨g',k1,k2,k3,k4⟩:=hW.boxes i cs' hl;refine⟨g',k1,hbox k2,?_,k4⟩;rw[hlim' g' (by rintro rfl;exact e0 (hW.binj _ _ _ hg k1))];exact k3
   robs:=λi cs' hl=>by
    obtain⟨g',k1,k2,k3⟩:=hW.robs i cs' hl;exact⟨g',k1,hbox k2,k3⟩
   tau:=λk g' e' z hk'=>by
    obtain⟨h1,h2,⟨cur,h3,h4⟩,h5⟩:=hW.tau k g' e' z hk';refine⟨h1,h2,⟨cur,h3,?_⟩,h5⟩;rw[hlim' g' (by rintro rfl;exact h5 id hg)];exact h4
   old:=λb hb1 hb2=>by
    refine⟨(hW.old b hb1 hb2).1,?_⟩;rw[hlim' b]
    ·exact(hW.old b hb1 hb2).2
    ·rintro rfl;rcases hown with h|h
     ·omega
     ·exact hb2 h
   olda:=λb hb1=>by
    refine⟨?_,(hW.olda b hb1).2⟩;have:=(hW.olda b hb1).1;by_cases hbg:b=g
    ·subst hbg;rw[hl0] at this;omega
    ·rw[hlim' b hbg];exact this
   lablt:=hW.lablt}

variable {S:Setup} {B:Base} {R:LS->Prop} {k:List VItem} {L:LS}
theorem l6(t s:Nat)(tk:Tk){id n:Nat}{cs:List D}(xs:List D)(ht:look L.env t=some (.ms id n))(hb:look L.boxes id=some cs)(hx:cs=flat xs)(hn:n=xs.length)
  (hu:∀x∈xs,x.cells.length=s) (hk:∀d∈cs,d.memOk=true) (htk:tk=.any∨tk=.nn) (hh:SW S B R k {L with env:=eU L.env t (.sl tk xs),boxes:=dG id L.boxes}):SW S B R k L:=λG a w hs=>by
 obtain⟨G',h'⟩:=aOE hs ht hb hx hn hu hk htk;exact hh G' a w h'
theorem kZ(rid t s:Nat)(tk:Tk){id n:Nat}{cs:List D}(xs:List D){ops:Array Oper}{dr:Bool}{c:Code}(ht:look L.env t=some (.ms id n))(hb:look L.boxes id=some cs)(hx:cs=flat xs)(hn:n=xs.length)
  (hu:∀x∈xs,x.cells.length=s) (hk:∀d∈cs,d.memOk=true) (htk:tk=.any∨tk=.nn) (hh:SW S B R (.code (.seq (.region rid ops dr) c)::k) {L with env:=eU L.env t (.sl tk xs),boxes:=dG id L.boxes}):SW S B R (.code (.seq (.region rid ops dr) c)::k) L :=
 l6 t s tk xs ht hb hx hn hu hk htk hh
end Go.Lg
namespace Go.Lg
def lG(f:Nat->D)(z:D)(i n:Nat):List D:=(List.range n).map λj=>if j<i then f j else z
theorem aIp(f:Nat->D)(z:D)(i n:Nat):(lG f z i n).length=n:=by simp[lG]
theorem aHt(f:Nat->D)(z:D)(i n:Nat):(lG f z i n).set i (f i)=lG f z (i+1) n:=by
 refine List.ext_getElem (by simp[lG]) λj h1 h2=>?_;simp only[lG,List.getElem_set,List.getElem_map,List.getElem_range];by_cases e:i=j
 ·subst e;simp
 ·rw[if_neg e];by_cases h:j<i
  ·rw[if_pos h,if_pos (by omega)]
  ·rw[if_neg h,if_neg (by omega)]
theorem aOZ(f:Nat->D)(z:D)(n:Nat):lG f z 0 n=List.replicate n z:=by
 refine List.ext_getElem (by simp[lG]) λj h1 h2=>?_;simp[lG]
theorem iQ(z:D)(n:Nat):(List.replicate n [z]).flatten=List.replicate n z:=by
 induction n with
 | zero=>rfl
 | succ n ih=>simp[List.replicate_succ,ih]
theorem aCG(f:Nat->D)(z:D)(n:Nat):(List.replicate n [z]).flatten=lG f z 0 n:=by rw[iQ,aOZ]
theorem aDZ{α:Type} [Inhabited α] (g:α->D)(z:D)(xs:List α):lG (λj=>g (xs.getD j default)) z xs.length xs.length=xs.map g:=by
 refine List.ext_getElem (by simp[lG]) λj h1 h2=>?_;simp only[lG,List.getElem_map,List.getElem_range];rw[if_pos (by simpa[lG] using h1)];simp[List.getD,List.getElem?_eq_getElem (show j<xs.length by simpa[lG] using h1)]
theorem aCz{f:Nat->D}{z:D}{i n:Nat}(hf:∀j,(f j).memOk=true)(hz:z.memOk=true):∀d∈lG f z i n,d.memOk=true:=by
 intro d hd;simp only[lG,zJ] at hd;obtain⟨j,_,rfl⟩:=hd;split
 ·exact hf j
 ·exact hz
theorem fI{α:Type}{g:α->D}{xs:List α}(h:∀x,(g x).cells.length=1):∀d∈xs.map g,d.cells.length=1:=by
 intro d hd;obtain⟨x,_,rfl⟩:=zJ.1 hd;exact h x
theorem aCu{α:Type}(g:α->D)(xs:List α)(h:∀x,(g x).cells=[g x]):flat (xs.map g)=xs.map g:=by
 induction xs with
 | nil=>rfl
 | cons x r ih=>simp[flat] at ih ⊢;rw[h];simp[ih]
end Go.Lg
