/-
  Lg: LgThaw, LgWp, LgFn, LgTab, LgSimp, LgGo, LgTools, LgFreeze, one behind the other.
-/
import Derived.Test.YtkfkdgginfpdnaaGreatDoorLgK2
import Derived.Laws.Append
import Derived.Deep.LoopGhost
/-
  Lg, part 40: a list that nobody else reads yet is taken for a variable in memory: the result of a call, the result of an append to an empty list.
-/
namespace Go.Lg
open Go Go.RowKit

def D.sca:D→Bool
 | .int ..|.bool _|.str _=>true
 | _=>false
theorem sca_rel {d:D} (h:d.sca=true) {G G':Ghost} {w w':World} {v:Value} (hr:Rel G w d v):Rel G' w' d v:=by
 cases hr<;>first|exact .int|exact .bool|exact .str|(simp[D.sca] at h)
def Ghost.thaw (G G':Ghost) (g id:Nat):Ghost:={lim:=fun b=>if b=g then 0 else G'.lim b,lab:=G'.lab,β:=fun i=>if i=id then some g else G.β i,τ:=G.τ}

theorem callM_sound {S:Setup} {B:Base} {L:LS} {G:Ghost} {a:Act} {w:World} (h:Sim B L G a w) {f:FuncId} {ro:List (Nat×List D)} {ds cs0:List D} {j0 n0:Nat} {vals:Array Value} (id:Nat) (hfix:id∉L.fix)
  (hv:vals.size=ds.length) (hr:∀(j:Nat) d v,ds[j]?=some d→vals[j]?=some v→Rel G w d v) (hro:∀p∈ro,L.getBox p.1=some p.2)
  (fc:FC S f ro [] [] ds (.ms j0 n0) [(j0,cs0)] []) (hmo:∀d∈cs0,d.memOk=true) :
  Calls S.P f vals w fun e w'=>∃v G',e=.returned v∧Sim B {L.forget id with boxes:=setA (L.forget id).boxes id cs0} G' a w'∧Rel G' w' (.ms id n0) v:=by
 have hW:=h.W
 let G1:Ghost:={G with τ:=fun _=>none}
 have hm1:Mono G G1 w w:=⟨fun _ _ _ h1 h2=>⟨h1,h2⟩,fun _ _=>rfl,fun _ _ _ h=>h⟩
 have r1:∀ {d v},Rel G w d v→Rel G1 w d v:=fun hr=>hr.mono hm1 (fun _ _ _ h=>h) (fun k _=>.inl rfl)
 have hb1:∀ {g cs},BoxAt G w g cs→BoxAt G1 w g cs:=fun⟨vs,e,e1,e2,e3⟩=>⟨vs,e,e1,e2,fun j d v hd hv=>r1 (e3 j d v hd hv)⟩
 have hab:∀b,¬(baseOf G1 w [] []).ab b:=by
  rintro b (⟨p,hp,_⟩|⟨k,hk,_⟩)
  ·cases hp
  ·cases hk
 have hget:∀id cs,L.getBox id=some cs→∃g,G.β id=some g∧BoxAt G w g cs:=fun id cs hgb=>by
  unfold LS.getBox at hgb
  split at hgb
  ·rename_i c hc
   obtain rfl:c=cs:=by simpa using hgb
   obtain⟨g,h1,h2,_⟩:=hW.boxes id c hc
   exact⟨g,h1,h2⟩
  ·obtain⟨g,h1,h2,_⟩:=hW.robs id cs hgb
   exact⟨g,h1,h2⟩
 have hstart:Sim (baseOf G1 w [] []) ⟨ds.length,enumD 0 ds,[],ro,[],[]⟩ G1 ⟨vals,[]⟩ w:=by
  refine⟨rfl,hv,fun t d hd=>?_,?_,fun p hp=>by cases hp⟩
  ·rw[look_enumD] at hd
   simp only[Nat.zero_le,if_true,Nat.sub_zero] at hd
   have hlt:t<vals.size:=by rw[hv];exact(List.getElem?_eq_some_iff.1 hd).1
   exact⟨vals[t],by simp[hlt],r1 (hr t d _ hd (by simp[hlt]))⟩
  ·exact {
    boxes:=fun id cs hl=>by cases hl
    robs:=fun id cs hl=>by
     obtain⟨g,h1,h2⟩:=hget id cs (hro _ (mem_of_look hl))
     exact⟨g,h1,hb1 h2,hW.blt _ _ h1,hab g⟩
    toks:=fun k hk=>by cases hk
    tau:=fun k g e z hk=>by cases hk
    tinj:=fun k k' g e z e' z' hk=>by cases hk
    binj:=hW.binj
    blt:=hW.blt
    lablt:=hW.lablt
    old:=fun _ _ _=>⟨rfl,rfl⟩
    olda:=fun _ _=>⟨Nat.le_refl _,fun _ _ _ h=>h⟩
    oldl:=fun _ _ _=>rfl
    tlab:=fun k g e z hk=>by cases hk
    blab:=hW.blab
    oldu:=fun _ _ _ h=>h
    labw:=fun b hb hor=>by
     rcases hor with hor|hor
     ·exact absurd (hW.lablt b hb) (Nat.not_lt.2 hor)
     ·exact absurd hor (hab b)
    ids:=fun p hp=>by cases hp
    sz:=Nat.le_refl _
    os:=rfl
    tape:=rfl
    out:=rfl
    dr:=by first|exact Nat.le_refl _|exact Nat.le_succ _|exact .inr (Nat.le_refl _)|exact .inr (Nat.le_succ _)}
 refine(fc.2 w G1 vals hstart).mono ?_
 rintro e' w' ⟨v,G',he,hend⟩
 have hE:=hend.W
 obtain⟨v',hv',hrel⟩:=hend.env 0 _ rfl
 obtain rfl:v=v':=by simpa using hv'
 cases hrel with
 | @ms _ _ c b hb0 hc hm =>
 obtain⟨b',hβb,⟨cur,e2,t3,t4,t6⟩,t5,t1⟩:=hE.boxes j0 cs0 (by simp[look])
 obtain rfl:b'=b:=Option.some.inj (hβb.symm.trans hb0)
 have hg:w.heap.size≤b':=t1.resolve_right (hab b')
 have hold:∀q,q<w.heap.size→w'.heap[q]?=w.heap[q]?∧G'.lim q=G.lim q:=fun q hq=>hE.old q hq (hab q)
 have hlim:∀q,q<w.heap.size→(Ghost.thaw G G' b' id).lim q=G.lim q:=fun q hq=>by
  simp only[Ghost.thaw]
  rw[if_neg (by omega)]
  exact(hold q hq).2
 have hmn:Mono G (Ghost.thaw G G' b' id) w w':=by
  refine⟨fun q j u h1 h2=>?_,fun q hq=>hE.oldl q (hW.lablt q hq) hq,fun q es c hq=>(hold q (heap_lt hq)).1.trans hq⟩
  have hlt:=cell_lt h2
  exact⟨by rw[hlim q hlt];exact h1,by rw[cell_of_heap (hold q hlt).1];exact h2⟩
 have hβ:∀i g,i≠id→G.β i=some g→(Ghost.thaw G G' b' id).β i=some g:=fun i g hne hg=>by simp only[Ghost.thaw];rw[if_neg hne];exact hg
 have rG:∀ {d v},id∉d.ids→Rel G w d v→Rel (Ghost.thaw G G' b' id) w' d v:=fun {d v} hid hr =>
  hr.mono hmn (fun i hi g hg=>hβ i g (fun e=>hid (e ▸ hi)) hg) (fun k _=>.inr ⟨rfl,fun g e' z hk=>by
   obtain⟨_,_,⟨cur,hc,_⟩,_⟩:=hW.tau k g e' z hk
   have hlt:=heap_lt hc
   exact⟨hlim g hlt,shape_of_heap (hold g hlt).1⟩⟩)
 have hbox:∀ {g cs},id∉D.idsL cs→BoxAt G w g cs→BoxAt (Ghost.thaw G G' b' id) w' g cs:=fun {g cs} hid ⟨vs,e',e1,e2,e3⟩ =>
  ⟨vs,e',by rw[(hold _ (heap_lt e1)).1];exact e1,e2,fun j d v hd hv=>rG (fun hi=>hid (mem_idsL (List.mem_of_getElem? hd) hi)) (e3 j d v hd hv)⟩
 have rE:∀ {d v},d.memOk=true→Rel G' w' d v→Rel (Ghost.thaw G G' b' id) w' d v:=fun {d v} hm hr =>
  hr.mono (show Mono G' (Ghost.thaw G G' b' id) w' w' from⟨fun q j u h1 h2=>⟨by
   simp only[Ghost.thaw]
   split
   ·rename_i e;subst e;omega
   ·exact h1,h2⟩,fun _ _=>rfl,fun _ _ _ h=>h⟩) (by rw[memOk_ids hm];simp) (by rw[memOk_tks hm];simp)
 refine⟨_,Ghost.thaw G G' b' id,he,⟨h.defers,h.size,fun t' d hd=>?_,?_,h.fixed⟩,?_⟩
 ·simp only[LS.forget] at hd
  obtain⟨h1,h2⟩:=look_keepA _ _ _ _ hd
  obtain⟨v,h3,h4⟩:=h.env t' d h1
  exact⟨v,h3,rG (noId_spec h2) h4⟩
 ·exact {
   boxes:=fun i cs' hl=>by
    simp only[look_setA] at hl
    by_cases e0:id=i
    ·subst e0
     simp only[if_true,Option.some.injEq] at hl
     subst hl
     exact⟨b',by simp[Ghost.thaw],⟨cur,e2,t3,t4,fun j d v hd hv=>rE (hmo d (List.mem_of_getElem? hd)) (t6 j d v hd hv)⟩,by simp[Ghost.thaw],.inl (Nat.le_trans hW.sz hg)⟩
    ·rw[if_neg e0] at hl
     simp only[LS.forget,look_eraseK,if_neg e0] at hl
     obtain⟨h1,h2⟩:=look_keepA _ _ _ _ hl
     obtain⟨g,k1,k2,k3,k4⟩:=hW.boxes i cs' h1
     exact⟨g,hβ i g (fun e=>e0 e.symm) k1,hbox (noIdL_spec h2) k2,by rw[hlim g (hW.blt _ _ k1)];exact k3,k4⟩
   robs:=fun i cs' hl=>by
    simp only[LS.forget,look_eraseK] at hl
    by_cases e0:id=i
    ·rw[if_pos e0] at hl;cases hl
    ·rw[if_neg e0] at hl
     obtain⟨h1,h2⟩:=look_keepA _ _ _ _ hl
     obtain⟨g,k1,k2,k3⟩:=hW.robs i cs' h1
     exact⟨g,hβ i g (fun e=>e0 e.symm) k1,hbox (noIdL_spec h2) k2,k3⟩
   toks:=hW.toks
   tau:=fun k g e' z hk=>by
    obtain⟨h1,h2,⟨cur,h3,h4⟩,h5⟩:=hW.tau k g e' z hk
    have hlt:=heap_lt h3
    refine⟨h1,h2,⟨cur,by rw[(hold _ hlt).1];exact h3,by rw[hlim _ hlt];exact h4⟩,fun i hi=>?_⟩
    simp only[Ghost.thaw] at hi
    split at hi
    ·have:=Option.some.inj hi
     omega
    ·exact h5 i hi
   tinj:=hW.tinj
   binj:=fun i j g hi hj=>by
    simp only[Ghost.thaw] at hi hj
    split at hi<;>split at hj
    ·omega
    ·have:=hW.blt _ _ hj
     have:=Option.some.inj hi
     omega
    ·have:=hW.blt _ _ hi
     have:=Option.some.inj hj
     omega
    ·exact hW.binj i j g hi hj
   blt:=fun i g hi=>by
    simp only[Ghost.thaw] at hi
    split at hi
    ·have:=Option.some.inj hi
     have:=heap_lt t3
     omega
    ·exact Nat.lt_of_lt_of_le (hW.blt _ _ hi) hE.sz
   lablt:=hE.lablt
   old:=fun q hlt hqa=>by
    have hs:=hW.sz
    have hq:q<w.heap.size:=by omega
    rw[(hold q hq).1,hlim q hq]
    exact hW.old q hlt hqa
   olda:=fun q hlt=>by
    have hs:=hW.sz
    have hq:q<w.heap.size:=by omega
    rw[hlim q hq]
    refine⟨(hW.olda q hlt).1,fun j v hj hc=>?_⟩
    rw[cell_of_heap (hold q hq).1]
    exact(hW.olda q hlt).2 j v hj hc
   oldl:=fun q hlt hq=>by
    have hs:=hW.sz
    have h0:=hW.oldl q hlt hq
    have h1:G'.lab q=G.lab q:=hE.oldl q (show q<w.heap.size by omega) (show G.lab q≠[] by rw[h0];exact hq)
    exact h1.trans h0
   tlab:=fun k g e' z hk=>by
    obtain⟨_,_,⟨cur,h3,_⟩,_⟩:=hW.tau k g e' z hk
    exact hE.oldu g (heap_lt h3) (hab g) (hW.tlab k g e' z hk)
   blab:=fun i g hi=>by
    simp only[Ghost.thaw] at hi
    split at hi
    ·obtain rfl:=Option.some.inj hi
     exact hE.blab j0 _ hβb
    ·exact hE.oldu g (hW.blt _ _ hi) (hab g) (hW.blab i g hi)
   oldu:=fun q hlt hqa hq=>by
    have hs:=hW.sz
    exact hE.oldu q (show q<w.heap.size by omega) (hab q) (hW.oldu q hlt hqa hq)
   labw:=fun q hq hor=>by
    rcases Nat.lt_or_ge q w.heap.size with hlt|hge
    ·have hq0:G.lab q≠[]:=fun e=>hq (hE.oldu q hlt (hab q) e)
     obtain⟨vs,e',h1⟩:=hW.labw q hq0 hor
     exact⟨vs,e',by rw[(hold q hlt).1];exact h1⟩
    ·exact hE.labw q hq (.inl hge)
   ids:=fun p hp=>hβ p.1 p.2 (fun e=>hfix (e ▸ h.fixed p hp)) (hW.ids p hp)
   sz:=Nat.le_trans hW.sz hE.sz
   os:=hE.os.trans hW.os
   tape:=hE.tape.trans hW.tape
   out:=hE.out.trans hW.out
   dr:=dr_t hW.dr (hE.dr.resolve_left (fun h=>h))}
 ·exact .ms (by simp[Ghost.thaw]) hc hm

theorem FC.thaw {S:Setup} {f:FuncId} {ro:List (Nat×List D)} {args xs:List D} {e0:TypeId} {z0:Nat} (fc:FC S f ro [] [] args (.sl (.own 0 e0 z0) xs) [] [0]) (hne:xs≠[]) (hsc:∀d∈flat xs,d.sca=true) :
  FC S f ro [] [] args (.ms 0 xs.length) [(0,flat xs)] []:=⟨fc.1,fun w G vals hs=>(fc.2 w G vals hs).mono fun e' w' ⟨v,G',he,hend⟩=>by
 have hE:=hend.W
 obtain⟨v',hv',hrel⟩:=hend.env 0 _ rfl
 obtain rfl:v=v':=by simpa using hv'
 obtain⟨x,hx⟩:=hE.toks 0 (by simp)
 cases hrel with
 | @sl _ _ A n c b o s hn hc hm ht hA hu hk hst hrr =>
 have hA':=hA.resolve_left hne
 subst hA'
 simp only[TkOk,hx] at ht
 match x,hx,ht with
 | none,_,ht=>exact absurd (List.length_eq_zero_iff.1 (hn.symm.trans ht.1)) hne
 | some (g,e2,z2),hx,ht =>
 obtain⟨⟨rfl,rfl⟩,h2,h3,h4,h5⟩:=ht
 simp only[Option.some.injEq,Addr.mk.injEq,and_true] at h2
 obtain⟨rfl,rfl⟩:=h2
 have hab:∀b,¬(baseOf G w [] []).ab b:=by
  rintro b (⟨p,hp,_⟩|⟨k,hk,_⟩)
  ·cases hp
  ·cases hk
 obtain⟨t1,t2,⟨cur,t3,t4⟩,t5⟩:=hE.tau 0 b e2 z2 hx
 have hg:w.heap.size≤b:=t1.resolve_right (hab b)
 have hfl:(flat xs).length=xs.length*z2:=flat_length h5
 refine⟨_,{lim:=fun q=>if q=b then 0 else G'.lim q,lab:=G'.lab,β:=fun i=>if i=0 then some b else none,τ:=fun _=>none},he,⟨rfl,rfl,fun t d hd=>?_,?_,fun p hp=>by cases hp⟩⟩
 ·simp only[look] at hd
  split at hd
  ·rename_i e
   subst e
   obtain rfl:=Option.some.inj hd
   exact⟨_,rfl,by rw[hn];exact .ms (by simp) (hn ▸ hc) hm⟩
  ·cases hd
 ·exact {
   boxes:=fun i cs' hl=>by
    simp only[look] at hl
    split at hl
    ·rename_i e
     subst e
     obtain rfl:=Option.some.inj hl
     refine⟨b,by simp,⟨cur,e2,t3,by rw[hfl,←hn,h3];exact t4,fun j d v hd hv=>?_⟩,by simp,.inl hg⟩
     have hc:w'.cell? ⟨b,0+j,none⟩=some v:=by
      rw[Nat.zero_add]
      unfold World.cell?
      simp only[t3]
      exact hv
     exact sca_rel (hsc d (List.mem_of_getElem? hd)) (hrr j d v hd hc)
    ·cases hl
   robs:=fun i cs' hl=>by cases hl
   toks:=fun k hk=>by cases hk
   tau:=fun k g e' z hk=>by cases hk
   tinj:=fun k k' g e z e' z' hk=>by cases hk
   binj:=fun i j g hi hj=>by
    simp only at hi hj
    split at hi<;>split at hj
    ·omega
    ·cases hj
    ·cases hi
    ·cases hi
   blt:=fun i g hi=>by
    simp only at hi
    split at hi
    ·obtain rfl:=Option.some.inj hi;exact heap_lt t3
    ·cases hi
   lablt:=hE.lablt
   old:=fun q hlt hqa=>by
    have hlt':q<w.heap.size:=hlt
    obtain⟨k1,k2⟩:=hE.old q hlt hqa
    exact⟨k1,by simp only;rw[if_neg (by omega)];exact k2⟩
   olda:=fun q hlt=>by
    have hlt':q<w.heap.size:=hlt
    simp only
    rw[if_neg (by omega)]
    exact hE.olda q hlt
   oldl:=hE.oldl
   tlab:=fun k g e z hk=>by cases hk
   blab:=fun i g hi=>by
    simp only at hi
    split at hi
    ·obtain rfl:=Option.some.inj hi;exact hE.tlab 0 _ e2 z2 hx
    ·cases hi
   oldu:=hE.oldu
   labw:=hE.labw
   ids:=fun p hp=>by cases hp
   sz:=hE.sz
   os:=hE.os
   tape:=hE.tape
   out:=hE.out
   dr:=hE.dr}⟩

def LS.thawed (L:LS) (id:Nat) (cs:List D):LS:={L.forget id with boxes:=setA (L.forget id).boxes id cs}
theorem LopsW.callM {S:Setup} {B:Base} {ops:Array Oper} {l:List Oper} {L:LS} {K:LS→Prop} {t:Nat} {f:Operand} {args:Array Operand} {tys:Array TypeId} {ty:TypeId} {pos:String} {aft:Array Edge} {g:Option (Nat×Bool)}
  (hg:guardY ops L g=some true) {fid:Nat} {cap ds:List D} {ro:List (Nat×List D)} {cs0:List D} {j0 n0:Nat} (id:Nat) (hf:evalO L f=some (.fn fid cap)) (hds:mapO (evalO L) args.toList=some ds) (fc:FC S fid ro [] [] (ds++cap) (.ms j0 n0) [(j0,cs0)] [])
  (hside:(t<L.n∧id∉L.fix∧(∀p∈ro,L.getBox p.1=some p.2))∧∀d∈cs0,d.memOk=true)
  (h:LopsW S B ops l ((L.thawed id cs0).put t (.ms id n0)) K):LopsW S B ops (⟨some t,.call ⟨.value f,args,tys⟩,ty,pos,aft,g⟩::l) L K:=by
 intro G a w hs Q hQ
 obtain⟨⟨s1,s2,s3⟩,s4⟩:=hside
 refine wpList_step fun N hN=>?_
 rw[if_pos (guardY_sound (S:=S) rfl hs (o:=⟨some t,.call ⟨.value f,args,tys⟩,ty,pos,aft,g⟩) hg)]
 obtain⟨e1,e2⟩:=mapO_sound hs hds
 have hv:=eval_sound hs hf
 generalize hu:a.eval f=u at hv
 cases hv with
 | @fn _ _ vl hl hr =>
 have hrun:(execOp a.eval ⟨some t,.call ⟨.value f,args,tys⟩,ty,pos,aft,g⟩).run S.P w=.ok (.enter fid (args.map a.eval++vl.toArray)) w:=by
  simp[execOp,resolve,hu,Deferred.ofValue,invoke,enter_run fc.1]
 unfold Oper.wp
 rw[hrun,Oper.upon_enter]
 refine(callM_sound hs (vals:=args.map a.eval++vl.toArray) id s2 ?_ ?_ s3 fc s4).mono ?_
 ·simp at e1
  simp[e1,hl]
 ·intro j d v hd hv
  have hsz:(args.map a.eval).size=ds.length:=by simp at e1;simp[e1]
  by_cases hj:j<ds.length
  ·rw[List.getElem?_append_left hj] at hd
   rw[Array.getElem?_append_left (by omega)] at hv
   exact e2 j d v hd (by simpa using hv)
  ·rw[List.getElem?_append_right (by omega)] at hd
   rw[Array.getElem?_append_right (by omega),hsz] at hv
   exact hr _ d v hd (by simpa using hv)
 ·rintro e w' ⟨v,G',rfl,h1,h2⟩
  exact hN _ _ (h G' _ w' (Sim.put (L:=L.thawed id cs0) h1 (show t<L.n from s1) h2) Q hQ)

theorem flat_ints (ys:List Int):flat (ys.map (D.int .i64))=ys.map (.int .i64):=by
 induction ys with
 | nil=>rfl
 | cons y r ih=>simp[flat] at ih ⊢;simp[D.cells,ih]
theorem LopsW.callTi {S:Setup} {B:Base} {ops:Array Oper} {l:List Oper} {L:LS} {K:LS→Prop} {t:Nat} {f:Operand} {args:Array Operand} {tys:Array TypeId} {ty:TypeId} {pos:String} {aft:Array Edge} {g:Option (Nat×Bool)}
  (hg:guardY ops L g=some true) {fid:Nat} {cap ds:List D} {ro:List (Nat×List D)} {ys:List Int} {e0:TypeId} {z0:Nat} (id:Nat) (hf:evalO L f=some (.fn fid cap)) (hds:mapO (evalO L) args.toList=some ds) (fc:FC S fid ro [] [] (ds++cap) (.sl (.own 0 e0 z0) (ys.map (.int .i64))) [] [0])
  (hside:(t<L.n∧id∉L.fix∧(∀p∈ro,L.getBox p.1=some p.2))∧ys≠[])
  (h:LopsW S B ops l ((L.thawed id (ys.map (.int .i64))).put t (.ms id ys.length)) K):LopsW S B ops (⟨some t,.call ⟨.value f,args,tys⟩,ty,pos,aft,g⟩::l) L K:=by
 have hsc:∀d∈flat (ys.map (D.int .i64)),d.sca=true:=fun d hd=>by
  rw[flat_ints] at hd
  obtain⟨x,_,rfl⟩:=List.mem_map.1 hd
  rfl
 refine LopsW.callM hg id hf hds (fc.thaw (by simpa using hside.2) hsc) ⟨hside.1,fun d hd=>?_⟩ (by rw[flat_ints,List.length_map];exact h)
 have:=hsc d hd
 cases d<;>first|rfl|(simp[D.sca] at this)
theorem memOk_ints (ys:List Int):∀d∈ys.map (D.int .i64),d.memOk=true:=fun d hd=>by
 obtain⟨x,_,rfl⟩:=List.mem_map.1 hd
 rfl

end Go.Lg
/-
  Lg, part 17: control, and the contract of a function out of its body.
-/
namespace Go.Lg
open Go Go.RowKit

inductive VItem where
 | code (c:Code)
 | inBlock (id:Nat)
 | loopEnd (J:LS→Prop)

def semQ (P:Program) (B:Base) (R:LS→Prop):List VItem→Exit→Act→World→Prop
 | []=>fun e a w=>((e=.normal∨e=.ret)∧∃G L,Sim B L G a w∧R L)∨∃c,e=.panic c∧B.pan c∧a.defers=[]∧∃G,SimW B [] [] [] G w
 | .inBlock id::k=>Exit.inBlock id (semQ P B R k)
 | .loopEnd J::k=>Exit.then (fun a w=>∃G L,Sim B L G a w∧J L) (semQ P B R k)
 | .code c::k=>Exit.then (fun a w=>c.wp P (semQ P B R k) a w) (semQ P B R k)

def SW (S:Setup) (B:Base) (R:LS→Prop) (k:List VItem) (L:LS):Prop:=∀G a w,Sim B L G a w→semQ S.P B R k .normal a w

section
variable {S:Setup} {B:Base} {R:LS→Prop} {k:List VItem} {L:LS}

theorem sw_nil (h:R L):SW S B R [] L:=fun G _ _ hs=>.inl ⟨.inl rfl,G,L,hs,h⟩
theorem sw_seq {x y:Code} (h:SW S B R (.code x::.code y::k) L):SW S B R (.code (.seq x y)::k) L:=fun G a w hs=>wp_seq (h G a w hs)
theorem sw_block {id:Nat} {c:Code} (h:SW S B R (.code c::.inBlock id::k) L):SW S B R (.code (.block id c)::k) L:=fun G a w hs=>wp_block (h G a w hs)
theorem sw_skip (h:SW S B R k L):SW S B R (.code .skip::k) L:=fun G a w hs=>wp_skip (h G a w hs)
theorem sw_inBlock {id:Nat} (h:SW S B R k L):SW S B R (.inBlock id::k) L:=fun G a w hs=>h G a w hs
theorem sw_loopEnd {J:LS→Prop} (h:J L):SW S B R (.loopEnd J::k) L:=fun G _ _ hs=>⟨G,L,hs,h⟩
theorem sw_cond {c:Operand} {x y:Code} {b:Bool} (hc:evalO L c=some (.bool b)) (h1:b=true→SW S B R (.code x::k) L) (h0:b=false→SW S B R (.code y::k) L):SW S B R (.code (.cond c x y)::k) L:=fun G a w hs=>by
 have hv:=eval_sound hs hc
 generalize hu:a.eval c=u at hv
 cases hv
 exact wp_cond_split hu (fun hb=>h1 hb G a w hs) (fun hb=>h0 hb G a w hs)

theorem semQ_ret {P:Program} {B:Base} {R:LS→Prop} {G:Ghost} {L:LS} {a:Act} {w:World} (hs:Sim B L G a w) (h:R L):∀k:List VItem,semQ P B R k .ret a w
 | []=>.inl ⟨.inr rfl,G,L,hs,h⟩
 | .inBlock _::k=>semQ_ret hs h k
 | .loopEnd _::k=>semQ_ret hs h k
 | .code _::k=>semQ_ret hs h k
theorem sw_ret (h:R L):SW S B R (.code .ret::k) L:=fun _ _ _ hs=>wp_ret (semQ_ret hs h k)

def exitK (id:Nat):List VItem→Option (List VItem)
 | []=>none
 | .inBlock id'::k=>if id=id' then some k else exitK id k
 | .loopEnd _::k=>exitK id k
 | .code _::k=>exitK id k
theorem semQ_exit {P:Program} {B:Base} {R:LS→Prop} {id:Nat} {a:Act} {w:World}:∀ {k k':List VItem},exitK id k=some k'→semQ P B R k' .normal a w→semQ P B R k (.exit id) a w
 | [],_,h,_=>by cases h
 | .inBlock id'::k,k',h,hk=>by
  simp only[exitK] at h
  show Exit.inBlock id' (semQ P B R k) (.exit id) a w
  simp only[Exit.inBlock]
  split at h
  ·rename_i he
   rw[if_pos he]
   obtain rfl:=Option.some.inj h
   exact hk
  ·rename_i he
   rw[if_neg he]
   exact semQ_exit h hk
 | .loopEnd _::k,_,h,hk=>semQ_exit (k:=k) h hk
 | .code _::k,_,h,hk=>semQ_exit (k:=k) h hk
theorem sw_exit {id:Nat} {k':List VItem} (he:exitK id k=some k') (h:SW S B R k' L):SW S B R (.code (.exit id)::k) L:=fun G a w hs=>wp_exit (semQ_exit he (h G a w hs))

theorem sw_region {id:Nat} {ops:Array Oper} (h:LopsW S B ops ops.toList L fun L'=>SW S B R k L'):SW S B R (.code (.region id ops false)::k) L:=fun G a w hs =>
 wp_region_list (h G a w hs _ fun _ G' a' w' hK hs'=>hK G' a' w' hs')
theorem sw_draw {id:Nat} {ops:Array Oper} (hB:Region.lexB .any ops=true) (h:LexQ S ops L (fun L'=>SW S B R k L') ops.toList L):SW S B R (.code (.region id ops true)::k) L:=fun _ _ _ hs =>
 draw_sound hB h hs fun _ G' a' w' hK hs'=>hK G' a' w' hs'

theorem sw_weak {L':LS} (hc:L.covers L') (h:SW S B R k L'):SW S B R k L:=fun G a w hs=>h G a w (hs.less hc)

theorem sw_loop {ι:Type} (F:ι→LS) (p:ι→Prop) (μ:ι→Nat) (i0:ι) {c:Code} (hc:L.covers (F i0)) (hp:p i0)
  (round:∀i,p i→SW S B R (.code c::.loopEnd (fun L'=>∃i',L'.covers (F i')∧p i'∧μ i'<μ i)::k) (F i)):SW S B R (.code (.loop c)::k) L:=fun G a w hs=>by
 refine wp_loop_ghost (fun n a w=>∃i,μ i=n∧p i∧∃G,Sim B (F i) G a w) (μ i0) ⟨i0,rfl,hp,G,hs.less hc⟩ ?_
 rintro n a w ⟨i,rfl,hpi,G,hs⟩
 refine wp_mono (round i hpi G a w hs) fun e a' w' h=>?_
 cases e with
 | normal =>
  obtain⟨G',L',hs',i',h1,h2,h3⟩:=h
  exact⟨μ i',h3,i',rfl,h2,G',hs'.less h1⟩
 | _=>exact h
end

end Go.Lg
/-
  Lg, part 18: the contract of a function, out of its body.
-/
namespace Go.Lg
open Go Go.RowKit

mutual
def D.sT (n:Nat):D→D
 | .sl (.own _ e z) xs=>.sl (.own n e z) xs
 | .sl (.que _ e) xs=>.sl (.que n e) xs
 | .agg cs=>.agg (D.sTL n cs)
 | .fn f cap=>.fn f (D.sTL n cap)
 | .tup ds=>.tup (D.sTL n ds)
 | d=>d
def D.sTL (n:Nat):List D→List D
 | []=>[]
 | d::ds=>d.sT n::D.sTL n ds
end
theorem sTL_map (n:Nat) (ds:List D):D.sTL n ds=ds.map (D.sT n):=by
 induction ds with
 | nil=>rfl
 | cons d ds ih=>simp[D.sTL,ih]

theorem Rel.setT {G G':Ghost} {w:World} (hl:G'.lim=G.lim) (hb:G'.lab=G.lab) (hβ:G'.β=G.β) (n:Nat) {d:D} {v:Value} (h:Rel G w d v):(∀k∈d.tks,G'.τ n=G.τ k)→Rel G' w (d.sT n) v:=by
 have hm:Mono G G' w w:=⟨fun b o v h1 h2=>⟨by rw[hl];exact h1,h2⟩,fun b _=>by rw[hb],fun _ _ _ h=>h⟩
 induction h with
 | int=>exact fun _=>.int
 | bool=>exact fun _=>.bool
 | str=>exact fun _=>.str
 | @sl tk xs A m c b o s hn hc hmx ht hA hu hk hst hr ih =>
  intro hkk
  have key:∀tk',(TkOk G' w tk' xs A m c)→Rel G' w (.sl tk' xs) (.slice A m c):=fun tk' ht'=>by
   refine .sl (b:=b) (o:=o) hn hc hmx ht' hA hu hk (fun j d hj=>?_) (fun j d v hj hv=>?_)
   ·rw[hl];exact hst j d hj
   ·have hmem:=hk d (List.mem_of_getElem? hj)
    exact(hr j d v hj hv).mono hm (by rw[memOk_ids hmem];simp) (by rw[memOk_tks hmem];simp)
  cases tk with
  | que k e =>
   refine key (.que n e) ?_
   simp only[TkOk] at ht ⊢
   rw[hkk k (by simp[D.tks]),hl]
   exact ht
  | own k e z =>
   refine key (.own n e z) ?_
   simp only[TkOk] at ht ⊢
   rw[hkk k (by simp[D.tks]),hl]
   exact ht
  | lab l =>
   refine key (.lab l) ?_
   rcases ht with ht|⟨g,o',e1,e2,e3⟩
   ·exact .inl ht
   ·exact .inr ⟨g,o',e1,by rw[hb];exact e2,e3⟩
  | _=>exact key _ ht
 | @agg cs vl hlen hr ih =>
  intro hk
  simp only[D.sT,sTL_map]
  refine .agg (by simpa using hlen) fun j d v hj hv=>?_
  simp only[List.getElem?_map,Option.map_eq_some_iff] at hj
  obtain⟨d0,hj,rfl⟩:=hj
  exact ih j d0 v hj hv (fun i hi'=>hk i (mem_tksL (List.mem_of_getElem? hj) hi'))
 | @fn f cap vl hlen hr ih =>
  intro hk
  simp only[D.sT,sTL_map]
  refine .fn (by simpa using hlen) fun j d v hj hv=>?_
  simp only[List.getElem?_map,Option.map_eq_some_iff] at hj
  obtain⟨d0,hj,rfl⟩:=hj
  exact ih j d0 v hj hv (fun i hi'=>hk i (mem_tksL (List.mem_of_getElem? hj) hi'))
 | box hb'=>exact fun _=>.box (by rw[hβ];exact hb')
 | ms hb' hc hn=>exact fun _=>.ms (by rw[hβ];exact hb') hc hn
 | vw hb' hc hn=>exact fun _=>.vw (by rw[hβ];exact hb') hc hn
 | @imm cs b o hk hst hr ih =>
  intro _
  refine .imm hk (fun j d hj=>?_) (fun j d v hj hv=>?_)
  ·rw[hl];exact hst j d hj
  ·have hmem:=hk d (List.mem_of_getElem? hj)
   exact(hr j d v hj hv).mono hm (by rw[memOk_ids hmem];simp) (by rw[memOk_tks hmem];simp)
 | @tup ds vl hlen hr ih =>
  intro hk
  simp only[D.sT,sTL_map]
  refine .tup (by simpa using hlen) fun j d v hj hv=>?_
  simp only[List.getElem?_map,Option.map_eq_some_iff] at hj
  obtain⟨d0,hj,rfl⟩:=hj
  exact ih j d0 v hj hv (fun i hi'=>hk i (mem_tksL (List.mem_of_getElem? hj) hi'))
 | raw h=>exact fun _=>.raw h
 | pred hv h=>exact fun _=>.pred hv fun G2 w2 hm2=>h G2 w2 (hm.trans hm2)

def resY1 (S:Setup) (L:LS) (r:ResultVar) (K:D→Prop):Prop:=match r with
 | .tmp t=>someK (L.get t) K
 | .cell c ty=>someK (L.get c) fun d=>(match d with
  | .box id off=>loadY S ty L.getBox (.box id off) K
  | _=>False)
def resYs (S:Setup) (L:LS):List ResultVar→(List D→Prop)→Prop
 | [],K=>K []
 | r::rs,K=>resY1 S L r fun d=>resYs S L rs fun ds=>K (d::ds)
def tupD:List D→D
 | [d]=>d
 | ds=>.tup ds
def resY (S:Setup) (L:LS) (rs:List ResultVar) (K:D→Prop):Prop:=resYs S L rs fun ds=>K (tupD ds)

def resF (a:Array Value) (r:ResultVar):Sem Value:=match r with
 | .tmp t=>pure (a.getD t undef)
 | .cell c ty=>do loadVar ty (←asAddr (a.getD c undef))

theorem resY1_sound {S:Setup} {B:Base} {L:LS} {G:Ghost} {a:Act} {w:World} (hs:Sim B L G a w) {r:ResultVar} {K:D→Prop} (h:resY1 S L r K):∃d v,K d∧(resF a.tmps r).run S.P w=.ok v w∧Rel G w d v:=by
 cases r with
 | tmp t =>
  obtain⟨d,hd,hK⟩:=someK_get h
  obtain⟨v,h1,h2⟩:=hs.env t d hd
  exact⟨d,v,hK,by simp[resF,h1],h2⟩
 | cell c ty =>
  obtain⟨d,hd,h⟩:=someK_get h
  obtain⟨v,h1,h2⟩:=hs.env c d hd
  split at h
  ·obtain⟨d,u,k1,k2,k3⟩:=loadY_sound hs h2 h
   cases h2
   refine⟨d,u,k1,?_,k3⟩
   simpa[resF,h1,asAddr,Instr.loadAt,Instr.sureAddr] using k2
  ·exact h.elim

theorem resYs_sound {S:Setup} {B:Base} {L:LS} {G:Ghost} {a:Act} {w:World} (hs:Sim B L G a w):∀(rs:List ResultVar) {K:List D→Prop},resYs S L rs K →
  ∃ds vs,K ds∧(rs.mapM (resF a.tmps)).run S.P w=.ok vs w∧vs.length=ds.length∧∀(j:Nat) d v,ds[j]?=some d→vs[j]?=some v→Rel G w d v
 | [],K,h=>⟨[],[],h,by simp,rfl,by simp⟩
 | r::rs,K,h=>by
  obtain⟨d,v,h1,h2,h3⟩:=resY1_sound hs h
  obtain⟨ds,vs,k1,k2,k3,k4⟩:=resYs_sound hs rs h1
  refine⟨d::ds,v::vs,k1,by simp[List.mapM_cons,h2,k2],by simp[k3],fun j d' v' hd hv=>?_⟩
  cases j with
  | zero=>simp at hd hv;subst hd;subst hv;exact h3
  | succ j=>exact k4 j d' v' (by simpa using hd) (by simpa using hv)

theorem resY_sound {S:Setup} {B:Base} {L:LS} {G:Ghost} {a:Act} {w:World} (hs:Sim B L G a w) {fn:Func} {K:D→Prop} (h:resY S L fn.results.toList K):∃d v,K d∧(results fn a.tmps).run S.P w=.ok v w∧Rel G w d v:=by
 obtain⟨ds,vs,h1,h2,h3,h4⟩:=resYs_sound hs _ h
 have hrun:(fn.results.mapM (resF a.tmps)).run S.P w=.ok vs.toArray w:=by
  rw[Array.mapM_eq_mapM_toList]
  simp[h2]
 refine⟨_,(if h:vs.toArray.size=1 then vs.toArray[0] else .tuple vs.toArray),h1,?_,?_⟩
 ·show (do let vs ←fn.results.mapM (resF a.tmps);pure (if h:vs.size=1 then vs[0] else .tuple vs):Sem Value).run S.P w=_
  simp[hrun]
 ·match ds,vs,h3 with
  | [d],[v],_=>exact h4 0 d v rfl rfl
  | [],[],_=>exact .tup (vl:=[]) rfl (by simp)
  | d::d'::ds,v::v'::vs,h3 =>
   have:¬(v::v'::vs).toArray.size=1:=by simp
   rw[dif_neg this]
   exact .tup h3 h4

theorem calls_of_sw {S:Setup} {f:FuncId} {fn:Func} {c:Code} {ro bx:List (Nat×List D)} {tk:List Nat} {args:List D} {R:LS→Prop} {Rx:Ending→World→Prop} {w:World} {G:Ghost} {vals:Array Value}
  (hf:S.P.funcs[f]?=some fn) (hb:fn.body=some c) (hn:args.length≤fn.ntmps) (hs:Sim (baseOf G w bx tk) ⟨args.length,enumD 0 args,bx,ro,tk,bx.map (·.1)⟩ G ⟨vals,[]⟩ w)
  (h:SW S (baseOf G w bx tk) R [.code c] ⟨fn.ntmps,enumD 0 args,bx,ro,tk,bx.map (·.1)⟩)
  (hR:∀G' L' a' w',Sim (baseOf G w bx tk) L' G' a' w'→R L'→∃v,(results fn a'.tmps).run S.P w'=.ok v w'∧Rx (.returned v) w'):Calls S.P f vals w Rx:=by
 have hsz:vals.size=args.length:=hs.size
 refine calls_of_wp hf hb (wp_mono (h G _ w ⟨rfl,?_,fun t d hd=>?_,hs.W,hs.fixed⟩) ?_)
 ·simp[hsz];omega
 ·obtain⟨v,h1,h2⟩:=hs.env t d hd
  refine⟨v,?_,h2⟩
  have hlt:t<vals.size:=(Array.getElem?_eq_some_iff.1 h1).1
  simp only
  rw[Array.getElem?_append_left hlt]
  exact h1
 ·intro e a' w' he
  rcases he with⟨h0,G',L',hs',hr⟩|⟨c,_,hp,_⟩
  ·obtain⟨v,h1,h2⟩:=hR G' L' a' w' hs' hr
   rcases h0 with rfl|rfl<;>exact⟨hs'.defers,v,h1,h2⟩
  ·exact hp.elim

theorem simW_noTok {B:Base} {bx:List (Nat×List D)} {G:Ghost} {w:World} (h:SimW B bx [] [] G w):SimW B bx [] [] {G with τ:=fun _=>none} w:=by
 have hr:∀ {d v},Rel G w d v→Rel {G with τ:=fun _=>none} w d v:=fun hr =>
  hr.mono (show Mono G {G with τ:=fun _=>none} w w from⟨fun _ _ _ h1 h2=>⟨h1,h2⟩,fun _ _=>rfl,fun _ _ _ h=>h⟩) (fun _ _ _ h=>h) (fun _ _=>.inl rfl)
 exact {
  boxes:=fun id cs hl=>by
   obtain⟨g,h1,⟨vs,e,e1,e2,e3⟩,h3⟩:=h.boxes id cs hl
   exact⟨g,h1,⟨vs,e,e1,e2,fun j d v hd hv=>hr (e3 j d v hd hv)⟩,h3⟩
  robs:=fun id cs hl=>by cases hl
  toks:=fun k hk=>by cases hk
  tau:=fun k g e z hk=>by cases hk
  tinj:=fun k k' g e z e' z' hk=>by cases hk
  binj:=h.binj
  blt:=h.blt
  lablt:=h.lablt
  old:=h.old
  olda:=h.olda
  oldl:=h.oldl
  tlab:=fun k g e z hk=>by cases hk
  blab:=h.blab
  oldu:=h.oldu
  labw:=h.labw
  ids:=h.ids
  sz:=h.sz
  os:=h.os
  tape:=h.tape
  out:=h.out
  dr:=h.dr}

theorem simW_oneTok {B:Base} {bx:List (Nat×List D)} {G:Ghost} {w:World} (t:Nat) (h:SimW B bx [] [t] G w) (hno:∀p∈bx,0∉D.tksL p.2):SimW B bx [] [0] {G with τ:=fun k=>if k=0 then G.τ t else none} w:=by
 let G':Ghost:={G with τ:=fun k=>if k=0 then G.τ t else none}
 have hr:∀ {d v},0∉d.tks→Rel G w d v→Rel G' w d v:=fun hn hr =>
  hr.mono (show Mono G G' w w from⟨fun _ _ _ h1 h2=>⟨h1,h2⟩,fun _ _=>rfl,fun _ _ _ h=>h⟩) (fun _ _ _ h=>h) (fun k hk=>.inl (by
   have:k≠0:=fun e=>hn (e ▸ hk)
   simp[G',this]))
 have hτ:∀ {k x},G'.τ k=some x→k=0∧G.τ t=some x:=fun {k x} hk=>by
  simp only[G'] at hk
  split at hk
  ·rename_i h0;exact⟨h0,hk⟩
  ·cases hk
 exact {
  boxes:=fun id cs hl=>by
   obtain⟨g,h1,⟨vs,e,e1,e2,e3⟩,h3⟩:=h.boxes id cs hl
   exact⟨g,h1,⟨vs,e,e1,e2,fun j d v hd hv=>hr (fun hi=>hno _ (mem_of_look hl) (mem_tksL (List.mem_of_getElem? hd) hi)) (e3 j d v hd hv)⟩,h3⟩
  robs:=fun id cs hl=>by cases hl
  toks:=fun k hk=>by
   obtain rfl:=List.mem_singleton.1 hk
   obtain⟨x,hx⟩:=h.toks t (List.mem_singleton.2 rfl)
   exact⟨x,by simp[hx]⟩
  tau:=fun k g e z hk=>h.tau t g e z (hτ hk).2
  tinj:=fun k k' g e z e' z' hk hk'=>by rw[(hτ hk).1,(hτ hk').1]
  binj:=h.binj
  blt:=h.blt
  lablt:=h.lablt
  old:=h.old
  olda:=h.olda
  oldl:=h.oldl
  tlab:=fun k g e z hk=>h.tlab t g e z (hτ hk).2
  blab:=h.blab
  oldu:=h.oldu
  labw:=h.labw
  ids:=h.ids
  sz:=h.sz
  os:=h.os
  tape:=h.tape
  out:=h.out
  dr:=h.dr}

def Ret (S:Setup) (rs:List ResultVar) (d:D) (bx':List (Nat×List D)) (L:LS):Prop :=
 resY S L rs fun d0=>D.le d0 d∧∀p∈bx',look L.boxes p.1=some p.2

theorem fc_body {S:Setup} {f:FuncId} {fn:Func} {c:Code} {ro bx:List (Nat×List D)} {tk:List Nat} {args:List D} {d:D} {bx':List (Nat×List D)}
  (hf:S.P.funcs[f]?=some fn) (hb:fn.body=some c) (hname:(fn.name == "runtime.NumGoroutine")=false) (hn:args.length≤fn.ntmps)
  (h:∀B,SW S B (Ret S fn.results.toList d bx') [.code c] ⟨fn.ntmps,enumD 0 args,bx,ro,tk,bx.map (·.1)⟩):FC S f ro bx tk args d bx' []:=by
 refine⟨⟨fn,hf,hname,by rw[hb];rfl⟩,fun w G vals hs=>calls_of_sw hf hb hn hs (h _) fun G' L' a' w' hs' hr=>?_⟩
 obtain⟨d0,v,⟨h1,h2⟩,h3,h4⟩:=resY_sound hs' hr
 refine⟨v,h3,v,{G' with τ:=fun _=>none},rfl,rfl,rfl,fun t d' hd=>?_,?_,hs.fixed⟩
 ·simp only[look] at hd
  split at hd
  ·rename_i ht
   subst ht
   obtain rfl:=Option.some.inj hd
   refine⟨v,rfl,?_⟩
   exact(h4.le h1).mono (show Mono G' {G' with τ:=fun _=>none} w' w' from⟨fun _ _ _ h1 h2=>⟨h1,h2⟩,fun _ _=>rfl,fun _ _ _ h=>h⟩) (fun _ _ _ h=>h) (fun _ _=>.inl rfl)
  ·cases hd
 ·exact simW_noTok (hs'.W.less h2 (ro':=[]) (by simp) (tk':=[]) (by simp))


def Ret1 (S:Setup) (rs:List ResultVar) (d:D) (bx':List (Nat×List D)) (L:LS):Prop :=
 resY S L rs fun d0=>∃t d1,D.le d0 d1∧t∈L.toks∧(∀k∈d1.tks,k=t)∧d1.sT 0=d∧(∀p∈bx',look L.boxes p.1=some p.2)∧∀p∈bx',0∉D.tksL p.2

theorem fc_body1 {S:Setup} {f:FuncId} {fn:Func} {c:Code} {ro bx:List (Nat×List D)} {tk:List Nat} {args:List D} {d:D} {bx':List (Nat×List D)}
  (hf:S.P.funcs[f]?=some fn) (hb:fn.body=some c) (hname:(fn.name == "runtime.NumGoroutine")=false) (hn:args.length≤fn.ntmps)
  (h:∀B,SW S B (Ret1 S fn.results.toList d bx') [.code c] ⟨fn.ntmps,enumD 0 args,bx,ro,tk,bx.map (·.1)⟩):FC S f ro bx tk args d bx' [0]:=by
 refine⟨⟨fn,hf,hname,by rw[hb];rfl⟩,fun w G vals hs=>calls_of_sw hf hb hn hs (h _) fun G' L' a' w' hs' hr=>?_⟩
 obtain⟨d0,v,⟨t,d1,h1,h2,h3,rfl,h5,h6⟩,h7,h8⟩:=resY_sound hs' hr
 refine⟨v,h7,v,{G' with τ:=fun k=>if k=0 then G'.τ t else none},rfl,rfl,rfl,fun t' d' hd=>?_,?_,hs.fixed⟩
 ·simp only[look] at hd
  split at hd
  ·rename_i ht
   subst ht
   obtain rfl:=Option.some.inj hd
   exact⟨v,rfl,Rel.setT (G:=G') (G':={G' with τ:=fun k=>if k=0 then G'.τ t else none}) rfl rfl rfl 0 (h8.le h1) fun k hk=>by simp[h3 k hk]⟩
  ·cases hd
 ·exact simW_oneTok t (hs'.W.less h5 (ro':=[]) (by simp) (tk':=[t]) (by simpa using h2)) h6

mutual
def D.mT (f:Nat→Nat):D→D
 | .sl (.own k e z) xs=>.sl (.own (f k) e z) xs
 | .sl (.que k e) xs=>.sl (.que (f k) e) xs
 | .agg cs=>.agg (D.mTL f cs)
 | .fn g cap=>.fn g (D.mTL f cap)
 | .tup ds=>.tup (D.mTL f ds)
 | d=>d
def D.mTL (f:Nat→Nat):List D→List D
 | []=>[]
 | d::ds=>d.mT f::D.mTL f ds
end
theorem mTL_map (f:Nat→Nat) (ds:List D):D.mTL f ds=ds.map (D.mT f):=by
 induction ds with
 | nil=>rfl
 | cons d ds ih=>simp[D.mTL,ih]

theorem Rel.mapT {G G':Ghost} {w:World} (hl:G'.lim=G.lim) (hb:G'.lab=G.lab) (hβ:G'.β=G.β) (f:Nat→Nat) {d:D} {v:Value} (h:Rel G w d v):(∀k∈d.tks,G'.τ (f k)=G.τ k)→Rel G' w (d.mT f) v:=by
 have hm:Mono G G' w w:=⟨fun b o v h1 h2=>⟨by rw[hl];exact h1,h2⟩,fun b _=>by rw[hb],fun _ _ _ h=>h⟩
 induction h with
 | int=>exact fun _=>.int
 | bool=>exact fun _=>.bool
 | str=>exact fun _=>.str
 | @sl tk xs A m c b o s hn hc hmx ht hA hu hk hst hr ih =>
  intro hkk
  have key:∀tk',(TkOk G' w tk' xs A m c)→Rel G' w (.sl tk' xs) (.slice A m c):=fun tk' ht'=>by
   refine .sl (b:=b) (o:=o) hn hc hmx ht' hA hu hk (fun j d hj=>?_) (fun j d v hj hv=>?_)
   ·rw[hl];exact hst j d hj
   ·have hmem:=hk d (List.mem_of_getElem? hj)
    exact(hr j d v hj hv).mono hm (by rw[memOk_ids hmem];simp) (by rw[memOk_tks hmem];simp)
  cases tk with
  | que k e =>
   refine key (.que (f k) e) ?_
   simp only[TkOk] at ht ⊢
   rw[hkk k (by simp[D.tks]),hl]
   exact ht
  | own k e z =>
   refine key (.own (f k) e z) ?_
   simp only[TkOk] at ht ⊢
   rw[hkk k (by simp[D.tks]),hl]
   exact ht
  | lab l =>
   refine key (.lab l) ?_
   rcases ht with ht|⟨g,o',e1,e2,e3⟩
   ·exact .inl ht
   ·exact .inr ⟨g,o',e1,by rw[hb];exact e2,e3⟩
  | _=>exact key _ ht
 | @agg cs vl hlen hr ih =>
  intro hk
  simp only[D.mT,mTL_map]
  refine .agg (by simpa using hlen) fun j d v hj hv=>?_
  simp only[List.getElem?_map,Option.map_eq_some_iff] at hj
  obtain⟨d0,hj,rfl⟩:=hj
  exact ih j d0 v hj hv (fun i hi'=>hk i (mem_tksL (List.mem_of_getElem? hj) hi'))
 | @fn g cap vl hlen hr ih =>
  intro hk
  simp only[D.mT,mTL_map]
  refine .fn (by simpa using hlen) fun j d v hj hv=>?_
  simp only[List.getElem?_map,Option.map_eq_some_iff] at hj
  obtain⟨d0,hj,rfl⟩:=hj
  exact ih j d0 v hj hv (fun i hi'=>hk i (mem_tksL (List.mem_of_getElem? hj) hi'))
 | box hb'=>exact fun _=>.box (by rw[hβ];exact hb')
 | ms hb' hc hn=>exact fun _=>.ms (by rw[hβ];exact hb') hc hn
 | vw hb' hc hn=>exact fun _=>.vw (by rw[hβ];exact hb') hc hn
 | @imm cs b o hk hst hr ih =>
  intro _
  refine .imm hk (fun j d hj=>?_) (fun j d v hj hv=>?_)
  ·rw[hl];exact hst j d hj
  ·have hmem:=hk d (List.mem_of_getElem? hj)
   exact(hr j d v hj hv).mono hm (by rw[memOk_ids hmem];simp) (by rw[memOk_tks hmem];simp)
 | @tup ds vl hlen hr ih =>
  intro hk
  simp only[D.mT,mTL_map]
  refine .tup (by simpa using hlen) fun j d v hj hv=>?_
  simp only[List.getElem?_map,Option.map_eq_some_iff] at hj
  obtain⟨d0,hj,rfl⟩:=hj
  exact ih j d0 v hj hv (fun i hi'=>hk i (mem_tksL (List.mem_of_getElem? hj) hi'))
 | raw h=>exact fun _=>.raw h
 | pred hv h=>exact fun _=>.pred hv fun G2 w2 hm2=>h G2 w2 (hm.trans hm2)

theorem simW_manyTok {B:Base} {bx bx':List (Nat×List D)} {G:Ghost} {w:World} (ts:List Nat) (hn:ts.Nodup) (h:SimW B bx [] ts G w) (hb:∀p∈bx',∃cs,look bx p.1=some cs∧(∀k∈D.tksL cs,k∈ts)∧D.mTL (fun k=>ts.idxOf k) cs=p.2) :
  SimW B bx' [] (List.range ts.length) {G with τ:=fun k=>match ts[k]? with|some t=>G.τ t|none=>none} w:=by
 let G':Ghost:={G with τ:=fun k=>match ts[k]? with|some t=>G.τ t|none=>none}
 have hτ0:∀k∈ts,G'.τ (ts.idxOf k)=G.τ k:=fun k hk=>by
  have:ts[ts.idxOf k]?=some k:=by
   rw[List.getElem?_eq_getElem (List.idxOf_lt_length_iff.2 hk),List.getElem_idxOf]
  simp[G',this]
 have hτ:∀ {k x},G'.τ k=some x→∃t,ts[k]?=some t∧G.τ t=some x:=fun {k x} hk=>by
  simp only[G'] at hk
  split at hk
  ·rename_i t ht;exact⟨t,ht,hk⟩
  ·cases hk
 exact {
  boxes:=fun id cs hl=>by
   obtain⟨cs0,h1,h2,h3⟩:=hb _ (mem_of_look hl)
   obtain⟨g,q1,⟨vs,e,e1,e2,e3⟩,q3⟩:=h.boxes id cs0 h1
   dsimp only at h3
   subst h3
   refine⟨g,q1,⟨vs,e,e1,by rw[mTL_map,List.length_map];exact e2,fun j d v hd hv=>?_⟩,q3⟩
   rw[mTL_map,List.getElem?_map,Option.map_eq_some_iff] at hd
   obtain⟨d0,hd,rfl⟩:=hd
   exact Rel.mapT (G:=G) (G':=G') rfl rfl rfl (fun k=>ts.idxOf k) (e3 j d0 v hd hv) fun k hk=>hτ0 k (h2 k (mem_tksL (List.mem_of_getElem? hd) hk))
  robs:=fun id cs hl=>by cases hl
  toks:=fun k hk=>by
   have hk:=List.mem_range.1 hk
   obtain⟨x,hx⟩:=h.toks ts[k] (List.getElem_mem hk)
   exact⟨x,by simp[hk,hx]⟩
  tau:=fun k g e z hk=>by
   obtain⟨t,_,h2⟩:=hτ hk
   exact h.tau t g e z h2
  tinj:=fun k k' g e z e' z' hk hk'=>by
   obtain⟨t,h1,h2⟩:=hτ hk
   obtain⟨t',h1',h2'⟩:=hτ hk'
   have:=h.tinj t t' g e z e' z' h2 h2'
   subst this
   obtain⟨l1,l2⟩:=List.getElem?_eq_some_iff.1 h1
   obtain⟨l3,l4⟩:=List.getElem?_eq_some_iff.1 h1'
   have hp:=List.pairwise_iff_getElem.1 hn
   rcases Nat.lt_trichotomy k k' with h|h|h
   ·exact absurd (l2.trans l4.symm) (hp k k' l1 l3 h)
   ·exact h
   ·exact absurd (l4.trans l2.symm) (hp k' k l3 l1 h)
  binj:=h.binj
  blt:=h.blt
  lablt:=h.lablt
  old:=h.old
  olda:=h.olda
  oldl:=h.oldl
  tlab:=fun k g e z hk=>by
   obtain⟨t,_,h2⟩:=hτ hk
   exact h.tlab t g e z h2
  blab:=h.blab
  oldu:=h.oldu
  labw:=h.labw
  ids:=h.ids
  sz:=h.sz
  os:=h.os
  tape:=h.tape
  out:=h.out
  dr:=h.dr}

def RetK (d:D) (bx':List (Nat×List D)) (n:Nat) (L:LS) (d0:D):Prop :=
 ∃(ts:List Nat) (d1:D),D.le d0 d1∧(ts.length=n∧ts.Nodup)∧(∀t∈ts,t∈L.toks)∧(∀k∈d1.tks,k∈ts)∧d1.mT (fun k=>ts.idxOf k)=d ∧
  ∀p∈bx',∃cs,look L.boxes p.1=some cs∧(∀k∈D.tksL cs,k∈ts)∧D.mTL (fun k=>ts.idxOf k) cs=p.2
def RetN (S:Setup) (rs:List ResultVar) (d:D) (bx':List (Nat×List D)) (n:Nat) (L:LS):Prop:=resY S L rs (RetK d bx' n L)

theorem fc_bodyN {S:Setup} {f:FuncId} {fn:Func} {c:Code} {ro bx:List (Nat×List D)} {tk:List Nat} {args:List D} {d:D} {bx':List (Nat×List D)} {tk':List Nat}
  (hf:S.P.funcs[f]?=some fn) (hb:fn.body=some c) (hname:(fn.name == "runtime.NumGoroutine")=false) (hn:args.length≤fn.ntmps) (htk:tk'=List.range tk'.length)
  (h:∀B,SW S B (RetN S fn.results.toList d bx' tk'.length) [.code c] ⟨fn.ntmps,enumD 0 args,bx,ro,tk,bx.map (·.1)⟩):FC S f ro bx tk args d bx' tk':=by
 rw[htk]
 refine⟨⟨fn,hf,hname,by rw[hb];rfl⟩,fun w G vals hs=>calls_of_sw hf hb hn hs (h _) fun G' L' a' w' hs' hr=>?_⟩
 obtain⟨d0,v,⟨ts,d1,h1,⟨hl,hnd⟩,h2,h3,rfl,h5⟩,h7,h8⟩:=resY_sound hs' hr
 rw[←hl]
 refine⟨v,h7,v,{G' with τ:=fun k=>match ts[k]? with|some t=>G'.τ t|none=>none},rfl,rfl,rfl,fun t' d' hd=>?_,?_,hs.fixed⟩
 ·simp only[look] at hd
  split at hd
  ·rename_i ht
   subst ht
   obtain rfl:=Option.some.inj hd
   refine⟨v,rfl,Rel.mapT (G:=G') (G':={G' with τ:=fun k=>match ts[k]? with|some t=>G'.τ t|none=>none}) rfl rfl rfl (fun k=>ts.idxOf k) (h8.le h1) fun k hk=>?_⟩
   have:ts[ts.idxOf k]?=some k:=by
    rw[List.getElem?_eq_getElem (List.idxOf_lt_length_iff.2 (h3 k hk)),List.getElem_idxOf]
   simp[this]
  ·cases hd
 ·exact simW_manyTok ts hnd {hs'.W with robs:=fun id cs hl=>(by cases hl),toks:=fun k hk=>hs'.W.toks k (h2 k hk)} h5

end Go.Lg
/-
  Lg, part 19: a table of types, held against the program by a closed check.
-/
namespace Go.Lg
open Go Go.RowKit

def zcheck:List Value→List ZK→Bool
 | [],[]=>true
 | v::vs,k::ks=>k.is v&&zcheck vs ks
 | _,_=>false
def descCheck (P:Program) (t:TypeId):TK→Bool
 | .slice e=>match P.underlying t with|some (.slice e')=>e'==e|_=>false
 | .struct fs=>match P.underlying t with
  | some (.struct fields)=>fields.toList.map (fun f=>(f.offset,f.type))==fs&&(fields.toList.mapM (fun f=>(P.info? f.type).map fun i=>(f.offset,i.size))).isSome
  | _=>false
 | .array n e=>match P.underlying t with|some (.array n' e')=>n'==n&&e'==e|_=>false
 | .string=>match P.underlying t with|some .string=>true|_=>false
 | .bool=>match P.underlying t with|some .bool=>true|_=>false
 | .int k=>match P.underlying t with|some (.int k')=>k'==k|_=>false
 | .other=>match P.underlying t with|some (.struct _)|some (.array _ _)|none=>false|some _=>true
def tyCheck (P:Program) (t:TypeId) (i:TyI):Bool :=
 match P.info? t with
 | some inf=>inf.size==i.size&&inf.bytes==i.bytes&&(match inf.zero with|some z=>zcheck z.cells.toList i.zero|none=>false)&&(i.agg||i.size==1)&&descCheck P t i.kind
 | none=>false

theorem zk_is {k:ZK} {v:Value} (h:k.is v=true):v=k.val:=by
 unfold ZK.is at h
 split at h<;>first
  | rfl
  | (simp at h;done)
  | skip
 ·simp only[Bool.and_eq_true,beq_iff_eq] at h
  obtain⟨rfl,rfl⟩:=h
  rfl
 ·simp only[Bool.not_eq_true'] at h
  subst h
  rfl
 ·rename_i s
  have h:s.size=0:=by simpa using h
  have:s=ByteArray.empty:=by
   obtain⟨d⟩:=s
   have:d=#[]:=Array.eq_empty_of_size_eq_zero h
   subst this
   rfl
  subst this
  rfl

theorem zcheck_eq:∀ {vs:List Value} {ks:List ZK},zcheck vs ks=true→vs=ks.map ZK.val
 | [],[],_=>rfl
 | v::vs,k::ks,h=>by
  simp only[zcheck,Bool.and_eq_true] at h
  simp[zk_is h.1,zcheck_eq h.2]
 | [],_::_,h=>by cases h
 | _::_,[],h=>by cases h

theorem tyCheck_ok {P:Program} {t:TypeId} {i:TyI} (h:tyCheck P t i=true):TyOk P t i:=by
 unfold tyCheck at h
 split at h
 ·rename_i inf hi
  simp only[Bool.and_eq_true,beq_iff_eq,Bool.or_eq_true] at h
  obtain⟨⟨⟨⟨h1,h2⟩,h3⟩,h4⟩,h5⟩:=h
  refine⟨⟨inf,hi,h1,h2,?_⟩,?_⟩
  ·split at h3
   ·rename_i z hz
    refine⟨z,hz,?_,fun ha=>?_⟩
    ·rw[←Array.toArray_toList (xs:=z.cells),zcheck_eq h3]
    ·rcases h4 with h4|h4
     ·rw[ha] at h4;cases h4
     ·exact h4
   ·cases h3
  ·cases hk:i.kind<;>rw[hk] at h5<;>simp only[descCheck] at h5 ⊢
   case slice e=>split at h5<;>first|(simp only[beq_iff_eq] at h5;subst h5;assumption)|cases h5
   case struct fs =>
    split at h5
    ·rename_i fields hu
     simp only[Bool.and_eq_true,beq_iff_eq] at h5
     exact⟨fields,hu,h5.1,Option.isSome_iff_exists.1 h5.2⟩
    ·cases h5
   case array n e =>
    split at h5
    ·rename_i hu
     simp only[Bool.and_eq_true,beq_iff_eq] at h5
     obtain⟨rfl,rfl⟩:=h5
     exact hu
    ·cases h5
   case string=>split at h5<;>first|assumption|cases h5
   case bool=>split at h5<;>first|assumption|cases h5
   case int k=>split at h5<;>first|(simp only[beq_iff_eq] at h5;subst h5;assumption)|cases h5
   case other =>
    split at h5
    ·cases h5
    ·cases h5
    ·cases h5
    ·rename_i d h1 h2 hu
     exact⟨d,hu,by cases d<;>simp_all⟩
 ·cases h

theorem tabOk {P:Program} {l:List (Nat×TyI)} (h:l.all (fun p=>tyCheck P p.1 p.2)=true):∀t i,look l t=some i→TyOk P t i:=fun _ _ hl =>
 tyCheck_ok (List.all_eq_true.1 h _ (mem_of_look hl))

end Go.Lg
/-
  Lg, part 20: the equations by which a region is reckoned.
-/
namespace Go.Lg
open Go Go.RowKit

section congrs
variable {S:Setup} {K:D→Prop}
theorem mkFn_nil (f:Nat) (c:Option (List D)):makeFnY f (some []) c K=someK c fun ds=>K (.fn f ds):=rfl
theorem mkFn_one (f:Nat) (d:D):makeFnY f (some [d]) (some []) K=((d.ids=[]∧d.tks=[])∧K (D.mv f d)):=by simp[makeFnY]
end congrs

def pickY (ρ:Operand→Option D) (a b:Operand) (d:D) (K:D→Prop):Prop:=match d with
 | .bool t=>(match t with
  | true=>someK (ρ a) K
  | false=>someK (ρ b) K)
 | _=>False
theorem pickY_t (ρ:Operand→Option D) (a b:Operand) (K:D→Prop):pickY ρ a b (.bool true) K=someK (ρ a) K:=rfl
theorem pickY_f (ρ:Operand→Option D) (a b:Operand) (K:D→Prop):pickY ρ a b (.bool false) K=someK (ρ b) K:=rfl

def nilcY (d:D) (K:D→Prop):Prop:=match d with
 | .box ..|.imm _|.fn ..=>K d
 | _=>False
def extrY (i:Nat) (d:D) (K:D→Prop):Prop:=match d with
 | .tup ds=>someK ds[i]? K
 | _=>False
section eqs
variable (S:Setup) (base:Nat) (ops:Array Oper) (K:List Oper→LS→Prop) (l:List Oper) (L:LS) (dst:Option Nat) (ty:TypeId) (pos:String) (aft:Array Edge)

def nextL (d:D):Prop:=dstOk dst L∧runL S base ops K l (L.putO dst d)
theorem nextL_some (t:Nat) (d:D):nextL S base ops K l L (some t) d=(t<L.n∧runL S base ops K l (L.put t d)):=rfl
theorem nextL_none (d:D):nextL S base ops K l L none d=(True∧runL S base ops K l L):=rfl

theorem runL_nil:runL S base ops K [] L=K [] L:=rfl
theorem runL_call (f:Operand) (args:Array Operand) (tys:Array TypeId) (g:Option (Nat×Bool)):runL S base ops K (⟨dst,.call ⟨.value f,args,tys⟩,ty,pos,aft,g⟩::l) L=K (⟨dst,.call ⟨.value f,args,tys⟩,ty,pos,aft,g⟩::l) L:=rfl

theorem runL_of (op:Op) (h:∀f args tys,op≠.call ⟨.value f,args,tys⟩):runL S base ops K (⟨dst,op,ty,pos,aft,none⟩::l) L=stepY S base ⟨dst,op,ty,pos,aft,none⟩ L (runL S base ops K l):=by
 conv=>lhs;unfold runL
 split
 ·exact absurd rfl (h _ _ _)
 ·rfl
def isVCall:Op→Bool
 | .call ⟨.value _,_,_⟩=>true
 | _=>false
theorem runL_want (op:Op) (p:Nat×Bool) (hc:isVCall op=false) (h:guardY ops L (some p)=some true):runL S base ops K (⟨dst,op,ty,pos,aft,some p⟩::l) L=runL S base ops K (⟨dst,op,ty,pos,aft,none⟩::l) L:=by
 rw[runL_of]
 ·conv=>lhs;unfold runL
  split
  ·cases hc
  ·rw[h];rfl
 ·intro f args tys e;subst e;cases hc
theorem runL_skip (op:Op) (p:Nat×Bool) (hc:isVCall op=false) (h:guardY ops L (some p)=some false):runL S base ops K (⟨dst,op,ty,pos,aft,some p⟩::l) L=nextL S base ops K l L dst (.raw undef):=by
 conv=>lhs;unfold runL
 split
 ·cases hc
 ·rw[h];rfl
def runG (o:Oper):Option Bool→Prop
 | some true=>runL S base ops K (⟨o.dst,o.op,o.type,o.pos,o.after,none⟩::l) L
 | some false=>nextL S base ops K l L o.dst (.raw undef)
 | none=>runL S base ops K (o::l) L
theorem runG_t (o:Oper):runG S base ops K l L o (some true)=runL S base ops K (⟨o.dst,o.op,o.type,o.pos,o.after,none⟩::l) L:=rfl
theorem runG_f (o:Oper):runG S base ops K l L o (some false)=nextL S base ops K l L o.dst (.raw undef):=rfl
theorem runL_grd (op:Op) (p:Nat×Bool) (hc:isVCall op=false):runL S base ops K (⟨dst,op,ty,pos,aft,some p⟩::l) L=runG S base ops K l L ⟨dst,op,ty,pos,aft,some p⟩ (guardY ops L (some p)):=by
 cases h:guardY ops L (some p) with
 | none=>rfl
 | some b=>cases b with
  | true=>exact runL_want S base ops K l L dst ty pos aft op p hc h
  | false=>exact runL_skip S base ops K l L dst ty pos aft op p hc h
abbrev GrdL (op:Op):Prop:=∀S base ops K l L dst ty pos aft (p:Nat×Bool),runL S base ops K (⟨dst,op,ty,pos,aft,some p⟩::l) L=runG S base ops K l L ⟨dst,op,ty,pos,aft,some p⟩ (guardY ops L (some p))
theorem grdL {op:Op} (h:isVCall op=false):GrdL op:=fun S base ops K l L dst ty pos aft p=>runL_grd S base ops K l L dst ty pos aft op p h
theorem runL_g_move {x}:GrdL (.move x):=grdL rfl
theorem runL_g_assign {x}:GrdL (.assign x):=grdL rfl
theorem runL_g_pick {a b c}:GrdL (.pick a b c):=grdL rfl
theorem runL_g_alloc {t}:GrdL (.alloc t):=grdL rfl
theorem runL_g_box {t x}:GrdL (.box t x):=grdL rfl
theorem runL_g_build {t p}:GrdL (.build t p):=grdL rfl
theorem runL_g_buildSlice {t n p}:GrdL (.buildSlice t n p):=grdL rfl
theorem runL_g_load {t x}:GrdL (.load t x):=grdL rfl
theorem runL_g_store {t x y}:GrdL (.store t x y):=grdL rfl
theorem runL_g_nilCheck {x}:GrdL (.nilCheck x):=grdL rfl
theorem runL_g_binOp {o t u x y}:GrdL (.binOp o t x y u):=grdL rfl
theorem runL_g_unOp {o t x}:GrdL (.unOp o t x):=grdL rfl
theorem runL_g_convert {s t x}:GrdL (.convert s t x):=grdL rfl
theorem runL_g_makeFunc {f a b}:GrdL (.makeFunc f a b):=grdL rfl
theorem runL_g_makeSlice {t x y}:GrdL (.makeSlice t x y):=grdL rfl
theorem runL_g_slice {t x a b c}:GrdL (.slice t x a b c):=grdL rfl
theorem runL_g_fieldAddr {t x n}:GrdL (.fieldAddr t x n):=grdL rfl
theorem runL_g_field {t x n}:GrdL (.field t x n):=grdL rfl
theorem runL_g_indexAddr {t x y}:GrdL (.indexAddr t x y):=grdL rfl
theorem runL_g_index {t x y}:GrdL (.index t x y):=grdL rfl
theorem runL_g_extract {x n}:GrdL (.extract x n):=grdL rfl
theorem runL_g_call {b a tys}:GrdL (.call ⟨.builtin b,a,tys⟩):=grdL rfl
theorem runL_move (x:Operand):runL S base ops K (⟨dst,.move x,ty,pos,aft,none⟩::l) L=someK (evalO L x) (nextL S base ops K l L dst) :=
 runL_of S base ops K l L dst ty pos aft _ (by intro _ _ _ h;cases h)
theorem runL_assign (x:Operand):runL S base ops K (⟨dst,.assign x,ty,pos,aft,none⟩::l) L=someK (evalO L x) (nextL S base ops K l L dst) :=
 runL_of S base ops K l L dst ty pos aft _ (by intro _ _ _ h;cases h)
theorem runL_pick (c x y:Operand):runL S base ops K (⟨dst,.pick c x y,ty,pos,aft,none⟩::l) L=someK (evalO L c) fun d=>pickY (evalO L) x y d (nextL S base ops K l L dst):=by
 rw[runL_of S base ops K l L dst ty pos aft _ (by intro _ _ _ h;cases h)]
 congr 1
 show opY S (.pick c x y) (evalO L) L.getBox _=_
 unfold opY
 simp only
 congr 1
 funext d
 cases d<;>first|rfl|(rename_i b;cases b<;>rfl)
theorem runL_load (t:TypeId) (x:Operand):runL S base ops K (⟨dst,.load t x,ty,pos,aft,none⟩::l) L=someK (evalO L x) fun d=>loadY S t L.getBox d (nextL S base ops K l L dst) :=
 runL_of S base ops K l L dst ty pos aft _ (by intro _ _ _ h;cases h)
theorem runL_nilCheck (x:Operand):runL S base ops K (⟨dst,.nilCheck x,ty,pos,aft,none⟩::l) L=someK (evalO L x) fun d=>nilcY d (nextL S base ops K l L dst):=by
 rw[runL_of S base ops K l L dst ty pos aft _ (by intro _ _ _ h;cases h)]
 congr 1
theorem runL_binOp (o:BinOp) (t u:TypeId) (x y:Operand):runL S base ops K (⟨dst,.binOp o t x y u,ty,pos,aft,none⟩::l) L=someK (evalO L x) fun dx=>someK (evalO L y) fun dy=>binY S o t dx dy (nextL S base ops K l L dst) :=
 runL_of S base ops K l L dst ty pos aft _ (by intro _ _ _ h;cases h)
theorem runL_unOp (o:UnOp) (t:TypeId) (x:Operand):runL S base ops K (⟨dst,.unOp o t x,ty,pos,aft,none⟩::l) L=someK (evalO L x) fun d=>unY o d (nextL S base ops K l L dst) :=
 runL_of S base ops K l L dst ty pos aft _ (by intro _ _ _ h;cases h)
theorem runL_convert (s t:TypeId) (x:Operand):runL S base ops K (⟨dst,.convert s t x,ty,pos,aft,none⟩::l) L=((S.tab s).isSome=true∧someK (evalO L x) fun d=>convY S t d (nextL S base ops K l L dst)) :=
 runL_of S base ops K l L dst ty pos aft _ (by intro _ _ _ h;cases h)
theorem runL_makeFunc (f:FuncId) (first cap:Array Operand):runL S base ops K (⟨dst,.makeFunc (.func f) first cap,ty,pos,aft,none⟩::l) L=(makeFnY f (mapO (evalO L) first.toList) (mapO (evalO L) cap.toList) (nextL S base ops K l L dst)) :=
 runL_of S base ops K l L dst ty pos aft _ (by intro _ _ _ h;cases h)
theorem runL_fieldAddr (t:TypeId) (x:Operand) (f:Nat):runL S base ops K (⟨dst,.fieldAddr t x f,ty,pos,aft,none⟩::l) L=someK (evalO L x) fun d=>fieldAddrY S t f d (nextL S base ops K l L dst) :=
 runL_of S base ops K l L dst ty pos aft _ (by intro _ _ _ h;cases h)
theorem runL_field (t:TypeId) (x:Operand) (f:Nat):runL S base ops K (⟨dst,.field t x f,ty,pos,aft,none⟩::l) L=someK (evalO L x) fun d=>fieldY S t f d (nextL S base ops K l L dst) :=
 runL_of S base ops K l L dst ty pos aft _ (by intro _ _ _ h;cases h)
theorem runL_indexAddr (t:TypeId) (x i:Operand):runL S base ops K (⟨dst,.indexAddr t x i,ty,pos,aft,none⟩::l) L=someK (evalO L x) fun dx=>someK (evalO L i) fun di=>indexAddrY S t dx di (nextL S base ops K l L dst) :=
 runL_of S base ops K l L dst ty pos aft _ (by intro _ _ _ h;cases h)
theorem runL_index (t:TypeId) (x i:Operand):runL S base ops K (⟨dst,.index t x i,ty,pos,aft,none⟩::l) L=someK (evalO L x) fun dx=>someK (evalO L i) fun di=>indexY S t dx di (nextL S base ops K l L dst) :=
 runL_of S base ops K l L dst ty pos aft _ (by intro _ _ _ h;cases h)
theorem runL_slice (t : TypeId) (x : Operand) (lo hi mx : Option Operand) : runL S base ops K (⟨dst, .slice t x lo hi mx, ty, pos, aft, none⟩ :: l) L = someK (evalO L x) fun d => someK (intOfD (lo.bind (evalO L))) fun l' => someK (intOfD (hi.bind (evalO L))) fun h => someK (intOfD (mx.bind (evalO L))) fun m =>
   ((lo.isSome=l'.isSome∧hi.isSome=h.isSome∧mx.isSome=m.isSome)∧(mx.isSome=true→hi.isSome=true))∧sliceY S t d l' h m (nextL S base ops K l L dst) :=
 runL_of S base ops K l L dst ty pos aft _ (by intro _ _ _ h;cases h)
theorem runL_build (t:TypeId) (ps:Array (Nat×Operand)):runL S base ops K (⟨dst,.build t ps,ty,pos,aft,none⟩::l) L=someK (zipO (evalO L) ps.toList) fun q=>buildY S t q (nextL S base ops K l L dst) :=
 runL_of S base ops K l L dst ty pos aft _ (by intro _ _ _ h;cases h)
theorem runL_buildSlice (t:TypeId) (n:Nat) (ps:Array (Nat×Operand)):runL S base ops K (⟨dst,.buildSlice t n ps,ty,pos,aft,none⟩::l) L=someK (zipO (evalO L) ps.toList) fun q=>buildSliceY S t n q (nextL S base ops K l L dst) :=
 runL_of S base ops K l L dst ty pos aft _ (by intro _ _ _ h;cases h)
theorem runL_extract (x:Operand) (i:Nat):runL S base ops K (⟨dst,.extract x i,ty,pos,aft,none⟩::l) L=someK (evalO L x) fun d=>extrY i d (nextL S base ops K l L dst):=by
 rw[runL_of S base ops K l L dst ty pos aft _ (by intro _ _ _ h;cases h)]
 congr 1
theorem runL_len (x:Operand) (t:TypeId):runL S base ops K (⟨dst,.call ⟨.builtin .len,#[x],#[t]⟩,ty,pos,aft,none⟩::l) L=someK (evalO L x) fun d=>lenY S t d (nextL S base ops K l L dst):=by
 rw[runL_of S base ops K l L dst ty pos aft _ (by intro _ _ _ h;cases h)]
 congr 1
 show opY S (.call ⟨.builtin .len,#[x],#[t]⟩) (evalO L) L.getBox _=_
 unfold opY
 simp only[mapO]
 cases evalO L x<;>rfl
theorem runL_min (x y:Operand) (tys:Array TypeId):runL S base ops K (⟨dst,.call ⟨.builtin .min,#[x,y],tys⟩,ty,pos,aft,none⟩::l) L=someK (evalO L x) fun dx=>someK (evalO L y) fun dy=>someK (minD dx dy) (nextL S base ops K l L dst):=by
 rw[runL_of S base ops K l L dst ty pos aft _ (by intro _ _ _ h;cases h)]
 congr 1
 show opY S (.call ⟨.builtin .min,#[x,y],tys⟩) (evalO L) L.getBox _=_
 unfold opY
 simp only[mapO]
 cases evalO L x<;>cases evalO L y<;>rfl
theorem runL_max (x y:Operand) (tys:Array TypeId):runL S base ops K (⟨dst,.call ⟨.builtin .max,#[x,y],tys⟩,ty,pos,aft,none⟩::l) L=someK (evalO L x) fun dx=>someK (evalO L y) fun dy=>someK (maxD dx dy) (nextL S base ops K l L dst):=by
 rw[runL_of S base ops K l L dst ty pos aft _ (by intro _ _ _ h;cases h)]
 congr 1
 show opY S (.call ⟨.builtin .max,#[x,y],tys⟩) (evalO L) L.getBox _=_
 unfold opY
 simp only[mapO]
 cases evalO L x<;>cases evalO L y<;>rfl
theorem runL_box (t:Nat) (T:TypeId) (x:Operand):runL S base ops K (⟨some t,.box T x,ty,pos,aft,none⟩::l) L=someK (evalO L x) fun d=>(t<L.n∧base+t∉L.fix∧base+t∉D.idsL d.cells)∧runL S base ops K l (L.newBox t (base+t) d.cells (.box (base+t) 0)) :=
 runL_of S base ops K l L (some t) ty pos aft _ (by intro _ _ _ h;cases h)
theorem runL_alloc (t:Nat) (T:TypeId):runL S base ops K (⟨some t,.alloc T,ty,pos,aft,none⟩::l) L=someK (S.tab T) fun i=>(t<L.n∧base+t∉L.fix)∧runL S base ops K l (L.newBox t (base+t) (i.zero.map ZK.d) (.box (base+t) 0)) :=
 runL_of S base ops K l L (some t) ty pos aft _ (by intro _ _ _ h;cases h)
theorem runL_store (T:TypeId) (x v:Operand):runL S base ops K (⟨dst,.store T x v,ty,pos,aft,none⟩::l) L=someK (evalO L x) fun da=>someK (evalO L v) fun d=>storeY S L dst T da d (runL S base ops K l) :=
 runL_of S base ops K l L dst ty pos aft _ (by intro _ _ _ h;cases h)
theorem runL_makeSlice (t:Nat) (T:TypeId) (x c:Operand):runL S base ops K (⟨some t,.makeSlice T x c,ty,pos,aft,none⟩::l) L=someK (evalO L x) fun dl=>someK (evalO L c) fun dc=>makeY S base L t T (sameOp x c) dl dc (runL S base ops K l) :=
 runL_of S base ops K l L (some t) ty pos aft _ (by intro _ _ _ h;cases h)
theorem runL_append (t:Nat) (T T':TypeId) (args:Array Operand):runL S base ops K (⟨some t,.call ⟨.builtin .append,args,#[T,T']⟩,ty,pos,aft,none⟩::l) L=(T=T'∧someK (mapO (evalO L) args.toList) fun ds=>appendY S L t T ds (runL S base ops K l)) :=
 runL_of S base ops K l L (some t) ty pos aft _ (by intro _ _ _ h;cases h)
end eqs

section yeqs
variable (S:Setup) (K:D→Prop)
theorem binY_int (op:BinOp) (t:TypeId) (k k':IntKind) (a b:Int):binY S op t (.int k a) (.int k' b) K=intYY op k k' a b K:=rfl
theorem intYY_add (k k':IntKind) (a b:Int):intYY .add k k' a b K=(k=k'∧intY .add k a b K):=rfl
theorem intYY_sub (k k':IntKind) (a b:Int):intYY .sub k k' a b K=(k=k'∧intY .sub k a b K):=rfl
theorem intYY_mul (k k':IntKind) (a b:Int):intYY .mul k k' a b K=(k=k'∧intY .mul k a b K):=rfl
theorem intYY_quo (k k':IntKind) (a b:Int):intYY .quo k k' a b K=(k=k'∧intY .quo k a b K):=rfl
theorem intYY_rem (k k':IntKind) (a b:Int):intYY .rem k k' a b K=(k=k'∧intY .rem k a b K):=rfl
theorem intYY_eql (k k':IntKind) (a b:Int):intYY .eql k k' a b K=(k=k'∧intY .eql k a b K):=rfl
theorem intYY_neq (k k':IntKind) (a b:Int):intYY .neq k k' a b K=(k=k'∧intY .neq k a b K):=rfl
theorem intYY_lss (k k':IntKind) (a b:Int):intYY .lss k k' a b K=(k=k'∧intY .lss k a b K):=rfl
theorem intYY_leq (k k':IntKind) (a b:Int):intYY .leq k k' a b K=(k=k'∧intY .leq k a b K):=rfl
theorem intYY_gtr (k k':IntKind) (a b:Int):intYY .gtr k k' a b K=(k=k'∧intY .gtr k a b K):=rfl
theorem intYY_geq (k k':IntKind) (a b:Int):intYY .geq k k' a b K=(k=k'∧intY .geq k a b K):=rfl
theorem intYY_and (k k':IntKind) (a b:Int):intYY .and k k' a b K=(k=k'∧intY .and k a b K):=rfl
theorem intYY_or (k k':IntKind) (a b:Int):intYY .or k k' a b K=(k=k'∧intY .or k a b K):=rfl
theorem intYY_xor (k k':IntKind) (a b:Int):intYY .xor k k' a b K=(k=k'∧intY .xor k a b K):=rfl
theorem intYY_andNot (k k':IntKind) (a b:Int):intYY .andNot k k' a b K=(k=k'∧intY .andNot k a b K):=rfl
theorem intYY_shl (k k':IntKind) (a b:Int):intYY .shl k k' a b K=((0≤b∧b≤k.bits)∧K (.int k (k.wrap (a*2^b.toNat)))):=rfl
theorem intYY_shr (k k':IntKind) (a b:Int):intYY .shr k k' a b K=((0≤b∧b≤k.bits)∧K (.int k (a / 2^b.toNat))):=rfl
theorem intY_and (k:IntKind) (a b:Int):intY .and k a b K=K (.int k (bits .and k a b)):=rfl
theorem intY_or (k:IntKind) (a b:Int):intY .or k a b K=K (.int k (bits .or k a b)):=rfl
theorem intY_xor (k:IntKind) (a b:Int):intY .xor k a b K=K (.int k (bits .xor k a b)):=rfl
theorem intY_andNot (k:IntKind) (a b:Int):intY .andNot k a b K=K (.int k (bits .andNot k a b)):=rfl
theorem binY_bool (op:BinOp) (t:TypeId) (a b:Bool):binY S op t (.bool a) (.bool b) K=(S.kd t=some .bool∧boolY op a b K):=rfl
theorem binY_str (op:BinOp) (t:TypeId) (a b:ByteArray):binY S op t (.str a) (.str b) K=strY op a b K:=rfl
theorem binY_nil (op:BinOp) (t:TypeId) (tk:Tk) (xs:List D):binY S op t (.sl tk xs) (.sl .nil []) K=((∃e,S.kd t=some (.slice e))∧nilY op tk xs K):=rfl
theorem intY_add (k:IntKind) (a b:Int):intY .add k a b K=K (.int k (k.wrap (a+b))):=rfl
theorem intY_sub (k:IntKind) (a b:Int):intY .sub k a b K=K (.int k (k.wrap (a-b))):=rfl
theorem intY_mul (k:IntKind) (a b:Int):intY .mul k a b K=K (.int k (k.wrap (a*b))):=rfl
theorem intY_quo (k:IntKind) (a b:Int):intY .quo k a b K=(b≠0∧K (.int k (k.wrap (a.tdiv b)))):=rfl
theorem intY_rem (k:IntKind) (a b:Int):intY .rem k a b K=(b≠0∧K (.int k (a.tmod b))):=rfl
theorem intY_eql (k:IntKind) (a b:Int):intY .eql k a b K=K (.bool (a==b)):=rfl
theorem intY_neq (k:IntKind) (a b:Int):intY .neq k a b K=K (.bool (a != b)):=rfl
theorem intY_lss (k:IntKind) (a b:Int):intY .lss k a b K=K (.bool (decide (a<b))):=rfl
theorem intY_leq (k:IntKind) (a b:Int):intY .leq k a b K=K (.bool (decide (a≤b))):=rfl
theorem intY_gtr (k:IntKind) (a b:Int):intY .gtr k a b K=K (.bool (decide (b<a))):=rfl
theorem intY_geq (k:IntKind) (a b:Int):intY .geq k a b K=K (.bool (decide (b≤a))):=rfl
theorem strY_eql (a b:ByteArray):strY .eql a b K=K (.bool (a.toList==b.toList)):=rfl
theorem strY_neq (a b:ByteArray):strY .neq a b K=K (.bool (!(a.toList==b.toList))):=rfl
theorem strY_lss (a b:ByteArray):strY .lss a b K=K (.bool (Op.bytesLess a.toList b.toList)):=rfl
theorem strY_add (a b:ByteArray):strY .add a b K=(a.size+b.size≤9223372036854775807∧K (.str (a++b))):=rfl
theorem boolY_eql (a b:Bool):boolY .eql a b K=K (.bool (a==b)):=rfl
theorem boolY_neq (a b:Bool):boolY .neq a b K=K (.bool (!(a==b))):=rfl
theorem nilY_eql_nil (xs:List D):nilY .eql .nil xs K=K (.bool true):=rfl
theorem nilY_neq_nil (xs:List D):nilY .neq .nil xs K=K (.bool false):=rfl
theorem nilY_eql_nl (xs:List D):nilY .eql .nl xs K=K (.bool true):=rfl
theorem nilY_neq_nl (xs:List D):nilY .neq .nl xs K=K (.bool false):=rfl
theorem nilY_eql_nn (xs:List D):nilY .eql .nn xs K=K (.bool false):=rfl
theorem nilY_neq_nn (xs:List D):nilY .neq .nn xs K=K (.bool true):=rfl
theorem nilY_eql_any (xs:List D):nilY .eql .any xs K=(xs≠[]∧K (.bool false)):=rfl
theorem nilY_neq_any (xs:List D):nilY .neq .any xs K=(xs≠[]∧K (.bool true)):=rfl
theorem unY_not (b:Bool):unY .not (.bool b) K=K (.bool (!b)):=rfl
theorem unY_neg (k:IntKind) (n:Int):unY .neg (.int k n) K=K (.int k (k.wrap (0-n))):=rfl
def convK (k:Option TK) (n:Int):Prop:=match k with
 | some (.int k)=>K (.int k (k.wrap n))
 | _=>False
theorem convK_int (k:IntKind) (n:Int):convK K (some (.int k)) n=K (.int k (k.wrap n)):=rfl
theorem convY_int (dst:TypeId) (k:IntKind) (n:Int):convY S dst (.int k n) K=convK K (S.kd dst) n:=rfl
theorem loadY_imm (t:TypeId) (bx:Nat→Option (List D)) (cs:List D):loadY S t bx (.imm cs) K=cellsY S t cs K:=rfl
theorem loadY_box (t:TypeId) (bx:Nat→Option (List D)) (id off:Nat):loadY S t bx (.box id off) K=someK (bx id) fun cs=>cellsY S t (cs.drop off) K:=rfl
def cellsK (i:TyI) (cs:List D):Prop:=if i.agg=true then i.size≤cs.length∧K (.agg (cs.take i.size)) else someK cs.head? K
theorem cellsY_eq (t:TypeId) (cs:List D):cellsY S t cs K=someK (S.tab t) fun i=>cellsK K i cs:=rfl
theorem cellsK_one (k:TK) (b:Nat) (z:List ZK) (cs:List D) (h:TyI.agg ⟨k,b,z⟩=false):cellsK K ⟨k,b,z⟩ cs=someK cs.head? K:=by simp[cellsK,h]
theorem cellsK_int (k:IntKind) (b:Nat) (z:List ZK) (cs:List D):cellsK K ⟨.int k,b,z⟩ cs=someK cs.head? K:=cellsK_one K _ b z cs rfl
theorem cellsK_bool (b:Nat) (z:List ZK) (cs:List D):cellsK K ⟨.bool,b,z⟩ cs=someK cs.head? K:=cellsK_one K _ b z cs rfl
theorem cellsK_string (b:Nat) (z:List ZK) (cs:List D):cellsK K ⟨.string,b,z⟩ cs=someK cs.head? K:=cellsK_one K _ b z cs rfl
theorem cellsK_slice (e:TypeId) (b:Nat) (z:List ZK) (cs:List D):cellsK K ⟨.slice e,b,z⟩ cs=someK cs.head? K:=cellsK_one K _ b z cs rfl
theorem cellsK_array (n:Nat) (e:TypeId) (b:Nat) (z:List ZK) (cs:List D):cellsK K ⟨.array n e,b,z⟩ cs=(z.length≤cs.length∧K (.agg (cs.take z.length))):=by simp[cellsK,TyI.agg,TyI.size]
theorem exists_tkslice (a:TypeId):(∃e,TK.slice a=TK.slice e)=True:=eq_true ⟨a,rfl⟩
theorem cellsK_other (b:Nat) (z:List ZK) (cs:List D):cellsK K ⟨.other,b,z⟩ cs=someK cs.head? K:=cellsK_one K _ b z cs rfl
theorem cellsK_struct (fs:List (Nat×TypeId)) (b:Nat) (z:List ZK) (cs:List D):cellsK K ⟨.struct fs,b,z⟩ cs=(z.length≤cs.length∧K (.agg (cs.take z.length))):=rfl
def faK (n:Nat) (x:D):Prop:=match x with
 | .imm cs=>K (.imm (cs.drop n))
 | .box id o=>K (.box id (o+n))
 | _=>False
theorem faK_imm (n:Nat) (cs:List D):faK K n (.imm cs)=K (.imm (cs.drop n)):=rfl
theorem faK_box (n id o:Nat):faK K n (.box id o)=K (.box id (o+n)):=rfl
def faKK (k:Option TK) (f:Nat) (x:D):Prop:=match k with
 | some (.struct fs)=>someK fs[f]? fun p=>someK (S.tab p.2) fun j=>j.size≠0∧faK K p.1 x
 | _=>False
theorem faKK_struct (fs:List (Nat×TypeId)) (f:Nat) (x:D):faKK S K (some (.struct fs)) f x=someK fs[f]? fun p=>someK (S.tab p.2) fun j=>j.size≠0∧faK K p.1 x:=rfl
theorem fieldAddrY_eq (t:TypeId) (f:Nat) (x:D):fieldAddrY S t f x K=faKK S K (S.kd t) f x:=rfl
def fdKK (k:Option TK) (f:Nat) (x:D):Prop:=match k,x with
 | some (.struct fs),.agg cs=>someK fs[f]? fun p=>cellsY S p.2 (cs.drop p.1) K
 | _,_=>False
theorem fdKK_struct (fs:List (Nat×TypeId)) (f:Nat) (cs:List D):fdKK S K (some (.struct fs)) f (.agg cs)=someK fs[f]? fun p=>cellsY S p.2 (cs.drop p.1) K:=rfl
theorem fieldY_eq (t:TypeId) (f:Nat) (x:D):fieldY S t f x K=fdKK S K (S.kd t) f x:=rfl
def iaKK (k:Option TK) (x ix:D):Prop:=match k,ix with
 | some (.slice e),.int _ i=>someK (S.tab e) fun j=>(match x with
  | .sl _ xs=>(0≤i∧i<xs.length)∧(xs.getD i.toNat default).cells.length=j.size∧K (.imm (xs.getD i.toNat default).cells)
  | .ms id n=>(0≤i∧i<n)∧K (.box id (i.toNat*j.size))
  | _=>False)
 | some (.array n e),.int _ i=>someK (S.tab e) fun j=>(match x with
  | .box id o=>(0≤i∧i<n)∧K (.box id (o+i.toNat*j.size))
  | .imm cs=>(0≤i∧i<n)∧K (.imm (cs.drop (i.toNat*j.size)))
  | _=>False)
 | _,_=>False
theorem iaKK_sl (e:TypeId) (k:IntKind) (i:Int) (tk:Tk) (xs:List D):iaKK S K (some (.slice e)) (.sl tk xs) (.int k i)=someK (S.tab e) fun j=>(0≤i∧i<xs.length)∧(xs.getD i.toNat default).cells.length=j.size∧K (.imm (xs.getD i.toNat default).cells):=rfl
theorem iaKK_abox (n:Nat) (e:TypeId) (k:IntKind) (i:Int) (id o:Nat):iaKK S K (some (.array n e)) (.box id o) (.int k i)=someK (S.tab e) fun j=>(0≤i∧i<n)∧K (.box id (o+i.toNat*j.size)):=rfl
theorem iaKK_aimm (n:Nat) (e:TypeId) (k:IntKind) (i:Int) (cs:List D):iaKK S K (some (.array n e)) (.imm cs) (.int k i)=someK (S.tab e) fun j=>(0≤i∧i<n)∧K (.imm (cs.drop (i.toNat*j.size))):=rfl
theorem iaKK_ms (e:TypeId) (k:IntKind) (i:Int) (id n:Nat):iaKK S K (some (.slice e)) (.ms id n) (.int k i)=someK (S.tab e) fun j=>(0≤i∧i<n)∧K (.box id (i.toNat*j.size)):=rfl
theorem indexAddrY_eq (t:TypeId) (x ix:D):indexAddrY S t x ix K=iaKK S K (S.kd t) x ix:=rfl
def ixKK (k:Option TK) (x ix:D):Prop:=match k,ix,x with
 | some .string,.int _ i,.str s=>(0≤i∧i<s.size)∧K (.int .u8 (s.data.getD i.toNat 0).toNat)
 | _,_,_=>False
theorem ixKK_str (k:IntKind) (i:Int) (s:ByteArray):ixKK K (some .string) (.str s) (.int k i)=((0≤i∧i<s.size)∧K (.int .u8 (s.data.getD i.toNat 0).toNat)):=rfl
theorem indexY_eq (t:TypeId) (x ix:D):indexY S t x ix K=ixKK K (S.kd t) x ix:=rfl
def lenKK (k:Option TK) (x:D):Prop:=match k,x with
 | some (.slice _),.sl _ xs=>K (.int .i64 xs.length)
 | some (.slice _),.ms _ n=>K (.int .i64 n)
 | some .string,.str s=>K (.int .i64 s.size)
 | _,_=>False
theorem lenKK_sl (e:TypeId) (tk:Tk) (xs:List D):lenKK K (some (.slice e)) (.sl tk xs)=K (.int .i64 xs.length):=rfl
theorem lenKK_ms (e:TypeId) (id n:Nat):lenKK K (some (.slice e)) (.ms id n)=K (.int .i64 n):=rfl
theorem lenKK_str (s:ByteArray):lenKK K (some .string) (.str s)=K (.int .i64 s.size):=rfl
theorem lenY_eq (t:TypeId) (x:D):lenY S t x K=lenKK K (S.kd t) x:=rfl
def slK (k:Option TK) (x:D) (lo hi mx:Option Int):Prop:=match k,x with
 | some (.slice e),.sl _ xs=>someK (S.tab e) fun j =>
  (match mx with|none=>True|some m=>m=hi.getD xs.length) ∧
  (0≤lo.getD 0∧lo.getD 0≤hi.getD xs.length∧hi.getD xs.length≤xs.length)∧(∀d∈xs,d.cells.length=j.size) ∧
  K (.sl (match mx with|none=>.any|some _=>.full) ((xs.take (hi.getD xs.length).toNat).drop (lo.getD 0).toNat))
 | some (.slice e),.ms id n=>(S.tab e).isSome=true∧(mx=none∧lo=none)∧(0≤hi.getD n∧hi.getD n≤n)∧K (.ms id (hi.getD n).toNat)
 | some .string,.str s=>mx=none∧(0≤lo.getD 0∧lo.getD 0≤hi.getD s.size∧hi.getD s.size≤s.size) ∧
  K (.str (s.extract (lo.getD 0).toNat (hi.getD s.size).toNat))
 | _,_=>False
theorem slK_sl (e:TypeId) (tk:Tk) (xs:List D) (lo hi:Option Int):slK S K (some (.slice e)) (.sl tk xs) lo hi none=someK (S.tab e) fun j=>True ∧
  (0≤lo.getD 0∧lo.getD 0≤hi.getD xs.length∧hi.getD xs.length≤xs.length)∧(∀d∈xs,d.cells.length=j.size) ∧
  K (.sl .any ((xs.take (hi.getD xs.length).toNat).drop (lo.getD 0).toNat)):=rfl
theorem slK_sl3 (e:TypeId) (tk:Tk) (xs:List D) (lo hi:Option Int) (m:Int):slK S K (some (.slice e)) (.sl tk xs) lo hi (some m)=someK (S.tab e) fun j=>m=hi.getD xs.length ∧
  (0≤lo.getD 0∧lo.getD 0≤hi.getD xs.length∧hi.getD xs.length≤xs.length)∧(∀d∈xs,d.cells.length=j.size) ∧
  K (.sl .full ((xs.take (hi.getD xs.length).toNat).drop (lo.getD 0).toNat)):=rfl
theorem slK_ms (e:TypeId) (id n:Nat) (hi:Option Int):slK S K (some (.slice e)) (.ms id n) none hi none=((S.tab e).isSome=true∧(True∧True)∧(0≤hi.getD n∧hi.getD n≤n)∧K (.ms id (hi.getD n).toNat)):=by simp[slK]
theorem slK_str (s:ByteArray) (lo hi:Option Int):slK S K (some .string) (.str s) lo hi none=(True∧(0≤lo.getD 0∧lo.getD 0≤hi.getD s.size∧hi.getD s.size≤s.size) ∧
  K (.str (s.extract (lo.getD 0).toNat (hi.getD s.size).toNat))):=by simp[slK]
theorem sliceY_eq (t:TypeId) (x:D) (lo hi mx:Option Int):sliceY S t x lo hi mx K=slK S K (S.kd t) x lo hi mx:=rfl
def mqKK (k:Option TK) (l c:D):Prop:=match k,l,c with
 | some (.slice e),.int _ n,.int _ m=>someK (S.tab e) fun i=>someK i.zero.head? fun z=>(i.zero.length=1∧0≤n∧n=m)∧((i.bytes:Int)*n≤281474976710656∧n≤9223372036854775807)∧(strip1 z.d).memOk=true ∧
   K (.sl .any (List.replicate n.toNat (strip1 z.d)))
 | _,_,_=>False
theorem mqKK_int (e : TypeId) (k k' : IntKind) (n m : Int) : mqKK S K (some (.slice e)) (.int k n) (.int k' m) = someK (S.tab e) fun i => someK i.zero.head? fun z => (i.zero.length = 1 ∧ 0 ≤ n ∧ n = m) ∧ ((i.bytes : Int) * n ≤ 281474976710656 ∧ n ≤ 9223372036854775807) ∧ (strip1 z.d).memOk = true ∧
   K (.sl .any (List.replicate n.toNat (strip1 z.d))):=rfl
theorem makeQ_eq (t:TypeId) (l c:D):makeQ S t l c K=mqKK S K (S.kd t) l c:=rfl
def buildKK (i:TyI) (ps:List (Nat×D)):Prop:=match i.kind with
 | .struct fs=>someK (buildP S fs (i.zero.map ZK.d) ps) fun cs=>K (.agg cs)
 | .array _ e=>someK (S.tab e) fun _=>ps=[]∧K (.agg (i.zero.map ZK.d))
 | _=>False
theorem buildKK_array (n:Nat) (e:TypeId) (b:Nat) (z:List ZK) (ps:List (Nat×D)):buildKK S K ⟨.array n e,b,z⟩ ps=someK (S.tab e) fun _=>ps=[]∧K (.agg (z.map ZK.d)):=rfl
theorem buildKK_struct (fs:List (Nat×TypeId)) (b:Nat) (z:List ZK) (ps:List (Nat×D)):buildKK S K ⟨.struct fs,b,z⟩ ps=someK (buildP S fs (z.map ZK.d) ps) fun cs=>K (.agg cs):=rfl
theorem buildY_eq (t:TypeId) (ps:List (Nat×D)):buildY S t ps K=someK (S.tab t) fun i=>buildKK S K i ps:=rfl
def bsKK (k:Option TK) (n:Nat) (ps:List (Nat×D)):Prop:=match k with
 | some (.slice e)=>someK (S.tab e) fun j=>ps.map (·.1)=List.range n∧n*j.size≤16777216∧(n=0∨0<j.size) ∧
  (∀p∈ps,p.2.cells.length=j.size∧∀c∈p.2.strip.cells,c.memOk=true)∧K (.sl .full (ps.map (·.2.strip)))
 | _=>False
theorem bsKK_slice (e:TypeId) (n:Nat) (ps:List (Nat×D)):bsKK S K (some (.slice e)) n ps=someK (S.tab e) fun j=>ps.map (·.1)=List.range n∧n*j.size≤16777216∧(n=0∨0<j.size) ∧
  (∀p∈ps,p.2.cells.length=j.size∧∀c∈p.2.strip.cells,c.memOk=true)∧K (.sl .full (ps.map (·.2.strip))):=rfl
theorem buildSliceY_eq (t:TypeId) (n:Nat) (ps:List (Nat×D)):buildSliceY S t n ps K=bsKK S K (S.kd t) n ps:=rfl
theorem nilcY_box (id o:Nat):nilcY (.box id o) K=K (.box id o):=rfl
theorem nilcY_imm (cs:List D):nilcY (.imm cs) K=K (.imm cs):=rfl
theorem nilcY_fn (f:Nat) (cs:List D):nilcY (.fn f cs) K=K (.fn f cs):=rfl
theorem extrY_tup (i:Nat) (ds:List D):extrY i (.tup ds) K=someK ds[i]? K:=rfl
end yeqs
section yeqsL
variable (S:Setup) (N:LS→Prop)
theorem storeY_box (L : LS) (t : Option Nat) (ty : TypeId) (id off : Nat) (d : D) : storeY S L t ty (.box id off) d N = someK (look L.boxes id) fun cs => someK (S.tab ty) fun i => (d.cells.length = i.size ∧ off + d.cells.length ≤ cs.length ∧ d.cells.all D.one = true ∧ dstOk t L) ∧
   N ({L with boxes:=setA L.boxes id (putC cs off d.cells)}.putO t (.raw undef)):=rfl
def mkK (base:Nat) (L:LS) (t:Nat) (k:Option TK) (n m:Int) (same:Bool):Prop:=match k,same with
 | some (.slice e),true=>someK (S.tab e) fun i=>(t<L.n∧base+t∉L.fix∧0≤n∧n=m)∧(i.bytes:Int)*n≤281474976710656∧n≤9223372036854775807∧0<i.size ∧
   N (L.newBox t (base+t) (List.replicate n.toNat (i.zero.map ZK.d)).flatten (.ms (base+t) n.toNat))
 | some (.slice e),false=>someK (S.tab e) fun i=>(t<L.n∧0<i.size∧n=0∧0≤m∧(L.purge (fun k=>k==1000*(t+1))).clean (fun k=>k==1000*(t+1))=true)∧(i.bytes:Int)*m≤281474976710656∧m≤9223372036854775807 ∧
   N ({L.purge (fun k=>k==1000*(t+1)) with toks:=1000*(t+1)::L.toks}.put t (.sl (.own (1000*(t+1)) e i.size) []))
 | _,_=>False
theorem mkK_same (base : Nat) (L : LS) (t : Nat) (e : TypeId) (n m : Int) : mkK S N base L t (some (.slice e)) n m true = someK (S.tab e) fun i => (t < L.n ∧ base + t ∉ L.fix ∧ 0 ≤ n ∧ n = m) ∧ (i.bytes : Int) * n ≤ 281474976710656 ∧ n ≤ 9223372036854775807 ∧ 0 < i.size ∧
   N (L.newBox t (base+t) (List.replicate n.toNat (i.zero.map ZK.d)).flatten (.ms (base+t) n.toNat)):=rfl
theorem mkK_diff (base : Nat) (L : LS) (t : Nat) (e : TypeId) (n m : Int) : mkK S N base L t (some (.slice e)) n m false = someK (S.tab e) fun i => (t < L.n ∧ 0 < i.size ∧ n = 0 ∧ 0 ≤ m ∧ (L.purge (fun k => k == 1000 * (t + 1))).clean (fun k => k == 1000 * (t + 1)) = true) ∧ (i.bytes : Int) * m ≤ 281474976710656 ∧ m ≤ 9223372036854775807 ∧
   N ({L.purge (fun k=>k==1000*(t+1)) with toks:=1000*(t+1)::L.toks}.put t (.sl (.own (1000*(t+1)) e i.size) [])):=rfl
theorem makeY_int (base:Nat) (L:LS) (t:Nat) (ty:TypeId) (same:Bool) (k k':IntKind) (n m:Int):makeY S base L t ty same (.int k n) (.int k' m) N=mkK S N base L t (S.kd ty) n m same:=by
 cases h:S.kd ty with
 | none=>simp[makeY,mkK,h]
 | some q=>cases q<;>cases same<;>simp[makeY,mkK,h]
def apK (L:LS) (t:Nat) (k:Option TK) (tk:Tk) (xs ys:List D):Prop:=match k with
 | some (.slice e)=>someK (S.tab e) fun i=>(t<L.n∧0<i.size∧(L.purge (fun k=>k==1000*(t+1))).clean (fun k=>k==1000*(t+1))=true)∧appendable xs ys L.toks e i.size tk ∧
   (∀x∈xs,x.cells.length=i.size)∧(∀x∈ys,x.cells.length=i.size)∧(xs.length+ys.length)*i.bytes≤140737488355328∧xs.length+ys.length≤140737488355328 ∧
   N ({L.purge (fun k=>k==1000*(t+1)) with toks:=1000*(t+1)::killed tk L.toks}.put t (.sl (.own (1000*(t+1)) e i.size) (xs++ys)))
 | _=>False
theorem apK_slice (L : LS) (t : Nat) (e : TypeId) (tk : Tk) (xs ys : List D) : apK S N L t (some (.slice e)) tk xs ys = someK (S.tab e) fun i => (t < L.n ∧ 0 < i.size ∧ (L.purge (fun k => k == 1000 * (t + 1))).clean (fun k => k == 1000 * (t + 1)) = true) ∧ appendable xs ys L.toks e i.size tk ∧
   (∀x∈xs,x.cells.length=i.size)∧(∀x∈ys,x.cells.length=i.size)∧(xs.length+ys.length)*i.bytes≤140737488355328∧xs.length+ys.length≤140737488355328 ∧
   N ({L.purge (fun k=>k==1000*(t+1)) with toks:=1000*(t+1)::killed tk L.toks}.put t (.sl (.own (1000*(t+1)) e i.size) (xs++ys))):=rfl
theorem appendY_sl (L:LS) (t:Nat) (ty:TypeId) (tk tk':Tk) (xs ys:List D):appendY S L t ty [.sl tk xs,.sl tk' ys] N=apK S N L t (S.kd ty) tk xs ys:=by
 cases h:S.kd ty with
 | none=>simp[appendY,apK,h]
 | some q=>cases q<;>simp[appendY,apK,h]
end yeqsL
theorem evalO_tmp (L:LS) (t:Nat):evalO L (.tmp t)=look L.env t:=rfl
theorem evalO_const (L:LS) (v:Value):evalO L (.const v)=constD v:=rfl
theorem evalO_func (L:LS) (f:FuncId):evalO L (.func f)=some (.fn f []):=rfl
theorem constD_int (k:IntKind) (n:Int):constD (.int k n)=some (.int k n):=rfl
theorem constD_bool (b:Bool):constD (.bool b)=some (.bool b):=rfl
theorem constD_str (s:ByteArray):constD (.string s)=some (.str s):=rfl
theorem constD_nil:constD (.slice none 0 0)=some (.sl .nil []):=rfl
theorem constD_ptr:constD (.pointer none)=some (.raw (.pointer none)):=rfl
theorem guardY_none (ops:Array Oper) (L:LS):guardY ops L none=some true:=rfl

def guardT (want:Bool):Option D→Option Bool
 | some (.bool b)=>(match b,want with
  | true,true=>some true
  | false,false=>some true
  | true,false=>some false
  | false,true=>some false)
 | some (.raw (.tuple _))=>some false
 | _=>none
theorem guardT_tt:guardT true (some (.bool true))=some true:=rfl
theorem guardT_tf:guardT true (some (.bool false))=some false:=rfl
theorem guardT_ft:guardT false (some (.bool true))=some false:=rfl
theorem guardT_ff:guardT false (some (.bool false))=some true:=rfl
theorem guardT_undef (b:Bool) (vs:Array Value):guardT b (some (.raw (.tuple vs)))=some false:=rfl
theorem guardT_undef' (b:Bool):guardT b (some (.raw undef))=some false:=rfl
theorem guardY_some (ops:Array Oper) (L:LS) (j:Nat) (want:Bool):guardY ops L (some (j,want))=match (ops[j]?).bind (·.dst) with|none=>none|some t=>guardT want (L.get t):=by
 unfold guardY
 simp only
 cases (ops[j]?).bind (·.dst) with
 | none=>rfl
 | some t =>
  simp only
  cases hx:L.get t with
  | none=>rfl
  | some d =>
   cases d<;>first|rfl|(rename_i b;cases b<;>cases want<;>rfl)|(rename_i v;cases v<;>rfl)

theorem setA_same {α:Type} {l:List (Nat×α)} {t:Nat} {d:α} (h:look l t=some d):setA l t d=l:=by
 induction l with
 | nil=>cases h
 | cons p r ih =>
  obtain⟨k,x⟩:=p
  simp only[look] at h
  by_cases e:k=t
  ·simp only[e,if_true,Option.some.injEq] at h;subst h;subst e;simp[setA]
  ·rw[if_neg e] at h;simp[setA,e,ih h]
theorem runL_split {S:Setup} {base:Nat} {ops:Array Oper} {K:List Oper→LS→Prop} {l:List Oper} {L:LS} (t:Nat) {b:Bool} (ht:L.get t=some (.bool b)) (h1:b=true→runL S base ops K l (L.put t (.bool true))) (h0:b=false→runL S base ops K l (L.put t (.bool false))):runL S base ops K l L:=by
 have e:L.put t (.bool b)=L:=by
  show {L with env:=setA L.env t (.bool b)}=L
  rw[setA_same ht]
 rw[←e]
 cases b with
 | true=>exact h1 rfl
 | false=>exact h0 rfl

variable {S:Setup} {B:Base} {R:LS→Prop} {k:List VItem} {L:LS}
def keepK (ks:List Nat):List (Nat×D)→List (Nat×D)
 | []=>[]
 | (k,d)::r=>if ks.contains k=true then (k,d)::keepK ks r else keepK ks r
def LS.keep (L:LS) (ks:List Nat):LS:={L with env:=keepK ks L.env}
theorem look_keepK (ks:List Nat) (l:List (Nat×D)) (t:Nat):look (keepK ks l) t=if ks.contains t=true then look l t else none:=by
 induction l with
 | nil=>simp[keepK,look]
 | cons p r ih =>
  obtain⟨k,d⟩:=p
  by_cases h:ks.contains k=true
  ·simp only[keepK,h,if_true,look,ih]
   by_cases h2:k=t
   ·subst h2;simp only[h,if_true]
   ·simp[h2]
  ·simp only[keepK]
   rw[if_neg h,ih]
   simp only[look]
   by_cases h2:k=t
   ·subst h2;simp only[if_neg h]
   ·simp[h2]
theorem keep_sim {B:Base} {L:LS} {G:Ghost} {a:Act} {w:World} (h:Sim B L G a w) (ks:List Nat):Sim B (L.keep ks) G a w:=by
 refine⟨h.defers,h.size,fun t d hd=>?_,h.W,h.fixed⟩
 simp only[LS.keep,look_keepK] at hd
 split at hd
 ·exact h.env t d hd
 ·cases hd
theorem sw_keep (ks:List Nat) (h:SW S B R k (L.keep ks)):SW S B R k L:=fun G a w hs=>h G a w (keep_sim hs ks)

end Go.Lg
/-
  Lg, part 21: the equations of a region that draws its order.
-/
namespace Go.Lg
open Go Go.RowKit
def isQCall:Op→Bool
 | .alloc _=>true
 | .store _ _ _=>true
 | op=>isVCall op
section eqsQ
variable (S:Setup) (ops:Array Oper) (K:List Oper→LS→Prop) (l:List Oper) (L:LS) (dst:Option Nat) (ty:TypeId) (pos:String) (aft:Array Edge)
def nextQ (d:D):Prop:=dstOk dst L∧runQ S ops K l (L.putO dst d)
theorem nextQ_some (t:Nat) (d:D):nextQ S ops K l L (some t) d=(t<L.n∧runQ S ops K l (L.put t d)):=rfl
theorem nextQ_none (d:D):nextQ S ops K l L none d=(True∧runQ S ops K l L):=rfl
theorem runQ_of (op:Op) (h:∀f args tys,op≠.call ⟨.value f,args,tys⟩) (h2:∀T,op≠.alloc T) (h3:∀T x y,op≠.store T x y):runQ S ops K (⟨dst,op,ty,pos,aft,none⟩::l) L=opY S op (evalO L) L.getBox (nextQ S ops K l L dst):=by
 conv=>lhs;unfold runQ
 split
 ·exact absurd rfl (h _ _ _)
 ·exact absurd rfl (h2 _)
 ·exact absurd rfl (h3 _ _ _)
 ·rfl
theorem runQ_want (op:Op) (p:Nat×Bool) (hc:isQCall op=false) (h:guardY ops L (some p)=some true):runQ S ops K (⟨dst,op,ty,pos,aft,some p⟩::l) L=runQ S ops K (⟨dst,op,ty,pos,aft,none⟩::l) L:=by
 rw[runQ_of]
 ·conv=>lhs;unfold runQ
  split
  ·cases hc
  ·cases hc
  ·cases hc
  ·rw[h];rfl
 ·intro f args tys e;subst e;cases hc
 ·intro T e;subst e;cases hc
 ·intro T x y e;subst e;cases hc
theorem runQ_skip (op:Op) (p:Nat×Bool) (hc:isQCall op=false) (h:guardY ops L (some p)=some false):runQ S ops K (⟨dst,op,ty,pos,aft,some p⟩::l) L=nextQ S ops K l L dst (.raw undef):=by
 conv=>lhs;unfold runQ
 split
 ·cases hc
 ·cases hc
 ·cases hc
 ·rw[h];rfl
def runQG (o:Oper):Option Bool→Prop
 | some true=>runQ S ops K (⟨o.dst,o.op,o.type,o.pos,o.after,none⟩::l) L
 | some false=>nextQ S ops K l L o.dst (.raw undef)
 | none=>runQ S ops K (o::l) L
theorem runQG_t (o:Oper):runQG S ops K l L o (some true)=runQ S ops K (⟨o.dst,o.op,o.type,o.pos,o.after,none⟩::l) L:=rfl
theorem runQG_f (o:Oper):runQG S ops K l L o (some false)=nextQ S ops K l L o.dst (.raw undef):=rfl
theorem runQ_grd (op:Op) (p:Nat×Bool) (hc:isQCall op=false):runQ S ops K (⟨dst,op,ty,pos,aft,some p⟩::l) L=runQG S ops K l L ⟨dst,op,ty,pos,aft,some p⟩ (guardY ops L (some p)):=by
 cases h:guardY ops L (some p) with
 | none=>rfl
 | some b=>cases b with
  | true=>exact runQ_want S ops K l L dst ty pos aft op p hc h
  | false=>exact runQ_skip S ops K l L dst ty pos aft op p hc h
abbrev GrdQ (op:Op):Prop:=∀S ops K l L dst ty pos aft (p:Nat×Bool),runQ S ops K (⟨dst,op,ty,pos,aft,some p⟩::l) L=runQG S ops K l L ⟨dst,op,ty,pos,aft,some p⟩ (guardY ops L (some p))
theorem grdQ {op:Op} (h:isQCall op=false):GrdQ op:=fun S ops K l L dst ty pos aft p=>runQ_grd S ops K l L dst ty pos aft op p h
theorem runQ_g_move {x}:GrdQ (.move x):=grdQ rfl
theorem runQ_g_assign {x}:GrdQ (.assign x):=grdQ rfl
theorem runQ_g_pick {a b c}:GrdQ (.pick a b c):=grdQ rfl
theorem runQ_g_build {t p}:GrdQ (.build t p):=grdQ rfl
theorem runQ_g_buildSlice {t n p}:GrdQ (.buildSlice t n p):=grdQ rfl
theorem runQ_g_load {t x}:GrdQ (.load t x):=grdQ rfl
theorem runQ_g_nilCheck {x}:GrdQ (.nilCheck x):=grdQ rfl
theorem runQ_g_binOp {o t u x y}:GrdQ (.binOp o t x y u):=grdQ rfl
theorem runQ_g_unOp {o t x}:GrdQ (.unOp o t x):=grdQ rfl
theorem runQ_g_convert {s t x}:GrdQ (.convert s t x):=grdQ rfl
theorem runQ_g_makeFunc {f a b}:GrdQ (.makeFunc f a b):=grdQ rfl
theorem runQ_g_makeSlice {t x y}:GrdQ (.makeSlice t x y):=grdQ rfl
theorem runQ_g_slice {t x a b c}:GrdQ (.slice t x a b c):=grdQ rfl
theorem runQ_g_fieldAddr {t x n}:GrdQ (.fieldAddr t x n):=grdQ rfl
theorem runQ_g_field {t x n}:GrdQ (.field t x n):=grdQ rfl
theorem runQ_g_indexAddr {t x y}:GrdQ (.indexAddr t x y):=grdQ rfl
theorem runQ_g_index {t x y}:GrdQ (.index t x y):=grdQ rfl
theorem runQ_g_extract {x n}:GrdQ (.extract x n):=grdQ rfl
theorem runQ_g_call {b a tys}:GrdQ (.call ⟨.builtin b,a,tys⟩):=grdQ rfl
theorem runQ_alloc (T:TypeId) (g:Option (Nat×Bool)):runQ S ops K (⟨dst,.alloc T,ty,pos,aft,g⟩::l) L=K (⟨dst,.alloc T,ty,pos,aft,g⟩::l) L:=rfl
theorem runQ_store (T:TypeId) (x y:Operand) (g:Option (Nat×Bool)):runQ S ops K (⟨dst,.store T x y,ty,pos,aft,g⟩::l) L=K (⟨dst,.store T x y,ty,pos,aft,g⟩::l) L:=rfl
theorem runQ_nil:runQ S ops K [] L=K [] L:=rfl
theorem runQ_call (f:Operand) (args:Array Operand) (tys:Array TypeId) (g:Option (Nat×Bool)):runQ S ops K (⟨dst,.call ⟨.value f,args,tys⟩,ty,pos,aft,g⟩::l) L=K (⟨dst,.call ⟨.value f,args,tys⟩,ty,pos,aft,g⟩::l) L:=rfl

theorem runQ_move (x:Operand):runQ S ops K (⟨dst,.move x,ty,pos,aft,none⟩::l) L=someK (evalO L x) (nextQ S ops K l L dst) :=
 runQ_of S ops K l L dst ty pos aft _ (by intro _ _ _ h;cases h) (by intro _ h;cases h) (by intro _ _ _ h;cases h)
theorem runQ_assign (x:Operand):runQ S ops K (⟨dst,.assign x,ty,pos,aft,none⟩::l) L=someK (evalO L x) (nextQ S ops K l L dst) :=
 runQ_of S ops K l L dst ty pos aft _ (by intro _ _ _ h;cases h) (by intro _ h;cases h) (by intro _ _ _ h;cases h)
theorem runQ_pick (c x y:Operand):runQ S ops K (⟨dst,.pick c x y,ty,pos,aft,none⟩::l) L=someK (evalO L c) fun d=>pickY (evalO L) x y d (nextQ S ops K l L dst):=by
 rw[runQ_of S ops K l L dst ty pos aft _ (by intro _ _ _ h;cases h) (by intro _ h;cases h) (by intro _ _ _ h;cases h)]
 congr 1
 show opY S (.pick c x y) (evalO L) L.getBox _=_
 unfold opY
 simp only
 congr 1
 funext d
 cases d<;>first|rfl|(rename_i b;cases b<;>rfl)
theorem runQ_load (t:TypeId) (x:Operand):runQ S ops K (⟨dst,.load t x,ty,pos,aft,none⟩::l) L=someK (evalO L x) fun d=>loadY S t L.getBox d (nextQ S ops K l L dst) :=
 runQ_of S ops K l L dst ty pos aft _ (by intro _ _ _ h;cases h) (by intro _ h;cases h) (by intro _ _ _ h;cases h)
theorem runQ_nilCheck (x:Operand):runQ S ops K (⟨dst,.nilCheck x,ty,pos,aft,none⟩::l) L=someK (evalO L x) fun d=>nilcY d (nextQ S ops K l L dst):=by
 rw[runQ_of S ops K l L dst ty pos aft _ (by intro _ _ _ h;cases h) (by intro _ h;cases h) (by intro _ _ _ h;cases h)]
 congr 1
theorem runQ_binOp (o:BinOp) (t u:TypeId) (x y:Operand):runQ S ops K (⟨dst,.binOp o t x y u,ty,pos,aft,none⟩::l) L=someK (evalO L x) fun dx=>someK (evalO L y) fun dy=>binY S o t dx dy (nextQ S ops K l L dst) :=
 runQ_of S ops K l L dst ty pos aft _ (by intro _ _ _ h;cases h) (by intro _ h;cases h) (by intro _ _ _ h;cases h)
theorem runQ_unOp (o:UnOp) (t:TypeId) (x:Operand):runQ S ops K (⟨dst,.unOp o t x,ty,pos,aft,none⟩::l) L=someK (evalO L x) fun d=>unY o d (nextQ S ops K l L dst) :=
 runQ_of S ops K l L dst ty pos aft _ (by intro _ _ _ h;cases h) (by intro _ h;cases h) (by intro _ _ _ h;cases h)
theorem runQ_convert (s t:TypeId) (x:Operand):runQ S ops K (⟨dst,.convert s t x,ty,pos,aft,none⟩::l) L=((S.tab s).isSome=true∧someK (evalO L x) fun d=>convY S t d (nextQ S ops K l L dst)) :=
 runQ_of S ops K l L dst ty pos aft _ (by intro _ _ _ h;cases h) (by intro _ h;cases h) (by intro _ _ _ h;cases h)
theorem runQ_makeFunc (f:FuncId) (first cap:Array Operand):runQ S ops K (⟨dst,.makeFunc (.func f) first cap,ty,pos,aft,none⟩::l) L=(makeFnY f (mapO (evalO L) first.toList) (mapO (evalO L) cap.toList) (nextQ S ops K l L dst)) :=
 runQ_of S ops K l L dst ty pos aft _ (by intro _ _ _ h;cases h) (by intro _ h;cases h) (by intro _ _ _ h;cases h)
theorem runQ_fieldAddr (t:TypeId) (x:Operand) (f:Nat):runQ S ops K (⟨dst,.fieldAddr t x f,ty,pos,aft,none⟩::l) L=someK (evalO L x) fun d=>fieldAddrY S t f d (nextQ S ops K l L dst) :=
 runQ_of S ops K l L dst ty pos aft _ (by intro _ _ _ h;cases h) (by intro _ h;cases h) (by intro _ _ _ h;cases h)
theorem runQ_field (t:TypeId) (x:Operand) (f:Nat):runQ S ops K (⟨dst,.field t x f,ty,pos,aft,none⟩::l) L=someK (evalO L x) fun d=>fieldY S t f d (nextQ S ops K l L dst) :=
 runQ_of S ops K l L dst ty pos aft _ (by intro _ _ _ h;cases h) (by intro _ h;cases h) (by intro _ _ _ h;cases h)
theorem runQ_indexAddr (t:TypeId) (x i:Operand):runQ S ops K (⟨dst,.indexAddr t x i,ty,pos,aft,none⟩::l) L=someK (evalO L x) fun dx=>someK (evalO L i) fun di=>indexAddrY S t dx di (nextQ S ops K l L dst) :=
 runQ_of S ops K l L dst ty pos aft _ (by intro _ _ _ h;cases h) (by intro _ h;cases h) (by intro _ _ _ h;cases h)
theorem runQ_index (t:TypeId) (x i:Operand):runQ S ops K (⟨dst,.index t x i,ty,pos,aft,none⟩::l) L=someK (evalO L x) fun dx=>someK (evalO L i) fun di=>indexY S t dx di (nextQ S ops K l L dst) :=
 runQ_of S ops K l L dst ty pos aft _ (by intro _ _ _ h;cases h) (by intro _ h;cases h) (by intro _ _ _ h;cases h)
theorem runQ_slice (t : TypeId) (x : Operand) (lo hi mx : Option Operand) : runQ S ops K (⟨dst, .slice t x lo hi mx, ty, pos, aft, none⟩ :: l) L = someK (evalO L x) fun d => someK (intOfD (lo.bind (evalO L))) fun l' => someK (intOfD (hi.bind (evalO L))) fun h => someK (intOfD (mx.bind (evalO L))) fun m =>
   ((lo.isSome=l'.isSome∧hi.isSome=h.isSome∧mx.isSome=m.isSome)∧(mx.isSome=true→hi.isSome=true))∧sliceY S t d l' h m (nextQ S ops K l L dst) :=
 runQ_of S ops K l L dst ty pos aft _ (by intro _ _ _ h;cases h) (by intro _ h;cases h) (by intro _ _ _ h;cases h)
theorem runQ_build (t:TypeId) (ps:Array (Nat×Operand)):runQ S ops K (⟨dst,.build t ps,ty,pos,aft,none⟩::l) L=someK (zipO (evalO L) ps.toList) fun q=>buildY S t q (nextQ S ops K l L dst) :=
 runQ_of S ops K l L dst ty pos aft _ (by intro _ _ _ h;cases h) (by intro _ h;cases h) (by intro _ _ _ h;cases h)
theorem runQ_buildSlice (t:TypeId) (n:Nat) (ps:Array (Nat×Operand)):runQ S ops K (⟨dst,.buildSlice t n ps,ty,pos,aft,none⟩::l) L=someK (zipO (evalO L) ps.toList) fun q=>buildSliceY S t n q (nextQ S ops K l L dst) :=
 runQ_of S ops K l L dst ty pos aft _ (by intro _ _ _ h;cases h) (by intro _ h;cases h) (by intro _ _ _ h;cases h)
theorem runQ_extract (x:Operand) (i:Nat):runQ S ops K (⟨dst,.extract x i,ty,pos,aft,none⟩::l) L=someK (evalO L x) fun d=>extrY i d (nextQ S ops K l L dst):=by
 rw[runQ_of S ops K l L dst ty pos aft _ (by intro _ _ _ h;cases h) (by intro _ h;cases h) (by intro _ _ _ h;cases h)]
 congr 1
theorem runQ_makeSlice (t:TypeId) (x y:Operand):runQ S ops K (⟨dst,.makeSlice t x y,ty,pos,aft,none⟩::l) L=someK (evalO L x) fun dl=>someK (evalO L y) fun dc=>makeQ S t dl dc (nextQ S ops K l L dst) :=
 runQ_of S ops K l L dst ty pos aft _ (by intro _ _ _ h;cases h) (by intro _ h;cases h) (by intro _ _ _ h;cases h)
theorem runQ_len (x:Operand) (t:TypeId):runQ S ops K (⟨dst,.call ⟨.builtin .len,#[x],#[t]⟩,ty,pos,aft,none⟩::l) L=someK (evalO L x) fun d=>lenY S t d (nextQ S ops K l L dst):=by
 rw[runQ_of S ops K l L dst ty pos aft _ (by intro _ _ _ h;cases h) (by intro _ h;cases h) (by intro _ _ _ h;cases h)]
 congr 1
 show opY S (.call ⟨.builtin .len,#[x],#[t]⟩) (evalO L) L.getBox _=_
 unfold opY
 simp only[mapO]
 cases evalO L x<;>rfl
theorem runQ_min (x y:Operand) (tys:Array TypeId):runQ S ops K (⟨dst,.call ⟨.builtin .min,#[x,y],tys⟩,ty,pos,aft,none⟩::l) L=someK (evalO L x) fun dx=>someK (evalO L y) fun dy=>someK (minD dx dy) (nextQ S ops K l L dst):=by
 rw[runQ_of S ops K l L dst ty pos aft _ (by intro _ _ _ h;cases h) (by intro _ h;cases h) (by intro _ _ _ h;cases h)]
 congr 1
 show opY S (.call ⟨.builtin .min,#[x,y],tys⟩) (evalO L) L.getBox _=_
 unfold opY
 simp only[mapO]
 cases evalO L x<;>cases evalO L y<;>rfl
theorem runQ_max (x y:Operand) (tys:Array TypeId):runQ S ops K (⟨dst,.call ⟨.builtin .max,#[x,y],tys⟩,ty,pos,aft,none⟩::l) L=someK (evalO L x) fun dx=>someK (evalO L y) fun dy=>someK (maxD dx dy) (nextQ S ops K l L dst):=by
 rw[runQ_of S ops K l L dst ty pos aft _ (by intro _ _ _ h;cases h) (by intro _ h;cases h) (by intro _ _ _ h;cases h)]
 congr 1
 show opY S (.call ⟨.builtin .max,#[x,y],tys⟩) (evalO L) L.getBox _=_
 unfold opY
 simp only[mapO]
 cases evalO L x<;>cases evalO L y<;>rfl
theorem runQ_append (x y:Operand) (t t':TypeId):runQ S ops K (⟨dst,.call ⟨.builtin .append,#[x,y],#[t,t']⟩,ty,pos,aft,none⟩::l) L=someK (evalO L x) fun dx=>someK (evalO L y) fun dy=>(t=t'∧appQ S t dx dy (nextQ S ops K l L dst)):=by
 rw[runQ_of S ops K l L dst ty pos aft _ (by intro _ _ _ h;cases h) (by intro _ h;cases h) (by intro _ _ _ h;cases h)]
 congr 1
 show opY S (.call ⟨.builtin .append,#[x,y],#[t,t']⟩) (evalO L) L.getBox _=_
 unfold opY
 simp only[mapO]
 cases evalO L x<;>cases evalO L y<;>rfl
end eqsQ
theorem appQ_full {S:Setup} (t:TypeId) (tk:Tk) (xs ys:List D) (K:D→Prop):appQ S t (.sl .full xs) (.sl tk ys) K=(match S.kd t with
 | some (.slice e)=>someK (S.tab e) fun i=>0<i.size∧(∀x∈xs,x.cells.length=i.size)∧(∀x∈ys,x.cells.length=i.size)∧(xs.length+ys.length)*i.bytes≤140737488355328∧xs.length+ys.length≤140737488355328∧K (.sl .any (xs++ys))
 | _=>False):=by
 cases h:S.kd t with
 | none=>simp[appQ,h]
 | some q=>cases q<;>simp[appQ,h]
theorem runQ_split {S:Setup} {ops:Array Oper} {K:List Oper→LS→Prop} {l:List Oper} {L:LS} (t:Nat) {b:Bool} (ht:L.get t=some (.bool b)) (h1:b=true→runQ S ops K l (L.put t (.bool true))) (h0:b=false→runQ S ops K l (L.put t (.bool false))):runQ S ops K l L:=by
 have e:L.put t (.bool b)=L:=by
  show {L with env:=setA L.env t (.bool b)}=L
  rw[setA_same ht]
 rw[←e]
 cases b with
 | true=>exact h1 rfl
 | false=>exact h0 rfl

theorem runQG_fork {S:Setup} {ops:Array Oper} {K:List Oper→LS→Prop} {l:List Oper} {L:LS} {o:Oper} {g:Option Bool} {p:Nat×Bool} (hp:o.guard=some p) {t:Nat} (hj:(ops[p.1]?).bind (·.dst)=some t) {b:Bool} (ht:L.get t=some (.bool b)) (hc:isQCall o.op=false) (hg:g=guardT p.2 (L.get t)) (h1:b=true→runQ S ops K (o::l) (L.put t (.bool true))) (h0:b=false→runQ S ops K (o::l) (L.put t (.bool false))):runQG S ops K l L o g:=by
 have h:=runQ_split t ht h1 h0
 obtain⟨dst,op,ty,pos,aft,g'⟩:=o
 simp only at hp
 subst hp
 rw[runQ_grd S ops K l L dst ty pos aft op p hc] at h
 obtain⟨j,want⟩:=p
 simp only[guardY_some] at h
 simp only at hj
 rw[hj] at h
 rw[hg];exact h
theorem runG_fork {S:Setup} {base:Nat} {ops:Array Oper} {K:List Oper→LS→Prop} {l:List Oper} {L:LS} {o:Oper} {g:Option Bool} {p:Nat×Bool} (hp:o.guard=some p) {t:Nat} (hj:(ops[p.1]?).bind (·.dst)=some t) {b:Bool} (ht:L.get t=some (.bool b)) (hc:isVCall o.op=false) (hg:g=guardT p.2 (L.get t)) (h1:b=true→runL S base ops K (o::l) (L.put t (.bool true))) (h0:b=false→runL S base ops K (o::l) (L.put t (.bool false))):runG S base ops K l L o g:=by
 have h:=runL_split t ht h1 h0
 obtain⟨dst,op,ty,pos,aft,g'⟩:=o
 simp only at hp
 subst hp
 rw[runL_grd S base ops K l L dst ty pos aft op p hc] at h
 obtain⟨j,want⟩:=p
 simp only[guardY_some] at h
 simp only at hj
 rw[hj] at h
 rw[hg];exact h
def LS.keepAt (L:LS) (kp:List (Nat×List Nat)) (id:Nat):LS:=match look kp id with
 | some ks=>L.keep ks
 | none=>L
theorem sw_keepAt {S:Setup} {B:Base} {R:LS→Prop} {k:List VItem} {L:LS} (kp:List (Nat×List Nat)) (id:Nat) (h:SW S B R k (L.keepAt kp id)):SW S B R k L:=by
 unfold LS.keepAt at h
 split at h
 ·exact sw_keep _ h
 ·exact h

structure KOk (S:Setup) (base:Nat) (B:Base) (ops:Array Oper) (N:LS→Prop) (K:List Oper→LS→Prop):Prop where
 nil:∀ {L},N L→K [] L
 raw:∀ {l L},LopsW S B ops l L N→K l L
 weak:∀ {l L L'},L.covers L'→runL S base ops K l L'→K l L
 split:∀ {l L} (t:Nat) {b:Bool},L.get t=some (.bool b)→(b=true→runL S base ops K l (L.put t (.bool true)))→(b=false→runL S base ops K l (L.put t (.bool false)))→K l L
 skip:∀ {o l L},guardY ops L o.guard=some false→dstOk o.dst L→runL S base ops K l (L.putO o.dst (.raw undef))→K (o::l) L
 call:∀ {l:List Oper} {L:LS} {dst:Option Nat} {f:Operand} {args:Array Operand} {tys:Array TypeId} {ty:TypeId} {pos:String} {aft:Array Edge} {g:Option (Nat×Bool)}
  (_:guardY ops L g=some true) {fid:Nat} {cap ds:List D} {ro:List (Nat×List D)} {d:D} (_:evalO L f=some (.fn fid cap)) (_:mapO (evalO L) args.toList=some ds) (_:FC S fid ro [] [] (ds++cap) d [] [])
  (_:(∀p∈ro,L.getBox p.1=some p.2)∧d.ids=[]∧d.tks=[]∧dstOk dst L) (_:runL S base ops K l (L.putO dst d)),K (⟨dst,.call ⟨.value f,args,tys⟩,ty,pos,aft,g⟩::l) L
 callB:∀ {l:List Oper} {L:LS} {t:Nat} {f:Operand} {args:Array Operand} {tys:Array TypeId} {ty:TypeId} {pos:String} {aft:Array Edge} {g:Option (Nat×Bool)}
  (_:guardY ops L g=some true) {fid:Nat} {cap ds:List D} {ro cx cx':List (Nat×List D)} {tk0 tk':List Nat} {d:D} (_:evalO L f=some (.fn fid cap)) (_:mapO (evalO L) args.toList=some ds) (_:FC S fid ro cx tk0 (ds++cap) d cx' tk')
  (_:(t<L.n∧(∀p∈ro,L.getBox p.1=some p.2∧p.1∉cx.map (·.1))∧(∀p∈cx,look L.boxes p.1=some p.2)∧(∀k∈tk0,k∈L.toks)∧(∀p∈cx',p.1∈cx.map (·.1)))∧((∀i∈d.ids,i∈cx.map (·.1))∧(∀p∈cx',∀i∈D.idsL p.2,i∈cx.map (·.1)) ∧
   (∀k∈d.tks,k∈tk')∧(∀p∈cx',∀k∈D.tksL p.2,k∈tk')∧(∀k∈tk',k<1000))∧L.clean (inTok (1000*(t+1)))=true)
  (_:runL S base ops K l ((L.after (1000*(t+1)) cx tk0 cx' tk').put t (d.shT (1000*(t+1))))),K (⟨some t,.call ⟨.value f,args,tys⟩,ty,pos,aft,g⟩::l) L
 callT:∀ {l:List Oper} {L:LS} {t:Nat} {f:Operand} {args:Array Operand} {tys:Array TypeId} {ty:TypeId} {pos:String} {aft:Array Edge} {g:Option (Nat×Bool)}
  (_:guardY ops L g=some true) {fid:Nat} {cap ds:List D} {ro:List (Nat×List D)} {ys:List Int} {e0:TypeId} {z0:Nat} (_:evalO L f=some (.fn fid cap)) (_:mapO (evalO L) args.toList=some ds) (_:FC S fid ro [] [] (ds++cap) (.sl (.own 0 e0 z0) (ys.map (.int .i64))) [] [0])
  (_:(t<L.n∧base+t∉L.fix∧(∀p∈ro,L.getBox p.1=some p.2))∧ys≠[])
  (_:runL S base ops K l ((L.thawed (base+t) (ys.map (.int .i64))).put t (.ms (base+t) ys.length))),K (⟨some t,.call ⟨.value f,args,tys⟩,ty,pos,aft,g⟩::l) L
 callM:∀ {l:List Oper} {L:LS} {t:Nat} {f:Operand} {args:Array Operand} {tys:Array TypeId} {ty:TypeId} {pos:String} {aft:Array Edge} {g:Option (Nat×Bool)}
  (_:guardY ops L g=some true) {fid:Nat} {cap ds:List D} {ro:List (Nat×List D)} {cs0:List D} {j0 n0:Nat} (_:evalO L f=some (.fn fid cap)) (_:mapO (evalO L) args.toList=some ds) (_:FC S fid ro [] [] (ds++cap) (.ms j0 n0) [(j0,cs0)] [])
  (_:(t<L.n∧base+t∉L.fix∧(∀p∈ro,L.getBox p.1=some p.2))∧∀d∈cs0,d.memOk=true)
  (_:runL S base ops K l ((L.thawed (base+t) cs0).put t (.ms (base+t) n0))),K (⟨some t,.call ⟨.value f,args,tys⟩,ty,pos,aft,g⟩::l) L

theorem KOk.fork {S:Setup} {base:Nat} {B:Base} {ops:Array Oper} {N:LS→Prop} {K:List Oper→LS→Prop} (hK:KOk S base B ops N K) {l:List Oper} {L:LS} {o:Oper} {p:Nat×Bool} (_:o.guard=some p) {t:Nat} (_:(ops[p.1]?).bind (·.dst)=some t) {b:Bool} (ht:L.get t=some (.bool b)) (h1:b=true→runL S base ops K (o::l) (L.put t (.bool true))) (h0:b=false→runL S base ops K (o::l) (L.put t (.bool false))):K (o::l) L :=
 hK.split t ht h1 h0
section
variable {S:Setup} {B:Base} {R:LS→Prop} {k:List VItem} {L:LS}
theorem sw_go (base:Nat) (kp:List (Nat×List Nat)) {id:Nat} {l:List Oper} (h:∀K:List Oper→LS→Prop,KOk S base B l.toArray (fun L'=>SW S B R k (L'.keepAt kp id)) K→runL S base l.toArray K l L):SW S B R (.code (.region id l.toArray false)::k) L:=by
 have hs:∀l' L',runL S base l.toArray (fun l' L'=>LopsW S B l.toArray l' L' (fun L2=>SW S B R k L2)) l' L'→LopsW S B l.toArray l' L' (fun L2=>SW S B R k L2) :=
  runL_sound (base:=base) (K':=fun l' L'=>LopsW S B l.toArray l' L' (fun L2=>SW S B R k L2)) (fun _ _ h=>h)
 refine sw_region (hs _ _ (h _ ?_))
 exact {
  nil:=fun h=>LopsW.nil (sw_keepAt kp id h)
  raw:=fun h=>h.mono fun _ h'=>sw_keepAt kp id h'
  weak:=fun hc h=>LopsW.weak hc (hs _ _ h)
  split:=fun t _ ht h1 h0=>LopsW.split t ht (fun e=>hs _ _ (h1 e)) (fun e=>hs _ _ (h0 e))
  skip:=fun hg hd h=>LopsW.skip hg hd (hs _ _ h)
  call:=fun hg _ _ _ _ _ hf hds fc hside h=>LopsW.call hg hf hds fc hside (hs _ _ h)
  callB:=fun hg _ _ _ _ _ _ _ _ _ hf hds fc hside h=>LopsW.callB hg hf hds fc hside (hs _ _ h)
  callT:=fun hg _ _ _ _ _ _ _ hf hds fc hside h=>LopsW.callTi hg (base+_) hf hds fc hside (hs _ _ h)
  callM:=fun hg _ _ _ _ _ _ _ hf hds fc hside h=>LopsW.callM hg (base+_) hf hds fc hside (hs _ _ h)}

structure QOk (S:Setup) (ops:Array Oper) (N:LS→Prop) (K:List Oper→LS→Prop):Prop where
 nil:∀ {L},N L→K [] L
 split:∀ {l L} (t:Nat) {b:Bool},L.get t=some (.bool b)→(b=true→runQ S ops K l (L.put t (.bool true)))→(b=false→runQ S ops K l (L.put t (.bool false)))→K l L
 skip:∀ {o l L},guardY ops L o.guard=some false→dstOk o.dst L→runQ S ops K l (L.putO o.dst (.raw undef))→K (o::l) L
 call:∀ {l:List Oper} {L:LS} {dst:Option Nat} {f:Operand} {args:Array Operand} {tys:Array TypeId} {ty:TypeId} {pos:String} {aft:Array Edge} {g:Option (Nat×Bool)}
  (_:guardY ops L g=some true) {fid:Nat} {cap ds:List D} {ro:List (Nat×List D)} {d:D} (_:evalO L f=some (.fn fid cap)) (_:mapO (evalO L) args.toList=some ds) (_:FC S fid ro [] [] (ds++cap) d [] [])
  (_:(∀p∈ro,L.getBox p.1=some p.2)∧d.ids=[]∧d.tks=[]∧dstOk dst L) (_:runQ S ops K l (L.putO dst d)),K (⟨dst,.call ⟨.value f,args,tys⟩,ty,pos,aft,g⟩::l) L

abbrev KT:=List Oper→LS→Prop
def dstB (dst:Option Nat) (n:Nat):Bool:=match dst with
 | some t=>Nat.blt t n
 | none=>true
theorem dst_of {dst:Option Nat} {L:LS} (h:dstB dst L.n=true):dstOk dst L:=by
 cases dst with
 | none=>trivial
 | some t=>exact Nat.blt_eq.mp h
theorem KOk.skp {S:Setup} {base:Nat} {B:Base} {ops:Array Oper} {N:LS→Prop} {K:List Oper→LS→Prop} (hK:KOk S base B ops N K) {o:Oper} {l:List Oper} {L:LS} (hg:guardY ops L o.guard=some false) (hd:dstB o.dst L.n=true) (h:runL S base ops K l (L.putO o.dst (.raw undef))):K (o::l) L:=hK.skip hg (dst_of hd) h
theorem KOk.c0 {S:Setup} {base:Nat} {B:Base} {ops:Array Oper} {N:LS→Prop} {K:List Oper→LS→Prop} (hK:KOk S base B ops N K) {l:List Oper} {L:LS} {dst:Option Nat} {f:Operand} {args:Array Operand} {tys:Array TypeId} {ty:TypeId} {pos:String} {aft:Array Edge} {g:Option (Nat×Bool)}
  (hg:guardY ops L g=some true) {fid:Nat} {cap ds:List D} {d:D} (hf:evalO L f=some (.fn fid cap)) (hds:mapO (evalO L) args.toList=some ds) (fc:FC S fid [] [] [] (ds++cap) d [] []) (h1:d.ids=[]) (h2:d.tks=[]) (h3:dstB dst L.n=true)
  (h:runL S base ops K l (L.putO dst d)):K (⟨dst,.call ⟨.value f,args,tys⟩,ty,pos,aft,g⟩::l) L:=hK.call hg hf hds fc ⟨fun _ hp=>(by cases hp),h1,h2,dst_of h3⟩ h
theorem QOk.skp {S:Setup} {ops:Array Oper} {N:LS→Prop} {K:List Oper→LS→Prop} (hK:QOk S ops N K) {o:Oper} {l:List Oper} {L:LS} (hg:guardY ops L o.guard=some false) (hd:dstB o.dst L.n=true) (h:runQ S ops K l (L.putO o.dst (.raw undef))):K (o::l) L:=hK.skip hg (dst_of hd) h
theorem QOk.c0 {S:Setup} {ops:Array Oper} {N:LS→Prop} {K:List Oper→LS→Prop} (hK:QOk S ops N K) {l:List Oper} {L:LS} {dst:Option Nat} {f:Operand} {args:Array Operand} {tys:Array TypeId} {ty:TypeId} {pos:String} {aft:Array Edge} {g:Option (Nat×Bool)}
  (hg:guardY ops L g=some true) {fid:Nat} {cap ds:List D} {d:D} (hf:evalO L f=some (.fn fid cap)) (hds:mapO (evalO L) args.toList=some ds) (fc:FC S fid [] [] [] (ds++cap) d [] []) (h1:d.ids=[]) (h2:d.tks=[]) (h3:dstB dst L.n=true)
  (h:runQ S ops K l (L.putO dst d)):K (⟨dst,.call ⟨.value f,args,tys⟩,ty,pos,aft,g⟩::l) L:=hK.call hg hf hds fc ⟨fun _ hp=>(by cases hp),h1,h2,dst_of h3⟩ h
theorem lst0:(∀ {α β:Type} (f:α→β),[].map f=[])∧(∀ {α β:Type} (f:α→β) (x:α) (a:List α),(x::a).map f=f x::a.map f)∧(∀ {α β:Type} (f:α→β) (a:List α),(a.map f).length=a.length)∧∀n:Nat,0+n=n :=
 ⟨fun _=>List.map_nil,fun _ _ _=>List.map_cons,fun _ _=>List.length_map _,Nat.zero_add⟩
theorem lens:(∀ {α:Type} (a b:List α),(a++b).length=a.length+b.length)∧(∀ {α:Type} (n:Nat) (a:List α),(a.take n).length=min n a.length)∧(∀ {α:Type} (n:Nat) (a:List α),(a.drop n).length=a.length-n)∧(∀ {α:Type} (x:α) (a:List α),(x::a).length=a.length+1)∧(∀ {α:Type},([]:List α).length=0)∧∀ {α β:Type} (f:α→β) (a:List α),(a.map f).length=a.length :=
 ⟨fun _ _=>List.length_append,fun _ _=>List.length_take,fun _ _=>List.length_drop,fun _ _=>List.length_cons,List.length_nil,fun _ _=>List.length_map _⟩
theorem QOk.fork {S:Setup} {ops:Array Oper} {N:LS→Prop} {K:List Oper→LS→Prop} (hK:QOk S ops N K) {l:List Oper} {L:LS} {o:Oper} {p:Nat×Bool} (_:o.guard=some p) {t:Nat} (_:(ops[p.1]?).bind (·.dst)=some t) {b:Bool} (ht:L.get t=some (.bool b)) (h1:b=true→runQ S ops K (o::l) (L.put t (.bool true))) (h0:b=false→runQ S ops K (o::l) (L.put t (.bool false))):K (o::l) L :=
 hK.split t ht h1 h0
theorem sw_goD (kp:List (Nat×List Nat)) {id:Nat} {l:List Oper} (hB:Region.lexB .any l.toArray=true) (h:∀K:List Oper→LS→Prop,QOk S l.toArray (fun L'=>SW S B R k (L'.keepAt kp id)) K→runQ S l.toArray K l L):SW S B R (.code (.region id l.toArray true)::k) L:=by
 have hs:∀l' L',runQ S l.toArray (fun l' L'=>LexQ S l.toArray L (fun L2=>SW S B R k L2) l' L') l' L'→LexQ S l.toArray L (fun L2=>SW S B R k L2) l' L' :=
  runQ_sound (K':=fun l' L'=>LexQ S l.toArray L (fun L2=>SW S B R k L2) l' L') (fun _ _ h=>h)
 refine sw_draw hB (hs _ _ (h _ ?_))
 exact {
  nil:=fun h=>LexQ.nil (sw_keepAt kp id h)
  split:=fun t _ ht h1 h0=>LexQ.split t ht (fun e=>hs _ _ (h1 e)) (fun e=>hs _ _ (h0 e))
  skip:=fun hg hd h=>LexQ.skip hg hd (hs _ _ h)
  call:=fun hg _ _ _ _ _ hf hds fc hside h=>LexQ.call hg hf hds fc hside (hs _ _ h)}
theorem sw_goT (base:Nat) (kp:List (Nat×List Nat)) (m:Nat) {id:Nat} {l:List Oper} (hB:drawT .any l.toArray m=true) (h:∀Kq:List Oper→LS→Prop,QOk S l.toArray (fun L'=>∀K:List Oper→LS→Prop,KOk S base B l.toArray (fun L'=>SW S B R k (L'.keepAt kp id)) K→runL S base l.toArray K (l.drop m) L') Kq→runQ S l.toArray Kq (l.take m) L):SW S B R (.code (.region id l.toArray true)::k) L:=by
 have hs:∀l' L',runL S base l.toArray (fun l' L'=>LopsW S B l.toArray l' L' (fun L2=>SW S B R k L2)) l' L'→LopsW S B l.toArray l' L' (fun L2=>SW S B R k L2) :=
  runL_sound (base:=base) (K':=fun l' L'=>LopsW S B l.toArray l' L' (fun L2=>SW S B R k L2)) (fun _ _ h=>h)
 have hq:∀l' L',runQ S l.toArray (fun l' L'=>LexQ S l.toArray L (fun L2=>LopsW S B l.toArray (l.drop m) L2 fun L3=>SW S B R k L3) l' L') l' L'→LexQ S l.toArray L (fun L2=>LopsW S B l.toArray (l.drop m) L2 fun L3=>SW S B R k L3) l' L' :=
  runQ_sound (K':=fun l' L'=>LexQ S l.toArray L (fun L2=>LopsW S B l.toArray (l.drop m) L2 fun L3=>SW S B R k L3) l' L') (fun _ _ h=>h)
 intro G a w hsim
 refine drawT_sound hB (hq _ _ (h _ ?_)) hsim (fun L' G' a' w' hK hs'=>hK G' a' w' hs')
 exact {
  nil:=fun h=>LexQ.nil (hs _ _ (h _ {
   nil:=fun h=>LopsW.nil (sw_keepAt kp id h)
   raw:=fun h=>h.mono fun _ h'=>sw_keepAt kp id h'
   weak:=fun hc h=>LopsW.weak hc (hs _ _ h)
   split:=fun t _ ht h1 h0=>LopsW.split t ht (fun e=>hs _ _ (h1 e)) (fun e=>hs _ _ (h0 e))
   skip:=fun hg hd h=>LopsW.skip hg hd (hs _ _ h)
   call:=fun hg _ _ _ _ _ hf hds fc hside h=>LopsW.call hg hf hds fc hside (hs _ _ h)
   callB:=fun hg _ _ _ _ _ _ _ _ _ hf hds fc hside h=>LopsW.callB hg hf hds fc hside (hs _ _ h)
   callT:=fun hg _ _ _ _ _ _ _ hf hds fc hside h=>LopsW.callTi hg (base+_) hf hds fc hside (hs _ _ h)
   callM:=fun hg _ _ _ _ _ _ _ hf hds fc hside h=>LopsW.callM hg (base+_) hf hds fc hside (hs _ _ h)}))
  split:=fun t _ ht h1 h0=>LexQ.split t ht (fun e=>hq _ _ (h1 e)) (fun e=>hq _ _ (h0 e))
  skip:=fun hg hd h=>LexQ.skip hg hd (hq _ _ h)
  call:=fun hg _ _ _ _ _ hf hds fc hside h=>LexQ.call hg hf hds fc hside (hq _ _ h)}
end
end Go.Lg
/-
  Lg, part 22: what the proofs of functions use beside the rules.
-/
namespace Go.Lg
open Go Go.RowKit

structure Om (p:Prop):Prop where
 out:p
theorem wrap64 {n:Int} (h1:-9223372036854775808≤n) (h2:n≤9223372036854775807):IntKind.i64.wrap n=n:=by
 simp[IntKind.wrap,IntKind.signed,IntKind.bits]
 omega

noncomputable def tst (p:Prop):Bool:=@decide p (Classical.propDecidable p)
theorem tst_true {p:Prop} (h:p):tst p=true:=by simp[tst,h]
theorem tst_false {p:Prop} (h:¬p):tst p=false:=by simp[tst,h]
theorem tst_iff {p:Prop}:tst p=true↔p:=by simp[tst]
theorem tst_not {p:Prop}:tst p=false↔¬p:=by simp[tst]
theorem tst_congr {p q:Prop} (h:p↔q):tst p=tst q:=by rw[propext h]
theorem decide_tst (p:Prop) [Decidable p]:decide p=tst p:=by
 by_cases h:p
 ·rw[tst_true h,decide_eq_true h]
 ·rw[tst_false h,decide_eq_false h]

theorem true_eq_tst (p:Prop):(true=tst p)=p:=propext ⟨fun h=>tst_iff.1 h.symm,fun h=>(tst_true h).symm⟩
theorem false_eq_tst (p:Prop):(false=tst p)=¬p:=propext ⟨fun h=>tst_not.1 h.symm,fun h=>(tst_false h).symm⟩
theorem leq {d d':D} (h:d=d'):D.le d d':=h ▸ D.le.refl d
theorem le_self (d:D):D.le d d=True:=by simp[D.le.refl]
theorem le_int (k:IntKind) (a b:Int):D.le (.int k a) (.int k b)=(a=b):=by
 refine propext ⟨fun h=>?_,fun h=>h ▸ .refl _⟩
 cases h;rfl
theorem le_bool (a b:Bool):D.le (.bool a) (.bool b)=(a=b):=by
 refine propext ⟨fun h=>?_,fun h=>h ▸ .refl _⟩
 cases h;rfl
theorem le_any (tk:Tk) (xs:List D):D.le (.sl tk xs) (.sl .any xs)=True:=by simp[D.le.any]

def envLe (env:List (Nat×D)):List (Nat×D)→Prop
 | []=>True
 | (t,d)::r=>(someK (look env t) fun d'=>D.le d' d)∧envLe env r
def boxLe (bx:List (Nat×List D)):List (Nat×List D)→Prop
 | []=>True
 | (t,cs)::r=>(someK (look bx t) fun cs'=>cs'=cs)∧boxLe bx r
theorem envLe_nil (env:List (Nat×D)):envLe env []=True:=rfl
theorem envLe_cons (env:List (Nat×D)) (t:Nat) (d:D) (r:List (Nat×D)):envLe env ((t,d)::r)=((someK (look env t) fun d'=>D.le d' d)∧envLe env r):=rfl
theorem boxLe_nil (bx:List (Nat×List D)):boxLe bx []=True:=rfl
theorem boxLe_cons (bx:List (Nat×List D)) (t:Nat) (cs:List D) (r:List (Nat×List D)):boxLe bx ((t,cs)::r)=((someK (look bx t) fun cs'=>cs'=cs)∧boxLe bx r):=rfl
theorem envLe_all {env:List (Nat×D)}:∀ {r:List (Nat×D)},envLe env r→∀p∈r,∃d,look env p.1=some d∧D.le d p.2
 | [],_,p,hp=>by cases hp
 | (t,d)::r,h,p,hp=>by
  rcases List.mem_cons.1 hp with e|e
  ·subst e
   exact someK_get h.1
  ·exact envLe_all h.2 p e
theorem boxLe_all {bx:List (Nat×List D)}:∀ {r:List (Nat×List D)},boxLe bx r→∀p∈r,look bx p.1=some p.2
 | [],_,p,hp=>by cases hp
 | (t,cs)::r,h,p,hp=>by
  rcases List.mem_cons.1 hp with e|e
  ·subst e
   obtain⟨d,h1,h2⟩:=someK_get h.1
   rw[h1,h2]
  ·exact boxLe_all h.2 p e
theorem covers_mk {L L':LS} (h1:L'.n=L.n) (h2:L'.fix=L.fix) (h3:envLe L.env L'.env) (h4:boxLe L.boxes L'.boxes) (h5:boxLe L.ro L'.ro) (h6:∀k∈L'.toks,k∈L.toks):L.covers L' :=
 ⟨h1,h2,envLe_all h3,boxLe_all h4,boxLe_all h5,h6⟩

theorem wrap64m {n:Int} (h:Om (-9223372036854775808≤n∧n≤9223372036854775807)):IntKind.i64.wrap n=n:=wrap64 h.out.1 h.out.2
theorem wrapU64 {n:Int} (h1:0≤n) (h2:n≤18446744073709551615):IntKind.u64.wrap n=n:=by
 simp only[IntKind.wrap,IntKind.signed,IntKind.bits,Bool.false_and,Bool.false_eq_true,if_false]
 omega
theorem wrapU64m {n:Int} (h:Om (0≤n∧n≤18446744073709551615)):IntKind.u64.wrap n=n:=wrapU64 h.out.1 h.out.2
theorem map_getDm {α:Type} [Inhabited α] (f:α→D) (xs:List α) (n:Nat) (h:Om (n<xs.length)):(xs.map f).getD n default=f (xs.getD n default):=by
 simp[List.getD,List.getElem?_map,List.getElem?_eq_getElem h.out]
theorem toNat_sub1 (i:Nat):((i:Int)-1).toNat=i-1:=by omega
theorem toNat_add1 (i:Nat):((i:Int)+1).toNat=i+1:=by omega
theorem upto_succ {P:Nat→Prop} {i:Nat} (h:∀j<i,P j) (hi:P i):∀j<i+1,P j:=fun j hj=>by
 rcases Nat.lt_succ_iff_lt_or_eq.1 hj with e|e
 ·exact h j e
 ·subst e;exact hi
theorem ext_getD {α:Type} [Inhabited α] {xs ys:List α} (h:xs.length=ys.length) (he:∀j<xs.length,xs.getD j default=ys.getD j default):xs=ys:=by
 refine List.ext_getElem h fun j h1 h2=>?_
 have:=he j h1
 simpa[List.getD,List.getElem?_eq_getElem h1,List.getElem?_eq_getElem h2] using this
theorem int_toNat (n:Nat):(n:Int).toNat=n:=Int.toNat_natCast n

def D.bnd:D→Prop
 | .sl _ xs=>xs.length≤9223372036854775807
 | .ms _ n=>n≤9223372036854775807
 | _=>True
theorem bnd_of_rel {G:Ghost} {w:World} {d:D} {v:Value} (h:Rel G w d v):d.bnd:=by
 cases h with
 | sl hn hc hm=>subst hn;exact Nat.le_trans hc hm
 | ms hb hc hn=>exact Nat.le_trans hc hn
 | _=>trivial

variable {S:Setup} {B:Base} {R:LS→Prop} {k:List VItem} {L:LS}
theorem sw_bnd (t:Nat) {d:D} (h:look L.env t=some d) (hk:d.bnd→SW S B R k L):SW S B R k L:=fun G a w hs=>by
 obtain⟨v,_,hv⟩:=hs.env t d h
 exact hk (bnd_of_rel hv) G a w hs
theorem sw_bnd_agg (t j:Nat) {cs:List D} {d:D} (h:look L.env t=some (.agg cs)) (hj:cs[j]?=some d) (hk:d.bnd→SW S B R k L):SW S B R k L:=fun G a w hs=>by
 obtain⟨v,_,hv⟩:=hs.env t _ h
 cases hv with
 | agg hl hr =>
  obtain⟨u,hu⟩:∃u,‹List Value›[j]?=some u:=⟨_,List.getElem?_eq_getElem (by rw[hl];exact(List.getElem?_eq_some_iff.1 hj).1)⟩
  exact hk (bnd_of_rel (hr j d u hj hu)) G a w hs
theorem sw_bnd_box (id j:Nat) {cs:List D} {d:D} (h:look L.boxes id=some cs) (hj:cs[j]?=some d) (hk:d.bnd→SW S B R k L):SW S B R k L:=fun G a w hs=>by
 obtain⟨g,_,⟨vs,e,h1,h2,h3⟩,_⟩:=hs.W.boxes id cs h
 obtain⟨u,hu⟩:∃u,vs[j]?=some u:=⟨_,Array.getElem?_eq_getElem (Nat.lt_of_lt_of_le (List.getElem?_eq_some_iff.1 hj).1 h2)⟩
 exact hk (bnd_of_rel (h3 j d u hj hu)) G a w hs
end Go.Lg
/-
  Lg, part 23: what was made by 'make' and filled is taken for a list from now on.
-/
namespace Go.Lg
open Go Go.RowKit

theorem freeze_sim {B:Base} {L:LS} {G:Ghost} {a:Act} {w:World} (h:Sim B L G a w) {t id n s:Nat} {cs xs:List D} {tk:Tk} (ht:look L.env t=some (.ms id n)) (hb:look L.boxes id=some cs) (hx:cs=flat xs) (hn:n=xs.length)
  (hu:∀x∈xs,x.cells.length=s) (hk:∀d∈cs,d.memOk=true) (htk:tk=.any∨tk=.nn) :
  ∃G',Sim B {L with env:=setA L.env t (.sl tk xs),boxes:=eraseK id L.boxes} G' a w:=by
 have hW:=h.W
 obtain⟨g,hg,⟨vs,e,e1,e2,e3⟩,hl0,hown⟩:=hW.boxes id cs hb
 obtain⟨v,hv,hr⟩:=h.env t _ ht
 have hmn:Mono G (G.grow g cs.length) w w:=⟨fun b o u h1 h2=>⟨by
  simp only[Ghost.grow]
  split
  ·rename_i hbg;subst hbg;omega
  ·exact h1,h2⟩,fun _ _=>rfl,fun _ _ _ h=>h⟩
 have rG:∀ {d u},Rel G w d u→Rel (G.grow g cs.length) w d u:=fun {d u} hr=>hr.mono hmn (fun _ _ _ h=>h) (fun k _=>.inr ⟨rfl,fun g' e' z hk'=>by
  obtain⟨_,_,_,h5⟩:=hW.tau k g' e' z hk'
  refine⟨?_,rfl⟩
  simp only[Ghost.grow]
  rw[if_neg (by rintro rfl;exact h5 id hg)]⟩)
 have hbox:∀ {g' cs'},BoxAt G w g' cs'→BoxAt (G.grow g cs.length) w g' cs':=fun⟨vs,e,e1,e2,e3⟩=>⟨vs,e,e1,e2,fun j d v hd hv=>rG (e3 j d v hd hv)⟩
 have hcell:∀j,w.cell? ⟨g,j,none⟩=vs[j]?:=fun j=>by simp[World.cell?,e1]
 have hlim:(G.grow g cs.length).lim g=cs.length:=by simp[Ghost.grow]
 have hlim':∀b,b≠g→(G.grow g cs.length).lim b=G.lim b:=fun b hb=>by simp[Ghost.grow,hb]
 refine⟨G.grow g cs.length,h.defers,h.size,fun t' d hd=>?_,?_,h.fixed⟩
 ·simp only[look_setA] at hd
  by_cases e0:t=t'
  ·subst e0
   simp only[if_true,Option.some.injEq] at hd
   subst hd
   refine⟨v,hv,?_⟩
   cases hr with
   | @ms _ _ c1 g1 hb' hc' hn' =>
    have e0:g1=g:=Option.some.inj (hb'.symm.trans hg)
    rw[e0]
    refine .sl (b:=g) (o:=0) (s:=s) (by omega) hc' hn' ?_ (.inr rfl) hu (hx ▸ hk) (fun j d hj=>?_) (fun j d u hj hu'=>?_)
    ·rcases htk with rfl|rfl
     ·trivial
     ·simp[TkOk]
    ·rw[←hx] at hj
     have hlt:j<cs.length:=(List.getElem?_eq_some_iff.1 hj).1
     rw[Nat.zero_add,hlim,hcell]
     exact⟨hlt,vs[j]'(by omega),by simp[show j<vs.size by omega]⟩
    ·rw[←hx] at hj
     rw[Nat.zero_add,hcell] at hu'
     exact rG (e3 j d u hj hu')
  ·rw[if_neg e0] at hd
   obtain⟨u,h1,h2⟩:=h.env t' d hd
   exact⟨u,h1,rG h2⟩
 ·exact {hW with
   boxes:=fun i cs' hl=>by
    simp only[look_eraseK] at hl
    by_cases e0:id=i
    ·rw[if_pos e0] at hl;cases hl
    ·rw[if_neg e0] at hl
     obtain⟨g',k1,k2,k3,k4⟩:=hW.boxes i cs' hl
     refine⟨g',k1,hbox k2,?_,k4⟩
     rw[hlim' g' (by rintro rfl;exact e0 (hW.binj _ _ _ hg k1))]
     exact k3
   robs:=fun i cs' hl=>by
    obtain⟨g',k1,k2,k3⟩:=hW.robs i cs' hl
    exact⟨g',k1,hbox k2,k3⟩
   tau:=fun k g' e' z hk'=>by
    obtain⟨h1,h2,⟨cur,h3,h4⟩,h5⟩:=hW.tau k g' e' z hk'
    refine⟨h1,h2,⟨cur,h3,?_⟩,h5⟩
    rw[hlim' g' (by rintro rfl;exact h5 id hg)]
    exact h4
   old:=fun b hb1 hb2=>by
    refine⟨(hW.old b hb1 hb2).1,?_⟩
    rw[hlim' b]
    ·exact(hW.old b hb1 hb2).2
    ·rintro rfl
     rcases hown with h|h
     ·omega
     ·exact hb2 h
   olda:=fun b hb1=>by
    refine⟨?_,(hW.olda b hb1).2⟩
    have:=(hW.olda b hb1).1
    by_cases hbg:b=g
    ·subst hbg;rw[hl0] at this;omega
    ·rw[hlim' b hbg];exact this
   lablt:=hW.lablt}

variable {S:Setup} {B:Base} {R:LS→Prop} {k:List VItem} {L:LS}
theorem sw_freeze (t s:Nat) (tk:Tk) {id n:Nat} {cs:List D} (xs:List D) (ht:look L.env t=some (.ms id n)) (hb:look L.boxes id=some cs) (hx:cs=flat xs) (hn:n=xs.length)
  (hu:∀x∈xs,x.cells.length=s) (hk:∀d∈cs,d.memOk=true) (htk:tk=.any∨tk=.nn) (hh:SW S B R k {L with env:=setA L.env t (.sl tk xs),boxes:=eraseK id L.boxes}):SW S B R k L:=fun G a w hs=>by
 obtain⟨G',h'⟩:=freeze_sim hs ht hb hx hn hu hk htk
 exact hh G' a w h'
theorem sw_freezeAt (rid t s:Nat) (tk:Tk) {id n:Nat} {cs:List D} (xs:List D) {ops:Array Oper} {dr:Bool} {c:Code} (ht:look L.env t=some (.ms id n)) (hb:look L.boxes id=some cs) (hx:cs=flat xs) (hn:n=xs.length)
  (hu:∀x∈xs,x.cells.length=s) (hk:∀d∈cs,d.memOk=true) (htk:tk=.any∨tk=.nn) (hh:SW S B R (.code (.seq (.region rid ops dr) c)::k) {L with env:=setA L.env t (.sl tk xs),boxes:=eraseK id L.boxes}):SW S B R (.code (.seq (.region rid ops dr) c)::k) L :=
 sw_freeze t s tk xs ht hb hx hn hu hk htk hh
end Go.Lg
namespace Go.Lg
def fillL (f:Nat→D) (z:D) (i n:Nat):List D:=(List.range n).map fun j=>if j<i then f j else z
theorem fillL_length (f:Nat→D) (z:D) (i n:Nat):(fillL f z i n).length=n:=by simp[fillL]
theorem fillL_set (f:Nat→D) (z:D) (i n:Nat):(fillL f z i n).set i (f i)=fillL f z (i+1) n:=by
 refine List.ext_getElem (by simp[fillL]) fun j h1 h2=>?_
 simp only[fillL,List.getElem_set,List.getElem_map,List.getElem_range]
 by_cases e:i=j
 ·subst e;simp
 ·rw[if_neg e]
  by_cases h:j<i
  ·rw[if_pos h,if_pos (by omega)]
  ·rw[if_neg h,if_neg (by omega)]
theorem fillL_zero (f:Nat→D) (z:D) (n:Nat):fillL f z 0 n=List.replicate n z:=by
 refine List.ext_getElem (by simp[fillL]) fun j h1 h2=>?_
 simp[fillL]
theorem flatten_one (z:D) (n:Nat):(List.replicate n [z]).flatten=List.replicate n z:=by
 induction n with
 | zero=>rfl
 | succ n ih=>simp[List.replicate_succ,ih]
theorem fillL_start (f:Nat→D) (z:D) (n:Nat):(List.replicate n [z]).flatten=fillL f z 0 n:=by rw[flatten_one,fillL_zero]
theorem fillL_done {α:Type} [Inhabited α] (g:α→D) (z:D) (xs:List α):fillL (fun j=>g (xs.getD j default)) z xs.length xs.length=xs.map g:=by
 refine List.ext_getElem (by simp[fillL]) fun j h1 h2=>?_
 simp only[fillL,List.getElem_map,List.getElem_range]
 rw[if_pos (by simpa[fillL] using h1)]
 simp[List.getD,List.getElem?_eq_getElem (show j<xs.length by simpa[fillL] using h1)]
theorem fillL_memOk {f:Nat→D} {z:D} {i n:Nat} (hf:∀j,(f j).memOk=true) (hz:z.memOk=true):∀d∈fillL f z i n,d.memOk=true:=by
 intro d hd
 simp only[fillL,List.mem_map] at hd
 obtain⟨j,_,rfl⟩:=hd
 split
 ·exact hf j
 ·exact hz
theorem cells_one {α:Type} {g:α→D} {xs:List α} (h:∀x,(g x).cells.length=1):∀d∈xs.map g,d.cells.length=1:=by
 intro d hd
 obtain⟨x,_,rfl⟩:=List.mem_map.1 hd
 exact h x
theorem flat_ones {α:Type} (g:α→D) (xs:List α) (h:∀x,(g x).cells=[g x]):flat (xs.map g)=xs.map g:=by
 induction xs with
 | nil=>rfl
 | cons x r ih=>simp[flat] at ih ⊢;rw[h];simp[ih]
end Go.Lg
