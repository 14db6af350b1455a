/-
  Lg: LgMap, LgInl, one behind the other.
-/
import Derived.Test.YtkfkdgginfpdnaaGreatDoorLgK10
import Derived.Test.YtkfkdgginfpdnaaGreatDoorLgK7
import Derived.RangeFuncRecord
import Derived.MapKept
/-
  Lg: maps that the function itself has made (and that no other function is handed).
-/
namespace Go.Lg
open Go Go.RowKit
def mpI (m n0:Nat) (es:List (Value×Value)):Ghost→World→Value→Prop:=fun _ w v=>(v=.map (some m)∧n0≤m)∧∃ents c,w.heap[m]?=some (.map ents c)∧ents.toList.map (fun e=>(e.key,e.val))=es
abbrev mpd (m n0:Nat) (es:List (Value×Value)):D:=.pred (mpI m n0 es)
theorem mpd_rel {G:Ghost} {w:World} {m n0:Nat} {es:List (Value×Value)} {ents:Array MapEntry} {c:Nat} (h:w.heap[m]?=some (.map ents c)) (hn:n0≤m) (he:ents.toList.map (fun e=>(e.key,e.val))=es):Rel G w (mpd m n0 es) (.map (some m)) :=
 .pred (by intro cs h;cases h) fun G' w' hm=>⟨⟨rfl,hn⟩,ents,c,hm.mp m ents c h,he⟩
theorem mpd_inv {G:Ghost} {w:World} {m n0:Nat} {es:List (Value×Value)} {v:Value} (h:Rel G w (mpd m n0 es) v):mpI m n0 es G w v:=by
 cases h with
 | pred hv h=>exact h G w (Mono.refl G w)
theorem noP_keep {G:Ghost} {w w':World} (hk:∀(b:Nat) (vs:Array Value) (e:TypeId) (l:Nat×Nat),w.heap[b]?=some (Obj.cells vs e l)→w'.heap[b]?=some (Obj.cells vs e l)) {d:D} {v:Value} (h:Rel G w d v):d.noP=true→Rel G w' d v:=by
 have hcell:∀b o v,w.cell? ⟨b,o,none⟩=some v→w'.cell? ⟨b,o,none⟩=some v:=fun b o v hv=>by
  unfold World.cell? at hv ⊢
  simp only at hv ⊢
  cases hx:w.heap[b]? with
  | none=>rw[hx] at hv;cases hv
  | some x =>
   rw[hx] at hv
   cases x with
   | cells c e l=>rw[hk _ _ _ _ hx];exact hv
   | _=>cases hv
 have hsh:∀ {g:Nat} {s:TypeId×Nat},w.shape? g=some s→w'.shape? g=some s:=fun {g s} hg=>by
  unfold World.shape? at hg ⊢
  cases hx:w.heap[g]? with
  | none=>rw[hx] at hg;cases hg
  | some x =>
   rw[hx] at hg
   cases x with
   | cells c e l=>rw[hk _ _ _ _ hx];exact hg
   | _=>cases hg
 induction h with
 | int=>exact fun _=>.int
 | bool=>exact fun _=>.bool
 | str=>exact fun _=>.str
 | box hb=>exact fun _=>.box hb
 | ms hb hc hn=>exact fun _=>.ms hb hc hn
 | vw hb hc hn=>exact fun _=>.vw hb hc hn
 | raw h=>exact fun _=>.raw h
 | pred=>intro h;simp[D.noP] at h
 | agg hl hr ih=>exact fun h=>.agg hl fun j d v h1 hv=>ih j d v h1 hv (noPL_mem (by simpa[D.noP] using h) (List.mem_of_getElem? h1))
 | tup hl hr ih=>exact fun h=>.tup hl fun j d v h1 hv=>ih j d v h1 hv (noPL_mem (by simpa[D.noP] using h) (List.mem_of_getElem? h1))
 | fn hl hr ih=>exact fun h=>.fn hl fun j d v h1 hv=>ih j d v h1 hv (noPL_mem (by simpa[D.noP] using h) (List.mem_of_getElem? h1))
 | @imm cs b o hk1 hst hr ih =>
  intro h
  refine .imm hk1 (fun j d h1=>?_) (fun j d v h1 hv=>?_)
  ·obtain⟨q1,v,q2⟩:=hst j d h1
   exact⟨q1,v,hcell _ _ _ q2⟩
  ·obtain⟨q1,u,q2⟩:=hst j d h1
   rw[hcell _ _ _ q2] at hv
   obtain rfl:=Option.some.inj hv
   exact ih j d _ h1 q2 (noPL_mem (by simpa[D.noP] using h) (List.mem_of_getElem? h1))
 | @sl tk xs A n c b o s hn hc hm ht hA hu hk1 hst hr ih =>
  intro h
  have hP:D.noPL xs=true:=by simpa[D.noP] using h
  refine .sl (b:=b) (o:=o) (s:=s) hn hc hm ?_ hA hu hk1 (fun j d h1=>?_) (fun j d v h1 hv=>?_)
  ·cases tk with
   | own k e z =>
    simp only[TkOk] at ht ⊢
    generalize G.τ k=x at *
    match x,ht with
    | none,_=>exact trivial
    | some none,ht=>exact ht
    | some (some (g,e',z')),ht =>
     obtain⟨e1,e2,e3,e4,e5⟩:=ht
     exact⟨e1,e2,e3,hsh e4,e5⟩
   | que k e =>
    simp only[TkOk] at ht ⊢
    generalize G.τ k=x at *
    match x,ht with
    | none,_=>exact trivial
    | some none,ht=>exact ht
    | some (some (g,e',z')),ht =>
     obtain⟨e1,h0|⟨o1,e2,e3,e4,e5⟩⟩:=ht
     ·exact⟨e1,.inl h0⟩
     ·exact⟨e1,.inr ⟨o1,e2,e3,hsh e4,e5⟩⟩
   | _=>exact ht
  ·obtain⟨q1,v,q2⟩:=hst j d h1
   exact⟨q1,v,hcell _ _ _ q2⟩
  ·obtain⟨q1,u,q2⟩:=hst j d h1
   rw[hcell _ _ _ q2] at hv
   obtain rfl:=Option.some.inj hv
   exact ih j d _ h1 q2 (noP_flat hP d (List.mem_of_getElem? h1))
def MpK (m n0:Nat) (es es':List (Value×Value)) (d d':D):Prop:=(d.noP=true∧d'=d)∨(d=mpd m n0 es∧d'=mpd m n0 es')
theorem putMap_sim {B:Base} {L:LS} {G:Ghost} {a:Act} {w:World} (hs:Sim B L G a w) {m:Nat} {es es':List (Value×Value)} {ents ents':Array MapEntry} {c c':Nat} (h0:w.heap[m]?=some (.map ents c)) (hn:B.w.heap.size≤m) (he':ents'.toList.map (fun e=>(e.key,e.val))=es')
  (env':List (Nat×D)) (bx':List (Nat×List D)) (henv:∀p∈env',∃d,look L.env p.1=some d∧MpK m B.w.heap.size es es' d p.2) (hbx:∀p∈bx',∃cs,look L.boxes p.1=some cs∧p.2.length=cs.length∧∀(j:Nat) d d',cs[j]?=some d→p.2[j]?=some d'→MpK m B.w.heap.size es es' d d') :
  Sim B ⟨L.n,env',bx',[],L.toks,L.fix⟩ G a (w.putObj m (.map ents' c')):=by
 have hW:=hs.W
 have hlt:=heap_lt h0
 have hsz:(w.putObj m (.map ents' c')).heap.size=w.heap.size:=by simp[World.putObj]
 have hm':(w.putObj m (.map ents' c')).heap[m]?=some (.map ents' c'):=World.putObj_heap_same hlt
 have ho:∀b,b≠m→(w.putObj m (.map ents' c')).heap[b]?=w.heap[b]?:=fun b hb=>World.putObj_heap_other hb
 have hk:∀(b:Nat) (vs:Array Value) (e:TypeId) (l:Nat×Nat),w.heap[b]?=some (Obj.cells vs e l)→(w.putObj m (.map ents' c')).heap[b]?=some (Obj.cells vs e l):=fun b vs e l hb=>by
  rw[ho b (fun e0=>by subst e0;rw[h0] at hb;cases hb)];exact hb
 have hcell:∀b o v,w.cell? ⟨b,o,none⟩=some v→(w.putObj m (.map ents' c')).cell? ⟨b,o,none⟩=some v:=fun b o v hv=>by
  unfold World.cell? at hv ⊢
  simp only at hv ⊢
  cases hx:w.heap[b]? with
  | none=>rw[hx] at hv;cases hv
  | some x =>
   rw[hx] at hv
   cases x with
   | cells c e l=>rw[hk _ _ _ _ hx];exact hv
   | _=>cases hv
 have rK:∀ {d d' v},MpK m B.w.heap.size es es' d d'→Rel G w d v→Rel G (w.putObj m (.map ents' c')) d' v:=fun {d d' v} h hr=>by
  rcases h with⟨h1,rfl⟩|⟨rfl,rfl⟩
  ·exact noP_keep hk hr h1
  ·obtain⟨⟨rfl,h2⟩,_⟩:=mpd_inv hr
   exact mpd_rel hm' h2 he'
 refine⟨hs.defers,hs.size,fun t d hd=>?_,?_,hs.fixed⟩
 ·obtain⟨d0,h1,h2⟩:=henv _ (mem_of_look hd)
  obtain⟨v,h4,h5⟩:=hs.env t d0 h1
  exact⟨v,h4,rK h2 h5⟩
 ·exact {
   boxes:=fun id cs hl=>by
    obtain⟨cs0,h1,h2,h3⟩:=hbx _ (mem_of_look hl)
    simp only at h2 h3
    obtain⟨g,k1,⟨vs,e,e1,e2,e3⟩,k3,k4⟩:=hW.boxes id cs0 h1
    refine⟨g,k1,⟨vs,e,hk _ _ _ _ e1,by omega,fun j d v hd hv=>?_⟩,k3,k4⟩
    have hj:j<cs0.length:=by have:=(List.getElem?_eq_some_iff.1 hd).1;omega
    exact rK (h3 j _ d (List.getElem?_eq_getElem hj) hd) (e3 j _ v (List.getElem?_eq_getElem hj) hv)
   robs:=fun id cs hl=>by cases hl
   toks:=hW.toks
   tau:=fun k g e z hk'=>let ⟨q1,q2,⟨cur,q3,q5⟩,q4⟩:=hW.tau k g e z hk';⟨q1,q2,⟨cur,hk _ _ _ _ q3,q5⟩,q4⟩
   tinj:=hW.tinj
   binj:=hW.binj
   blt:=fun i g hg=>by rw[hsz];exact hW.blt i g hg
   lablt:=fun b hb=>by rw[hsz];exact hW.lablt b hb
   old:=fun b hb hn'=>let ⟨q1,q2⟩:=hW.old b hb hn';⟨(ho b (by omega)).trans q1,q2⟩
   olda:=fun b hb=>let ⟨q1,q2⟩:=hW.olda b hb;⟨q1,fun o v ho hv=>hcell _ _ _ (q2 o v ho hv)⟩
   oldl:=hW.oldl
   tlab:=hW.tlab
   blab:=hW.blab
   oldu:=hW.oldu
   labw:=fun b hb ho=>let ⟨vs,e,q⟩:=hW.labw b hb ho;⟨vs,e,hk _ _ _ _ q⟩
   ids:=hW.ids
   sz:=by rw[hsz];exact hW.sz
   os:=hW.os
   tape:=hW.tape
   out:=hW.out
   dr:=hW.dr}
theorem LopsW.makeMap {S:Setup} {B:Base} {ops:Array Oper} {l:List Oper} {L:LS} {K:LS→Prop} {t:Nat} {T:TypeId} {ty:TypeId} {pos:String} {aft:Array Edge} (ht:t<L.n)
  (h:∀m,LopsW S B ops l (L.put t (mpd m B.w.heap.size [])) K):LopsW S B ops (⟨some t,.makeMap T none,ty,pos,aft,none⟩::l) L K:=by
 intro G a w hs Q hQ
 refine wpList_step fun N hN=>?_
 rw[if_pos (guardY_sound (S:=S) (b:=true) rfl hs rfl)]
 unfold Oper.wp
 have hop:(execOp a.eval ⟨some t,.makeMap T none,ty,pos,aft,none⟩).run S.P w=.ok (.value (.map (some w.heap.size))) (w.alloc (.map #[] 0)):=by
  have h1:(Instr.makeMap T none).run S.P w=.ok (.map (some w.heap.size)) (w.alloc (.map #[] 0)):=rfl
  simp[execOp,h1]
 rw[hop]
 have hs1:Sim B L (G.grow w.heap.size 0) a (w.alloc (.map #[] 0)):=hs.move (alloc_simW hs.W _ 0) fun d v hr=>alloc_rel hs.W _ 0 hr
 refine hN _ _ (h w.heap.size _ _ _ (hs1.putO (t:=some t) (fun t' ht'=>by obtain rfl:=Option.some.inj ht';exact ht) ?_) Q hQ)
 exact mpd_rel (MapKept.heap_alloc w _).1 hs.W.sz rfl
end Go.Lg
/-
  Lg: a call whose body is walked under the caller's own base (for functions that are handed a map, which a contract can't give).
-/
namespace Go.Lg
open Go Go.RowKit
def StayD (B:Base):D→Prop
 | .int ..|.bool _|.str _=>True
 | .box id _=>∃g,(id,g)∈B.ids
 | _=>False
theorem stay_rel {B:Base} {bx ro bx' ro':List (Nat×List D)} {tk tk':List Nat} {G G':Ghost} {w w':World} (h:SimW B bx ro tk G w) (h':SimW B bx' ro' tk' G' w') {d:D} {v:Value} (hd:StayD B d) (hr:Rel G w d v):Rel G' w' d v:=by
 cases hr with
 | int=>exact .int
 | bool=>exact .bool
 | str=>exact .str
 | box hb =>
  obtain⟨g,hg⟩:=hd
  have e:=h.ids _ hg
  rw[show _=some g from e] at hb
  obtain rfl:=Option.some.inj hb
  exact .box (h'.ids _ hg)
 | _=>exact hd.elim
theorem calls_inl {S:Setup} {f:FuncId} {fn:Func} {c:Code} {B:Base} {L:LS} {a:Act} {args:List D} {R:LS→Prop} {Rx:Ending→World→Prop} {w:World} {G:Ghost} {vals:Array Value}
  (hf:S.P.funcs[f]?=some fn) (hb:fn.body=some c) (hn:args.length≤fn.ntmps) (hpan:∀c,¬B.pan c) (hs:Sim B L G a w) (hsz:vals.size=args.length) (hr:∀(j:Nat) d v,args[j]?=some d→vals[j]?=some v→Rel G w d v)
  (h:SW S B R [.code c] ⟨fn.ntmps,enumD 0 args,L.boxes,L.ro,L.toks,L.fix⟩)
  (hR:∀G' L' a' w',Sim B L' G' a' w'→R L'→∃v,(results fn a'.tmps).run S.P w'=.ok v w'∧Rx (.returned v) w'):Calls S.P f vals w Rx:=by
 refine calls_of_wp hf hb (wp_mono (h G _ w ⟨rfl,?_,fun t d hd=>?_,hs.W,hs.fixed⟩) ?_)
 ·simp[hsz];omega
 ·rw[look_enumD] at hd
  simp only[Nat.zero_le,if_true,Nat.sub_zero] at hd
  have hlt:t<vals.size:=by rw[hsz];exact(List.getElem?_eq_some_iff.1 hd).1
  refine⟨vals[t],?_,hr t d _ hd (by simp[hlt])⟩
  simp only
  rw[Array.getElem?_append_left hlt]
  simp[hlt]
 ·intro e a' w' he
  rcases he with⟨h0,G',L',hs',hr⟩|⟨c,hc,hp,_⟩
  ·obtain⟨v,h1,h2⟩:=hR G' L' a' w' hs' hr
   rcases h0 with rfl|rfl<;>exact⟨hs'.defers,v,h1,h2⟩
  ·exact(hpan _ hp).elim
theorem LopsW.inl {S:Setup} {B:Base} {ops:Array Oper} {l:List Oper} {L:LS} {K:LS→Prop} {t:Nat} {f:Operand} {args:Array Operand} {tys:Array TypeId} {ty:TypeId} {pos:String} {aft:Array Edge}
  {fid:Nat} {ds:List D} {fn:Func} {c:Code} (hf:evalO L f=some (.fn fid [])) (hds:mapO (evalO L) args.toList=some ds) (hfn:S.P.funcs[fid]?=some fn) (hb:fn.body=some c) (hname:(fn.name == "runtime.NumGoroutine")=false) (hn:Nat.ble ds.length fn.ntmps=true) (hpan:∀c,¬B.pan c) (ht:t<L.n)
  (env':List (Nat×D)) (henv:∀p∈env',look L.env p.1=some p.2∧StayD B p.2) {L0:LS} (h0:(⟨fn.ntmps,enumD 0 ds,L.boxes,L.ro,L.toks,L.fix⟩:LS)=L0)
  (h:SW S B (fun L1=>resY S L1 fn.results.toList fun d=>LopsW S B ops l ⟨L.n,setA env' t d,L1.boxes,L1.ro,L1.toks,L.fix⟩ K) [.code c] L0) :
  LopsW S B ops (⟨some t,.call ⟨.value f,args,tys⟩,ty,pos,aft,none⟩::l) L K:=by
 subst h0
 intro G a w hs Q hQ
 refine wpList_step fun N hN=>?_
 rw[if_pos (guardY_sound (S:=S) (b:=true) rfl hs rfl)]
 obtain⟨e1,e2⟩:=mapO_sound hs hds
 have hv:=eval_sound hs hf
 generalize hu:a.eval f=u at hv
 cases hv with
 | @fn _ _ vl hl hr =>
 have hvl:vl=[]:=List.length_eq_zero_iff.1 hl
 subst hvl
 have hent:Enters S.P fid:=⟨fn,hfn,hname,by rw[hb];rfl⟩
 have hrun:(execOp a.eval ⟨some t,.call ⟨.value f,args,tys⟩,ty,pos,aft,none⟩).run S.P w=.ok (.enter fid (args.map a.eval)) w:=by
  simp[execOp,resolve,hu,Deferred.ofValue,invoke,enter_run hent]
 unfold Oper.wp
 rw[hrun,Oper.upon_enter]
 have hsz:(args.map a.eval).size=ds.length:=by simp at e1;simp[e1]
 refine calls_inl hfn hb (Nat.le_of_ble_eq_true hn) hpan hs hsz (fun j d v hd hv=>e2 j d v hd (by simpa using hv)) h fun G' L' a' w' hs' hr'=>?_
 obtain⟨d0,v,h1,h3,h4⟩:=resY_sound hs' hr'
 refine⟨v,h3,?_⟩
 refine hN _ _ (h1 G' (a.put (some t) v) w' ⟨by simp[Act.put,hs.defers],?_,fun t' d' hd=>?_,hs'.W,hs.fixed⟩ Q hQ)
 ·simp[Act.put,hs.size]
 ·simp only[look_setA] at hd
  split at hd
  ·rename_i e
   subst e
   obtain rfl:=Option.some.inj hd
   exact⟨v,by simp[Act.put,hs.size,ht],h4⟩
  ·rename_i hne
   obtain⟨q1,q2⟩:=henv _ (mem_of_look hd)
   obtain⟨u,u1,u2⟩:=hs.env t' d' q1
   refine⟨u,?_,stay_rel hs.W hs'.W q2 u2⟩
   simp[Act.put,hne,u1]
end Go.Lg
