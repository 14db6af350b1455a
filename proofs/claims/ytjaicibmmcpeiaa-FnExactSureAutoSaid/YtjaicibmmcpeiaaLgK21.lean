/-
  Lg: LgMap, LgInl, one behind the other.
-/
import Derived.Test.YtjaicibmmcpeiaaLgK10
import Derived.Test.YtjaicibmmcpeiaaLgK7
import Derived.RangeFuncRecord
import Derived.MapKept
/-
  Lg: maps that the function itself has made (and that no other function is handed).
-/
namespace Go.Lg
open Go Go.RowKit
def mpI (m n0:Nat) (es:List (Value×Value)):Ghost→World→Value→Prop:=fun _ w v=>(v=.map (some m)∧n0≤m)∧∃ents c,w.heap[m]?=some (.map ents c)∧ents.toList.map (fun e=>(e.key,e.val))=es
abbrev mpd (m n0:Nat) (es:List (Value×Value)):D:=.pred (mpI m n0 es)
theorem mpd_rel {G:Ghost} {w:World} {m n0:Nat} {es:List (Value×Value)} {ents:Array MapEntry} {c:Nat} (h:w.heap[m]?=some (.map ents c)) (hn:n0≤m) (he:ents.toList.map (fun e=>(e.key,e.val))=es):Rel G w (mpd m n0 es) (.map (some m)) :=
 .pred (by intro cs h;cases h) fun G' w' hm=>⟨⟨rfl,hn⟩,ents,c,hm.mp m ents c h,he⟩
theorem mpd_inv {G:Ghost} {w:World} {m n0:Nat} {es:List (Value×Value)} {v:Value} (h:Rel G w (mpd m n0 es) v):mpI m n0 es G w v:=by
 cases h with
 | pred hv h=>exact h G w (Mono.refl G w)
theorem noP_keep {G:Ghost} {w w':World} (hk:∀(b:Nat) (vs:Array Value) (e:TypeId) (l:Nat×Nat),w.heap[b]?=some (Obj.cells vs e l)→w'.heap[b]?=some (Obj.cells vs e l)) {d:D} {v:Value} (h:Rel G w d v):d.noP=true→Rel G w' d v:=by
 have hcell:∀b o v,w.cell? ⟨b,o,none⟩=some v→w'.cell? ⟨b,o,none⟩=some v:=fun b o v hv=>by
  unfold World.cell? at hv ⊢
  simp only at hv ⊢
  cases hx:w.heap[b]? with
  | none=>rw[hx] at hv;cases hv
  | some x =>
   rw[hx] at hv
   cases x with
   | cells c e l=>rw[hk _ _ _ _ hx];exact hv
   | _=>cases hv
 have hsh:∀ {g:Nat} {s:TypeId×Nat},w.shape? g=some s→w'.shape? g=some s:=fun {g s} hg=>by
  unfold World.shape? at hg ⊢
  cases hx:w.heap[g]? with
  | none=>rw[hx] at hg;cases hg
  | some x =>
   rw[hx] at hg
   cases x with
   | cells c e l=>rw[hk _ _ _ _ hx];exact hg
   | _=>cases hg
 induction h with
 | int=>exact fun _=>.int
 | bool=>exact fun _=>.bool
 | str=>exact fun _=>.str
 | box hb=>exact fun _=>.box hb
 | ms hb hc hn=>exact fun _=>.ms hb hc hn
 | vw hb hc hn=>exact fun _=>.vw hb hc hn
 | raw h=>exact fun _=>.raw h
 | pred=>intro h;simp[D.noP] at h
 | agg hl hr ih=>exact fun h=>.agg hl fun j d v h1 hv=>ih j d v h1 hv (noPL_mem (by simpa[D.noP] using h) (List.mem_of_getElem? h1))
 | tup hl hr ih=>exact fun h=>.tup hl fun j d v h1 hv=>ih j d v h1 hv (noPL_mem (by simpa[D.noP] using h) (List.mem_of_getElem? h1))
 | fn hl hr ih=>exact fun h=>.fn hl fun j d v h1 hv=>ih j d v h1 hv (noPL_mem (by simpa[D.noP] using h) (List.mem_of_getElem? h1))
 | @imm cs b o hk1 hst hr ih =>
  intro h
  refine .imm hk1 (fun j d h1=>?_) (fun j d v h1 hv=>?_)
  ·obtain⟨q1,v,q2⟩:=hst j d h1
   exact⟨q1,v,hcell _ _ _ q2⟩
  ·obtain⟨q1,u,q2⟩:=hst j d h1
   rw[hcell _ _ _ q2] at hv
   obtain rfl:=Option.some.inj hv
   exact ih j d _ h1 q2 (noPL_mem (by simpa[D.noP] using h) (List.mem_of_getElem? h1))
 | @sl tk xs A n c b o s hn hc hm ht hA hu hk1 hst hr ih =>
  intro h
  have hP:D.noPL xs=true:=by simpa[D.noP] using h
  refine .sl (b:=b) (o:=o) (s:=s) hn hc hm ?_ hA hu hk1 (fun j d h1=>?_) (fun j d v h1 hv=>?_)
  ·cases tk with
   | own k e z =>
    simp only[TkOk] at ht ⊢
    generalize G.τ k=x at *
    match x,ht with
    | none,_=>exact trivial
    | some none,ht=>exact ht
    | some (some (g,e',z')),ht =>
     obtain⟨e1,e2,e3,e4,e5⟩:=ht
     exact⟨e1,e2,e3,hsh e4,e5⟩
   | que k e =>
    simp only[TkOk] at ht ⊢
    generalize G.τ k=x at *
    match x,ht with
    | none,_=>exact trivial
    | some none,ht=>exact ht
    | some (some (g,e',z')),ht =>
     obtain⟨e1,h0|⟨o1,e2,e3,e4,e5⟩⟩:=ht
     ·exact⟨e1,.inl h0⟩
     ·exact⟨e1,.inr ⟨o1,e2,e3,hsh e4,e5⟩⟩
   | _=>exact ht
  ·obtain⟨q1,v,q2⟩:=hst j d h1
   exact⟨q1,v,hcell _ _ _ q2⟩
  ·obtain⟨q1,u,q2⟩:=hst j d h1
   rw[hcell _ _ _ q2] at hv
   obtain rfl:=Option.some.inj hv
   exact ih j d _ h1 q2 (noP_flat hP d (List.mem_of_getElem? h1))
def MpK (m n0:Nat) (es es':List (Value×Value)) (d d':D):Prop:=(d.noP=true∧d'=d)∨(d=mpd m n0 es∧d'=mpd m n0 es')
theorem putMap_sim {B:Base} {L:LS} {G:Ghost} {a:Act} {w:World} (hs:Sim B L G a w) {m:Nat} {es es':List (Value×Value)} {ents ents':Array MapEntry} {c c':Nat} (h0:w.heap[m]?=some (.map ents c)) (hn:B.w.heap.size≤m) (he':ents'.toList.map (fun e=>(e.key,e.val))=es')
  (env':List (Nat×D)) (bx':List (Nat×List D)) (henv:∀p∈env',∃d,look L.env p.1=some d∧MpK m B.w.heap.size es es' d p.2) (hbx:∀p∈bx',∃cs,look L.boxes p.1=some cs∧p.2.length=cs.length∧∀(j:Nat) d d',cs[j]?=some d→p.2[j]?=some d'→MpK m B.w.heap.size es es' d d') :
  Sim B ⟨L.n,env',bx',[],L.toks,L.fix⟩ G a (w.putObj m (.map ents' c')):=by
 have hW:=hs.W
 have hlt:=heap_lt h0
 have hsz:(w.putObj m (.map ents' c')).heap.size=w.heap.size:=by simp[World.putObj]
 have hm':(w.putObj m (.map ents' c')).heap[m]?=some (.map ents' c'):=World.putObj_heap_same hlt
 have ho:∀b,b≠m→(w.putObj m (.map ents' c')).heap[b]?=w.heap[b]?:=fun b hb=>World.putObj_heap_other hb
 have hk:∀(b:Nat) (vs:Array Value) (e:TypeId) (l:Nat×Nat),w.heap[b]?=some (Obj.cells vs e l)→(w.putObj m (.map ents' c')).heap[b]?=some (Obj.cells vs e l):=fun b vs e l hb=>by
  rw[ho b (fun e0=>by subst e0;rw[h0] at hb;cases hb)];exact hb
 have hcell:∀b o v,w.cell? ⟨b,o,none⟩=some v→(w.putObj m (.map ents' c')).cell? ⟨b,o,none⟩=some v:=fun b o v hv=>by
  unfold World.cell? at hv ⊢
  simp only at hv ⊢
  cases hx:w.heap[b]? with
  | none=>rw[hx] at hv;cases hv
  | some x =>
   rw[hx] at hv
   cases x with
   | cells c e l=>rw[hk _ _ _ _ hx];exact hv
   | _=>cases hv
 have rK:∀ {d d' v},MpK m B.w.heap.size es es' d d'→Rel G w d v→Rel G (w.putObj m (.map ents' c')) d' v:=fun {d d' v} h hr=>by
  rcases h with⟨h1,rfl⟩|⟨rfl,rfl⟩
  ·exact noP_keep hk hr h1
  ·obtain⟨⟨rfl,h2⟩,_⟩:=mpd_inv hr
   exact mpd_rel hm' h2 he'
 refine⟨hs.defers,hs.size,fun t d hd=>?_,?_,hs.fixed⟩
 ·obtain⟨d0,h1,h2⟩:=henv _ (mem_of_look hd)
  obtain⟨v,h4,h5⟩:=hs.env t d0 h1
  exact⟨v,h4,rK h2 h5⟩
 ·exact {
   boxes:=fun id cs hl=>by
    obtain⟨cs0,h1,h2,h3⟩:=hbx _ (mem_of_look hl)
    simp only at h2 h3
    obtain⟨g,k1,⟨vs,e,e1,e2,e3⟩,k3,k4⟩:=hW.boxes id cs0 h1
    refine⟨g,k1,⟨vs,e,hk _ _ _ _ e1,by omega,fun j d v hd hv=>?_⟩,k3,k4⟩
    have hj:j<cs0.length:=by have:=(List.getElem?_eq_some_iff.1 hd).1;omega
    exact rK (h3 j _ d (List.getElem?_eq_getElem hj) hd) (e3 j _ v (List.getElem?_eq_getElem hj) hv)
   robs:=fun id cs hl=>by cases hl
   toks:=hW.toks
   tau:=fun k g e z hk'=>let ⟨q1,q2,⟨cur,q3,q5⟩,q4⟩:=hW.tau k g e z hk';⟨q1,q2,⟨cur,hk _ _ _ _ q3,q5⟩,q4⟩
   tinj:=hW.tinj
   binj:=hW.binj
   blt:=fun i g hg=>by rw[hsz];exact hW.blt i g hg
   lablt:=fun b hb=>by rw[hsz];exact hW.lablt b hb
   old:=fun b hb hn'=>let ⟨q1,q2⟩:=hW.old b hb hn';⟨(ho b (by omega)).trans q1,q2⟩
   olda:=fun b hb=>let ⟨q1,q2⟩:=hW.olda b hb;⟨q1,fun o v ho hv=>hcell _ _ _ (q2 o v ho hv)⟩
   oldl:=hW.oldl
   tlab:=hW.tlab
   blab:=hW.blab
   oldu:=hW.oldu
   labw:=fun b hb ho=>let ⟨vs,e,q⟩:=hW.labw b hb ho;⟨vs,e,hk _ _ _ _ q⟩
   ids:=hW.ids
   sz:=by rw[hsz];exact hW.sz
   os:=hW.os
   tape:=hW.tape
   out:=hW.out
   dr:=hW.dr}
theorem LopsW.makeMap {S:Setup} {B:Base} {ops:Array Oper} {l:List Oper} {L:LS} {K:LS→Prop} {t:Nat} {T:TypeId} {ty:TypeId} {pos:String} {aft:Array Edge} (ht:t<L.n)
  (h:∀m,LopsW S B ops l (L.put t (mpd m B.w.heap.size [])) K):LopsW S B ops (⟨some t,.makeMap T none,ty,pos,aft,none⟩::l) L K:=by
 intro G a w hs Q hQ
 refine wpList_step fun N hN=>?_
 rw[if_pos (guardY_sound (S:=S) (b:=true) rfl hs rfl)]
 unfold Oper.wp
 have hop:(execOp a.eval ⟨some t,.makeMap T none,ty,pos,aft,none⟩).run S.P w=.ok (.value (.map (some w.heap.size))) (w.alloc (.map #[] 0)):=by
  have h1:(Instr.makeMap T none).run S.P w=.ok (.map (some w.heap.size)) (w.alloc (.map #[] 0)):=rfl
  simp[execOp,h1]
 rw[hop]
 have hs1:Sim B L (G.grow w.heap.size 0) a (w.alloc (.map #[] 0)):=hs.move (alloc_simW hs.W _ 0) fun d v hr=>alloc_rel hs.W _ 0 hr
 refine hN _ _ (h w.heap.size _ _ _ (hs1.putO (t:=some t) (fun t' ht'=>by obtain rfl:=Option.some.inj ht';exact ht) ?_) Q hQ)
 exact mpd_rel (MapKept.heap_alloc w _).1 hs.W.sz rfl
def intE (kk vk:IntKind) (ps:List (Int×Int)):List (Value×Value):=ps.map fun p=>(.int kk p.1,.int vk p.2)
def findM (ps:List (Int×Int)) (n:Int):Option Int:=(ps.find? fun p=>p.1==n).map (·.2)
theorem findNow_int {q kk vk:IntKind} {n:Int}:∀ {L:List MapEntry} {ps:List (Int×Int)} (i:Nat),L.map (fun e=>(e.key,e.val))=intE kk vk ps→∃r,Instr.findNow (.int q) (.int kk n) L i=some r∧r.map (·.2)=(findM ps n).map (.int vk)
 | [],[],_,_=>⟨none,rfl,rfl⟩
 | e::L,p::ps,i,h=>by
  simp only[intE,List.map_cons,List.cons.injEq,Prod.mk.injEq] at h
  obtain⟨⟨h1,h2⟩,h3⟩:=h
  by_cases hn:p.1=n
  ·refine⟨some (i,e.val),?_,?_⟩
   ·simp[Instr.findNow,Instr.sameNow,h1,hn]
   ·simp[findM,hn,h2]
  ·obtain⟨r,h4,h5⟩:=findNow_int (q:=q) (n:=n) (i+1) h3
   refine⟨r,?_,?_⟩
   ·have:(n==p.1)=false:=by simpa using fun e=>hn e.symm
    simp[Instr.findNow,Instr.sameNow,h1,this,h4]
   ·rw[h5]
    have:(p.1==n)=false:=by simpa using hn
    simp[findM,this]
 | [],p::ps,_,h=>by simp[intE] at h
 | e::L,[],_,h=>by simp[intE] at h
theorem run_checkKey_int {P:Program} {w:World} {kt:TypeId} {q kk:IntKind} {n:Int} {b:Bool} (hd:P.underlying kt=some (.int q)):(Instr.checkKey b 10000 kt (.int kk n)).run P w=.ok () w:=by
 rw[show (10000:Nat)=9999+1 from rfl]
 unfold Instr.checkKey
 simp[run_underlying hd]
theorem run_findKey_int {P:Program} {w:World} {kt:TypeId} {q kk vk:IntKind} {n:Int} {L:List MapEntry} {ps:List (Int×Int)} (hd:P.underlying kt=some (.int q)) (h:L.map (fun e=>(e.key,e.val))=intE kk vk ps):∃r,(Instr.findKey kt (.int kk n) L).run P w=.ok r w∧r.map (·.2)=(findM ps n).map (.int vk):=by
 obtain⟨r,h1,h2⟩:=findNow_int (q:=q) (n:=n) 0 h
 exact⟨r,by simp[Instr.findKey,run_underlying hd,h1],h2⟩
theorem LopsW.mapGet {S:Setup} {B:Base} {ops:Array Oper} {l:List Oper} {L:LS} {K:LS→Prop} {t:Nat} {T KT VT:TypeId} {q kk vk:IntKind} {xm xk:Operand} {ty:TypeId} {pos:String} {aft:Array Edge} {m n0:Nat} {ps:List (Int×Int)} {n:Int}
  (hT:S.P.underlying T=some (.map KT VT)) (hK:S.P.underlying KT=some (.int q)) (hz:∀w,(zeroValue VT).run S.P w=.ok (.int vk 0) w) (hm:evalO L xm=some (mpd m n0 (intE kk vk ps))) (hk:evalO L xk=some (.int kk n)) (ht:t<L.n)
  (h:LopsW S B ops l (L.put t (.tup [.int vk ((findM ps n).getD 0),.bool (findM ps n).isSome])) K):LopsW S B ops (⟨some t,.lookup T xm xk true,ty,pos,aft,none⟩::l) L K:=by
 intro G a w hs Q hQ
 refine wpList_step fun N hN=>?_
 rw[if_pos (guardY_sound (S:=S) (b:=true) rfl hs rfl)]
 obtain⟨⟨e1,e2⟩,ents,c,e3,e4⟩:=mpd_inv (eval_sound hs hm)
 have hkv:a.eval xk=.int kk n:=by
  have hv:=eval_sound hs hk
  generalize a.eval xk=u at hv
  cases hv;rfl
 obtain⟨r,r1,r2⟩:=run_findKey_int (w:=w) (n:=n) hK e4
 unfold Oper.wp
 have hop:(execOp a.eval ⟨some t,.lookup T xm xk true,ty,pos,aft,none⟩).run S.P w=.ok (.value (.tuple #[.int vk ((findM ps n).getD 0),.bool (findM ps n).isSome])) w:=by
  have hg:(getObj m).run S.P w=.ok (.map ents c) w:=by simp[getObj,Sem.run,e3]
  cases r with
  | none =>
   have hf:findM ps n=none:=by cases hx:findM ps n with
    | none=>rfl
    | some x=>rw[hx] at r2;simp at r2
   simp[execOp,Instr.lookup,run_underlying hT,e1,hkv,hg,run_checkKey_int hK,r1,hz,hf]
  | some x =>
   obtain⟨y,hy,hxy⟩:∃y,findM ps n=some y∧x.2=.int vk y:=by cases hx:findM ps n with
    | none=>rw[hx] at r2;simp at r2
    | some y=>rw[hx] at r2;exact⟨y,rfl,by simpa using r2⟩
   simp[execOp,Instr.lookup,run_underlying hT,e1,hkv,hg,run_checkKey_int hK,r1,hxy,hy]
 rw[hop]
 refine hN _ _ (h _ _ _ (hs.putO (t:=some t) (fun t' ht'=>by obtain rfl:=Option.some.inj ht';exact ht) ?_) Q hQ)
 exact .tup (vl:=[.int vk ((findM ps n).getD 0),.bool (findM ps n).isSome]) rfl fun j d v h1 h2=>by
  match j with
  | 0=>cases h1;cases h2;exact .int
  | 1=>cases h1;cases h2;exact .bool
theorem LopsW.mapPut {S:Setup} {B:Base} {ops:Array Oper} {l:List Oper} {L:LS} {K:LS→Prop} {T KT VT:TypeId} {q kk vk:IntKind} {xm xk xv:Operand} {ty:TypeId} {pos:String} {aft:Array Edge} {m:Nat} {ps:List (Int×Int)} {n v:Int}
  (hT:S.P.underlying T=some (.map KT VT)) (hK:S.P.underlying KT=some (.int q)) (hm:evalO L xm=some (mpd m B.w.heap.size (intE kk vk ps))) (hk:evalO L xk=some (.int kk n)) (hv:evalO L xv=some (.int vk v)) (hnew:findM ps n=none)
  (env':List (Nat×D)) (bx':List (Nat×List D)) (henv:∀p∈env',∃d,look L.env p.1=some d∧MpK m B.w.heap.size (intE kk vk ps) (intE kk vk (ps++[(n,v)])) d p.2) (hbx:∀p∈bx',∃cs,look L.boxes p.1=some cs∧p.2.length=cs.length∧∀(j:Nat) d d',cs[j]?=some d→p.2[j]?=some d'→MpK m B.w.heap.size (intE kk vk ps) (intE kk vk (ps++[(n,v)])) d d')
  (h:LopsW S B ops l ⟨L.n,env',bx',[],L.toks,L.fix⟩ K):LopsW S B ops (⟨none,.mapUpdate T xm xk xv,ty,pos,aft,none⟩::l) L K:=by
 intro G a w hs Q hQ
 refine wpList_step fun N hN=>?_
 rw[if_pos (guardY_sound (S:=S) (b:=true) rfl hs rfl)]
 obtain⟨⟨e1,e2⟩,ents,c,e3,e4⟩:=mpd_inv (eval_sound hs hm)
 have hkv:a.eval xk=.int kk n:=by
  have hv:=eval_sound hs hk
  generalize a.eval xk=u at hv
  cases hv;rfl
 have hvv:a.eval xv=.int vk v:=by
  have hv:=eval_sound hs hv
  generalize a.eval xv=u at hv
  cases hv;rfl
 obtain⟨r,r1,r2⟩:=run_findKey_int (w:=w) (n:=n) hK e4
 have hr:r=none:=by rw[hnew] at r2;cases r with
  | none=>rfl
  | some x=>simp at r2
 subst hr
 unfold Oper.wp
 have hop:(execOp a.eval ⟨none,.mapUpdate T xm xk xv,ty,pos,aft,none⟩).run S.P w=.ok .skip (w.putObj m (.map (ents.push {key:=.int kk n,val:=.int vk v,born:=c}) (c+1))):=by
  have hg:(getObj m).run S.P w=.ok (.map ents c) w:=by simp[getObj,Sem.run,e3]
  have hp:∀o,(setObj m o).run S.P w=.ok () (w.putObj m o):=fun o=>by simp[setObj,Sem.run,e3,World.putObj]
  simp[execOp,Instr.mapUpdate,run_underlying hT,e1,hkv,hvv,hg,run_checkKey_int hK,r1,hp]
 rw[hop]
 refine hN _ _ (h G _ _ (putMap_sim hs e3 e2 ?_ env' bx' henv hbx) Q hQ)
 simp only[Array.toList_push,List.map_append,e4,intE,List.map_cons,List.map_nil]
end Go.Lg
/-
  Lg: a call whose body is walked under the caller's own base (for functions that are handed a map, which a contract can't give).
-/
namespace Go.Lg
open Go Go.RowKit
end Go.Lg
