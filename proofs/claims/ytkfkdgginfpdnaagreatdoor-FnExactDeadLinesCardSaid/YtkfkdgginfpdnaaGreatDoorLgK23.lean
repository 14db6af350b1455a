/-
  Lg: LgWk, one behind the other.
-/
import Derived.Test.YtkfkdgginfpdnaaGreatDoorLgK21
import Derived.Test.YtkfkdgginfpdnaaGreatDoorLgK7
import Derived.Test.YtkfkdgginfpdnaaGreatDoorLgK6
/-
  Lg: functions of the library of which it is not known how often they draw, and what calls them ('FCw').
-/
namespace Go.Lg
open Go Go.RowKit
theorem simW_wk {B:Base} {bx ro:List (Nat×List D)} {tk:List Nat} {G:Ghost} {w:World} (h:SimW B bx ro tk G w):SimW {B with wk:=True} bx ro tk G w :=
 ⟨h.boxes,h.robs,h.toks,h.tau,h.tinj,h.binj,h.blt,h.lablt,h.old,h.olda,h.oldl,h.tlab,h.blab,h.oldu,h.labw,h.ids,h.sz,h.os,h.tape,h.out,.inl trivial⟩
theorem simW_wk' {B:Base} {bx ro:List (Nat×List D)} {tk:List Nat} {G:Ghost} {w:World} {q:Prop} (h:SimW {B with wk:=q} bx ro tk G w) (hd:B.w.drawn≤w.drawn):SimW B bx ro tk G w :=
 ⟨h.boxes,h.robs,h.toks,h.tau,h.tinj,h.binj,h.blt,h.lablt,h.old,h.olda,h.oldl,h.tlab,h.blab,h.oldu,h.labw,h.ids,h.sz,h.os,h.tape,h.out,.inr hd⟩
theorem FC.wk {S:Setup} {T:World→Prop} {f:FuncId} {ro bx:List (Nat×List D)} {tk:List Nat} {args:List D} {d:D} {bx':List (Nat×List D)} {tk':List Nat} (h:FC S f ro bx tk args d bx' tk'):FCw S T f ro bx tk args d bx' tk' :=
 ⟨h.1,fun w G vals _ hs=>(h.2 w G vals ⟨hs.defers,hs.size,hs.env,simW_wk' hs.W (Nat.le_refl _),hs.fixed⟩).mono fun _ _ ⟨v,G',he,hsim⟩=>⟨v,G',he,hsim.defers,hsim.size,hsim.env,simW_wk hsim.W,hsim.fixed⟩⟩
theorem fcw_lib {S:Setup} {T:World→Prop} {f:FuncId} {args:List D} {d:D} {v0:Value} (hE:Enters S.P f) (hv:∀G w,Rel G w d v0)
  (h:∀(G:Ghost) (w:World) (vals:Array Value),T w→vals.size=args.length→(∀(j:Nat) a v,args[j]?=some a→vals[j]?=some v→Rel G w a v)→Calls S.P f vals w fun e w'=>e=.returned v0∧Below w.heap.size w w'):FCw S T f [] [] [] args d [] []:=by
 refine⟨hE,fun w G vals hT hs=>?_⟩
 have hsz:vals.size=args.length:=hs.size
 refine(h G w vals (hT w (fun _ _ _=>rfl) (Nat.le_refl _)) hsz fun j a v ha hv=>?_).mono ?_
 ·obtain⟨u,h1,h2⟩:=hs.env j a (by rw[look_enumD];simpa using ha)
  have h1:vals[j]?=some u:=h1
  rw[hv] at h1
  obtain rfl:=Option.some.inj h1
  exact h2
 ·rintro e w' ⟨rfl,hb⟩
  have hW:=hs.W
  have hnab:∀b,¬(baseOf G w [] []).ab b:=fun b=>by
   rintro (⟨p,hp,_⟩|⟨k,hk,_⟩)
   ·cases hp
   ·cases hk
  refine⟨v0,{G with τ:=fun _=>none},rfl,rfl,rfl,fun t d' hd=>?_,?_,fun p hp=>by cases hp⟩
  ·simp only[look] at hd
   split at hd
   ·rename_i ht
    subst ht
    obtain rfl:=Option.some.inj hd
    exact⟨v0,rfl,hv _ _⟩
   ·cases hd
  ·exact {
    boxes:=fun id cs hl=>by cases hl
    robs:=fun id cs hl=>by cases hl
    toks:=fun k hk=>by cases hk
    tau:=fun k g e z hk=>by cases hk
    tinj:=fun k k' g e z e' z' hk=>by cases hk
    binj:=hW.binj
    blt:=fun i g hg=>Nat.lt_of_lt_of_le (hW.blt i g hg) hb.size
    lablt:=fun b hl=>Nat.lt_of_lt_of_le (hW.lablt b hl) hb.size
    old:=fun b hlt _=>⟨hb.block b hlt,rfl⟩
    olda:=fun b hlt=>⟨Nat.le_refl _,fun o v _ hc=>by rw[cell_of_heap (hb.block b hlt)];exact hc⟩
    oldl:=fun _ _ _=>rfl
    tlab:=fun k g e z hk=>by cases hk
    blab:=hW.blab
    oldu:=fun _ _ _ h=>h
    labw:=fun b hl hor=>by
     rcases hor with hor|hor
     ·exact absurd (hW.lablt b hl) (Nat.not_lt.2 hor)
     ·exact absurd hor (hnab b)
    ids:=fun p hp=>by cases hp
    sz:=hb.size
    os:=hb.os
    tape:=hb.tape
    out:=hb.output
    dr:=.inl trivial}
theorem LopsW.callW {S:Setup} {B:Base} {ops:Array Oper} {l:List Oper} {L:LS} {K:LS→Prop} {t:Nat} {f:Operand} {args:Array Operand} {tys:Array TypeId} {ty:TypeId} {pos:String} {aft:Array Edge} {g:Option (Nat×Bool)}
  (hg:guardY ops L g=some true) {fid:Nat} {cap ds:List D} {ro cx cx':List (Nat×List D)} {tk0 tk':List Nat} {d:D} (hf:evalO L f=some (.fn fid cap)) (hds:mapO (evalO L) args.toList=some ds) (hw:B.wk) {T:World→Prop} (hT:B.has T) (fc:FCw S T fid ro cx tk0 (ds++cap) d cx' tk')
  (hside:(t<L.n∧(∀p∈ro,L.getBox p.1=some p.2∧p.1∉cx.map (·.1))∧(∀p∈cx,look L.boxes p.1=some p.2)∧(∀k∈tk0,k∈L.toks)∧(∀p∈cx',p.1∈cx.map (·.1)))∧((∀i∈d.ids,i∈cx.map (·.1))∧(∀p∈cx',∀i∈D.idsL p.2,i∈cx.map (·.1)) ∧
   (∀k∈d.tks,k∈tk')∧(∀p∈cx',∀k∈D.tksL p.2,k∈tk')∧(∀k∈tk',k<1000))∧L.clean (inTok (1000*(t+1)))=true)
  (h:LopsW S B ops l ((L.after (1000*(t+1)) cx tk0 cx' tk').put t (d.shT (1000*(t+1)))) K):LopsW S B ops (⟨some t,.call ⟨.value f,args,tys⟩,ty,pos,aft,g⟩::l) L K:=by
 intro G a w hs Q hQ
 obtain⟨⟨s1,s2,s3,s4,s5⟩,⟨s6,s7,s8,s9,s10⟩,s11⟩:=hside
 refine wpList_step fun N hN=>?_
 rw[if_pos (guardY_sound (S:=S) rfl hs (o:=⟨some t,.call ⟨.value f,args,tys⟩,ty,pos,aft,g⟩) hg)]
 obtain⟨e1,e2⟩:=mapO_sound hs hds
 have hv:=eval_sound hs hf
 generalize hu:a.eval f=u at hv
 cases hv with
 | @fn _ _ vl hl hr =>
 have hrun:(execOp a.eval ⟨some t,.call ⟨.value f,args,tys⟩,ty,pos,aft,g⟩).run S.P w=.ok (.enter fid (args.map a.eval++vl.toArray)) w:=by
  simp[execOp,resolve,hu,Deferred.ofValue,invoke,enter_run fc.1]
 unfold Oper.wp
 rw[hrun,Oper.upon_enter]
 refine(call_soundQ hs (vals:=args.map a.eval++vl.toArray) (1000*(t+1)) ?_ ?_ s2 s3 s4 (q:=True) (fun _=>hw) hT fc s5 s6 s7 s8 s9 s10 s11).mono ?_
 ·simp at e1
  simp[e1,hl]
 ·intro j d v hd hv
  have hsz:(args.map a.eval).size=ds.length:=by simp at e1;simp[e1]
  by_cases hj:j<ds.length
  ·rw[List.getElem?_append_left hj] at hd
   rw[Array.getElem?_append_left (by omega)] at hv
   exact e2 j d v hd (by simpa using hv)
  ·rw[List.getElem?_append_right (by omega)] at hd
   rw[Array.getElem?_append_right (by omega),hsz] at hv
   exact hr _ d v hd (by simpa using hv)
 ·rintro e w' ⟨v,G',rfl,h1,h2⟩
  exact hN _ _ (h G' _ w' (h1.put s1 h2) Q hQ)
theorem fcbW {S:Setup} {T:World→Prop} {f:FuncId} {fn:Func} {c:Code} {ro bx:List (Nat×List D)} {tk:List Nat} {args:List D} {d:D} {bx':List (Nat×List D)} {tk':List Nat} {L0:LS} (hf:S.P.funcs[f]?=some fn) (htk:tk'=List.range tk'.length)
  (h:∀B:Base,B.wk→B.has T→(∀p∈bx,∃g,(p.1,g)∈B.ids)→(∀c,¬B.pan c)→SW S B (RetN S fn.results.toList d bx' tk'.length) [.code c] L0) (hb:fn.body=some c:=by exact rfl) (hname:(fn.name == "runtime.NumGoroutine")=false:=by kernel_rfl) (hn:Nat.ble args.length fn.ntmps=true:=by kernel_rfl)
  (e:(⟨fn.ntmps,enumD 0 args,bx,ro,tk,bx.map (·.1)⟩:LS)=L0:=by
   simp only[go_sem]
   rfl):FCw S T f ro bx tk args d bx' tk':=by
 subst e
 unfold FCw FCEq
 rw[htk]
 refine⟨⟨fn,hf,hname,by rw[hb];rfl⟩,fun w G vals hT hs=>?_⟩
 refine calls_inl hf hb (Nat.le_of_ble_eq_true hn) (B:={baseOf G w bx tk with wk:=True}) (fun c hc=>hc) hs hs.size (fun j a v ha hv=>?_) (h _ trivial hT (fun p hp=>?_) (fun c hc=>hc)) fun G' L' a' w' hs' hr=>?_
 ·obtain⟨u,h1,h2⟩:=hs.env j a (by rw[look_enumD];simpa using ha)
  have h1:vals[j]?=some u:=h1
  rw[hv] at h1
  obtain rfl:=Option.some.inj h1
  exact h2
 ·obtain⟨cs,hcs⟩:∃cs,look bx p.1=some cs:=by
   clear h hs hT
   induction bx with
   | nil=>cases hp
   | cons q r ih =>
    obtain⟨k,x⟩:=q
    by_cases hk:k=p.1
    ·exact⟨x,by simp[look,hk]⟩
    ·rcases List.mem_cons.1 hp with e|hp
     ·exact absurd (by rw[e]) hk
     ·obtain⟨cs,h1⟩:=ih hp
      exact⟨cs,by simp[look,hk,h1]⟩
  obtain⟨g,h1,_⟩:=hs.W.boxes _ _ hcs
  refine⟨g,?_⟩
  simp only[baseOf,List.mem_filterMap,Option.map_eq_some_iff]
  exact⟨p,hp,g,h1,rfl⟩
 obtain⟨d0,v,⟨ts,d1,h1,⟨hl,hnd⟩,h2,h3,rfl,h5⟩,h7,h8⟩:=resY_sound hs' hr
 rw[←hl]
 refine⟨v,h7,v,{G' with τ:=fun k=>match ts[k]? with|some t=>G'.τ t|none=>none},rfl,rfl,rfl,fun t' d' hd=>?_,?_,hs.fixed⟩
 ·simp only[look] at hd
  split at hd
  ·rename_i ht
   subst ht
   obtain rfl:=Option.some.inj hd
   refine⟨v,rfl,Rel.mapT (G:=G') (G':={G' with τ:=fun k=>match ts[k]? with|some t=>G'.τ t|none=>none}) rfl rfl rfl (fun k=>ts.idxOf k) (h8.le h1) fun k hk=>?_⟩
   have:ts[ts.idxOf k]?=some k:=by
    rw[List.getElem?_eq_getElem (List.idxOf_lt_length_iff.2 (h3 k hk)),List.getElem_idxOf]
   simp[this]
  ·cases hd
 ·exact simW_manyTok ts hnd {hs'.W with robs:=fun id cs hl=>(by cases hl),toks:=fun k hk=>hs'.W.toks k (h2 k hk)} h5
theorem fc_bodyTW {S:Setup} {T:World→Prop} {f:FuncId} {fn:Func} {c:Code} {args:List D} {t:Nat} {b:Bool}
  (hf:S.P.funcs[f]?=some fn) (hb:fn.body=some c) (hname:(fn.name == "runtime.NumGoroutine")=false) (hn:args.length≤fn.ntmps) (hres:fn.results=#[.tmp t])
  (h:∀B,B.wk→B.has T→B.ids=[]∧(∀b,¬B.ab b)→SW S B (Ret S [.tmp t] (.bool b) []) [.code c] ⟨fn.ntmps,enumD 0 args,[],[],[],[]⟩):FCw S T f [] [] [] args (.bool b) [] []:=by
 refine⟨⟨fn,hf,hname,by rw[hb];rfl⟩,fun w G vals hT hs=>?_⟩
 refine calls_inl hf hb hn (B:={baseOf G w [] [] with wk:=True}) (fun c hc=>hc) hs hs.size (fun j a v ha hv=>?_) (h _ trivial hT ⟨rfl,fun b hb=>?_⟩) fun G' L' a' w' hs' hr=>?_
 ·obtain⟨u,h1,h2⟩:=hs.env j a (by rw[look_enumD];simpa using ha)
  have h1:vals[j]?=some u:=h1
  rw[hv] at h1
  obtain rfl:=Option.some.inj h1
  exact h2
 ·rcases hb with⟨p,hp,_⟩|⟨k,hk,_⟩
  ·cases hp
  ·cases hk
 obtain⟨d0,v,⟨h1,h2⟩,h3,h4⟩:=resY_sound (fn:=fn) hs' (by rw[hres];exact hr)
 refine⟨v,h3,v,{G' with τ:=fun _=>none},rfl,rfl,rfl,fun t d' hd=>?_,?_,hs.fixed⟩
 ·simp only[look] at hd
  split at hd
  ·rename_i ht
   subst ht
   obtain rfl:=Option.some.inj hd
   refine⟨v,rfl,?_⟩
   exact(h4.le h1).mono (show Mono G' {G' with τ:=fun _=>none} w' w' from⟨fun _ _ _ h1 h2=>⟨h1,h2⟩,fun _ _=>rfl,fun _ _ _ h=>h⟩) (fun _ _ _ h=>h) (fun _ _=>.inl rfl)
  ·cases hd
 ·exact simW_noTok (hs'.W.less h2 (ro':=[]) (by simp) (tk':=[]) (by simp))
theorem fcw_open {S:Setup} {T:World→Prop} {f:FuncId} {args:List D} {d:D} (fc:FCw S T f [] [] [] args d [] []) {w:World} {vals:Array Value} (hT:∀w2:World,(∀b,b<w.heap.size→w2.heap[b]?=w.heap[b]?)→w.heap.size≤w2.heap.size→T w2) (hl:vals.size=args.length)
  (hr:∀(j:Nat) d v,args[j]?=some d→vals[j]?=some v→Rel (openG w) w d v) :
  Calls S.P f vals w fun e w'=>∃v G',e=.returned v∧Rel G' w' d v∧Below w.heap.size w w':=by
 refine(fc.2 w (openG w) vals (fun w2 h2 hsz=>hT w2 (fun b hb=>h2 b hb (by simp[baseOf,openG])) hsz) ⟨rfl,hl,fun t d hd=>?_,simW_wk (open_simW w),fun p hp=>by cases hp⟩).mono ?_
 ·simp only[look_enumD] at hd
  rw[if_pos (Nat.zero_le _),Nat.sub_zero] at hd
  have hlt:t<vals.size:=by rw[hl];exact(List.getElem?_eq_some_iff.1 hd).1
  exact⟨vals[t],by simp[hlt],hr t d _ hd (by simp[hlt])⟩
 ·rintro e w' ⟨v,G',rfl,hs⟩
  obtain⟨u,hu,hru⟩:=hs.env 0 d rfl
  obtain rfl:v=u:=by simpa using hu
  refine⟨v,G',rfl,hru,hs.W.os,hs.W.tape,hs.W.out,hs.W.sz,fun k hk=>(hs.W.old k hk ?_).1⟩
  intro hab
  simp[baseOf,openG] at hab
end Go.Lg
