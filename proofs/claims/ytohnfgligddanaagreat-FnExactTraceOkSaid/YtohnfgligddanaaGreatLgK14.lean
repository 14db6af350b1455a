/-
  Lg: LgPan, LgDfr, one behind the other.
-/
import Derived.Test.YtohnfgligddanaaGreatLgK10
import Derived.Recover
/-
  Lg: operations that panic: a call of a function that always panics, the panic itself.
-/
namespace Go.Lg
open Go Go.RowKit
def LopsP (S:Setup) (B:Base) (ops:Array Oper) (l:List Oper) (L:LS):Prop :=
 ∀G a w,Sim B L G a w→∀Q:Exit→Act→World→Prop,(∀c G' a' w',B.pan c→a'.defers=[]→SimW B [] [] [] G' w'→Q (.panic c) a' w')→wpList S.P ops Q l a w
theorem LopsP.app {S:Setup} {B:Base} {ops:Array Oper} {l l2:List Oper} {L:LS} {N:LS→Prop} (h:LopsW S B ops l L N) (hN:∀L',N L'→LopsP S B ops l2 L'):LopsP S B ops (l++l2) L:=fun G a w hs Q hQ =>
 wpList_app l a w (h G a w hs (thenQ S.P ops Q l2) fun L' G' a' w' h1 h2=>hN L' h1 G' a' w' h2 Q hQ)
theorem LopsP.cons {S:Setup} {B:Base} {ops:Array Oper} {o:Oper} {l:List Oper} {L:LS} (h:LopsW S B ops [o] L fun L'=>LopsP S B ops l L'):LopsP S B ops (o::l) L:=LopsP.app (l:=[o]) h fun _ h=>h
theorem sw_panicked {S:Setup} {B:Base} {R:LS→Prop} {k:List VItem} {L:LS} {id:Nat} {l:List Oper} (h:LopsP S B l.toArray l L):SW S B R (.code (.region id l.toArray false)::k) L:=fun G a w hs =>
 wp_region_list (by simpa using h G a w hs _ fun _ _ _ _ hc hd hs'=>semQ_panic hc hd hs' k)
theorem sw_goP {S:Setup} {B:Base} {R:LS→Prop} {k:List VItem} {L:LS} (base:Nat) (m:Nat) {id:Nat} {l:List Oper}
  (h:∀K:List Oper→LS→Prop,KOk S base B l.toArray (fun L1=>LopsP S B l.toArray (l.drop m) L1) K→runL S base l.toArray K (l.take m) L):SW S B R (.code (.region id l.toArray false)::k) L:=by
 refine sw_panicked ?_
 have h4:=runL_sound2 (base:=base) (l2:=[]) (K:=fun L1=>LopsP S B l.toArray (l.drop m) L1) (K':=fun l' L'=>LopsW S B l.toArray (l'++[]) L' (fun L1=>LopsP S B l.toArray (l.drop m) L1)) (fun _ _ h=>h) _ _ (h _ (kok_app fun L1 h1=>LopsW.nil h1))
 rw[List.append_nil] at h4
 have:=LopsP.app h4 fun _ h=>h
 rwa [List.take_append_drop] at this
theorem sw_goTP {S:Setup} {B:Base} {R:LS→Prop} {k:List VItem} {L:LS} (m:Nat) {id:Nat} {l:List Oper} (hB:drawT .any l.toArray m=true) (h:∀Kq:List Oper→LS→Prop,QOk S l.toArray (fun L'=>LopsP S B l.toArray (l.drop m) L') Kq→runQ S l.toArray Kq (l.take m) L):SW S B R (.code (.region id l.toArray true)::k) L:=by
 have hq:∀l' L',runQ S l.toArray (fun l' L'=>LexQ S l.toArray L (fun L2=>LopsP S B l.toArray (l.drop m) L2) l' L') l' L'→LexQ S l.toArray L (fun L2=>LopsP S B l.toArray (l.drop m) L2) l' L' :=
  runQ_sound (K':=fun l' L'=>LexQ S l.toArray L (fun L2=>LopsP S B l.toArray (l.drop m) L2) l' L') (fun _ _ h=>h)
 intro G a w hsim
 refine drawT_soundM hB (hq _ _ (h _ ?_)) hsim (fun L' G' a' w' hK hs'=>hK G' a' w' hs' _ fun _ _ _ _ hc hd hs2=>semQ_panic hc hd hs2 k)
 exact {
  nil:=fun h=>LexQ.nil h
  split:=fun t _ ht h1 h0=>LexQ.split t ht (fun e=>hq _ _ (h1 e)) (fun e=>hq _ _ (h0 e))
  skip:=fun hg hd h=>LexQ.skip hg hd (hq _ _ h)
  call:=fun hg _ _ _ _ _ hf hds fc hside h=>LexQ.call hg hf hds fc hside (hq _ _ h)}
theorem LopsP.call {S:Setup} {B:Base} {ops:Array Oper} {l:List Oper} {L:LS} {dst:Option Nat} {f:Operand} {args:Array Operand} {tys:Array TypeId} {ty:TypeId} {pos:String} {aft:Array Edge} {g:Option (Nat×Bool)}
  (hg:guardY ops L g=some true) {fid:Nat} {cap ds:List D} {ro cx:List (Nat×List D)} {tk0:List Nat} {ch:List PanicEntry} (hf:evalO L f=some (.fn fid cap)) (hds:mapO (evalO L) args.toList=some ds) (fc:FCX S fid ro cx tk0 (ds++cap) ch) (hp:B.pan ch)
  (hside:(∀p∈ro,L.getBox p.1=some p.2∧p.1∉cx.map (·.1))∧(∀p∈cx,look L.boxes p.1=some p.2)∧(∀k∈tk0,k∈L.toks)) (off:Nat) (hc:L.clean (inTok off)=true):LopsP S B ops (⟨dst,.call ⟨.value f,args,tys⟩,ty,pos,aft,g⟩::l) L:=by
 intro G a w hs Q hQ
 obtain⟨s2,s3,s4⟩:=hside
 refine wpList_step fun N hN=>?_
 rw[if_pos (guardY_sound (S:=S) rfl hs (o:=⟨dst,.call ⟨.value f,args,tys⟩,ty,pos,aft,g⟩) hg)]
 obtain⟨e1,e2⟩:=mapO_sound hs hds
 have hv:=eval_sound hs hf
 generalize hu:a.eval f=u at hv
 cases hv with
 | @fn _ _ vl hl hr =>
 have hrun:(execOp a.eval ⟨dst,.call ⟨.value f,args,tys⟩,ty,pos,aft,g⟩).run S.P w=.ok (.enter fid (args.map a.eval++vl.toArray)) w:=by
  simp[execOp,resolve,hu,Deferred.ofValue,invoke,enter_run fc.1]
 unfold Oper.wp
 rw[hrun,Oper.upon_enter]
 refine(call_soundE hs (vals:=args.map a.eval++vl.toArray) off ?_ ?_ s2 s3 s4 fc (by simp) (by simp[D.ids]) (by simp) (by simp[D.tks]) (by simp) (by simp) hc).mono ?_
 ·simp at e1
  simp[e1,hl]
 ·intro j d v hd hv
  have hsz:(args.map a.eval).size=ds.length:=by simp at e1;simp[e1]
  by_cases hj:j<ds.length
  ·rw[List.getElem?_append_left hj] at hd
   rw[Array.getElem?_append_left (by omega)] at hv
   exact e2 j d v hd (by simpa using hv)
  ·rw[List.getElem?_append_right (by omega)] at hd
   rw[Array.getElem?_append_right (by omega),hsz] at hv
   exact hr _ d v hd (by simpa using hv)
 ·rintro e w' ⟨v,G',rfl,h1,_⟩
  exact hQ ch G' a w' hp hs.defers (h1.W.less (by simp) (ro':=[]) (by simp) (tk':=[]) (by simp))
def chainE (T:TypeId):List PanicEntry:=[{v:=.iface T (.agg #[]),recovered:=false}]
theorem LopsP.panic {S:Setup} {B:Base} {ops:Array Oper} {l:List Oper} {L:LS} {dst:Option Nat} {x:Operand} {ty T:TypeId} {pos:String} {aft:Array Edge} (hx:evalO L x=some (D.ifc T (.agg []))) (hp:B.pan (chainE T)):LopsP S B ops (⟨dst,.panic x,ty,pos,aft,none⟩::l) L:=by
 intro G a w hs Q hQ
 refine wpList_step fun N hN=>?_
 rw[if_pos (guardY_sound (S:=S) (b:=true) rfl hs rfl)]
 have hv:=eval_sound hs hx
 obtain⟨u,hu,hr⟩:∃u,a.eval x=.iface T u∧Rel G w (.agg []) u:=by
  cases hv with
  | pred hv h=>exact h G w (Mono.refl G w)
 have hu2:u=.agg #[]:=by
  cases hr with
  | @agg _ vl hl h =>
   have:vl=[]:=by simpa using hl
   subst this;rfl
 subst hu2
 unfold Oper.wp
 have hop:(execOp a.eval ⟨dst,.panic x,ty,pos,aft,none⟩).run S.P w=.halt (.panic (.iface T (.agg #[]))) w:=by
  have hp0:(Instr.panic (.iface T (.agg #[]))).run S.P w=.halt (.panic (.iface T (.agg #[]))) w:=rfl
  simp[execOp,hu,hp0]
 rw[hop]
 exact hQ (chainE T) G a w hp hs.defers (hs.W.less (by simp) (ro':=[]) (by simp) (tk':=[]) (by simp))
end Go.Lg
/-
  Lg: a frame with deferred calls: what is known of the frame without them serves.
-/
namespace Go.Lg
open Go Go.RowKit
def Qd (ds:List Deferred) (Q:Exit→Act→World→Prop):Exit→Act→World→Prop:=fun e a w=>a.defers=[]∧Q e {a with defers:=ds} w
theorem put_defers (a:Act) (t:Option Nat) (v:Value):(a.put t v).defers=a.defers:=by cases t<;>rfl
theorem put_with (a:Act) (ds:List Deferred) (t:Option Nat) (v:Value):({a with defers:=ds}:Act).put t v={a.put t v with defers:=ds}:=by cases t<;>rfl
theorem wpList_no {P:Program} {ops:Array Oper} {ds:List Deferred} {Q:Exit→Act→World→Prop} (hno:¬LetsOut (Qd ds Q)):∀(l:List Oper) (a:Act) (w:World),a.defers≠[]→¬wpList P ops (Qd ds Q) l a w
 | [],a,w,ha,h=>ha h.1
 | o::l,a,w,ha,h=>by
  have ih:=wpList_no (P:=P) (ops:=ops) hno l
  unfold wpList at h
  split at h
  ·rcases h with h|⟨_,h⟩
   ·unfold Oper.wp at h
    generalize (execOp a.eval o).run P w=r at h
    unfold Oper.upon at h
    split at h
    ·exact ih _ _ (by rw[put_defers];exact ha) h
    ·exact ih _ _ (by rw[put_defers];exact ha) h
    ·exact ih _ _ (by rw[put_defers];simp) h
    ·obtain⟨e,w2,_,hR,_⟩:=h []
     cases e with
     | returned v=>exact ih _ _ (by rw[put_defers];exact ha) hR
     | panicked c=>exact ha hR.1
     | outgrown=>exact hno hR
    ·obtain⟨v,w2,hR,_⟩:=h default []
     exact ih _ _ (by rw[put_defers];exact ha) hR
    ·exact ha h.1
    ·exact h
   ·exact hno h
  ·exact ih _ _ (by rw[put_defers];exact ha) h
theorem wpList_dfr {P:Program} {ops:Array Oper} {ds:List Deferred} {Q:Exit→Act→World→Prop} (hno:¬LetsOut (Qd ds Q)):∀(l:List Oper) (a:Act) (w:World),a.defers=[]→wpList P ops (Qd ds Q) l a w→wpList P ops Q l {a with defers:=ds} w
 | [],a,w,ha,h=>h.2
 | o::l,a,w,ha,h=>by
  have ih:=wpList_dfr (P:=P) (ops:=ops) hno l
  unfold wpList at h ⊢
  split at h
  ·rename_i hw
   rw[if_pos hw]
   rcases h with h|⟨_,h⟩
   ·refine .inl ?_
    unfold Oper.wp at h ⊢
    show o.upon P {a with defers:=ds} _ _ ((execOp a.eval o).run P w)
    generalize (execOp a.eval o).run P w=r at h ⊢
    unfold Oper.upon at h ⊢
    split at h
    ·rw[put_with];exact ih _ _ (by rw[put_defers];exact ha) h
    ·rw[put_with];exact ih _ _ (by rw[put_defers];exact ha) h
    ·exact absurd h (wpList_no hno l _ _ (by rw[put_defers];simp))
    ·refine Calls.mono h fun e w2 hR=>?_
     cases e with
     | returned v =>
      show wpList P ops Q l (({a with defers:=ds}:Act).put o.dst v) w2
      rw[put_with];exact ih _ _ (by rw[put_defers];exact ha) hR
     | panicked c=>exact hR.2
     | outgrown=>exact absurd hR hno
    ·refine Rows.mono h fun v w2 hR=>?_
     rw[put_with];exact ih _ _ (by rw[put_defers];exact ha) hR
    ·exact h.2
    ·exact h
   ·exact absurd h hno
  ·rename_i hw
   rw[if_neg hw,put_with]
   exact ih _ _ (by rw[put_defers];exact ha) h
theorem no_out {ds:List Deferred} {Q:Exit→Act→World→Prop} (h:∀a w,¬Q .outgrown a w):¬LetsOut (Qd ds Q):=fun⟨_,_,_,h2⟩=>h _ _ h2
theorem regW {S:Setup} {B:Base} {L L2:LS} {G:Ghost} {a:Act} {w:World} {id:Nat} {l:List Oper} {Q:Exit→Act→World→Prop} (hs:Sim B L G a w) (h:LopsW S B l.toArray l L fun L'=>L'.covers L2)
  (hQ:∀G' a' w',Sim B L2 G' a' w'→Q .normal a' w'):(Code.region id l.toArray false).wp S.P Q a w :=
 wp_region_list (by simpa using h G a w hs Q fun L' G' a' w' hc hs'=>hQ G' a' w' (hs'.less hc))
theorem regD {S:Setup} {B:Base} {L L2:LS} {G:Ghost} {a:Act} {w:World} {id:Nat} {l:List Oper} {ds:List Deferred} {Q:Exit→Act→World→Prop} (hs:Sim B L G a w) (hno:∀a w,¬Q .outgrown a w) (h:LopsW S B l.toArray l L fun L'=>L'.covers L2)
  (hQ:∀G' a' w',Sim B L2 G' a' w'→Q .normal {a' with defers:=ds} w'):(Code.region id l.toArray false).wp S.P Q {a with defers:=ds} w :=
 wp_region_list (wpList_dfr (no_out hno) _ a w hs.defers (by simpa using h G a w hs (Qd ds Q) fun L' G' a' w' hc hs'=>⟨hs'.defers,hQ G' a' w' (hs'.less hc)⟩))
theorem wpList_callX {S:Setup} {B:Base} {ops:Array Oper} {l:List Oper} {L:LS} {dst:Option Nat} {f:Operand} {args:Array Operand} {tys:Array TypeId} {ty:TypeId} {pos:String} {aft:Array Edge} {g:Option (Nat×Bool)} {G:Ghost} {a:Act} {w:World} (hs:Sim B L G a w)
  (hg:guardY ops L g=some true) {fid:Nat} {cap ds:List D} {ro cx:List (Nat×List D)} {tk0:List Nat} {ch:List PanicEntry} (hf:evalO L f=some (.fn fid cap)) (hds:mapO (evalO L) args.toList=some ds) (fc:FCX S fid ro cx tk0 (ds++cap) ch)
  (hside:(∀p∈ro,L.getBox p.1=some p.2∧p.1∉cx.map (·.1))∧(∀p∈cx,look L.boxes p.1=some p.2)∧(∀k∈tk0,k∈L.toks)) (off:Nat) (hc:L.clean (inTok off)=true) {Q:Exit→Act→World→Prop}
  (hQ:∀G' w',Sim B (L.after off cx tk0 [] []) G' a w'→Q (.panic ch) a w'):wpList S.P ops Q (⟨dst,.call ⟨.value f,args,tys⟩,ty,pos,aft,g⟩::l) a w:=by
 obtain⟨s2,s3,s4⟩:=hside
 refine wpList_step fun N hN=>?_
 rw[if_pos (guardY_sound (S:=S) rfl hs (o:=⟨dst,.call ⟨.value f,args,tys⟩,ty,pos,aft,g⟩) hg)]
 obtain⟨e1,e2⟩:=mapO_sound hs hds
 have hv:=eval_sound hs hf
 generalize hu:a.eval f=u at hv
 cases hv with
 | @fn _ _ vl hl hr =>
 have hrun:(execOp a.eval ⟨dst,.call ⟨.value f,args,tys⟩,ty,pos,aft,g⟩).run S.P w=.ok (.enter fid (args.map a.eval++vl.toArray)) w:=by
  simp[execOp,resolve,hu,Deferred.ofValue,invoke,enter_run fc.1]
 unfold Oper.wp
 rw[hrun,Oper.upon_enter]
 refine(call_soundE hs (vals:=args.map a.eval++vl.toArray) off ?_ ?_ s2 s3 s4 fc (by simp) (by simp[D.ids]) (by simp) (by simp[D.tks]) (by simp) (by simp) hc).mono ?_
 ·simp at e1
  simp[e1,hl]
 ·intro j d v hd hv
  have hsz:(args.map a.eval).size=ds.length:=by simp at e1;simp[e1]
  by_cases hj:j<ds.length
  ·rw[List.getElem?_append_left hj] at hd
   rw[Array.getElem?_append_left (by omega)] at hv
   exact e2 j d v hd (by simpa using hv)
  ·rw[List.getElem?_append_right (by omega)] at hd
   rw[Array.getElem?_append_right (by omega),hsz] at hv
   exact hr _ d v hd (by simpa using hv)
 ·rintro e w' ⟨v,G',rfl,h1,_⟩
  exact hQ G' w' h1
theorem regD0 {S:Setup} {a:Act} {w:World} {id:Nat} {l:List Oper} {ds:List Deferred} {Q:Exit→Act→World→Prop} (ha:a.defers=[]) (hno:∀a w,¬Q .outgrown a w) (h:wpList S.P l.toArray (Qd ds Q) l a w):(Code.region id l.toArray false).wp S.P Q {a with defers:=ds} w :=
 wp_region_list (wpList_dfr (no_out hno) _ a w ha (by simpa using h))
theorem regA {S:Setup} {B:Base} {L L1:LS} {G:Ghost} {a:Act} {w:World} {id:Nat} {l:List Oper} (m:Nat) {Q:Exit→Act→World→Prop} (hs:Sim B L G a w) (h:LopsW S B l.toArray (l.take m) L fun L'=>L'.covers L1)
  (hX:∀G' a' w',Sim B L1 G' a' w'→wpList S.P l.toArray Q (l.drop m) a' w'):(Code.region id l.toArray false).wp S.P Q a w :=
 wp_region_list (by
  have:=wpList_app (l2:=l.drop m) _ a w (h G a w hs (thenQ S.P l.toArray Q (l.drop m)) fun L' G' a' w' hc hs'=>hX G' a' w' (hs'.less hc))
  rw[List.take_append_drop] at this
  simpa using this)
theorem move_step {P:Program} {ops:Array Oper} {Q:Exit→Act→World→Prop} {l:List Oper} {a:Act} {w:World} {t:Nat} {x:Operand} {ty:TypeId} {pos:String} {aft:Array Edge} (h:wpList P ops Q l (a.put (some t) (a.eval x)) w):wpList P ops Q (⟨some t,.move x,ty,pos,aft,none⟩::l) a w :=
 wpList_step fun N hN=>by
  rw[if_pos (by simp[Region.wanted])]
  exact hN _ _ h
theorem start_sim {B:Base} {n:Nat} {args:List D} {bx ro:List (Nat×List D)} {tk fx:List Nat} {G:Ghost} {vals:Array Value} {w:World} (hs:Sim B ⟨args.length,enumD 0 args,bx,ro,tk,fx⟩ G ⟨vals,[]⟩ w) (hn:args.length≤n):Sim B ⟨n,enumD 0 args,bx,ro,tk,fx⟩ G ⟨vals++Array.replicate (n-vals.size) undef,[]⟩ w:=by
 have hsz:vals.size=args.length:=hs.size
 refine⟨rfl,by simp[hsz];omega,fun t d hd=>?_,hs.W,hs.fixed⟩
 obtain⟨v,h1,h2⟩:=hs.env t d hd
 refine⟨v,?_,h2⟩
 have hlt:t<vals.size:=(Array.getElem?_eq_some_iff.1 h1).1
 simp only
 rw[Array.getElem?_append_left hlt]
 exact h1
theorem ret_end {S:Setup} {w:World} {G:Ghost} {bx:List (Nat×List D)} {tk:List Nat} {L:LS} {G':Ghost} {a':Act} {w':World} {fn:Func} {d:D} {bx':List (Nat×List D)} (hfix:∀p∈(baseOf G w bx tk).ids,p.1∈bx.map (·.1)) (hs':Sim (baseOf G w bx tk) L G' a' w') (hr:Ret S fn.results.toList d bx' L) :
  ∃v,(results fn a'.tmps).run S.P w'=.ok v w'∧∃G'',Sim (baseOf G w bx tk) ⟨1,[(0,d)],bx',[],[],bx.map (·.1)⟩ G'' ⟨#[v],[]⟩ w':=by
 obtain⟨d0,v,⟨h1,h2⟩,h3,h4⟩:=resY_sound hs' hr
 refine⟨v,h3,{G' with τ:=fun _=>none},rfl,rfl,fun t d' hd=>?_,?_,hfix⟩
 ·simp only[look] at hd
  split at hd
  ·rename_i ht
   subst ht
   obtain rfl:=Option.some.inj hd
   refine⟨v,rfl,?_⟩
   exact(h4.le h1).mono (show Mono G' {G' with τ:=fun _=>none} w' w' from⟨fun _ _ _ h1 h2=>⟨h1,h2⟩,fun _ _=>rfl⟩) (fun _ _ _ h=>h) (fun _ _=>.inl rfl)
  ·cases hd
 ·exact simW_noTok (hs'.W.less h2 (ro':=[]) (by simp) (tk':=[]) (by simp))
end Go.Lg
