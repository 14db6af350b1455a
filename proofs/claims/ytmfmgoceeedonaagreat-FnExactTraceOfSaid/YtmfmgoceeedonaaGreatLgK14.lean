import Derived.Test.YtmfmgoceeedonaaGreatLgK10
import Derived.Recover
namespace Go.Lg
open Go Go.RowKit
def iJ(S:Setup)(B:Base)(ops:Array Oper)(l:List Oper)(L:LS):Prop :=
 ∀G a w,Sim B L G a w->∀Q:Exit->Act->World->Prop,(∀c G' a' w',B.pan c->a'.defers=[]->SimW B [] [] [] G' w'->Q (.panic c) a' w')->wpList S.P ops Q l a w
theorem iJ.app{S:Setup}{B ops l l2 L}{N:LS->Prop}(h:aK S B ops l L N)(hN:∀L',N L'->iJ S B ops l2 L'):iJ S B ops (l++l2) L:=λG a w hs Q hQ =>
 oC l a w (h G a w hs (aJT S.P ops Q l2) λL' G' a' w' h1 h2=>hN L' h1 G' a' w' h2 Q hQ)
theorem iJ.cons{S B ops o l L}(h:aK S B ops [o] L λL'=>iJ S B ops l L'):iJ S B ops (o::l) L:=iJ.app (l:=[o]) h λ_ h=>h
theorem aKg{S B}{R:LS->Prop}{k:List VItem}{L}{id:Nat}{l:List Oper}(h:iJ S B l.toArray l L):SW S B R (.code (.region id l.toArray false)::k) L:=λG a w hs =>
 wp_region_list (by simpa using h G a w hs _ λ_ _ _ _ hc hd hs'=>nW hc hd hs' k)
theorem aN2{S B}{R:LS->Prop}{k:List VItem}{L}(base:Nat)(m:Nat){id:Nat}{l:List Oper}
  (h:∀K:List Oper->LS->Prop,KOk S base B l.toArray (λL1=>iJ S B l.toArray (l.drop m) L1) K->bA S base l.toArray K (l.take m) L):SW S B R (.code (.region id l.toArray false)::k) L:=by
 refine aKg ?_;have h4:=iR (base:=base) (l2:=[]) (K:=λL1=>iJ S B l.toArray (l.drop m) L1) (K':=λl' L'=>aK S B l.toArray (l'++[]) L' (λL1=>iJ S B l.toArray (l.drop m) L1)) (λ_ _ h=>h) _ _ (h _ (aDp λL1 h1=>aK.nil h1));rw[List.append_nil] at h4;have:=iJ.app h4 λ_ h=>h;rwa [List.take_append_drop] at this
theorem aWz{S B}{R:LS->Prop}{k:List VItem}{L}(m:Nat){id:Nat}{l:List Oper}(hB:aHg .any l.toArray m=true)(h:∀Kq:List Oper->LS->Prop,QOk S l.toArray (λL'=>iJ S B l.toArray (l.drop m) L') Kq->bC S l.toArray Kq (l.take m) L):SW S B R (.code (.region id l.toArray true)::k) L:=by
 have hq:∀l' L',bC S l.toArray (λl' L'=>fP S l.toArray L (λL2=>iJ S B l.toArray (l.drop m) L2) l' L') l' L'->fP S l.toArray L (λL2=>iJ S B l.toArray (l.drop m) L2) l' L' :=
  mA (K':=λl' L'=>fP S l.toArray L (λL2=>iJ S B l.toArray (l.drop m) L2) l' L') (λ_ _ h=>h)
 intro G a w hsim;refine aAw hB (hq _ _ (h _ ?_)) hsim (λL' G' a' w' hK hs'=>hK G' a' w' hs' _ λ_ _ _ _ hc hd hs2=>nW hc hd hs2 k);exact {
  nil:=λh=>fP.nil h
  split:=λt _ ht h1 h0=>fP.split t ht (λe=>hq _ _ (h1 e)) (λe=>hq _ _ (h0 e))
  skip:=λhg hd h=>fP.skip hg hd (hq _ _ h)
  call:=λhg _ _ _ _ _ hf hds fc hside h=>fP.call hg hf hds fc hside (hq _ _ h)}
theorem iJ.call{S:Setup}{B:Base}{ops l}{L:LS}{dst:Option Nat}{f:Operand}{args:Array Operand}{tys:Array TypeId}{ty:TypeId}{pos aft}{g:Option (Nat×Bool)}
  (hg:bQ ops L g=some true) {fid:Nat} {cap ds:List D} {ro cx:List (Nat×List D)} {tk0:List Nat} {ch:List PanicEntry} (hf:aM L f=some (.fn fid cap)) (hds:fQ (aM L) args.toList=some ds) (fc:FCX S fid ro cx tk0 (ds++cap) ch) (hp:B.pan ch)
  (hside:(∀p∈ro,L.getBox p.1=some p.2/\p.1∉cx.map (·.1))/\(∀p∈cx,look L.boxes p.1=some p.2)/\(∀k∈tk0,k∈L.toks)) (off:Nat) (hc:L.clean (dR off)=true):iJ S B ops (⟨dst,.call ⟨.value f,args,tys⟩,ty,pos,aft,g⟩::l) L:=by
 intro G a w hs Q hQ;obtain⟨s2,s3,s4⟩:=hside;refine wpList_step λN hN=>?_;rw[if_pos (bS (S:=S) rfl hs (o:=⟨dst,.call ⟨.value f,args,tys⟩,ty,pos,aft,g⟩) hg)];obtain⟨e1,e2⟩:=eE hs hds;have hv:=aO hs hf;generalize hu:a.eval f=u at hv;cases hv with
 | @fn _ _ vl hl hr =>
 have hrun:(execOp a.eval ⟨dst,.call ⟨.value f,args,tys⟩,ty,pos,aft,g⟩).run S.P w=.ok (.enter fid (args.map a.eval++vl.toArray)) w:=by
  simp[execOp,resolve,hu,Deferred.ofValue,invoke,gW fc.1]
 unfold Oper.wp;rw[hrun,Oper.upon_enter];refine(uI hs (vals:=args.map a.eval++vl.toArray) off ?_ ?_ s2 s3 s4 fc (by simp) (by simp[D.ids]) (by simp) (by simp[D.tks]) (by simp) (by simp) hc).mono ?_
 ·simp at e1;simp[e1,hl]
 ·intro j d v hd hv;have hsz:(args.map a.eval).size=ds.length:=by simp at e1;simp[e1]
  by_cases hj:j<ds.length
  ·rw[zL hj] at hd;rw[Array.getElem?_append_left (by omega)] at hv;exact e2 j d v hd (by simpa using hv)
  ·rw[zM (by omega)] at hd;rw[Array.getElem?_append_right (by omega),hsz] at hv;exact hr _ d v hd (by simpa using hv)
 ·rintro e w' ⟨v,G',rfl,h1,_⟩;exact hQ ch G' a w' hp hs.defers (h1.W.less (by simp) (ro':=[]) (by simp) (tk':=[]) (by simp))
def chainE(T:TypeId):List PanicEntry:=[{v:=.iface T (.agg #[]),recovered:=false}]
theorem iJ.panic{S:Setup}{B:Base}{ops l L}{dst:Option Nat}{x:Operand}{ty T:TypeId}{pos aft}(hx:aM L x=some (D.ifc T (.agg [])))(hp:B.pan (chainE T)):iJ S B ops (⟨dst,.panic x,ty,pos,aft,none⟩::l) L:=by
 intro G a w hs Q hQ;refine wpList_step λN hN=>?_;rw[if_pos (bS (S:=S) (b:=true) rfl hs rfl)];have hv:=aO hs hx;obtain⟨u,hu,hr⟩:∃u,a.eval x=.iface T u/\Rel G w (.agg []) u:=by
  cases hv with
  | pred hv h=>exact h G w (Mono.refl G w)
 have hu2:u=.agg #[]:=by
  cases hr with
  | @agg _ vl hl h =>
   have:vl=[]:=by simpa using hl
   subst this;rfl
 subst hu2;unfold Oper.wp;have hop:(execOp a.eval ⟨dst,.panic x,ty,pos,aft,none⟩).run S.P w=.halt (.panic (.iface T (.agg #[]))) w:=by
  have hp0:(Instr.panic (.iface T (.agg #[]))).run S.P w=.halt (.panic (.iface T (.agg #[]))) w:=rfl;simp[execOp,hu,hp0]
 rw[hop];exact hQ (chainE T) G a w hp hs.defers (hs.W.less (by simp) (ro':=[]) (by simp) (tk':=[]) (by simp))
def Qd(ds:List Deferred)(Q:Exit->Act->World->Prop):Exit->Act->World->Prop:=λe a w=>a.defers=[]/\Q e {a with defers:=ds} w
theorem fH(a:Act)(t:Option Nat)(v:Value):(a.put t v).defers=a.defers:=by cases t<;>rfl
theorem tR(a:Act)(ds:List Deferred)(t:Option Nat)(v:Value):({a with defers:=ds}:Act).put t v={a.put t v with defers:=ds}:=by cases t<;>rfl
theorem aHo{P:Program}{ops}{ds:List Deferred}{Q:Exit->Act->World->Prop}(hno:¬LetsOut (Qd ds Q)):∀(l:List Oper) (a:Act) (w:World),a.defers≠[]->¬wpList P ops (Qd ds Q) l a w
 | [],a,w,ha,h=>ha h.1
 | o::l,a,w,ha,h=>by
  have ih:=aHo (P:=P) (ops:=ops) hno l;unfold wpList at h;split at h
  ·rcases h with h|⟨_,h⟩
   ·unfold Oper.wp at h;generalize (execOp a.eval o).run P w=r at h;unfold Oper.upon at h;split at h
    ·exact ih _ _ (by rw[fH];exact ha) h
    ·exact ih _ _ (by rw[fH];exact ha) h
    ·exact ih _ _ (by rw[fH];simp) h
    ·obtain⟨e,w2,_,hR,_⟩:=h [];cases e with
     | returned v=>exact ih _ _ (by rw[fH];exact ha) hR
     | panicked c=>exact ha hR.1
     | outgrown=>exact hno hR
    ·obtain⟨v,w2,hR,_⟩:=h default [];exact ih _ _ (by rw[fH];exact ha) hR
    ·exact ha h.1
    ·exact h
   ·exact hno h
  ·exact ih _ _ (by rw[fH];exact ha) h
theorem yP{P:Program}{ops}{ds:List Deferred}{Q:Exit->Act->World->Prop}(hno:¬LetsOut (Qd ds Q)):∀(l:List Oper) (a:Act) (w:World),a.defers=[]->wpList P ops (Qd ds Q) l a w->wpList P ops Q l {a with defers:=ds} w
 | [],a,w,ha,h=>h.2
 | o::l,a,w,ha,h=>by
  have ih:=yP (P:=P) (ops:=ops) hno l;unfold wpList at h ⊢;split at h
  ·rename_i hw;rw[if_pos hw];rcases h with h|⟨_,h⟩
   ·refine .inl ?_;unfold Oper.wp at h ⊢;show o.upon P {a with defers:=ds} _ _ ((execOp a.eval o).run P w);generalize (execOp a.eval o).run P w=r at h ⊢;unfold Oper.upon at h ⊢;split at h
    ·rw[tR];exact ih _ _ (by rw[fH];exact ha) h
    ·rw[tR];exact ih _ _ (by rw[fH];exact ha) h
    ·exact absurd h (aHo hno l _ _ (by rw[fH];simp))
    ·refine Calls.mono h λe w2 hR=>?_;cases e with
     | returned v =>
      show wpList P ops Q l (({a with defers:=ds}:Act).put o.dst v) w2;rw[tR];exact ih _ _ (by rw[fH];exact ha) hR
     | panicked c=>exact hR.2
     | outgrown=>exact absurd hR hno
    ·refine Rows.mono h λv w2 hR=>?_;rw[tR];exact ih _ _ (by rw[fH];exact ha) hR
    ·exact h.2
    ·exact h
   ·exact absurd h hno
  ·rename_i hw;rw[if_neg hw,tR];exact ih _ _ (by rw[fH];exact ha) h
theorem aUy{ds:List Deferred}{Q:Exit->Act->World->Prop}(h:∀a w,¬Q .outgrown a w):¬LetsOut (Qd ds Q):=λ⟨_,_,_,h2⟩=>h _ _ h2
theorem aZX{S:Setup}{B L L2 G a w}{id:Nat}{l:List Oper}{Q:Exit->Act->World->Prop}(hs:Sim B L G a w)(h:aK S B l.toArray l L λL'=>L'.covers L2)
  (hQ:∀G' a' w',Sim B L2 G' a' w'->Q .normal a' w'):(Code.region id l.toArray false).wp S.P Q a w :=
 wp_region_list (by simpa using h G a w hs Q λL' G' a' w' hc hs'=>hQ G' a' w' (hs'.less hc))
theorem bAm{S:Setup}{B L L2 G a w}{id:Nat}{l:List Oper}{ds:List Deferred}{Q:Exit->Act->World->Prop}(hs:Sim B L G a w)(hno:∀a w,¬Q .outgrown a w)(h:aK S B l.toArray l L λL'=>L'.covers L2)
  (hQ:∀G' a' w',Sim B L2 G' a' w'->Q .normal {a' with defers:=ds} w'):(Code.region id l.toArray false).wp S.P Q {a with defers:=ds} w :=
 wp_region_list (yP (aUy hno) _ a w hs.defers (by simpa using h G a w hs (Qd ds Q) λL' G' a' w' hc hs'=>⟨hs'.defers,hQ G' a' w' (hs'.less hc)⟩))
theorem aH1{S:Setup}{B ops l}{L:LS}{dst:Option Nat}{f:Operand}{args:Array Operand}{tys:Array TypeId}{ty:TypeId}{pos aft}{g:Option (Nat×Bool)}{G}{a:Act}{w}(hs:Sim B L G a w)
  (hg:bQ ops L g=some true) {fid:Nat} {cap ds:List D} {ro cx:List (Nat×List D)} {tk0:List Nat} {ch:List PanicEntry} (hf:aM L f=some (.fn fid cap)) (hds:fQ (aM L) args.toList=some ds) (fc:FCX S fid ro cx tk0 (ds++cap) ch)
  (hside:(∀p∈ro,L.getBox p.1=some p.2/\p.1∉cx.map (·.1))/\(∀p∈cx,look L.boxes p.1=some p.2)/\(∀k∈tk0,k∈L.toks)) (off:Nat) (hc:L.clean (dR off)=true) {Q:Exit->Act->World->Prop}
  (hQ:∀G' w',Sim B (L.after off cx tk0 [] []) G' a w'->Q (.panic ch) a w'):wpList S.P ops Q (⟨dst,.call ⟨.value f,args,tys⟩,ty,pos,aft,g⟩::l) a w:=by
 obtain⟨s2,s3,s4⟩:=hside;refine wpList_step λN hN=>?_;rw[if_pos (bS (S:=S) rfl hs (o:=⟨dst,.call ⟨.value f,args,tys⟩,ty,pos,aft,g⟩) hg)];obtain⟨e1,e2⟩:=eE hs hds;have hv:=aO hs hf;generalize hu:a.eval f=u at hv;cases hv with
 | @fn _ _ vl hl hr =>
 have hrun:(execOp a.eval ⟨dst,.call ⟨.value f,args,tys⟩,ty,pos,aft,g⟩).run S.P w=.ok (.enter fid (args.map a.eval++vl.toArray)) w:=by
  simp[execOp,resolve,hu,Deferred.ofValue,invoke,gW fc.1]
 unfold Oper.wp;rw[hrun,Oper.upon_enter];refine(uI hs (vals:=args.map a.eval++vl.toArray) off ?_ ?_ s2 s3 s4 fc (by simp) (by simp[D.ids]) (by simp) (by simp[D.tks]) (by simp) (by simp) hc).mono ?_
 ·simp at e1;simp[e1,hl]
 ·intro j d v hd hv;have hsz:(args.map a.eval).size=ds.length:=by simp at e1;simp[e1]
  by_cases hj:j<ds.length
  ·rw[zL hj] at hd;rw[Array.getElem?_append_left (by omega)] at hv;exact e2 j d v hd (by simpa using hv)
  ·rw[zM (by omega)] at hd;rw[Array.getElem?_append_right (by omega),hsz] at hv;exact hr _ d v hd (by simpa using hv)
 ·rintro e w' ⟨v,G',rfl,h1,_⟩;exact hQ G' w' h1
theorem aZR{S:Setup}{a:Act}{w}{id:Nat}{l:List Oper}{ds:List Deferred}{Q:Exit->Act->World->Prop}(ha:a.defers=[])(hno:∀a w,¬Q .outgrown a w)(h:wpList S.P l.toArray (Qd ds Q) l a w):(Code.region id l.toArray false).wp S.P Q {a with defers:=ds} w :=
 wp_region_list (yP (aUy hno) _ a w ha (by simpa using h))
theorem aZV{S:Setup}{B L L1 G a w}{id:Nat}{l:List Oper}(m:Nat){Q:Exit->Act->World->Prop}(hs:Sim B L G a w)(h:aK S B l.toArray (l.take m) L λL'=>L'.covers L1)
  (hX:∀G' a' w',Sim B L1 G' a' w'->wpList S.P l.toArray Q (l.drop m) a' w'):(Code.region id l.toArray false).wp S.P Q a w :=
 wp_region_list (by
  have:=oC (l2:=l.drop m) _ a w (h G a w hs (aJT S.P l.toArray Q (l.drop m)) λL' G' a' w' hc hs'=>hX G' a' w' (hs'.less hc));rw[List.take_append_drop] at this;simpa using this)
theorem aBK{P:Program}{ops}{Q:Exit->Act->World->Prop}{l}{a:Act}{w}{t:Nat}{x:Operand}{ty:TypeId}{pos aft}(h:wpList P ops Q l (a.put (some t) (a.eval x)) w):wpList P ops Q (⟨some t,.move x,ty,pos,aft,none⟩::l) a w :=
 wpList_step λN hN=>by
  rw[if_pos (by simp[Region.wanted])];exact hN _ _ h
theorem aHc{B}{n:Nat}{args:List D}{bx ro:List (Nat×List D)}{tk fx:List Nat}{G}{vals:Array Value}{w}(hs:Sim B ⟨args.length,eY 0 args,bx,ro,tk,fx⟩ G ⟨vals,[]⟩ w)(hn:args.length≤n):Sim B ⟨n,eY 0 args,bx,ro,tk,fx⟩ G ⟨vals++Array.replicate (n-vals.size) undef,[]⟩ w:=by
 have hsz:vals.size=args.length:=hs.size;refine⟨rfl,by simp[hsz];omega,λt d hd=>?_,hs.W,hs.fixed⟩;obtain⟨v,h1,h2⟩:=hs.env t d hd;refine⟨v,?_,h2⟩;have hlt:t<vals.size:=(Array.getElem?_eq_some_iff.1 h1).1;simp only;rw[Array.getElem?_append_left hlt];exact h1
theorem aPo{S:Setup}{w G}{bx:List (Nat×List D)}{tk:List Nat}{L G'}{a':Act}{w'}{fn:Func}{d:D}{bx':List (Nat×List D)}(hfix:∀p∈(dE G w bx tk).ids,p.1∈bx.map (·.1))(hs':Sim (dE G w bx tk) L G' a' w')(hr:Ret S fn.results.toList d bx' L) :
  ∃v,(results fn a'.tmps).run S.P w'=.ok v w'/\∃G'',Sim (dE G w bx tk) ⟨1,[(0,d)],bx',[],[],bx.map (·.1)⟩ G'' ⟨#[v],[]⟩ w':=by
 obtain⟨d0,v,⟨h1,h2⟩,h3,h4⟩:=kU hs' hr;refine⟨v,h3,{G' with τ:=λ_=>none},rfl,rfl,λt d' hd=>?_,?_,hfix⟩
 ·simp only[look] at hd;split at hd
  ·rename_i ht;subst ht;obtain rfl:=zA hd;refine⟨v,rfl,?_⟩;exact(h4.le h1).mono (show Mono G' {G' with τ:=λ_=>none} w' w' from⟨λ_ _ _ h1 h2=>⟨h1,h2⟩,λ_ _=>rfl⟩) (λ_ _ _ h=>h) (λ_ _=>.inl rfl)
  ·cases hd
 ·exact l7 (hs'.W.less h2 (ro':=[]) (by simp) (tk':=[]) (by simp))
end Go.Lg
