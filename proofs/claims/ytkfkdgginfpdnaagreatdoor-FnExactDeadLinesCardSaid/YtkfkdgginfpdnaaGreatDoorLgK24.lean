/-
  Lg: LgInv, one behind the other.
-/
import Derived.Test.YtkfkdgginfpdnaaGreatDoorLgK10
import Derived.Test.YtkfkdgginfpdnaaGreatDoorLgK19
import Derived.Test.YtkfkdgginfpdnaaGreatDoorLgK13
/-
  Lg: a method of a value in an interface is called; an assertion that fails.
-/
namespace Go.Lg
open Go Go.RowKit
def D.un:D:=.pred fun _ _ _=>True
theorem rel_un {G:Ghost} {w:World} {v:Value} (h:∀cs,v≠.agg cs):Rel G w D.un v:=.pred h fun _ _ _=>trivial
theorem rel_raws {G:Ghost} {w:World} (vs:List Value) (h:∀v∈vs,∀cs,v≠.agg cs):Rel G w (.agg (vs.map .raw)) (.agg vs.toArray):=.agg (by simp) fun j d v h1 h2=>by
 rw[List.getElem?_map,h2] at h1
 cases h1
 exact .raw (h v (List.mem_of_getElem? h2))
theorem LopsW.asIfaceNo {S:Setup} {B:Base} {ops:Array Oper} {l:List Oper} {L:LS} {K:LS→Prop} {t:Nat} {T T' X:TypeId} {x:Operand} {ty:TypeId} {pos:String} {aft:Array Edge} {d d0:D} {z:Value}
  (hrun:∀v w,(Instr.typeAssert (.iface T' v) X T true).run S.P w=.ok (.tuple #[z,.bool false]) w) (hz:∀G w,Rel G w d0 z) (hx:evalO L x=some (D.ifc T' d)) (ht:t<L.n)
  (h:LopsW S B ops l (L.put t (.tup [d0,.bool false])) K):LopsW S B ops (⟨some t,.typeAssert x X T true,ty,pos,aft,none⟩::l) L K:=by
 intro G a w hs Q hQ
 refine wpList_step fun N hN=>?_
 rw[if_pos (guardY_sound (S:=S) (b:=true) rfl hs rfl)]
 have hv:=eval_sound hs hx
 obtain⟨u,hu,hr⟩:∃u,a.eval x=.iface T' u∧Rel G w d u:=by
  cases hv with
  | pred hv h=>exact h G w (Mono.refl G w)
 unfold Oper.wp
 have hop:(execOp a.eval ⟨some t,.typeAssert x X T true,ty,pos,aft,none⟩).run S.P w=.ok (.value (.tuple #[z,.bool false])) w:=by
  simp[execOp,hu,hrun]
 rw[hop]
 refine hN _ _ (h _ _ _ (hs.putO (t:=some t) (fun t' ht'=>by obtain rfl:=Option.some.inj ht';exact ht) ?_) Q hQ)
 refine .tup rfl fun j c u' hc hu'=>?_
 match j,hc,hu' with
 | 0,hc,hu' =>
  simp at hc hu'
  subst hc;subst hu'
  exact hz G w
 | 1,hc,hu' =>
  simp at hc hu'
  subst hc;subst hu'
  exact .bool
 | j+2,hc,hu'=>simp at hc
theorem LopsW.callI {S:Setup} {B:Base} {ops:Array Oper} {l:List Oper} {L:LS} {K:LS→Prop} {t:Nat} {r:Operand} {name:String} {tys:Array TypeId} {ty:TypeId} {pos:String} {aft:Array Edge} {T:TypeId} {d0 d:D} {fid:Nat}
  (hx:evalO L r=some (D.ifc T d0)) (hm:∀v w,(method (S.P.types.size+Made.depth) T v name).run S.P w=.ok (fid,v) w) (fc:FC S fid [] [] [] [d0] d [] [])
  (hside:d.ids=[]∧d.tks=[]∧t<L.n) (h:LopsW S B ops l (L.put t d) K):LopsW S B ops (⟨some t,.call ⟨.invoke r name,#[],tys⟩,ty,pos,aft,none⟩::l) L K:=by
 intro G a w hs Q hQ
 refine wpList_step fun N hN=>?_
 rw[if_pos (guardY_sound (S:=S) (b:=true) rfl hs rfl)]
 have hv:=eval_sound hs hx
 obtain⟨u,hu,hr⟩:∃u,a.eval r=.iface T u∧Rel G w d0 u:=by
  cases hv with
  | pred hv h=>exact h G w (Mono.refl G w)
 have hrun:(execOp a.eval ⟨some t,.call ⟨.invoke r name,#[],tys⟩,ty,pos,aft,none⟩).run S.P w=.ok (.enter fid #[u]) w:=by
  simp[execOp,resolve,hu,invoke,callMethod,hm,enter_run fc.1]
 unfold Oper.wp
 rw[hrun,Oper.upon_enter]
 refine(callq_sound hs (vals:=#[u]) rfl (fun j d v hd hv=>?_) (fun p hp=>by cases hp) fc hside.1 hside.2.1).mono ?_
 ·match j with
  | 0 =>
   simp at hd hv
   subst hd;subst hv
   exact hr
  | j+1=>simp at hd
 ·rintro e w' ⟨v,G',rfl,h1,h2,hq⟩
  exact hN _ _ (h G' _ w' (h1.putO (t:=some t) (fun t' ht'=>by obtain rfl:=Option.some.inj ht';exact hside.2.2) h2) Q hQ)
theorem sw_unAt {S:Setup} {B:Base} {R:LS→Prop} {kk:List VItem} {L:LS} (t:Nat) {b n:Nat} (ht:look L.env t=some (.ms b n)) (h:SW S B R kk {L with env:=setA L.env t D.un}):SW S B R kk L:=fun G a w hs=>by
 obtain⟨v,hv,hr⟩:=hs.env t _ ht
 exact h G a w (env_set hs hv (rel_un fun cs e=>by subst e;cases hr))
theorem le0_un:le0 D.un D.un:=by unfold D.un;simp only[le0]
theorem immBox_sim {B:Base} {L:LS} {G:Ghost} {a:Act} {w:World} (h:Sim B L G a w) {t id:Nat} {cs:List D} (ht:look L.env t=some (.box id 0)) (hb:look L.boxes id=some cs) (hk:∀d∈cs,d.memOk=true) :
  ∃G',Sim B {L with env:=setA L.env t (.imm cs),boxes:=eraseK id L.boxes} G' a w:=by
 have hW:=h.W
 obtain⟨g,hg,⟨vs,e,e1,e2,e3⟩,hl0,hown⟩:=hW.boxes id cs hb
 obtain⟨v,hv,hr⟩:=h.env t _ ht
 have hmn:Mono G (G.grow g cs.length) w w:=⟨fun b o u h1 h2=>⟨by
  simp only[Ghost.grow]
  split
  ·rename_i hbg;subst hbg;omega
  ·exact h1,h2⟩,fun _ _=>rfl,fun _ _ _ h=>h⟩
 have rG:∀ {d u},Rel G w d u→Rel (G.grow g cs.length) w d u:=fun {d u} hr=>hr.mono hmn (fun _ _ _ h=>h) (fun k _=>.inr ⟨rfl,fun g' e' z hk'=>by
  obtain⟨_,_,_,h5⟩:=hW.tau k g' e' z hk'
  refine⟨?_,rfl⟩
  simp only[Ghost.grow]
  rw[if_neg (by rintro rfl;exact h5 id hg)]⟩)
 have hbox:∀ {g' cs'},BoxAt G w g' cs'→BoxAt (G.grow g cs.length) w g' cs':=fun⟨vs,e,e1,e2,e3⟩=>⟨vs,e,e1,e2,fun j d v hd hv=>rG (e3 j d v hd hv)⟩
 have hcell:∀j,w.cell? ⟨g,j,none⟩=vs[j]?:=fun j=>by simp[World.cell?,e1]
 have hlim:(G.grow g cs.length).lim g=cs.length:=by simp[Ghost.grow]
 have hlim':∀b,b≠g→(G.grow g cs.length).lim b=G.lim b:=fun b hb=>by simp[Ghost.grow,hb]
 refine⟨G.grow g cs.length,h.defers,h.size,fun t' d hd=>?_,?_,h.fixed⟩
 ·simp only[look_setA] at hd
  by_cases e0:t=t'
  ·subst e0
   simp only[if_true,Option.some.injEq] at hd
   subst hd
   refine⟨v,hv,?_⟩
   cases hr with
   | @box _ _ g1 hb' =>
    have e0:g1=g:=Option.some.inj (hb'.symm.trans hg)
    rw[e0]
    refine .imm hk (fun j d hj=>?_) (fun j d u hj hu'=>?_)
    ·have hlt:j<cs.length:=(List.getElem?_eq_some_iff.1 hj).1
     rw[Nat.zero_add,hlim,hcell]
     exact⟨hlt,vs[j]'(by omega),by simp[show j<vs.size by omega]⟩
    ·rw[Nat.zero_add,hcell] at hu'
     exact rG (e3 j d u hj hu')
  ·rw[if_neg e0] at hd
   obtain⟨u,h1,h2⟩:=h.env t' d hd
   exact⟨u,h1,rG h2⟩
 ·exact {hW with
   boxes:=fun i cs' hl=>by
    simp only[look_eraseK] at hl
    by_cases e0:id=i
    ·rw[if_pos e0] at hl;cases hl
    ·rw[if_neg e0] at hl
     obtain⟨g',k1,k2,k3,k4⟩:=hW.boxes i cs' hl
     refine⟨g',k1,hbox k2,?_,k4⟩
     rw[hlim' g' (by rintro rfl;exact e0 (hW.binj _ _ _ hg k1))]
     exact k3
   robs:=fun i cs' hl=>by
    obtain⟨g',k1,k2,k3⟩:=hW.robs i cs' hl
    exact⟨g',k1,hbox k2,k3⟩
   tau:=fun k g' e' z hk'=>by
    obtain⟨h1,h2,⟨cur,h3,h4⟩,h5⟩:=hW.tau k g' e' z hk'
    refine⟨h1,h2,⟨cur,h3,?_⟩,h5⟩
    rw[hlim' g' (by rintro rfl;exact h5 id hg)]
    exact h4
   old:=fun b hb1 hb2=>by
    refine⟨(hW.old b hb1 hb2).1,?_⟩
    rw[hlim' b]
    ·exact(hW.old b hb1 hb2).2
    ·rintro rfl
     rcases hown with h|h
     ·omega
     ·exact hb2 h
   olda:=fun b hb1=>by
    refine⟨?_,(hW.olda b hb1).2⟩
    have:=(hW.olda b hb1).1
    by_cases hbg:b=g
    ·subst hbg;rw[hl0] at this;omega
    ·rw[hlim' b hbg];exact this
   lablt:=hW.lablt}
theorem sw_immLe {S:Setup} {B:Base} {R:LS→Prop} {kk:List VItem} {L:LS} (t:Nat) {id:Nat} {cs:List D} (cs':List D) (ht:look L.env t=some (.box id 0)) (hb:look L.boxes id=some cs) (hl:cs'.length=cs.length) (hle:∀(j:Nat) c d,cs[j]?=some c→cs'[j]?=some d→D.le c d) (hk:∀d∈cs',d.memOk=true) (h:SW S B R kk {L with env:=setA L.env t (.imm cs'),boxes:=eraseK id (setA L.boxes id cs')}):SW S B R kk L :=
 sw_boxLe id cs' hb hl hle fun G a w hs=>by
  obtain⟨G',h'⟩:=immBox_sim hs ht (by simp[look_setA]) hk
  exact h G' a w h'
end Go.Lg
