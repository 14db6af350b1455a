/-
  Lg: LgMk, LgMk3, LgMk7, LgEmp, LgDraw6, LgBsOwn, LgSortA, LgRelab, LgSafe, one behind the other.
-/
import Derived.Test.YtohnfgligddanaaGreatLgK6
import Derived.Test.YtohnfgligddanaaGreatLgK4
import Derived.Test.YtohnfgligddanaaGreatLgK5
import Derived.Sort.Grow
import Derived.Deep.Draws
/-
  Lg, part 32: marks: the int cells that a value reaches, as a list of places; writing them one behind the other; the readings that stand.
-/
namespace Go.Lg
open Go Go.RowKit

mutual
inductive Sh where
 | slc (fs:Fs)
inductive Fs where
 | nil
 | cell (r:Fs)
 | flag (r:Fs)
 | skip (r:Fs)
 | sub (s:Sh) (r:Fs)
end
def Fs.len:Fs→Nat
 | .nil=>0
 | .cell r=>r.len+1
 | .flag r=>r.len+1
 | .skip r=>r.len+1
 | .sub _ r=>r.len+1

def cellAt (w:World) (b o:Nat):Option Value:=w.cell? ⟨b,o,none⟩
def Mkd (v:Value):Prop:=(∃m,v=.int .i64 m)∨∃c,v=.bool c
def mkV:Value→Int→Value
 | .bool _,n=>.bool (n.tmod 3==0)
 | _,n=>.int .i64 n
def MkC (w:World) (p:Nat×Nat):Prop:=∃v,Mkd v∧cellAt w p.1 p.2=some v
def HvC (w:World) (p:Nat×Nat) (n:Int):Prop:=∃v,Mkd v∧cellAt w p.1 p.2=some (mkV v n)
theorem MkC.int {w:World} {b o:Nat} {m:Int} (h:cellAt w b o=some (.int .i64 m)):MkC w (b,o):=⟨_,.inl ⟨m,rfl⟩,h⟩
theorem MkC.bool {w:World} {b o:Nat} {c:Bool} (h:cellAt w b o=some (.bool c)):MkC w (b,o):=⟨_,.inr ⟨c,rfl⟩,h⟩
theorem HvC.int {w:World} {p:Nat×Nat} {n m:Int} (h:HvC w p n) (hm:cellAt w p.1 p.2=some (.int .i64 m)):cellAt w p.1 p.2=some (.int .i64 n):=by
 obtain⟨v,h1,h2⟩:=h
 rw[h2] at hm ⊢
 rcases h1 with⟨m',rfl⟩|⟨c,rfl⟩
 ·rfl
 ·simp[mkV] at hm
theorem HvC.bool {w:World} {p:Nat×Nat} {n:Int} {c:Bool} (h:HvC w p n) (hm:cellAt w p.1 p.2=some (.bool c)):cellAt w p.1 p.2=some (.bool (n.tmod 3==0)):=by
 obtain⟨v,h1,h2⟩:=h
 rw[h2] at hm ⊢
 rcases h1 with⟨m',rfl⟩|⟨c,rfl⟩
 ·simp[mkV] at hm
 ·rfl

mutual
def Lv (lim:Nat→Nat) (w:World):Sh→Value→List (Nat×Nat)→Prop
 | .slc fs,v,as=>∃A n c b o,v=.slice A n c∧n≤maxLen∧(n=0∨A=some ⟨b,o,none⟩)∧∃ass:List (List (Nat×Nat)),ass.length=n∧as=ass.flatten∧∀i l,ass[i]?=some l→LvF lim w fs b (o+i*fs.len) l
def LvF (lim:Nat→Nat) (w:World):Fs→Nat→Nat→List (Nat×Nat)→Prop
 | .nil,_,_,as=>as=[]
 | .cell r,b,o,as=>∃l,as=(b,o)::l∧o<lim b∧(∃m,cellAt w b o=some (.int .i64 m))∧LvF lim w r b (o+1) l
 | .flag r,b,o,as=>∃l,as=(b,o)::l∧o<lim b∧(∃c,cellAt w b o=some (.bool c))∧LvF lim w r b (o+1) l
 | .skip r,b,o,as=>LvF lim w r b (o+1) as
 | .sub s r,b,o,as=>∃v l1 l2,as=l1++l2∧o<lim b∧cellAt w b o=some v∧Lv lim w s v l1∧LvF lim w r b (o+1) l2
end
def IntW (lim lim':Nat→Nat) (w w':World):Prop:=∀b o v,o<lim b→cellAt w b o=some v→o<lim' b∧(cellAt w' b o=some v∨Mkd v∧∃n,cellAt w' b o=some (mkV v n))

theorem Lv.slice {lim:Nat→Nat} {w:World}:∀ {s:Sh} {v as},Lv lim w s v as→∃A n c,v=.slice A n c
 | .slc _,_,_,h=>by unfold Lv at h;obtain⟨A,n,c,_,_,h,_⟩:=h;exact⟨A,n,c,h⟩

mutual
theorem Lv.mono {lim lim':Nat→Nat} {w w':World} (hw:IntW lim lim' w w'):∀(s:Sh) (v:Value) (as:List (Nat×Nat)),Lv lim w s v as→Lv lim' w' s v as
 | .slc fs,v,as,h=>by
  unfold Lv at h ⊢
  obtain⟨A,n,c,b,o,h1,h2,h3,ass,h4,h5,h6⟩:=h
  exact⟨A,n,c,b,o,h1,h2,h3,ass,h4,h5,fun i l hi=>LvF.mono hw fs b _ l (h6 i l hi)⟩
theorem LvF.mono {lim lim':Nat→Nat} {w w':World} (hw:IntW lim lim' w w'):∀(fs:Fs) (b o:Nat) (as:List (Nat×Nat)),LvF lim w fs b o as→LvF lim' w' fs b o as
 | .nil,_,_,as,h=>by unfold LvF at h ⊢;exact h
 | .cell r,b,o,as,h=>by
  unfold LvF at h ⊢
  obtain⟨l,h1,h2,⟨m,h3⟩,h4⟩:=h
  obtain⟨q1,q2⟩:=hw b _ _ h2 h3
  refine⟨l,h1,q1,?_,LvF.mono hw r b _ l h4⟩
  rcases q2 with q2|⟨_,m',q2⟩
  ·exact⟨m,q2⟩
  ·exact⟨m',q2⟩
 | .flag r,b,o,as,h=>by
  unfold LvF at h ⊢
  obtain⟨l,h1,h2,⟨m,h3⟩,h4⟩:=h
  obtain⟨q1,q2⟩:=hw b _ _ h2 h3
  refine⟨l,h1,q1,?_,LvF.mono hw r b _ l h4⟩
  rcases q2 with q2|⟨_,m',q2⟩
  ·exact⟨m,q2⟩
  ·exact⟨_,q2⟩
 | .skip r,b,o,as,h=>by
  unfold LvF at h ⊢
  exact LvF.mono hw r b _ as h
 | .sub s r,b,o,as,h=>by
  unfold LvF at h ⊢
  obtain⟨v,l1,l2,h1,h2,h3,h4,h5⟩:=h
  obtain⟨q1,q2⟩:=hw b _ _ h2 h3
  refine⟨v,l1,l2,h1,q1,?_,Lv.mono hw s v l1 h4,LvF.mono hw r b _ l2 h5⟩
  rcases q2 with q2|⟨q2,_⟩
  ·exact q2
  ·obtain⟨A,n,c,e⟩:=h4.slice
   rw[e] at q2
   rcases q2 with⟨m,q2⟩|⟨m,q2⟩<;>cases q2
end
mutual
theorem Lv.ints {lim:Nat→Nat} {w:World}:∀(s:Sh) (v:Value) (as:List (Nat×Nat)),Lv lim w s v as→∀p∈as,p.2<lim p.1∧MkC w p
 | .slc fs,v,as,h=>by
  unfold Lv at h
  obtain⟨A,n,c,b,o,h1,h2,h3,ass,h4,h5,h6⟩:=h
  intro p hp
  rw[h5,List.mem_flatten] at hp
  obtain⟨l,hl,hp⟩:=hp
  obtain⟨i,hi⟩:=List.getElem?_of_mem hl
  exact LvF.ints fs b _ l (h6 i l hi) p hp
theorem LvF.ints {lim:Nat→Nat} {w:World}:∀(fs:Fs) (b o:Nat) (as:List (Nat×Nat)),LvF lim w fs b o as→∀p∈as,p.2<lim p.1∧MkC w p
 | .nil,_,_,as,h=>by unfold LvF at h;subst h;simp
 | .cell r,b,o,as,h=>by
  unfold LvF at h
  obtain⟨l,h1,h2,h3,h4⟩:=h
  subst h1
  intro p hp
  rcases List.mem_cons.1 hp with rfl|hp
  ·obtain⟨m,h3⟩:=h3;exact⟨h2,MkC.int h3⟩
  ·exact LvF.ints r b _ l h4 p hp
 | .flag r,b,o,as,h=>by
  unfold LvF at h
  obtain⟨l,h1,h2,h3,h4⟩:=h
  subst h1
  intro p hp
  rcases List.mem_cons.1 hp with rfl|hp
  ·obtain⟨m,h3⟩:=h3;exact⟨h2,MkC.bool h3⟩
  ·exact LvF.ints r b _ l h4 p hp
 | .skip r,b,o,as,h=>by
  unfold LvF at h
  exact LvF.ints r b _ as h
 | .sub s r,b,o,as,h=>by
  unfold LvF at h
  obtain⟨v,l1,l2,h1,h2,h3,h4,h5⟩:=h
  subst h1
  intro p hp
  rcases List.mem_append.1 hp with hp|hp
  ·exact Lv.ints s v l1 h4 p hp
  ·exact LvF.ints r b _ l2 h5 p hp
end
end Go.Lg
/-
  Lg, part 33: a labelled tree's int cells are places apart from each other; what bears other labels stands when they are written.
-/
namespace Go.Lg
open Go Go.RowKit


end Go.Lg
/-
  Lg, part 34: functions whose slots hold known values, in a known world (the marks).
-/
namespace Go.Lg
open Go Go.RowKit

section ops
variable {P:Program} {n:Nat} {ops:Array Oper} {l:List Oper} {E:List (Nat×Value)} {w:World} {K:List (Nat×Value)→World→Prop} {t:Nat} {ty:TypeId} {pos:String} {aft:Array Edge}

end ops

inductive MItem where
 | code (c:Code)
 | inBlock (id:Nat)
 | loopEnd (J:List (Nat×Value)→World→Prop)
section ctl
variable {P:Program} {n:Nat} {R:List (Nat×Value)→World→Prop} {k:List MItem} {E:List (Nat×Value)} {w:World}
end ctl

end Go.Lg
/-
  Lg, part 35: what the marking and the checking functions do, and the frame of their proofs.
-/
namespace Go.Lg
open Go Go.RowKit

section steps
variable {lim:Nat→Nat} {w:World}
end steps

end Go.Lg
/-
  Lg, part 36: marks in a statement's own body: a fresh start (what is old stays as it was), the regions that mark, what is known of what was marked.
-/
namespace Go.Lg
open Go Go.RowKit

def B0 (B:Base):Ghost:=⟨B.lim,B.lab,fun _=>none,fun _=>none⟩
def KnI (B:Base) (d:D):Ghost→World→Value→Prop:=fun G w v=>Rel (B0 B) B.w d v∧Mono (B0 B) G B.w w
def KD (B:Base) (d:D):D:=.pred (KnI B d)
def HeldI (s:Sh) (k:Int) (n:Nat):Ghost→World→Value→Prop:=fun G w v=>∃qs,Lv G.lim w s v qs∧qs.length=n∧∀(j:Nat) q,qs[j]?=some q→HvC w q (k+j)
theorem HeldI.mono {s:Sh} {k:Int} {n:Nat} {G G':Ghost} {w w':World} {v:Value} (hm:Mono G G' w w') (h:HeldI s k n G w v):HeldI s k n G' w' v:=by
 obtain⟨qs,h1,h2,h3⟩:=h
 refine⟨qs,Lv.mono (fun b o v h1 h2=>⟨(hm.cell b o v h1 h2).1,.inl (hm.cell b o v h1 h2).2⟩) s v qs h1,h2,fun j q hj=>?_⟩
 obtain⟨v0,e1,e2⟩:=h3 j q hj
 exact⟨v0,e1,(hm.cell _ _ _ (Lv.ints s v qs h1 q (List.mem_of_getElem? hj)).1 e2).2⟩
def HD (s:Sh) (k:Int) (n:Nat):D:=.pred (HeldI s k n)
end Go.Lg
/-
  Lg, part 37: the fresh start of a statement's body, and the regions that mark.
-/
namespace Go.Lg
open Go Go.RowKit

section regions
variable {S:Setup} {B:Base} {R:LS→Prop} {kk:List VItem} {L L':LS} {A M t1 t2 t3 id:Nat} {ty1 ty2 ty3 ty4:TypeId} {p1 p2 p3 p4:String} {a1 a2 a3 a4:Array Edge} {tys:Array TypeId} {f:FuncId} {i n N:Nat} {k:Int}

end regions
end Go.Lg
/-
  Lg, part 38: what was made by 'make' and filled, labelled; labelled lists whose elements bear labels by their place.
-/
namespace Go.Lg
open Go Go.RowKit

section
variable {S:Setup} {B:Base} {R:LS→Prop} {k:List VItem} {L:LS}
end

def mapR {α:Type} [Inhabited α] (g:Nat→α→D) (xs:List α):List D:=(List.range xs.length).map fun j=>g j (xs.getD j default)
theorem mapR_length {α:Type} [Inhabited α] (g:Nat→α→D) (xs:List α):(mapR g xs).length=xs.length:=by simp[mapR]
def upR {α:Type} [Inhabited α] (g:Nat→α→D) (xs:List α) (i:Nat):List D:=(List.range i).map fun j=>g j (xs.getD j default)
theorem upR_length {α:Type} [Inhabited α] (g:Nat→α→D) (xs:List α) (i:Nat):(upR g xs i).length=i:=by simp[upR]
theorem upR_mem {α:Type} [Inhabited α] {g:Nat→α→D} {xs:List α} {i:Nat} {P:D→Prop} (h:∀j x,P (g j x)):∀d∈upR g xs i,P d:=fun d hd=>by
 obtain⟨j,_,rfl⟩:=List.mem_map.1 hd
 exact h j _
theorem mapR_getDm {α:Type} [Inhabited α] {g:Nat→α→D} {xs:List α} {i:Nat} (h:Om (i<xs.length)):(mapR g xs).getD i default=g i (xs.getD i default):=by
 have h:i<xs.length:=h.out
 unfold mapR
 simp only[List.getD,List.getElem?_map,List.getElem?_range h,Option.map_some,Option.getD_some]
end Go.Lg
/-
  Lg, part 39: the marking regions, the state behind them reckoned.
-/
namespace Go.Lg
open Go Go.RowKit

section regions
variable {S:Setup} {B:Base} {R:LS→Prop} {kk:List VItem} {L:LS} {A M t1 t2 t3 id:Nat} {ty1 ty2 ty3 ty4:TypeId} {p1 p2 p3 p4:String} {a1 a2 a3 a4:Array Edge} {tys:Array TypeId} {f:FuncId} {i n N:Nat} {k:Int}

end regions
section
variable (B:Base) (d:D) (s:Sh) (k:Int) (n:Nat)
theorem KD_ids:(KD B d).ids=[]:=rfl
theorem KD_tks:(KD B d).tks=[]:=rfl
theorem KD_cells:(KD B d).cells=[KD B d]:=rfl
theorem KD_pu1 (p:Nat→Bool):D.pu1 p (KD B d)=KD B d:=rfl
theorem KD_pu (p:Nat→Bool):D.pu p (KD B d)=KD B d:=rfl
theorem KD_shT (o:Nat):D.shT o (KD B d)=KD B d:=rfl
theorem HD_ids:(HD s k n).ids=[]:=rfl
theorem HD_tks:(HD s k n).tks=[]:=rfl
theorem HD_cells:(HD s k n).cells=[HD s k n]:=rfl
theorem HD_pu1 (p:Nat→Bool):D.pu1 p (HD s k n)=HD s k n:=rfl
theorem HD_pu (p:Nat→Bool):D.pu p (HD s k n)=HD s k n:=rfl
theorem HD_shT (o:Nat):D.shT o (HD s k n)=HD s k n:=rfl
end
attribute [go_sem] KD_ids KD_tks KD_cells KD_pu1 KD_pu KD_shT HD_ids HD_tks HD_cells HD_pu1 HD_pu HD_shT
theorem sw_tokBox {S:Setup} {B:Base} {R:LS→Prop} {kk:List VItem} {L:LS} (id j k:Nat) (e:TypeId) (z:Nat) {cs:List D} (hb:look (L.purge (fun x=>x==k)).boxes id=some cs) (hj:cs[j]?=some (.sl .nil [])) (hc:(L.purge (fun x=>x==k)).clean (fun x=>x==k)=true)
  (h:SW S B R kk {L.purge (fun x=>x==k) with boxes:=setA (L.purge (fun x=>x==k)).boxes id (cs.set j (.sl (.own k e z) [])),toks:=k::L.toks}):SW S B R kk L:=fun G a w hs=>by
 have hp:=purge_sim hs (fun x=>x==k)
 have hstep:TokStep B G (G.setTok k (some none)) w w k:={
  mono:=⟨fun _ _ _ h1 h2=>⟨h1,h2⟩,fun _ _=>rfl⟩
  beta:=rfl,lab:=rfl,sz:=Nat.le_refl _,os:=rfl,tape:=rfl,out:=rfl,dr:=by first|exact Nat.le_refl _|exact Nat.le_succ _
  tau:=fun k' hk'=>.inr ⟨by simp[Ghost.setTok,hk'],fun _ _ _ _=>⟨rfl,rfl⟩⟩
  block:=fun _ _=>.inl ⟨rfl,rfl⟩
  new:=fun g e' z' hg=>by simp[Ghost.setTok] at hg
  live:=by simp[Ghost.setTok]}
 have hsim:=tokStep_sim hp hstep hc (tk:=k::L.toks) (fun k' hk'=>by
  by_cases e:k'=k
  ·exact .inl e
  ·rcases List.mem_cons.1 hk' with h|h
   ·exact absurd h e
   ·exact .inr ⟨by simp[Ghost.setTok,e],h⟩)
 refine h _ a w ⟨hsim.defers,hsim.size,hsim.env,{hsim.W with boxes:=fun i c hi=>?_},hsim.fixed⟩
 simp only[look_setA] at hi
 by_cases e0:id=i
 ·subst e0
  simp only[if_true,Option.some.injEq] at hi
  subst hi
  obtain⟨g,q1,⟨vs,e',e1,e2,e3⟩,q3⟩:=hsim.W.boxes id cs hb
  refine⟨g,q1,⟨vs,e',e1,by simpa using e2,fun j' d v hd hv=>?_⟩,q3⟩
  by_cases hjj:j=j'
  ·subst hjj
   rw[List.getElem?_set_self (List.getElem?_eq_some_iff.1 hj).1] at hd
   obtain rfl:=Option.some.inj hd
   have hr:=e3 j _ v hj hv
   cases hr with
   | @sl _ _ A n c b o s hn hcc hm ht' hA hu hk hst hr =>
    exact .sl (b:=0) (o:=0) (s:=0) hn hcc hm (by simp only[TkOk,Ghost.setTok,if_true];exact⟨ht'.2.1,ht'.2.2⟩) (.inl rfl) (by simp) (by simp[flat]) (by simp[flat]) (by simp[flat])
  ·rw[List.getElem?_set_ne hjj] at hd
   exact e3 j' d v hd hv
 ·rw[if_neg e0] at hi
  exact hsim.W.boxes i c hi
end Go.Lg
/-
  Lg: a call that wants tokens for empty lists takes fresh empty lists.
-/
namespace Go.Lg
open Go Go.RowKit
variable {S:Setup}
theorem baseOf_emp (G:Ghost) (w:World) (bx:List (Nat×List D)) (tk:List Nat) (k:Nat) (hk:k∉tk):baseOf (G.setTok k (some none)) w bx (k::tk)=baseOf G w bx tk:=by
 unfold baseOf
 congr 1
 funext b
 refine propext ⟨?_,?_⟩
 ·rintro (h|⟨k',h1,e,z,h2⟩)
  ·exact .inl h
  ·refine .inr ⟨k',?_,e,z,?_⟩
   ·rcases List.mem_cons.1 h1 with rfl|h1
    ·simp[Ghost.setTok] at h2
    ·exact h1
   ·rcases List.mem_cons.1 h1 with rfl|h1
    ·simp[Ghost.setTok] at h2
    ·have:k'≠k:=fun e=>hk (e ▸ h1)
     simpa[Ghost.setTok,this] using h2
 ·rintro (h|⟨k',h1,e,z,h2⟩)
  ·exact .inl h
  ·have:k'≠k:=fun e=>hk (e ▸ h1)
   exact .inr ⟨k',List.mem_cons_of_mem _ h1,e,z,by simpa[Ghost.setTok,this] using h2⟩
theorem FC.emp {f:FuncId} {ro bx bx':List (Nat×List D)} {tk tk':List Nat} {args args':List D} {d:D} (i k:Nat) (e:TypeId) (z:Nat) {t:Tk} (h:FC S f ro bx (k::tk) args' d bx' tk')
  (hl:args'.length=args.length) (ht:look (enumD 0 args) i=some (.sl t [])) (htk:t=.nil∨t=.full) (hk:k∉tk) (hc:(LS.mk args.length (enumD 0 args) bx ro tk (bx.map (·.1))).clean (fun x=>x==k)=true)
  (he:enumD 0 args'=setA (enumD 0 args) i (.sl (.own k e z) [])):FC S f ro bx tk args d bx' tk':=⟨h.1,fun w G vals hs=>by
 obtain⟨v,hv,hr⟩:=hs.env i _ ht
 have hstep:TokStep (baseOf G w bx tk) G (G.setTok k (some none)) w w k:={
  mono:=⟨fun _ _ _ h1 h2=>⟨h1,h2⟩,fun _ _=>rfl⟩
  beta:=rfl,lab:=rfl,sz:=Nat.le_refl _,os:=rfl,tape:=rfl,out:=rfl,dr:=by first|exact Nat.le_refl _|exact Nat.le_succ _
  tau:=fun k' hk'=>.inr ⟨by simp[Ghost.setTok,hk'],fun _ _ _ _=>⟨rfl,rfl⟩⟩
  block:=fun _ _=>.inl ⟨rfl,rfl⟩
  new:=fun g e' z' hg=>by simp[Ghost.setTok] at hg
  live:=by simp[Ghost.setTok]}
 have hsim:=tokStep_sim hs hstep hc (tk:=k::tk) (fun k' hk'=>by
  by_cases e:k'=k
  ·exact .inl e
  ·rcases List.mem_cons.1 hk' with h|h
   ·exact absurd h e
   ·exact .inr ⟨by simp[Ghost.setTok,e],h⟩)
 have h2:=h.2 w (G.setTok k (some none)) vals
 rw[baseOf_emp G w bx tk k hk,hl,he] at h2
 refine h2 (env_set hsim hv ?_)
 cases hr with
 | @sl _ _ A n c b o s hn hcc hm ht' hA hu hk hst hr =>
  have h0:n=0:=hn
  have hc0:c=0:=by
   rcases htk with rfl|rfl
   ·exact ht'.2.2
   ·have:n=c:=ht'
    omega
  exact .sl (b:=0) (o:=0) (s:=0) hn hcc hm (by simp only[TkOk,Ghost.setTok,if_true];exact⟨h0,hc0⟩) (.inl rfl) (by simp) (by simp[flat]) (by simp[flat]) (by simp[flat])⟩
end Go.Lg
/-
  Lg: a region that draws its order, of which the first operation, a plain reading of a slot, may stand anywhere ahead of the last part; one operation of any kind in the middle.
-/
namespace Go.Lg
open Go Go.RowKit
section
variable {S:Setup} {md:Region.Mode} {ops:Array Oper} {bx:Nat→Option (List D)} {n m h0:Nat}
end
theorem wpAny_monoQ {P:Program} {md:Region.Mode} {ops:Array Oper} {Q Q':Exit→Act→World→Prop} (h:∀e a w,Q e a w→Q' e a w):∀(f:Nat) (listed:Array Bool) (a:Act) (w:World),wpAny P md ops Q f listed a w→wpAny P md ops Q' f listed a w
 | 0,_,_,_,hh=>⟨hh.1,h _ _ _ hh.2⟩
 | f+1,_,a,w,hh=>⟨fun e=>h _ _ _ (hh.1 e),fun i hi=>by
  have h1:=wpOp_mono (fun a w=>wpAny_monoQ h f _ a w) (hh.2 i hi)
  unfold wpOp at h1 ⊢
  split at h1
  ·exact h1
  ·split at h1
   ·rename_i hw
    rw[if_pos hw]
    rcases h1 with h1|⟨h1,a,w,h2⟩
    ·exact .inl (Oper.wp_congrQ (fun e a w _ hq=>h e a w hq) h1)
    ·exact .inr ⟨h1,a,w,h _ _ _ h2⟩
   ·rename_i hw
    rw[if_neg hw]
    exact h1⟩
end Go.Lg
/-
  Lg: a list literal that is going to be appended to, or is a result: it is given a token where it is made.
-/
namespace Go.Lg
open Go Go.RowKit
def thenQ (P:Program) (ops:Array Oper) (Q:Exit→Act→World→Prop) (l2:List Oper):Exit→Act→World→Prop
 | .normal,a,w=>wpList P ops Q l2 a w
 | e,a,w=>Q e a w
theorem thenQ_wp {P:Program} {ops:Array Oper} {Q:Exit→Act→World→Prop} {l2:List Oper} {o:Oper} {a:Act} {w:World} {K K':Act→World→Prop} (h:∀a w,K a w→K' a w)
  (hh:o.wp P a w K (thenQ P ops Q l2)):o.wp P a w K' Q:=by
 unfold Oper.wp at *
 generalize (execOp a.eval o).run P w=r at *
 cases r with
 | ok n w' =>
  cases n<;>simp only[Oper.upon] at hh ⊢ <;>
   first
    | exact h _ _ hh
    | exact hh
    | (refine hh.mono fun e w2 h2=>?_;revert h2;cases e<;>first|exact fun h2=>h _ _ h2|exact fun h2=>h2)
    | (refine hh.mono fun v w2 h2=>h _ _ h2)
 | halt x w'=>cases x<;>simp only[Oper.upon] at hh ⊢<;>exact hh
theorem wpList_app {P:Program} {ops:Array Oper} {Q:Exit→Act→World→Prop} {l2:List Oper}:∀(l1:List Oper) (a:Act) (w:World),wpList P ops (thenQ P ops Q l2) l1 a w→wpList P ops Q (l1++l2) a w
 | [],a,w,h=>h
 | o::l1,a,w,h=>by
  unfold wpList at h
  rw[List.cons_append]
  unfold wpList
  split at h
  ·rename_i hw
   rw[if_pos hw]
   rcases h with h|⟨h1,h2⟩
   ·exact .inl (thenQ_wp (fun a w h=>wpList_app l1 a w h) h)
   ·exact .inr ⟨h1,h2⟩
  ·rename_i hw
   rw[if_neg hw]
   exact wpList_app l1 _ _ h
theorem LopsW.app {S:Setup} {B:Base} {ops:Array Oper} {l l2:List Oper} {L:LS} {N M:LS→Prop} (h:LopsW S B ops l L N) (hN:∀L',N L'→LopsW S B ops l2 L' M):LopsW S B ops (l++l2) L M:=fun G a w hs Q hQ =>
 wpList_app l a w (h G a w hs (thenQ S.P ops Q l2) fun L' G' a' w' h1 h2=>hN L' h1 G' a' w' h2 Q hQ)
theorem fresh_stepB {B:Base} {L:LS} {G:Ghost} {a:Act} {w:World} (h:Sim B L G a w) (arr:Array Value) (e:TypeId) (z N:Nat) (hz:0<z) (hN:N≤arr.size) (tok:Nat) :
  TokStep B G ((G.grow w.heap.size N).setTok tok (some (some (w.heap.size,e,z)))) w (w.alloc (.cells arr e)) tok:=by
 have hW:=h.W
 have hold:∀b,b<w.heap.size→(w.alloc (.cells arr e)).heap[b]?=w.heap[b]?:=fun b hb=>Below.heap_alloc w _ b hb
 have hlim:∀b,b<w.heap.size→(G.grow w.heap.size N).lim b=G.lim b:=fun b hb=>by simp only[Ghost.grow];rw[if_neg (by omega)]
 have hmn:Mono G ((G.grow w.heap.size N).setTok tok (some (some (w.heap.size,e,z)))) w (w.alloc (.cells arr e)):=by
  refine⟨fun b o v h1 h2=>?_,fun _ _=>rfl⟩
  have hlt:=cell_lt h2
  exact⟨by show o<(G.grow w.heap.size N).lim b;rw[hlim b hlt];exact h1,by rw[cell_of_heap (hold b hlt)];exact h2⟩
 have hnew:(w.alloc (.cells arr e)).heap[w.heap.size]?=some (.cells arr e (0,0)):=heap_alloc_new w _
 refine {
  mono:=hmn
  beta:=rfl
  lab:=rfl
  sz:=by simp
  os:=rfl
  tape:=rfl
  out:=rfl
  dr:=by first|exact Nat.le_refl _|exact Nat.le_succ _
  tau:=fun k hk=>?_
  block:=fun b hb=>.inl ⟨hold b hb,hlim b hb⟩
  new:=fun g e' z' hg=>?_
  live:=by simp[Ghost.setTok]}
 ·simp only[Ghost.setTok,if_neg hk]
  refine .inr ⟨rfl,fun g e' z' hg=>?_⟩
  obtain⟨_,_,⟨cur,hc,_⟩,_⟩:=hW.tau k g e' z' hg
  exact⟨hlim g (heap_lt hc),hold g (heap_lt hc)⟩
 ·simp only[Ghost.setTok,if_true,Option.some.injEq,Prod.mk.injEq] at hg
  obtain⟨rfl,rfl,rfl⟩:=hg
  refine⟨.inl hW.sz,hz,⟨arr,hnew,by simpa[Ghost.setTok,Ghost.grow] using hN⟩,fun i hi=>?_,fun k e' z' hk hkk=>?_,Classical.byContradiction fun hne=>Nat.lt_irrefl _ (hW.lablt _ hne)⟩
  ·have:=hW.blt _ _ hi;omega
  ·simp only[Ghost.setTok,if_neg hk] at hkk
   obtain⟨_,_,⟨cur,hc,_⟩,_⟩:=hW.tau k _ _ _ hkk
   have:=heap_lt hc
   omega
theorem LopsW.buildOwn {S:Setup} {B:Base} {ops:Array Oper} {l:List Oper} {L:LS} {K:LS→Prop} {t n:Nat} {T e:TypeId} {i:TyI} {ps:Array (Nat×Operand)} {qs:List (Nat×D)} {ty:TypeId} {pos:String} {aft:Array Edge} (tok:Nat)
  (hds:zipO (evalO L) ps.toList=some qs) (hk:S.kd T=some (.slice e)) (hi:S.tab e=some i)
  (hside:(t<L.n∧0<n∧0<i.size∧n*i.size≤16777216)∧qs.map (·.1)=List.range n∧∀p∈qs,p.2.cells.length=i.size∧∀c∈p.2.strip.cells,c.memOk=true) (hc:L.clean (fun x=>x==tok)=true)
  (h:LopsW S B ops l (({L with toks:=tok::L.toks}:LS).put t (.sl (.own tok e i.size) (qs.map (·.2.strip)))) K):LopsW S B ops (⟨some t,.buildSlice T n ps,ty,pos,aft,none⟩::l) L K:=by
 intro G a w hs Q hQ
 obtain⟨⟨s1,s2,s3,s4⟩,hidx,hcell⟩:=hside
 refine wpList_step fun N hN=>?_
 rw[if_pos (guardY_sound (S:=S) (b:=true) rfl hs rfl)]
 have hv:PRel G w qs (ps.map fun (i,x)=>(i,a.eval x)).toList:=by simpa using zipO_sound hs hds
 generalize hvs:(ps.map fun (i,x)=>(i,a.eval x))=vs at hv
 have hu:=kd_slice hk
 have hok:=S.ok e i hi
 obtain⟨inf,i1,i2,i3,z,i4,i5,i6⟩:=hok.info
 have hzs:z.cells.size=i.size:=by rw[i5];simp[TyI.size]
 have hlen:qs.length=n:=by have:=congrArg List.length hidx;simpa using this
 let q2:=qs.map fun p=>(p.1,p.2.strip)
 have hq:PRel G w q2 vs.toList:=hv.strip
 have hqi:q2.map (·.1)=List.range' 0 (n-0):=by
  simp only[q2,List.map_map,Nat.sub_zero]
  rw[←List.range_eq_range',←hidx]
  rfl
 have hqc:∀p∈q2,p.2.cells.length=i.size:=fun p hp=>by
  obtain⟨p0,h0,rfl⟩:=List.mem_map.1 hp
  simp only[strip_cells_length]
  exact(hcell p0 h0).1
 obtain⟨arr,e1,e2⟩:=fill_dense (s:=i.size) (k:=0) (n:=n) (dn:=[]) (arr:=(Array.range (n*i.size)).map (z.cells[· % z.cells.size]!)) hq hqi (Nat.zero_le _) hqc rfl (by simp) (by simp) (by simp[flat])
 simp only[List.nil_append] at e2
 have hq2:q2.map (·.2)=qs.map (·.2.strip):=by simp[q2]
 rw[hq2] at e2
 have hmem:∀d∈flat (qs.map (·.2.strip)),d.memOk=true:=fun d hd=>by
  obtain⟨x,hx,hd⟩:=List.mem_flatMap.1 hd
  obtain⟨p,hp,rfl⟩:=List.mem_map.1 hx
  exact(hcell p hp).2 d hd
 have hu2:∀x∈qs.map (·.2.strip),x.cells.length=i.size:=fun x hx=>by
  obtain⟨p,hp,rfl⟩:=List.mem_map.1 hx
  rw[strip_cells_length]
  exact(hcell p hp).1
 have hn0:n*i.size≠0:=by
  intro h0
  rcases Nat.mul_eq_zero.1 h0 with h|h<;>omega
 have hrun:(Instr.buildSlice T n vs).run S.P w=.ok (.slice (some ⟨w.heap.size,0,none⟩) n n) (w.alloc (.cells arr e)):=by
  refine run_buildSlice (P:=S.P) w T e n vs arr inf z hu i1 i4 (by rw[i2];omega) (by rw[i2];exact hn0) ?_
  rw[i2]
  exact e1
 have hop:(execOp a.eval ⟨some t,.buildSlice T n ps,ty,pos,aft,none⟩).run S.P w=.ok (.value (.slice (some ⟨w.heap.size,0,none⟩) n n)) (w.alloc (.cells arr e)):=by
  simp[execOp,hvs,hrun]
 unfold Oper.wp
 rw[hop]
 have harr:=e2.1
 have hfl:=flat_length hu2
 have hst:=fresh_stepB hs arr e i.size (n*i.size) s3 (by rw[harr,hfl,List.length_map,hlen];exact Nat.le_refl _) tok
 have hsim:=tokStep_sim hs hst hc (tk:=tok::L.toks) (fun k' hk'=>by
  by_cases e:k'=tok
  ·exact .inl e
  ·rcases List.mem_cons.1 hk' with h|h
   ·exact absurd h e
   ·exact .inr ⟨by simp[Ghost.setTok,e,Ghost.grow],h⟩)
 refine hN _ _ (h _ _ _ (hsim.putO (t:=some t) (fun t' ht=>by obtain rfl:=Option.some.inj ht;exact s1) ?_) Q hQ)
 have hnew:(w.alloc (.cells arr e)).heap[w.heap.size]?=some (.cells arr e (0,0)):=heap_alloc_new w _
 have hcl:∀j,(w.alloc (.cells arr e)).cell? ⟨w.heap.size,j,none⟩=arr[j]?:=fun j=>alloc_cell w arr e j
 have hnm:n≤maxLen:=by
  have:=Nat.le_mul_of_pos_right n s3
  simp only[maxLen];omega
 refine .sl (b:=w.heap.size) (o:=0) (s:=i.size) (by simp[hlen]) (Nat.le_refl _) hnm ?_ (.inr rfl) hu2 hmem (fun j d hd=>?_) (fun j d v hd hv'=>?_)
 ·simp only[TkOk,Ghost.setTok,if_true]
  refine⟨⟨trivial,trivial⟩,trivial,by simp[Ghost.grow],?_,hu2⟩
  unfold World.shape?
  simp only[hnew,harr,hfl,List.length_map,hlen]
 ·have hj:j<n*i.size:=by
   have:=(List.getElem?_eq_some_iff.1 hd).1
   rw[hfl,List.length_map,hlen] at this
   exact this
  have hja:j<arr.size:=by rw[harr,hfl,List.length_map,hlen];exact hj
  simp only[Nat.zero_add]
  refine⟨by simpa[Ghost.setTok,Ghost.grow] using hj,arr[j],?_⟩
  rw[hcl]
  simp[hja]
 ·simp only[Nat.zero_add,hcl] at hv'
  exact rel_step hst (e2.2 j d v hd hv') (hmem d (List.mem_of_getElem? hd))
def BsOwn (S:Setup) (tok t u T n:Nat) (ps:Array (Nat×Operand)) (M:LS→Prop) (L:LS):Prop :=
 ∃(qs:List (Nat×D)) (e:TypeId) (i:TyI),zipO (evalO L) ps.toList=some qs∧S.kd T=some (.slice e)∧S.tab e=some i ∧
  ((t<L.n∧0<n∧0<i.size∧n*i.size≤16777216)∧qs.map (·.1)=List.range n∧∀p∈qs,p.2.cells.length=i.size∧∀c∈p.2.strip.cells,c.memOk=true)∧L.clean (fun x=>x==tok)=true∧u<L.n ∧
  M ((({L with toks:=tok::L.toks}:LS).put t (.sl (.own tok e i.size) (qs.map (·.2.strip)))).put u (.sl (.own tok e i.size) (qs.map (·.2.strip))))
theorem runL_sound2 {S:Setup} {base:Nat} {B:Base} {ops:Array Oper} {l2:List Oper} {K:LS→Prop} {K':List Oper→LS→Prop} (hK:∀l L,K' l L→LopsW S B ops (l++l2) L K):∀(l:List Oper) (L:LS),runL S base ops K' l L→LopsW S B ops (l++l2) L K
 | [],L,h=>hK [] L h
 | ⟨dst,op,ty,pos,aft,g⟩::l,L,h=>by
  unfold runL at h
  split at h
  ·exact hK _ L h
  ·split at h
   ·rename_i hg
    intro G a w hs Q hQ
    refine wpList_step fun N hN=>?_
    rw[if_pos (guardY_sound (S:=S) rfl hs (o:=⟨dst,op,ty,pos,aft,g⟩) hg)]
    exact Oper.wp_mono (fun a' w' h'=>hN a' w' h') (stepY_mono h (fun L' h'=>runL_sound2 hK l L' h') G a w hs Q hQ)
   ·rename_i hg
    exact LopsW.skip (o:=⟨dst,op,ty,pos,aft,g⟩) hg h.1 (runL_sound2 hK l _ h.2)
   ·exact hK _ L h
theorem sw_goB {S:Setup} {B:Base} {R:LS→Prop} {k:List VItem} {L:LS} (base:Nat) (kp:List (Nat×List Nat)) (m tok:Nat) {id t u T n:Nat} {ps:Array (Nat×Operand)} {ty1 ty2:TypeId} {p1 p2:String} {a1 a2:Array Edge} {l:List Oper}
  (hl:l.drop m=[⟨some t,.buildSlice T n ps,ty1,p1,a1,none⟩,⟨some u,.assign (.tmp t),ty2,p2,a2,none⟩])
  (h:∀K:List Oper→LS→Prop,KOk S base B l.toArray (BsOwn S tok t u T n ps fun L'=>SW S B R k (L'.keepAt kp id)) K→runL S base l.toArray K (l.take m) L):SW S B R (.code (.region id l.toArray false)::k) L:=by
 have hs:∀l' L',runL S base l.toArray (fun l' L'=>LopsW S B l.toArray (l'++l.drop m) L' (fun L2=>SW S B R k L2)) l' L'→LopsW S B l.toArray (l'++l.drop m) L' (fun L2=>SW S B R k L2) :=
  runL_sound2 (base:=base) (K':=fun l' L'=>LopsW S B l.toArray (l'++l.drop m) L' (fun L2=>SW S B R k L2)) (fun _ _ h=>h)
 have hfin:∀L,BsOwn S tok t u T n ps (fun L'=>SW S B R k (L'.keepAt kp id)) L→LopsW S B l.toArray (l.drop m) L (fun L2=>SW S B R k L2):=fun L ⟨qs,e,i,h1,h2,h3,h4,h5,h6,h7⟩=>by
  rw[hl]
  refine LopsW.buildOwn tok h1 h2 h3 h4 h5 (LopsW.step (base:=base) rfl ?_)
  simp only[stepY,opY,evalO,LS.get,LS.put,look_setA,if_true,someK,LS.putO]
  exact⟨h6,LopsW.nil (sw_keepAt kp id h7)⟩
 have hl2:l.take m++l.drop m=l:=List.take_append_drop m l
 have hgo:=hs _ _ (h _ {
  nil:=fun h=>hfin _ h
  raw:=fun h=>h.app fun L' h'=>hfin L' h'
  weak:=fun hc h=>LopsW.weak hc (hs _ _ h)
  split:=fun t _ ht h1 h0=>LopsW.split t ht (fun e=>hs _ _ (h1 e)) (fun e=>hs _ _ (h0 e))
  skip:=fun hg hd h=>LopsW.skip hg hd (hs _ _ h)
  call:=fun hg _ _ _ _ _ hf hds fc hside h=>LopsW.call hg hf hds fc hside (hs _ _ h)
  callB:=fun hg _ _ _ _ _ _ _ _ _ hf hds fc hside h=>LopsW.callB hg hf hds fc hside (hs _ _ h)
  callT:=fun hg _ _ _ _ _ _ _ hf hds fc hside h=>LopsW.callTi hg (base+_) hf hds fc hside (hs _ _ h)
  callM:=fun hg _ _ _ _ _ _ _ hf hds fc hside h=>LopsW.callM hg (base+_) hf hds fc hside (hs _ _ h)})
 rw[hl2] at hgo
 exact sw_region hgo
end Go.Lg
/-
  Lg: slices.SortFunc of a list of lists in a box, out of the kit's contract and a contract of the comparing function.
-/
namespace Go.Lg
open Go Go.RowKit
end Go.Lg
/-
  Lg: labels of new lists are given anew (a sort has put the lists into another order); bodies whose base is known to bear no label with a given head.
-/
namespace Go.Lg
open Go Go.RowKit
def Base.off (B:Base) (N:Nat):Prop:=(∀b,¬B.ab b)∧∀b l,B.lab b≠N::l
theorem exists_off {G:Ghost} {w:World} (h:∀b,G.lab b≠[]→b<w.heap.size):∃N,∀b l,G.lab b≠N::l:=by
 have:∀n,∃N,∀b,b<n→∀m l,G.lab b=m::l→m<N:=fun n=>by
  induction n with
  | zero=>exact⟨0,fun b hb=>absurd hb (by omega)⟩
  | succ n ih =>
   obtain⟨N,hN⟩:=ih
   refine⟨max N ((G.lab n).headD 0+1),fun b hb m l e=>?_⟩
   rcases Nat.lt_succ_iff_lt_or_eq.1 hb with hb|rfl
   ·have:=hN b hb m l e;omega
   ·rw[e];simp only[List.headD_cons];omega
 obtain⟨N,hN⟩:=this w.heap.size
 exact⟨N,fun b l e=>absurd (hN b (h b (by rw[e];simp)) N l e) (by omega)⟩
theorem fc_bodyF {S:Setup} {f:FuncId} {fn:Func} {c:Code} {ro:List (Nat×List D)} {args:List D} {d:D}
  (hf:S.P.funcs[f]?=some fn) (hb:fn.body=some c) (hname:(fn.name == "runtime.NumGoroutine")=false) (hn:args.length≤fn.ntmps)
  (h:∀B N,B.off N→SW S B (Ret S fn.results.toList d []) [.code c] ⟨fn.ntmps,enumD 0 args,[],ro,[],[]⟩):FC S f ro [] [] args d [] []:=by
 refine⟨⟨fn,hf,hname,by rw[hb];rfl⟩,fun w G vals hs=>?_⟩
 obtain⟨N,hN⟩:=exists_off hs.W.lablt
 have hB:(baseOf G w [] []).off N:=by
  refine⟨fun b hb=>?_,hN⟩
  rcases hb with⟨p,hp,_⟩|⟨k,hk,_⟩
  ·cases hp
  ·cases hk
 refine calls_of_sw hf hb hn hs (h _ N hB) fun G' L' a' w' hs' hr=>?_
 obtain⟨d0,v,⟨h1,h2⟩,h3,h4⟩:=resY_sound hs' hr
 refine⟨v,h3,v,{G' with τ:=fun _=>none},rfl,rfl,rfl,fun t d' hd=>?_,?_,hs.fixed⟩
 ·simp only[look] at hd
  split at hd
  ·rename_i ht
   subst ht
   obtain rfl:=Option.some.inj hd
   refine⟨v,rfl,?_⟩
   exact(h4.le h1).mono (show Mono G' {G' with τ:=fun _=>none} w' w' from⟨fun _ _ _ h1 h2=>⟨h1,h2⟩,fun _ _=>rfl⟩) (fun _ _ _ h=>h) (fun _ _=>.inl rfl)
  ·cases hd
 ·exact simW_noTok (hs'.W.less h2 (ro':=[]) (by simp) (tk':=[]) (by simp))
end Go.Lg
/-
  Lg: what does not read an own list (by kind, token or box).
-/
namespace Go.Lg
open Go Go.RowKit
mutual
def D.safe (k:Nat) (tk:List Nat):D→Bool
 | .int ..|.bool _|.str _|.box ..|.ms ..|.raw _=>true
 | .sl (.own k' _ _) xs=>(k' != k)&&tk.contains k'&&D.safeL k tk xs
 | .sl (.que _ _) _=>false
 | .sl (.lab _) xs=>D.safeL k tk xs
 | .sl _ xs=>D.scaL xs
 | .agg cs|.tup cs|.fn _ cs=>D.safeL k tk cs
 | .imm cs=>cs.isEmpty
 | .pred _=>false
def D.safeL (k:Nat) (tk:List Nat):List D→Bool
 | []=>true
 | d::ds=>d.safe k tk&&D.safeL k tk ds
def D.scaL:List D→Bool
 | []=>true
 | d::ds=>d.sca&&D.scaL ds
end
theorem safeL_mem {k:Nat} {tk:List Nat} {ds:List D} (h:D.safeL k tk ds=true) {d:D} (hd:d∈ds):d.safe k tk=true:=by
 induction ds with
 | nil=>cases hd
 | cons x r ih =>
  simp only[D.safeL,Bool.and_eq_true] at h
  rcases List.mem_cons.1 hd with rfl|hd
  ·exact h.1
  ·exact ih h.2 hd
theorem safeL_of {k:Nat} {tk:List Nat} {ds:List D} (h:∀d∈ds,d.safe k tk=true):D.safeL k tk ds=true:=by
 induction ds with
 | nil=>rfl
 | cons x r ih=>simp only[D.safeL,Bool.and_eq_true];exact⟨h x List.mem_cons_self,ih fun d hd=>h d (List.mem_cons_of_mem _ hd)⟩
theorem scaL_mem {ds:List D} (h:D.scaL ds=true) {d:D} (hd:d∈ds):d.sca=true:=by
 induction ds with
 | nil=>cases hd
 | cons x r ih =>
  simp only[D.scaL,Bool.and_eq_true] at h
  rcases List.mem_cons.1 hd with rfl|hd
  ·exact h.1
  ·exact ih h.2 hd
theorem scaL_of {ds:List D} (h:∀d∈ds,d.sca=true):D.scaL ds=true:=by
 induction ds with
 | nil=>rfl
 | cons x r ih=>simp only[D.scaL,Bool.and_eq_true];exact⟨h x List.mem_cons_self,ih fun d hd=>h d (List.mem_cons_of_mem _ hd)⟩
theorem scaL_ints (xs:List Int) (k:IntKind):D.scaL (xs.map (.int k))=true:=scaL_of fun d hd=>by
 obtain⟨x,_,rfl⟩:=List.mem_map.1 hd;rfl
theorem safe_cells {k:Nat} {tk:List Nat} {x:D} (h:x.safe k tk=true):∀d∈x.cells,d.safe k tk=true:=by
 cases x with
 | agg cs=>exact fun d hd=>safeL_mem (ds:=cs) (by simpa[D.safe] using h) hd
 | _=>intro d hd;rw[show d=_ from List.mem_singleton.1 hd];exact h
theorem safeL_flat {k:Nat} {tk:List Nat} {xs:List D} (h:D.safeL k tk xs=true):∀d∈flat xs,d.safe k tk=true:=fun d hd=>by
 obtain⟨x,hx,hd⟩:=List.mem_flatMap.1 hd
 exact safe_cells (safeL_mem h hx) d hd
theorem scaL_flat {xs:List D} (h:D.scaL xs=true):∀d∈flat xs,d.sca=true:=fun d hd=>by
 obtain⟨x,hx,hd⟩:=List.mem_flatMap.1 hd
 have:=scaL_mem h hx
 cases x<;>simp[D.cells,D.sca] at hd this ⊢<;>subst hd<;>rfl
mutual
theorem safe_tks {k:Nat} {tk:List Nat}:∀(d:D),d.safe k tk=true→∀k'∈d.tks,k'≠k
 | .int ..,_,_,h=>by simp[D.tks] at h
 | .bool _,_,_,h=>by simp[D.tks] at h
 | .str _,_,_,h=>by simp[D.tks] at h
 | .box ..,_,_,h=>by simp[D.tks] at h
 | .ms ..,_,_,h=>by simp[D.tks] at h
 | .raw _,_,_,h=>by simp[D.tks] at h
 | .imm _,_,_,h=>by simp[D.tks] at h
 | .pred _,_,_,h=>by simp[D.tks] at h
 | .sl tk0 xs,hs,k',h=>by
  cases tk0 with
  | own k2 e z =>
   simp only[D.tks,List.mem_singleton] at h
   subst h
   simp only[D.safe,Bool.and_eq_true,bne_iff_ne] at hs
   exact hs.1.1
  | que k2 e=>simp[D.safe] at hs
  | _=>simp[D.tks] at h
 | .agg cs,hs,k',h=>safeL_tks cs (by simpa[D.safe] using hs) k' (by simpa[D.tks] using h)
 | .tup cs,hs,k',h=>safeL_tks cs (by simpa[D.safe] using hs) k' (by simpa[D.tks] using h)
 | .fn _ cs,hs,k',h=>safeL_tks cs (by simpa[D.safe] using hs) k' (by simpa[D.tks] using h)
theorem safeL_tks {k:Nat} {tk:List Nat}:∀(ds:List D),D.safeL k tk ds=true→∀k'∈D.tksL ds,k'≠k
 | [],_,_,h=>by simp[D.tksL] at h
 | d::ds,hs,k',h=>by
  simp only[D.safeL,Bool.and_eq_true] at hs
  simp only[D.tksL,List.mem_append] at h
  rcases h with h|h
  ·exact safe_tks d hs.1 k' h
  ·exact safeL_tks ds hs.2 k' h
end
def Ghost.hide (G:Ghost) (g:Nat):Ghost:={G with lim:=fun b=>if b=g then 0 else G.lim b}
theorem safe_hide {G:Ghost} {w:World} {k g:Nat} {tk:List Nat} (htk:∀k'∈tk,∃x,G.τ k'=some x) (hinj:∀k' e z,G.τ k'=some (some (g,e,z))→k'=k) (hlab:G.lab g=[])
  (hsl:∀o v,o<G.lim g→w.cell? ⟨g,o,none⟩=some v→∃A n c,v=.slice A n c) {d:D} {v:Value} (h:Rel G w d v):d.safe k tk=true→Rel (G.hide g) w d v:=by
 have hl:∀b,b≠g→(G.hide g).lim b=G.lim b:=fun b hb=>by simp[Ghost.hide,hb]
 induction h with
 | int=>exact fun _=>.int
 | bool=>exact fun _=>.bool
 | str=>exact fun _=>.str
 | box hb=>exact fun _=>.box hb
 | ms hb hc hn=>exact fun _=>.ms hb hc hn
 | raw h=>exact fun _=>.raw h
 | pred=>intro h;simp[D.safe] at h
 | agg hlen hr ih=>exact fun h=>.agg hlen fun j d v hj hv=>ih j d v hj hv (safeL_mem (by simpa[D.safe] using h) (List.mem_of_getElem? hj))
 | tup hlen hr ih=>exact fun h=>.tup hlen fun j d v hj hv=>ih j d v hj hv (safeL_mem (by simpa[D.safe] using h) (List.mem_of_getElem? hj))
 | fn hlen hr ih=>exact fun h=>.fn hlen fun j d v hj hv=>ih j d v hj hv (safeL_mem (by simpa[D.safe] using h) (List.mem_of_getElem? hj))
 | @imm cs b o hk hst hr ih =>
  intro h
  obtain rfl:cs=[]:=by simpa[D.safe] using h
  exact .imm (b:=b) (o:=o) (fun d hd=>by cases hd) (fun j d hj=>by simp at hj) (fun j d v hj=>by simp at hj)
 | @sl tk0 xs A n c b o s hn hc hm ht hA hu hk hst hr ih =>
  intro h
  have key:(∀d∈flat xs,d.safe k tk=true)→(flat xs=[]∨b≠g)→TkOk (G.hide g) w tk0 xs A n c→Rel (G.hide g) w (.sl tk0 xs) (.slice A n c):=fun hs hor ht'=>by
   refine .sl (b:=b) (o:=o) hn hc hm ht' hA hu hk (fun j d hj=>?_) (fun j d v hj hv=>?_)
   ·obtain⟨h1,h2⟩:=hst j d hj
    have hb:b≠g:=hor.resolve_left (by rintro e;rw[e] at hj;simp at hj)
    exact⟨by rw[hl b hb];exact h1,h2⟩
   ·exact ih j d v hj hv (hs d (List.mem_of_getElem? hj))
  have plain:D.scaL xs=true→TkOk (G.hide g) w tk0 xs A n c→Rel (G.hide g) w (.sl tk0 xs) (.slice A n c):=fun hs ht'=>by
   have hsc:=scaL_flat hs
   refine key (fun d hd=>?_) ?_ ht'
   ·have:=hsc d hd
    cases d<;>first|rfl|(simp[D.sca] at this)
   ·cases hf:flat xs with
    | nil=>exact .inl rfl
    | cons d0 r =>
     right
     rintro rfl
     have h0:(flat xs)[0]?=some d0:=by rw[hf];rfl
     obtain⟨h1,v,h2⟩:=hst 0 d0 h0
     obtain⟨A',n',c',rfl⟩:=hsl _ _ h1 h2
     have h3:=hr 0 d0 _ h0 h2
     have h4:=hsc d0 (by rw[hf];exact List.mem_cons_self)
     cases h3<;>simp[D.sca] at h4
  cases tk0 with
  | que k2 e=>simp[D.safe] at h
  | any=>exact plain (by simpa[D.safe] using h) ht
  | nil=>exact plain (by simpa[D.safe] using h) ht
  | nl=>exact plain (by simpa[D.safe] using h) ht
  | nn=>exact plain (by simpa[D.safe] using h) ht
  | full=>exact plain (by simpa[D.safe] using h) ht
  | lab l =>
   refine key (safeL_flat (by simpa[D.safe] using h)) ?_ ht
   rcases ht with rfl|⟨g',o',e1,e2,e3⟩
   ·exact .inl rfl
   ·rcases hA with rfl|hA
    ·exact .inl rfl
    ·right
     rintro rfl
     rw[e1] at hA
     simp only[Option.some.injEq,Addr.mk.injEq] at hA
     rw[hA.1] at e2
     exact e3 (by rw[←e2,hlab])
  | own k' e z =>
   simp only[D.safe,Bool.and_eq_true,bne_iff_ne,ne_eq,List.contains_eq_mem,decide_eq_true_eq] at h
   obtain⟨⟨h1,h2⟩,h3⟩:=h
   obtain⟨x,hx⟩:=htk k' h2
   simp only[TkOk,hx] at ht
   match x,hx,ht with
   | none,hx,ht =>
    have:xs=[]:=List.length_eq_zero_iff.1 (hn.symm.trans ht.1)
    subst this
    exact key (safeL_flat h3) (.inl rfl) (by simp only[TkOk,show (G.hide g).τ k'=some none from hx];exact ht)
   | some (g',e',z'),hx,ht =>
    have hg:g'≠g:=by rintro rfl;exact h1 (hinj k' e' z' hx)
    refine key (safeL_flat h3) ?_ ?_
    ·rcases hA with rfl|hA
     ·exact .inl rfl
     ·right
      rintro rfl
      rw[ht.2.1] at hA
      simp only[Option.some.injEq,Addr.mk.injEq] at hA
      exact hg hA.1
    ·simp only[TkOk,show (G.hide g).τ k'=some (some (g',e',z')) from hx]
     rw[hl g' hg]
     exact ht
abbrev intsT (p:Tk×List Int):D:=.sl p.1 (p.2.map (.int .i64))
theorem flat_intsT (ps:List (Tk×List Int)):flat (ps.map intsT)=ps.map intsT:=by
 induction ps with
 | nil=>rfl
 | cons p r ih=>simp[flat] at ih ⊢;simp[D.cells,ih]
end Go.Lg
