/-
  Lg: LgMk, LgMk3, LgMk7, LgEmp, LgDraw6, LgBsOwn, LgSortA, LgRelab, LgSafe, one behind the other.
-/
import Derived.Test.YtkfkdgginfpdnaaGreatDoorLgK6
import Derived.Test.YtkfkdgginfpdnaaGreatDoorLgK4
import Derived.Test.YtkfkdgginfpdnaaGreatDoorLgK5
import Derived.Sort.Grow
import Derived.Deep.Draws
import Derived.KernelRfl
/-
  Lg, part 32: marks: the int cells that a value reaches, as a list of places; writing them one behind the other; the readings that stand.
-/
namespace Go.Lg
open Go Go.RowKit

mutual
inductive Sh where
 | slc (fs:Fs)
inductive Fs where
 | nil
 | cell (r:Fs)
 | flag (r:Fs)
 | skip (r:Fs)
 | sub (s:Sh) (r:Fs)
end
def Fs.len:Fs→Nat
 | .nil=>0
 | .cell r=>r.len+1
 | .flag r=>r.len+1
 | .skip r=>r.len+1
 | .sub _ r=>r.len+1

def cellAt (w:World) (b o:Nat):Option Value:=w.cell? ⟨b,o,none⟩
def Mkd (v:Value):Prop:=(∃m,v=.int .i64 m)∨∃c,v=.bool c
def mkV:Value→Int→Value
 | .bool _,n=>.bool (n.tmod 3==0)
 | _,n=>.int .i64 n
def MkC (w:World) (p:Nat×Nat):Prop:=∃v,Mkd v∧cellAt w p.1 p.2=some v
def HvC (w:World) (p:Nat×Nat) (n:Int):Prop:=∃v,Mkd v∧cellAt w p.1 p.2=some (mkV v n)
theorem MkC.int {w:World} {b o:Nat} {m:Int} (h:cellAt w b o=some (.int .i64 m)):MkC w (b,o):=⟨_,.inl ⟨m,rfl⟩,h⟩
theorem MkC.bool {w:World} {b o:Nat} {c:Bool} (h:cellAt w b o=some (.bool c)):MkC w (b,o):=⟨_,.inr ⟨c,rfl⟩,h⟩
theorem HvC.int {w:World} {p:Nat×Nat} {n m:Int} (h:HvC w p n) (hm:cellAt w p.1 p.2=some (.int .i64 m)):cellAt w p.1 p.2=some (.int .i64 n):=by
 obtain⟨v,h1,h2⟩:=h
 rw[h2] at hm ⊢
 rcases h1 with⟨m',rfl⟩|⟨c,rfl⟩
 ·rfl
 ·simp[mkV] at hm
theorem HvC.bool {w:World} {p:Nat×Nat} {n:Int} {c:Bool} (h:HvC w p n) (hm:cellAt w p.1 p.2=some (.bool c)):cellAt w p.1 p.2=some (.bool (n.tmod 3==0)):=by
 obtain⟨v,h1,h2⟩:=h
 rw[h2] at hm ⊢
 rcases h1 with⟨m',rfl⟩|⟨c,rfl⟩
 ·simp[mkV] at hm
 ·rfl

mutual
def Lv (lim:Nat→Nat) (w:World):Sh→Value→List (Nat×Nat)→Prop
 | .slc fs,v,as=>∃A n c b o,v=.slice A n c∧n≤maxLen∧(n=0∨A=some ⟨b,o,none⟩)∧∃ass:List (List (Nat×Nat)),ass.length=n∧as=ass.flatten∧∀i l,ass[i]?=some l→LvF lim w fs b (o+i*fs.len) l
def LvF (lim:Nat→Nat) (w:World):Fs→Nat→Nat→List (Nat×Nat)→Prop
 | .nil,_,_,as=>as=[]
 | .cell r,b,o,as=>∃l,as=(b,o)::l∧o<lim b∧(∃m,cellAt w b o=some (.int .i64 m))∧LvF lim w r b (o+1) l
 | .flag r,b,o,as=>∃l,as=(b,o)::l∧o<lim b∧(∃c,cellAt w b o=some (.bool c))∧LvF lim w r b (o+1) l
 | .skip r,b,o,as=>LvF lim w r b (o+1) as
 | .sub s r,b,o,as=>∃v l1 l2,as=l1++l2∧o<lim b∧cellAt w b o=some v∧Lv lim w s v l1∧LvF lim w r b (o+1) l2
end
def IntW (lim lim':Nat→Nat) (w w':World):Prop:=∀b o v,o<lim b→cellAt w b o=some v→o<lim' b∧(cellAt w' b o=some v∨Mkd v∧∃n,cellAt w' b o=some (mkV v n))

theorem Lv.slice {lim:Nat→Nat} {w:World}:∀ {s:Sh} {v as},Lv lim w s v as→∃A n c,v=.slice A n c
 | .slc _,_,_,h=>by unfold Lv at h;obtain⟨A,n,c,_,_,h,_⟩:=h;exact⟨A,n,c,h⟩

mutual
theorem Lv.mono {lim lim':Nat→Nat} {w w':World} (hw:IntW lim lim' w w'):∀(s:Sh) (v:Value) (as:List (Nat×Nat)),Lv lim w s v as→Lv lim' w' s v as
 | .slc fs,v,as,h=>by
  unfold Lv at h ⊢
  obtain⟨A,n,c,b,o,h1,h2,h3,ass,h4,h5,h6⟩:=h
  exact⟨A,n,c,b,o,h1,h2,h3,ass,h4,h5,fun i l hi=>LvF.mono hw fs b _ l (h6 i l hi)⟩
theorem LvF.mono {lim lim':Nat→Nat} {w w':World} (hw:IntW lim lim' w w'):∀(fs:Fs) (b o:Nat) (as:List (Nat×Nat)),LvF lim w fs b o as→LvF lim' w' fs b o as
 | .nil,_,_,as,h=>by unfold LvF at h ⊢;exact h
 | .cell r,b,o,as,h=>by
  unfold LvF at h ⊢
  obtain⟨l,h1,h2,⟨m,h3⟩,h4⟩:=h
  obtain⟨q1,q2⟩:=hw b _ _ h2 h3
  refine⟨l,h1,q1,?_,LvF.mono hw r b _ l h4⟩
  rcases q2 with q2|⟨_,m',q2⟩
  ·exact⟨m,q2⟩
  ·exact⟨m',q2⟩
 | .flag r,b,o,as,h=>by
  unfold LvF at h ⊢
  obtain⟨l,h1,h2,⟨m,h3⟩,h4⟩:=h
  obtain⟨q1,q2⟩:=hw b _ _ h2 h3
  refine⟨l,h1,q1,?_,LvF.mono hw r b _ l h4⟩
  rcases q2 with q2|⟨_,m',q2⟩
  ·exact⟨m,q2⟩
  ·exact⟨_,q2⟩
 | .skip r,b,o,as,h=>by
  unfold LvF at h ⊢
  exact LvF.mono hw r b _ as h
 | .sub s r,b,o,as,h=>by
  unfold LvF at h ⊢
  obtain⟨v,l1,l2,h1,h2,h3,h4,h5⟩:=h
  obtain⟨q1,q2⟩:=hw b _ _ h2 h3
  refine⟨v,l1,l2,h1,q1,?_,Lv.mono hw s v l1 h4,LvF.mono hw r b _ l2 h5⟩
  rcases q2 with q2|⟨q2,_⟩
  ·exact q2
  ·obtain⟨A,n,c,e⟩:=h4.slice
   rw[e] at q2
   rcases q2 with⟨m,q2⟩|⟨m,q2⟩<;>cases q2
end
mutual
theorem Lv.ints {lim:Nat→Nat} {w:World}:∀(s:Sh) (v:Value) (as:List (Nat×Nat)),Lv lim w s v as→∀p∈as,p.2<lim p.1∧MkC w p
 | .slc fs,v,as,h=>by
  unfold Lv at h
  obtain⟨A,n,c,b,o,h1,h2,h3,ass,h4,h5,h6⟩:=h
  intro p hp
  rw[h5,List.mem_flatten] at hp
  obtain⟨l,hl,hp⟩:=hp
  obtain⟨i,hi⟩:=List.getElem?_of_mem hl
  exact LvF.ints fs b _ l (h6 i l hi) p hp
theorem LvF.ints {lim:Nat→Nat} {w:World}:∀(fs:Fs) (b o:Nat) (as:List (Nat×Nat)),LvF lim w fs b o as→∀p∈as,p.2<lim p.1∧MkC w p
 | .nil,_,_,as,h=>by unfold LvF at h;subst h;simp
 | .cell r,b,o,as,h=>by
  unfold LvF at h
  obtain⟨l,h1,h2,h3,h4⟩:=h
  subst h1
  intro p hp
  rcases List.mem_cons.1 hp with rfl|hp
  ·obtain⟨m,h3⟩:=h3;exact⟨h2,MkC.int h3⟩
  ·exact LvF.ints r b _ l h4 p hp
 | .flag r,b,o,as,h=>by
  unfold LvF at h
  obtain⟨l,h1,h2,h3,h4⟩:=h
  subst h1
  intro p hp
  rcases List.mem_cons.1 hp with rfl|hp
  ·obtain⟨m,h3⟩:=h3;exact⟨h2,MkC.bool h3⟩
  ·exact LvF.ints r b _ l h4 p hp
 | .skip r,b,o,as,h=>by
  unfold LvF at h
  exact LvF.ints r b _ as h
 | .sub s r,b,o,as,h=>by
  unfold LvF at h
  obtain⟨v,l1,l2,h1,h2,h3,h4,h5⟩:=h
  subst h1
  intro p hp
  rcases List.mem_append.1 hp with hp|hp
  ·exact Lv.ints s v l1 h4 p hp
  ·exact LvF.ints r b _ l2 h5 p hp
end
end Go.Lg
/-
  Lg, part 33: a labelled tree's int cells are places apart from each other; what bears other labels stands when they are written.
-/
namespace Go.Lg
open Go Go.RowKit

def Tk.still:Tk→Bool
 | .own ..=>false
 | .que ..=>false
 | _=>true
def D.plain:D→Bool
 | .int ..|.bool _|.str _=>true
 | _=>false
mutual
def LT:Sh→List Nat→D→Nat→Prop
 | .slc fs,p,d,n=>∃(tk:Tk) (xs:List D) (ns:List Nat),d=.sl tk xs∧tk.still=true∧(xs=[]∨tk=.lab p)∧ns.length=xs.length∧n=ns.sum∧∀(i:Nat) x m,xs[i]?=some x→ns[i]?=some m→LF fs (p++[i]) 0 x.cells m
def LF:Fs→List Nat→Nat→List D→Nat→Prop
 | .nil,_,_,cs,n=>n=0∧cs=[]
 | .cell r,p,j,cs,n=>∃m k t,cs=.int .i64 m::t∧n=k+1∧LF r p (j+1) t k
 | .flag r,p,j,cs,n=>∃c k t,cs=.bool c::t∧n=k+1∧LF r p (j+1) t k
 | .skip r,p,j,cs,n=>∃c t,cs=c::t∧c.plain=true∧LF r p (j+1) t n
 | .sub s r,p,j,cs,n=>∃d k1 k2 t,cs=d::t∧n=k1+k2∧LT s (p++[j]) d k1∧LF r p (j+1) t k2
end
theorem LF.len:∀(fs:Fs) (p:List Nat) (j:Nat) (cs:List D) (n:Nat),LF fs p j cs n→cs.length=fs.len
 | .nil,_,_,_,_,h=>by unfold LF at h;rw[h.2];rfl
 | .cell r,p,j,cs,n,h=>by
  unfold LF at h
  obtain⟨m,k,t,rfl,_,h⟩:=h
  simp[Fs.len,LF.len r p _ t k h]
 | .flag r,p,j,cs,n,h=>by
  unfold LF at h
  obtain⟨m,k,t,rfl,_,h⟩:=h
  simp[Fs.len,LF.len r p _ t k h]
 | .skip r,p,j,cs,n,h=>by
  unfold LF at h
  obtain⟨c,t,rfl,_,h⟩:=h
  simp[Fs.len,LF.len r p _ t n h]
 | .sub s r,p,j,cs,n,h=>by
  unfold LF at h
  obtain⟨d,k1,k2,t,rfl,_,_,h⟩:=h
  simp[Fs.len,LF.len r p _ t k2 h]


end Go.Lg
/-
  Lg, part 34: functions whose slots hold known values, in a known world (the marks).
-/
namespace Go.Lg
open Go Go.RowKit

section ops
variable {P:Program} {n:Nat} {ops:Array Oper} {l:List Oper} {E:List (Nat×Value)} {w:World} {K:List (Nat×Value)→World→Prop} {t:Nat} {ty:TypeId} {pos:String} {aft:Array Edge}

end ops

inductive MItem where
 | code (c:Code)
 | inBlock (id:Nat)
 | loopEnd (J:List (Nat×Value)→World→Prop)
section ctl
variable {P:Program} {n:Nat} {R:List (Nat×Value)→World→Prop} {k:List MItem} {E:List (Nat×Value)} {w:World}
end ctl

end Go.Lg
/-
  Lg, part 35: what the marking and the checking functions do, and the frame of their proofs.
-/
namespace Go.Lg
open Go Go.RowKit

section steps
variable {lim:Nat→Nat} {w:World}
end steps

end Go.Lg
/-
  Lg, part 36: marks in a statement's own body: a fresh start (what is old stays as it was), the regions that mark, what is known of what was marked.
-/
namespace Go.Lg
open Go Go.RowKit

def B0 (B:Base):Ghost:=⟨B.lim,B.lab,fun _=>none,fun _=>none⟩
def KnI (B:Base) (d:D):Ghost→World→Value→Prop:=fun G w v=>Rel (B0 B) B.w d v∧Mono (B0 B) G B.w w
def KD (B:Base) (d:D):D:=.pred (KnI B d)
def HeldI (s:Sh) (k:Int) (n:Nat):Ghost→World→Value→Prop:=fun G w v=>∃qs,Lv G.lim w s v qs∧qs.length=n∧∀(j:Nat) q,qs[j]?=some q→HvC w q (k+j)
theorem HeldI.mono {s:Sh} {k:Int} {n:Nat} {G G':Ghost} {w w':World} {v:Value} (hm:Mono G G' w w') (h:HeldI s k n G w v):HeldI s k n G' w' v:=by
 obtain⟨qs,h1,h2,h3⟩:=h
 refine⟨qs,Lv.mono (fun b o v h1 h2=>⟨(hm.cell b o v h1 h2).1,.inl (hm.cell b o v h1 h2).2⟩) s v qs h1,h2,fun j q hj=>?_⟩
 obtain⟨v0,e1,e2⟩:=h3 j q hj
 exact⟨v0,e1,(hm.cell _ _ _ (Lv.ints s v qs h1 q (List.mem_of_getElem? hj)).1 e2).2⟩
def HD (s:Sh) (k:Int) (n:Nat):D:=.pred (HeldI s k n)
end Go.Lg
/-
  Lg, part 37: the fresh start of a statement's body, and the regions that mark.
-/
namespace Go.Lg
open Go Go.RowKit

section regions
variable {S:Setup} {B:Base} {R:LS→Prop} {kk:List VItem} {L L':LS} {A M t1 t2 t3 id:Nat} {ty1 ty2 ty3 ty4:TypeId} {p1 p2 p3 p4:String} {a1 a2 a3 a4:Array Edge} {tys:Array TypeId} {f:FuncId} {i n N:Nat} {k:Int}

end regions
end Go.Lg
/-
  Lg, part 38: what was made by 'make' and filled, labelled; labelled lists whose elements bear labels by their place.
-/
namespace Go.Lg
open Go Go.RowKit

def Ghost.frLab (G:Ghost) (g n id:Nat) (l:List Nat):Ghost:=⟨fun b=>if b=g then n else G.lim b,fun b=>if b=g then l else G.lab b,fun i=>if i=id then none else G.β i,G.τ⟩

theorem freezeLab_sim {B:Base} {L:LS} {G:Ghost} {a:Act} {w:World} (h:Sim B L G a w) {t id n s:Nat} {cs xs:List D} {l:List Nat} (ht:look L.env t=some (.ms id n)) (hb:look L.boxes id=some cs) (hx:cs=flat xs) (hn:n=xs.length)
  (hu:∀x∈xs,x.cells.length=s) (hk:∀d∈cs,d.memOk=true) (hl:l≠[]) (hfix:id∉L.fix):∃G',Sim B {L.forget id with env:=setA (L.forget id).env t (.sl (.lab l) xs)} G' a w:=by
 have hW:=h.W
 obtain⟨g,hg,⟨vs,e,e1,e2,e3⟩,hl0,hown⟩:=hW.boxes id cs hb
 obtain⟨v,hv,hr⟩:=h.env t _ ht
 have hlab0:G.lab g=[]:=hW.blab id g hg
 let G':=G.frLab g cs.length id l
 have hmn:Mono G G' w w:=⟨fun b o u h1 h2=>⟨by
  simp only[G',Ghost.frLab]
  split
  ·rename_i hbg;subst hbg;omega
  ·exact h1,h2⟩,fun b hb=>by
  simp only[G',Ghost.frLab]
  split
  ·rename_i e0;subst e0;exact absurd hlab0 hb
  ·rfl,fun _ _ _ h=>h⟩
 have hτg:∀ {k g' e' z},G.τ k=some (some (g',e',z))→g'≠g:=fun {k g' e' z} hk e0=>by
  subst e0
  exact(hW.tau k _ e' z hk).2.2.2 id hg
 have rG:∀ {d u},id∉d.ids→Rel G w d u→Rel G' w d u:=fun {d u} hid hr=>hr.mono hmn (fun i hi g' hg'=>by
  have:i≠id:=fun e0=>hid (e0 ▸ hi)
  simp only[G',Ghost.frLab]
  rw[if_neg this];exact hg') (fun k _=>.inr ⟨rfl,fun g' e' z hk'=>⟨by
   simp only[G',Ghost.frLab]
   rw[if_neg (hτg hk')],rfl⟩⟩)
 have hbox:∀ {g' cs'},id∉D.idsL cs'→BoxAt G w g' cs'→BoxAt G' w g' cs':=fun {g' cs'} hid ⟨vs,e,e1,e2,e3⟩=>⟨vs,e,e1,e2,fun j d v hd hv=>rG (fun hi=>hid (mem_idsL (List.mem_of_getElem? hd) hi)) (e3 j d v hd hv)⟩
 have hcell:∀j,w.cell? ⟨g,j,none⟩=vs[j]?:=fun j=>by simp[World.cell?,e1]
 have hlim:G'.lim g=cs.length:=by simp[G',Ghost.frLab]
 have hlim':∀b,b≠g→G'.lim b=G.lim b:=fun b hb=>by simp[G',Ghost.frLab,hb]
 have hlab':∀b,b≠g→G'.lab b=G.lab b:=fun b hb=>by simp[G',Ghost.frLab,hb]
 have hβ:∀ {i g'},G'.β i=some g'→i≠id∧G.β i=some g':=fun {i g'} hi=>by
  simp only[G',Ghost.frLab] at hi
  split at hi
  ·cases hi
  ·rename_i h0;exact⟨h0,hi⟩
 have hβ':∀ {i g'},i≠id→G.β i=some g'→G'.β i=some g':=fun {i g'} h0 hi=>by
  simp only[G',Ghost.frLab]
  rw[if_neg h0];exact hi
 have memNo:∀ {d:D},d.memOk=true→id∉d.ids:=fun hm=>by rw[memOk_ids hm];simp
 refine⟨G',h.defers,h.size,fun t' d hd=>?_,?_,h.fixed⟩
 ·simp only[look_setA] at hd
  by_cases e0:t=t'
  ·subst e0
   simp only[if_true,Option.some.injEq] at hd
   subst hd
   refine⟨v,hv,?_⟩
   cases hr with
   | @ms _ _ c1 g1 hb' hc' hn' =>
    have e0:g1=g:=Option.some.inj (hb'.symm.trans hg)
    rw[e0]
    refine .sl (b:=g) (o:=0) (s:=s) (by omega) hc' hn' (.inr ⟨g,0,rfl,by simp[G',Ghost.frLab],hl⟩) (.inr rfl) hu (hx ▸ hk) (fun j d hj=>?_) (fun j d u hj hu'=>?_)
    ·rw[←hx] at hj
     have hlt:j<cs.length:=(List.getElem?_eq_some_iff.1 hj).1
     rw[Nat.zero_add,hlim,hcell]
     exact⟨hlt,vs[j]'(by omega),by simp[show j<vs.size by omega]⟩
    ·rw[←hx] at hj
     rw[Nat.zero_add,hcell] at hu'
     exact rG (memNo (hk d (List.mem_of_getElem? hj))) (e3 j d u hj hu')
  ·rw[if_neg e0] at hd
   obtain⟨h1,h2⟩:=look_keepA _ _ _ _ hd
   obtain⟨u,h3,h4⟩:=h.env t' d h1
   exact⟨u,h3,rG (noId_spec h2) h4⟩
 ·exact {
   boxes:=fun i cs' hl'=>by
    simp only[LS.forget,look_eraseK] at hl'
    by_cases e0:id=i
    ·rw[if_pos e0] at hl';cases hl'
    ·rw[if_neg e0] at hl'
     obtain⟨h1,h2⟩:=look_keepA _ _ _ _ hl'
     obtain⟨g',k1,k2,k3,k4⟩:=hW.boxes i cs' h1
     refine⟨g',hβ' (Ne.symm e0) k1,hbox (noIdL_spec h2) k2,?_,k4⟩
     rw[hlim' g' (by rintro rfl;exact e0 (hW.binj _ _ _ hg k1))]
     exact k3
   robs:=fun i cs' hl'=>by
    simp only[LS.forget,look_eraseK] at hl'
    by_cases e0:id=i
    ·rw[if_pos e0] at hl';cases hl'
    ·rw[if_neg e0] at hl'
     obtain⟨h1,h2⟩:=look_keepA _ _ _ _ hl'
     obtain⟨g',k1,k2,k3⟩:=hW.robs i cs' h1
     exact⟨g',hβ' (Ne.symm e0) k1,hbox (noIdL_spec h2) k2,k3⟩
   toks:=hW.toks
   tau:=fun k g' e' z hk'=>by
    obtain⟨h1,h2,⟨cur,h3,h4⟩,h5⟩:=hW.tau k g' e' z hk'
    refine⟨h1,h2,⟨cur,h3,?_⟩,fun i hi=>h5 i (hβ hi).2⟩
    rw[hlim' g' (hτg hk')]
    exact h4
   tinj:=hW.tinj
   binj:=fun i j g' hi hj=>hW.binj i j g' (hβ hi).2 (hβ hj).2
   blt:=fun i g' hi=>hW.blt i g' (hβ hi).2
   lablt:=fun b hb=>by
    by_cases e0:b=g
    ·subst e0;exact hW.blt id _ hg
    ·rw[hlab' b e0] at hb;exact hW.lablt b hb
   old:=fun b hb1 hb2=>by
    refine⟨(hW.old b hb1 hb2).1,?_⟩
    rw[hlim' b]
    ·exact(hW.old b hb1 hb2).2
    ·rintro rfl
     rcases hown with h|h
     ·omega
     ·exact hb2 h
   olda:=fun b hb1=>by
    refine⟨?_,(hW.olda b hb1).2⟩
    have:=(hW.olda b hb1).1
    by_cases hbg:b=g
    ·subst hbg;rw[hl0] at this;omega
    ·rw[hlim' b hbg];exact this
   oldl:=fun b hb1 hb2=>by
    have h0:=hW.oldl b hb1 hb2
    have hbg:b≠g:=fun e0=>by subst e0;rw[hlab0] at h0;exact hb2 h0.symm
    rw[hlab' b hbg];exact h0
   tlab:=fun k g' e' z hk'=>by rw[hlab' g' (hτg hk')];exact hW.tlab k g' e' z hk'
   blab:=fun i g' hi=>by
    obtain⟨h0,hi⟩:=hβ hi
    have hne:g'≠g:=fun e0=>h0 (hW.binj i id g (e0 ▸ hi) hg)
    rw[hlab' g' hne];exact hW.blab i g' hi
   oldu:=fun b hb1 hb2 hb3=>by
    have hbg:b≠g:=fun e0=>by
     subst e0
     rcases hown with h|h
     ·omega
     ·exact hb2 h
    rw[hlab' b hbg];exact hW.oldu b hb1 hb2 hb3
   labw:=fun b hb hor=>by
    by_cases e0:b=g
    ·subst e0;exact⟨vs,e,e1⟩
    ·rw[hlab' b e0] at hb;exact hW.labw b hb hor
   ids:=fun p hp=>hβ' (fun e0=>hfix (e0 ▸ h.fixed p hp)) (hW.ids p hp)
   sz:=hW.sz
   os:=hW.os
   tape:=hW.tape
   out:=hW.out
   dr:=hW.dr}

section
variable {S:Setup} {B:Base} {R:LS→Prop} {k:List VItem} {L:LS}
end

def mapR {α:Type} [Inhabited α] (g:Nat→α→D) (xs:List α):List D:=(List.range xs.length).map fun j=>g j (xs.getD j default)
theorem mapR_length {α:Type} [Inhabited α] (g:Nat→α→D) (xs:List α):(mapR g xs).length=xs.length:=by simp[mapR]
theorem mapR_get {α:Type} [Inhabited α] {g:Nat→α→D} {xs:List α} {i:Nat} {d:D} (h:(mapR g xs)[i]?=some d):∃x,xs[i]?=some x∧d=g i x:=by
 unfold mapR at h
 rw[List.getElem?_map] at h
 by_cases hi:i<xs.length
 ·rw[List.getElem?_range hi] at h
  refine⟨xs[i],List.getElem?_eq_getElem hi,?_⟩
  simpa[List.getD,List.getElem?_eq_getElem hi] using h.symm
 ·rw[List.getElem?_eq_none (by simpa using hi)] at h
  cases h
theorem leL_append:∀ {a b c d:List D},leL a b→leL c d→leL (a++c) (b++d)
 | [],[],_,_,_,h=>h
 | _::_,_::_,_,_,h1,h2=>⟨h1.1,leL_append h1.2 h2⟩
 | [],_::_,_,_,h,_=>h.elim
 | _::_,[],_,_,h,_=>h.elim
theorem leL_flat:∀ {xs ys:List D},xs.length=ys.length→(∀(i:Nat) x y,xs[i]?=some x→ys[i]?=some y→leL x.cells y.cells)→leL (flat xs) (flat ys)
 | [],[],_,_=>trivial
 | x::xs,y::ys,hl,h=>by
  rw[flat_cons,flat_cons]
  exact leL_append (h 0 x y rfl rfl) (leL_flat (by simpa using hl) fun i a b ha hb=>h (i+1) a b (by simpa using ha) (by simpa using hb))
 | [],_::_,hl,_=>by simp at hl
 | _::_,[],hl,_=>by simp at hl
theorem le_mapR {α:Type} [Inhabited α] {g:Nat→α→D} {e:α→D} {tk:Tk} (xs:List α) (h:∀j x,leL (g j x).cells (e x).cells):D.le (.sl tk (mapR g xs)) (.sl .any (xs.map e)):=by
 have hlen:(mapR g xs).length=(xs.map e).length:=by rw[mapR_length,List.length_map]
 have hel:∀(i:Nat) a b,(mapR g xs)[i]?=some a→(xs.map e)[i]?=some b→leL a.cells b.cells:=fun i a b ha hb=>by
  obtain⟨x,hx,rfl⟩:=mapR_get ha
  rw[List.getElem?_map,hx] at hb
  obtain rfl:=Option.some.inj hb
  exact h i x
 have hfl:=leL_flat hlen hel
 refine .deep ?_ (leL_len hfl) fun j c d hc hd=>?_
 ·refine List.ext_getElem? fun i=>?_
  rw[List.getElem?_map,List.getElem?_map]
  cases ha:(mapR g xs)[i]? with
  | none =>
   have:xs.length≤i:=by rw[←mapR_length g xs];exact List.getElem?_eq_none_iff.1 ha
   rw[List.getElem?_eq_none (by simpa using this)]
  | some a =>
   have hi:i<(xs.map e).length:=by rw[←hlen];exact(List.getElem?_eq_some_iff.1 ha).1
   have hb:=List.getElem?_eq_getElem hi
   rw[hb]
   simp only[Option.map_some]
   rw[leL_len (hel i a _ ha hb)]
 ·obtain⟨a,ha,hle⟩:=leL_get hfl j d hd
  rw[hc] at ha
  obtain rfl:=Option.some.inj ha
  exact hle
def upR {α:Type} [Inhabited α] (g:Nat→α→D) (xs:List α) (i:Nat):List D:=(List.range i).map fun j=>g j (xs.getD j default)
theorem upR_length {α:Type} [Inhabited α] (g:Nat→α→D) (xs:List α) (i:Nat):(upR g xs i).length=i:=by simp[upR]
theorem upR_succ {α:Type} [Inhabited α] (g:Nat→α→D) (xs:List α) (i:Nat):upR g xs (i+1)=upR g xs i++[g i (xs.getD i default)]:=by
 simp[upR,List.range_succ]
theorem upR_all {α:Type} [Inhabited α] (g:Nat→α→D) (xs:List α):upR g xs xs.length=mapR g xs:=rfl
theorem upR_mem {α:Type} [Inhabited α] {g:Nat→α→D} {xs:List α} {i:Nat} {P:D→Prop} (h:∀j x,P (g j x)):∀d∈upR g xs i,P d:=fun d hd=>by
 obtain⟨j,_,rfl⟩:=List.mem_map.1 hd
 exact h j _
theorem mapR_getDm {α:Type} [Inhabited α] {g:Nat→α→D} {xs:List α} {i:Nat} (h:Om (i<xs.length)):(mapR g xs).getD i default=g i (xs.getD i default):=by
 have h:i<xs.length:=h.out
 unfold mapR
 simp only[List.getD,List.getElem?_map,List.getElem?_range h,Option.map_some,Option.getD_some]
end Go.Lg
/-
  Lg, part 39: the marking regions, the state behind them reckoned.
-/
namespace Go.Lg
open Go Go.RowKit

section regions
variable {S:Setup} {B:Base} {R:LS→Prop} {kk:List VItem} {L:LS} {A M t1 t2 t3 id:Nat} {ty1 ty2 ty3 ty4:TypeId} {p1 p2 p3 p4:String} {a1 a2 a3 a4:Array Edge} {tys:Array TypeId} {f:FuncId} {i n N:Nat} {k:Int}

end regions
section
variable (B:Base) (d:D) (s:Sh) (k:Int) (n:Nat)
theorem KD_ids:(KD B d).ids=[]:=rfl
theorem KD_tks:(KD B d).tks=[]:=rfl
theorem KD_cells:(KD B d).cells=[KD B d]:=rfl
theorem KD_pu1 (p:Nat→Bool):D.pu1 p (KD B d)=KD B d:=rfl
theorem KD_pu (p:Nat→Bool):D.pu p (KD B d)=KD B d:=rfl
theorem KD_shT (o:Nat):D.shT o (KD B d)=KD B d:=rfl
theorem HD_ids:(HD s k n).ids=[]:=rfl
theorem HD_tks:(HD s k n).tks=[]:=rfl
theorem HD_cells:(HD s k n).cells=[HD s k n]:=rfl
theorem HD_pu1 (p:Nat→Bool):D.pu1 p (HD s k n)=HD s k n:=rfl
theorem HD_pu (p:Nat→Bool):D.pu p (HD s k n)=HD s k n:=rfl
theorem HD_shT (o:Nat):D.shT o (HD s k n)=HD s k n:=rfl
end
attribute [go_sem] KD_ids KD_tks KD_cells KD_pu1 KD_pu KD_shT HD_ids HD_tks HD_cells HD_pu1 HD_pu HD_shT
theorem sw_tokBox {S:Setup} {B:Base} {R:LS→Prop} {kk:List VItem} {L:LS} (id j k:Nat) (e:TypeId) (z:Nat) {cs:List D} (hb:look (L.purge (fun x=>x==k)).boxes id=some cs) (hj:cs[j]?=some (.sl .nil [])) (hc:(L.purge (fun x=>x==k)).clean (fun x=>x==k)=true)
  (h:SW S B R kk {L.purge (fun x=>x==k) with boxes:=setA (L.purge (fun x=>x==k)).boxes id (cs.set j (.sl (.own k e z) [])),toks:=k::L.toks}):SW S B R kk L:=fun G a w hs=>by
 have hp:=purge_sim hs (fun x=>x==k)
 have hstep:TokStep B G (G.setTok k (some none)) w w k:={
  mono:=⟨fun _ _ _ h1 h2=>⟨h1,h2⟩,fun _ _=>rfl,fun _ _ _ h=>h⟩
  beta:=rfl,lab:=rfl,sz:=Nat.le_refl _,os:=rfl,tape:=rfl,out:=rfl,dr:=by first|exact Nat.le_refl _|exact Nat.le_succ _|exact .inr (Nat.le_refl _)|exact .inr (Nat.le_succ _)
  tau:=fun k' hk'=>.inr ⟨by simp[Ghost.setTok,hk'],fun _ _ _ _=>⟨rfl,rfl⟩⟩
  block:=fun _ _=>.inl ⟨rfl,rfl⟩
  new:=fun g e' z' hg=>by simp[Ghost.setTok] at hg
  live:=by simp[Ghost.setTok]}
 have hsim:=tokStep_sim hp hstep hc (tk:=k::L.toks) (fun k' hk'=>by
  by_cases e:k'=k
  ·exact .inl e
  ·rcases List.mem_cons.1 hk' with h|h
   ·exact absurd h e
   ·exact .inr ⟨by simp[Ghost.setTok,e],h⟩)
 refine h _ a w ⟨hsim.defers,hsim.size,hsim.env,{hsim.W with boxes:=fun i c hi=>?_},hsim.fixed⟩
 simp only[look_setA] at hi
 by_cases e0:id=i
 ·subst e0
  simp only[if_true,Option.some.injEq] at hi
  subst hi
  obtain⟨g,q1,⟨vs,e',e1,e2,e3⟩,q3⟩:=hsim.W.boxes id cs hb
  refine⟨g,q1,⟨vs,e',e1,by simpa using e2,fun j' d v hd hv=>?_⟩,q3⟩
  by_cases hjj:j=j'
  ·subst hjj
   rw[List.getElem?_set_self (List.getElem?_eq_some_iff.1 hj).1] at hd
   obtain rfl:=Option.some.inj hd
   have hr:=e3 j _ v hj hv
   cases hr with
   | @sl _ _ A n c b o s hn hcc hm ht' hA hu hk hst hr =>
    exact .sl (b:=0) (o:=0) (s:=0) hn hcc hm (by simp only[TkOk,Ghost.setTok,if_true];exact⟨ht'.2.1,ht'.2.2⟩) (.inl rfl) (by simp) (by simp[flat]) (by simp[flat]) (by simp[flat])
  ·rw[List.getElem?_set_ne hjj] at hd
   exact e3 j' d v hd hv
 ·rw[if_neg e0] at hi
  exact hsim.W.boxes i c hi
end Go.Lg
/-
  Lg: a call that wants tokens for empty lists takes fresh empty lists.
-/
namespace Go.Lg
open Go Go.RowKit
variable {S:Setup}
theorem baseOf_emp (G:Ghost) (w:World) (bx:List (Nat×List D)) (tk:List Nat) (k:Nat) (hk:k∉tk):baseOf (G.setTok k (some none)) w bx (k::tk)=baseOf G w bx tk:=by
 unfold baseOf
 congr 1
 funext b
 refine propext ⟨?_,?_⟩
 ·rintro (h|⟨k',h1,e,z,h2⟩)
  ·exact .inl h
  ·refine .inr ⟨k',?_,e,z,?_⟩
   ·rcases List.mem_cons.1 h1 with rfl|h1
    ·simp[Ghost.setTok] at h2
    ·exact h1
   ·rcases List.mem_cons.1 h1 with rfl|h1
    ·simp[Ghost.setTok] at h2
    ·have:k'≠k:=fun e=>hk (e ▸ h1)
     simpa[Ghost.setTok,this] using h2
 ·rintro (h|⟨k',h1,e,z,h2⟩)
  ·exact .inl h
  ·have:k'≠k:=fun e=>hk (e ▸ h1)
   exact .inr ⟨k',List.mem_cons_of_mem _ h1,e,z,by simpa[Ghost.setTok,this] using h2⟩
theorem FC.emp {f:FuncId} {ro bx bx':List (Nat×List D)} {tk tk':List Nat} {args args':List D} {d:D} (i k:Nat) (e:TypeId) (z:Nat) {t:Tk} (h:FC S f ro bx (k::tk) args' d bx' tk')
  (hl:args'.length=args.length) (ht:look (enumD 0 args) i=some (.sl t [])) (htk:t=.nil∨t=.full) (hk:k∉tk) (hc:(LS.mk args.length (enumD 0 args) bx ro tk (bx.map (·.1))).clean (fun x=>x==k)=true)
  (he:enumD 0 args'=setA (enumD 0 args) i (.sl (.own k e z) [])):FC S f ro bx tk args d bx' tk':=⟨h.1,fun w G vals hs=>by
 obtain⟨v,hv,hr⟩:=hs.env i _ ht
 have hstep:TokStep (baseOf G w bx tk) G (G.setTok k (some none)) w w k:={
  mono:=⟨fun _ _ _ h1 h2=>⟨h1,h2⟩,fun _ _=>rfl,fun _ _ _ h=>h⟩
  beta:=rfl,lab:=rfl,sz:=Nat.le_refl _,os:=rfl,tape:=rfl,out:=rfl,dr:=by first|exact Nat.le_refl _|exact Nat.le_succ _|exact .inr (Nat.le_refl _)|exact .inr (Nat.le_succ _)
  tau:=fun k' hk'=>.inr ⟨by simp[Ghost.setTok,hk'],fun _ _ _ _=>⟨rfl,rfl⟩⟩
  block:=fun _ _=>.inl ⟨rfl,rfl⟩
  new:=fun g e' z' hg=>by simp[Ghost.setTok] at hg
  live:=by simp[Ghost.setTok]}
 have hsim:=tokStep_sim hs hstep hc (tk:=k::tk) (fun k' hk'=>by
  by_cases e:k'=k
  ·exact .inl e
  ·rcases List.mem_cons.1 hk' with h|h
   ·exact absurd h e
   ·exact .inr ⟨by simp[Ghost.setTok,e],h⟩)
 have h2:=h.2 w (G.setTok k (some none)) vals
 rw[baseOf_emp G w bx tk k hk,hl,he] at h2
 refine h2 (env_set hsim hv ?_)
 cases hr with
 | @sl _ _ A n c b o s hn hcc hm ht' hA hu hk hst hr =>
  have h0:n=0:=hn
  have hc0:c=0:=by
   rcases htk with rfl|rfl
   ·exact ht'.2.2
   ·have:n=c:=ht'
    omega
  exact .sl (b:=0) (o:=0) (s:=0) hn hcc hm (by simp only[TkOk,Ghost.setTok,if_true];exact⟨h0,hc0⟩) (.inl rfl) (by simp) (by simp[flat]) (by simp[flat]) (by simp[flat])⟩
end Go.Lg
/-
  Lg: a region that draws its order, of which the first operation, a plain reading of a slot, may stand anywhere ahead of the last part; one operation of any kind in the middle.
-/
namespace Go.Lg
open Go Go.RowKit
section
variable {S:Setup} {md:Region.Mode} {ops:Array Oper} {bx:Nat→Option (List D)} {n m h0:Nat}
end
theorem wpAny_monoQ {P:Program} {md:Region.Mode} {ops:Array Oper} {Q Q':Exit→Act→World→Prop} (h:∀e a w,Q e a w→Q' e a w):∀(f:Nat) (listed:Array Bool) (a:Act) (w:World),wpAny P md ops Q f listed a w→wpAny P md ops Q' f listed a w
 | 0,_,_,_,hh=>⟨hh.1,h _ _ _ hh.2⟩
 | f+1,_,a,w,hh=>⟨fun e=>h _ _ _ (hh.1 e),fun i hi=>by
  have h1:=wpOp_mono (fun a w=>wpAny_monoQ h f _ a w) (hh.2 i hi)
  unfold wpOp at h1 ⊢
  split at h1
  ·exact h1
  ·split at h1
   ·rename_i hw
    rw[if_pos hw]
    rcases h1 with h1|⟨h1,a,w,h2⟩
    ·exact .inl (Oper.wp_congrQ (fun e a w _ hq=>h e a w hq) h1)
    ·exact .inr ⟨h1,a,w,h _ _ _ h2⟩
   ·rename_i hw
    rw[if_neg hw]
    exact h1⟩
end Go.Lg
/-
  Lg: a list literal that is going to be appended to, or is a result: it is given a token where it is made.
-/
namespace Go.Lg
open Go Go.RowKit
def thenQ (P:Program) (ops:Array Oper) (Q:Exit→Act→World→Prop) (l2:List Oper):Exit→Act→World→Prop
 | .normal,a,w=>wpList P ops Q l2 a w
 | e,a,w=>Q e a w
theorem thenQ_wp {P:Program} {ops:Array Oper} {Q:Exit→Act→World→Prop} {l2:List Oper} {o:Oper} {a:Act} {w:World} {K K':Act→World→Prop} (h:∀a w,K a w→K' a w)
  (hh:o.wp P a w K (thenQ P ops Q l2)):o.wp P a w K' Q:=by
 unfold Oper.wp at *
 generalize (execOp a.eval o).run P w=r at *
 cases r with
 | ok n w' =>
  cases n<;>simp only[Oper.upon] at hh ⊢ <;>
   first
    | exact h _ _ hh
    | exact hh
    | (refine hh.mono fun e w2 h2=>?_;revert h2;cases e<;>first|exact fun h2=>h _ _ h2|exact fun h2=>h2)
    | (refine hh.mono fun v w2 h2=>h _ _ h2)
 | halt x w'=>cases x<;>simp only[Oper.upon] at hh ⊢<;>exact hh
theorem wpList_app {P:Program} {ops:Array Oper} {Q:Exit→Act→World→Prop} {l2:List Oper}:∀(l1:List Oper) (a:Act) (w:World),wpList P ops (thenQ P ops Q l2) l1 a w→wpList P ops Q (l1++l2) a w
 | [],a,w,h=>h
 | o::l1,a,w,h=>by
  unfold wpList at h
  rw[List.cons_append]
  unfold wpList
  split at h
  ·rename_i hw
   rw[if_pos hw]
   rcases h with h|⟨h1,h2⟩
   ·exact .inl (thenQ_wp (fun a w h=>wpList_app l1 a w h) h)
   ·exact .inr ⟨h1,h2⟩
  ·rename_i hw
   rw[if_neg hw]
   exact wpList_app l1 _ _ h
theorem LopsW.app {S:Setup} {B:Base} {ops:Array Oper} {l l2:List Oper} {L:LS} {N M:LS→Prop} (h:LopsW S B ops l L N) (hN:∀L',N L'→LopsW S B ops l2 L' M):LopsW S B ops (l++l2) L M:=fun G a w hs Q hQ =>
 wpList_app l a w (h G a w hs (thenQ S.P ops Q l2) fun L' G' a' w' h1 h2=>hN L' h1 G' a' w' h2 Q hQ)
theorem runL_sound2 {S:Setup} {base:Nat} {B:Base} {ops:Array Oper} {l2:List Oper} {K:LS→Prop} {K':List Oper→LS→Prop} (hK:∀l L,K' l L→LopsW S B ops (l++l2) L K):∀(l:List Oper) (L:LS),runL S base ops K' l L→LopsW S B ops (l++l2) L K
 | [],L,h=>hK [] L h
 | ⟨dst,op,ty,pos,aft,g⟩::l,L,h=>by
  unfold runL at h
  split at h
  ·exact hK _ L h
  ·split at h
   ·rename_i hg
    intro G a w hs Q hQ
    refine wpList_step fun N hN=>?_
    rw[if_pos (guardY_sound (S:=S) rfl hs (o:=⟨dst,op,ty,pos,aft,g⟩) hg)]
    exact Oper.wp_mono (fun a' w' h'=>hN a' w' h') (stepY_mono h (fun L' h'=>runL_sound2 hK l L' h') G a w hs Q hQ)
   ·rename_i hg
    exact LopsW.skip (o:=⟨dst,op,ty,pos,aft,g⟩) hg h.1 (runL_sound2 hK l _ h.2)
   ·exact hK _ L h
end Go.Lg
/-
  Lg: slices.SortFunc of a list of lists in a box, out of the kit's contract and a contract of the comparing function.
-/
namespace Go.Lg
open Go Go.RowKit
theorem world_grown {w w':World} (hsz:w.heap.size≤w'.heap.size) (hdr:w.drawn≤w'.drawn) (hold:∀b,b<w.heap.size→w'.heap[b]?=w.heap[b]?) (hos:w'.os=w.os) (htape:w'.tape=w.tape) (hout:w'.output=w.output) :
  ∃q os',w'=Go.Sort.grow (w.drewN q) os':=by
 refine⟨w'.drawn-w.drawn,w'.heap.extract w.heap.size w'.heap.size,?_⟩
 have hheap:w'.heap=w.heap++w'.heap.extract w.heap.size w'.heap.size:=by
  refine Array.ext_getElem? fun k=>?_
  by_cases hk:k<w.heap.size
  ·rw[Array.getElem?_append_left hk,hold k hk]
  ·rw[Array.getElem?_append_right (by omega)]
   by_cases hk':k<w'.heap.size
   ·rw[Array.getElem?_extract]
    simp only[show w.heap.size+(k-w.heap.size)=k by omega]
    rw[if_pos (by omega)]
   ·rw[Array.getElem?_eq_none (by omega),Array.getElem?_eq_none (by simp;omega)]
 obtain⟨h1,h2,h3,h4,h5⟩:=w'
 obtain⟨k1,k2,k3,k4,k5⟩:=w
 simp only at hdr hos htape hout hheap
 unfold Go.Sort.grow World.drewN
 simp only
 subst hos;subst htape;subst hout
 congr 1
 omega
theorem sim_grown {G0:Ghost} {w w':World} {L':LS} {G':Ghost} {a':Act} (h:Sim (baseOf G0 w [] []) L' G' a' w'):∃q os',w'=Go.Sort.grow (w.drewN q) os':=by
 have hW:=h.W
 refine world_grown hW.sz (hW.dr.resolve_left (fun h=>h)) (fun b hb=>(hW.old b hb ?_).1) hW.os hW.tape hW.out
 rintro (⟨p,hp,_⟩|⟨k,hk,_⟩)
 ·cases hp
 ·cases hk
structure GOk (G:Ghost) (w:World):Prop where
 binj:∀i j g,G.β i=some g→G.β j=some g→i=j
 blt:∀i g,G.β i=some g→g<w.heap.size
 lablt:∀b,G.lab b≠[]→b<w.heap.size
 blab:∀i g,G.β i=some g→G.lab g=[]
theorem fc_pure {S:Setup} {f:FuncId} {ds:List D} {d:D} (fc:FC S f [] [] [] ds d [] []) {G:Ghost} {w:World} (hG:GOk G w) {vals:Array Value} (hv:vals.size=ds.length) (hr:∀(j:Nat) d v,ds[j]?=some d→vals[j]?=some v→Rel G w d v) :
  Calls S.P f vals w fun e w'=>∃v G',e=.returned v∧Rel G' w' d v∧∃q os',w'=Go.Sort.grow (w.drewN q) os':=by
 let G1:Ghost:={G with τ:=fun _=>none}
 have hm1:Mono G G1 w w:=⟨fun _ _ _ h1 h2=>⟨h1,h2⟩,fun _ _=>rfl,fun _ _ _ h=>h⟩
 have r1:∀ {d v},Rel G w d v→Rel G1 w d v:=fun hr=>hr.mono hm1 (fun _ _ _ h=>h) (fun _ _=>.inl rfl)
 have hstart:Sim (baseOf G1 w [] []) ⟨ds.length,enumD 0 ds,[],[],[],[]⟩ G1 ⟨vals,[]⟩ w:=by
  refine⟨rfl,hv,fun t d hd=>?_,?_,fun p hp=>by cases hp⟩
  ·rw[look_enumD] at hd
   simp only[Nat.zero_le,if_true,Nat.sub_zero] at hd
   have hlt:t<vals.size:=by rw[hv];exact(List.getElem?_eq_some_iff.1 hd).1
   exact⟨vals[t],by simp[hlt],r1 (hr t d _ hd (by simp[hlt]))⟩
  ·exact {
    boxes:=fun id cs hl=>by cases hl
    robs:=fun id cs hl=>by cases hl
    toks:=fun k hk=>by cases hk
    tau:=fun k g e z hk=>by cases hk
    tinj:=fun k k' g e z e' z' hk=>by cases hk
    binj:=hG.binj
    blt:=hG.blt
    lablt:=hG.lablt
    old:=fun _ _ _=>⟨rfl,rfl⟩
    olda:=fun _ _=>⟨Nat.le_refl _,fun _ _ _ h=>h⟩
    oldl:=fun _ _ _=>rfl
    tlab:=fun k g e z hk=>by cases hk
    blab:=hG.blab
    oldu:=fun _ _ _ h=>h
    labw:=fun b hb hor=>by
     rcases hor with hor|(⟨p,hp,_⟩|⟨k,hk,_⟩)
     ·exact absurd (hG.lablt b hb) (Nat.not_lt.2 hor)
     ·cases hp
     ·cases hk
    ids:=fun p hp=>by cases hp
    sz:=Nat.le_refl _
    os:=rfl
    tape:=rfl
    out:=rfl
    dr:=.inr (Nat.le_refl _)}
 refine(fc.2 w G1 vals hstart).mono ?_
 rintro e w' ⟨v,G',he,hend⟩
 obtain⟨v',h1,h2⟩:=hend.env 0 d (by simp[look])
 obtain rfl:v=v':=by simpa using h1
 exact⟨v,G',he,h2,sim_grown hend⟩
end Go.Lg
/-
  Lg: labels of new lists are given anew (a sort has put the lists into another order); bodies whose base is known to bear no label with a given head.
-/
namespace Go.Lg
open Go Go.RowKit
mutual
def D.rl (f:List Nat→List Nat):D→D
 | .sl (.lab l) xs=>.sl (.lab (f l)) (D.rlL f xs)
 | .sl tk xs=>.sl tk (D.rlL f xs)
 | .agg cs=>.agg (D.rlL f cs)
 | .tup cs=>.tup (D.rlL f cs)
 | .imm cs=>.imm (D.rlL f cs)
 | .fn g cs=>.fn g (D.rlL f cs)
 | d=>d
def D.rlL (f:List Nat→List Nat):List D→List D
 | []=>[]
 | d::ds=>d.rl f::D.rlL f ds
end
mutual
def D.noP:D→Bool
 | .pred _=>false
 | .sl _ xs|.agg xs|.tup xs|.imm xs|.fn _ xs=>D.noPL xs
 | _=>true
def D.noPL:List D→Bool
 | []=>true
 | d::ds=>d.noP&&D.noPL ds
end
theorem rlL_map (f:List Nat→List Nat) (ds:List D):D.rlL f ds=ds.map (D.rl f):=by
 induction ds with
 | nil=>rfl
 | cons d r ih=>simp[D.rlL,ih]
theorem noPL_mem {ds:List D} (h:D.noPL ds=true) {d:D} (hd:d∈ds):d.noP=true:=by
 induction ds with
 | nil=>cases hd
 | cons x r ih =>
  simp only[D.noPL,Bool.and_eq_true] at h
  rcases List.mem_cons.1 hd with rfl|hd
  ·exact h.1
  ·exact ih h.2 hd
theorem noPL_of {ds:List D} (h:∀d∈ds,d.noP=true):D.noPL ds=true:=by
 induction ds with
 | nil=>rfl
 | cons x r ih=>simp only[D.noPL,Bool.and_eq_true];exact⟨h x List.mem_cons_self,ih fun d hd=>h d (List.mem_cons_of_mem _ hd)⟩
theorem rl_cells (f:List Nat→List Nat) (d:D):(d.rl f).cells=d.cells.map (D.rl f):=by
 cases d with
 | agg cs=>simp[D.rl,D.cells,rlL_map]
 | sl tk xs=>cases tk<;>simp[D.rl,D.cells]
 | _=>simp[D.rl,D.cells]
theorem rl_flat (f:List Nat→List Nat) (xs:List D):flat (D.rlL f xs)=(flat xs).map (D.rl f):=by
 induction xs with
 | nil=>rfl
 | cons d r ih=>simp[flat,D.rlL,rl_cells] at ih ⊢;exact ih
theorem rl_memOk (f:List Nat→List Nat) {d:D} (h:d.memOk=true):(d.rl f).memOk=true:=by
 cases d with
 | sl tk xs=>cases tk<;>first|rfl|(simp[D.memOk] at h)
 | fn g cap =>
  obtain rfl:cap=[]:=by simpa[D.memOk] using h
  rfl
 | _=>exact h
theorem noP_cells {x:D} (h:x.noP=true):∀d∈x.cells,d.noP=true:=by
 cases x with
 | agg cs=>exact fun d hd=>noPL_mem (ds:=cs) (by simpa[D.noP] using h) hd
 | _=>intro d hd;rw[show d=_ from List.mem_singleton.1 hd];exact h
theorem noP_flat {xs:List D} (h:D.noPL xs=true):∀d∈flat xs,d.noP=true:=fun d hd=>by
 obtain⟨x,hx,hd⟩:=List.mem_flatMap.1 hd
 exact noP_cells (noPL_mem h hx) d hd
theorem rl_rel {f:List Nat→List Nat} (hf:∀l,l≠[]→f l≠[]) {G:Ghost} {w:World} {d:D} {v:Value} (h:Rel G w d v):d.noP=true→Rel {G with lab:=fun b=>f (G.lab b)} w (d.rl f) v:=by
 have hj:∀ {ds:List D} {j:Nat} {d:D},(D.rlL f ds)[j]?=some d→∃d0,ds[j]?=some d0∧d=d0.rl f:=fun {ds j d} h=>by
  rw[rlL_map,List.getElem?_map] at h
  obtain⟨d0,h1,h2⟩:=Option.map_eq_some_iff.1 h
  exact⟨d0,h1,h2.symm⟩
 induction h with
 | int=>exact fun _=>.int
 | bool=>exact fun _=>.bool
 | str=>exact fun _=>.str
 | box hb=>exact fun _=>.box hb
 | ms hb hc hn=>exact fun _=>.ms hb hc hn
 | vw hb hc hn=>exact fun _=>.vw hb hc hn
 | raw h=>exact fun _=>.raw h
 | pred=>intro h;simp[D.noP] at h
 | agg hlen hr ih =>
  intro h
  refine .agg (by rw[rlL_map,List.length_map];exact hlen) fun j d v h1 hv=>?_
  obtain⟨d0,h2,rfl⟩:=hj h1
  exact ih j d0 v h2 hv (noPL_mem (by simpa[D.noP] using h) (List.mem_of_getElem? h2))
 | tup hlen hr ih =>
  intro h
  refine .tup (by rw[rlL_map,List.length_map];exact hlen) fun j d v h1 hv=>?_
  obtain⟨d0,h2,rfl⟩:=hj h1
  exact ih j d0 v h2 hv (noPL_mem (by simpa[D.noP] using h) (List.mem_of_getElem? h2))
 | fn hlen hr ih =>
  intro h
  refine .fn (by rw[rlL_map,List.length_map];exact hlen) fun j d v h1 hv=>?_
  obtain⟨d0,h2,rfl⟩:=hj h1
  exact ih j d0 v h2 hv (noPL_mem (by simpa[D.noP] using h) (List.mem_of_getElem? h2))
 | @imm cs b o hk hst hr ih =>
  intro h
  refine .imm (b:=b) (o:=o) (fun d hd=>?_) (fun j d h1=>?_) (fun j d v h1 hv=>?_)
  ·rw[rlL_map] at hd
   obtain⟨d0,h1,rfl⟩:=List.mem_map.1 hd
   exact rl_memOk f (hk d0 h1)
  ·obtain⟨d0,h2,rfl⟩:=hj h1
   exact hst j d0 h2
  ·obtain⟨d0,h2,rfl⟩:=hj h1
   exact ih j d0 v h2 hv (noPL_mem (by simpa[D.noP] using h) (List.mem_of_getElem? h2))
 | @sl tk0 xs A n c b o s hn hc hm ht hA hu hk hst hr ih =>
  intro h
  have hP:D.noPL xs=true:=by simpa[D.noP] using h
  have hnil:xs=[]→D.rlL f xs=[]:=fun e=>by rw[e];rfl
  have hlen:(D.rlL f xs).length=xs.length:=by rw[rlL_map,List.length_map]
  have key:∀tk1,TkOk {G with lab:=fun b=>f (G.lab b)} w tk1 (D.rlL f xs) A n c→Rel {G with lab:=fun b=>f (G.lab b)} w (.sl tk1 (D.rlL f xs)) (.slice A n c):=fun tk1 ht1=>by
   refine .sl (b:=b) (o:=o) (s:=s) (hn.trans hlen.symm) hc hm ht1 (hA.imp hnil id) (fun x hx=>?_) (fun d hd=>?_) (fun j d h1=>?_) (fun j d v h1 hv=>?_)
   ·rw[rlL_map] at hx
    obtain⟨x0,h1,rfl⟩:=List.mem_map.1 hx
    rw[rl_cells,List.length_map];exact hu x0 h1
   ·rw[rl_flat] at hd
    obtain⟨d0,h1,rfl⟩:=List.mem_map.1 hd
    exact rl_memOk f (hk d0 h1)
   ·rw[rl_flat,List.getElem?_map] at h1
    obtain⟨d0,h2,rfl⟩:=Option.map_eq_some_iff.1 h1
    exact hst j d0 h2
   ·rw[rl_flat,List.getElem?_map] at h1
    obtain⟨d0,h2,rfl⟩:=Option.map_eq_some_iff.1 h1
    exact ih j d0 v h2 hv (noP_flat hP d0 (List.mem_of_getElem? h2))
  cases tk0 with
  | lab l =>
   refine key (.lab (f l)) ?_
   rcases ht with ht|⟨g,o',e1,e2,e3⟩
   ·exact .inl (hnil ht)
   ·exact .inr ⟨g,o',e1,by show f (G.lab g)=f l;rw[e2],hf l e3⟩
  | own k e z =>
   refine key (.own k e z) ?_
   simp only[TkOk] at ht ⊢
   generalize G.τ k=x at *
   match x,ht with
   | none,_=>exact trivial
   | some none,ht=>exact ht
   | some (some (g,e',z')),ht =>
    obtain⟨e1,e2,e3,e4,e5⟩:=ht
    refine⟨e1,e2,e3,e4,fun x hx=>?_⟩
    rw[rlL_map] at hx
    obtain⟨x0,h1,rfl⟩:=List.mem_map.1 hx
    rw[rl_cells,List.length_map];exact e5 x0 h1
  | que k e =>
   refine key (.que k e) ?_
   simp only[TkOk] at ht ⊢
   generalize G.τ k=x at *
   match x,ht with
   | none,_=>exact trivial
   | some none,ht=>exact ht
   | some (some (g,e',z')),ht =>
    obtain⟨e1,h0|⟨o1,e2,e3,e4,e5⟩⟩:=ht
    ·exact⟨e1,.inl h0⟩
    refine⟨e1,.inr ⟨o1,e2,e3,e4,fun x hx=>?_⟩⟩
    rw[rlL_map] at hx
    obtain⟨x0,h1,rfl⟩:=List.mem_map.1 hx
    rw[rl_cells,List.length_map];exact e5 x0 h1
  | any=>exact key .any ht
  | nil=>exact key .nil ht
  | nl=>exact key .nl ht
  | nn=>exact key .nn ht
  | full=>exact key .full ht
def Base.off (B:Base) (N:Nat):Prop:=(∀b,¬B.ab b)∧∀b l,B.lab b≠N::l
theorem relab_sim {B:Base} {N:Nat} (hB:B.off N) {f:List Nat→List Nat} (hf:∀l,l≠[]→f l≠[]) (hfN:∀l,(∀r,l≠N::r)→f l=l) {L:LS} {G:Ghost} {a:Act} {w:World} (hs:Sim B L G a w)
  (env':List (Nat×D)) (bx':List (Nat×List D)) (henv:∀p∈env',∃d,look L.env p.1=some d∧d.noP=true∧p.2=d.rl f) (hbx:∀p∈bx',∃cs,look L.boxes p.1=some cs∧D.noPL cs=true∧p.2=D.rlL f cs) :
  ∃G',Sim B ⟨L.n,env',bx',[],L.toks,L.fix⟩ G' a w:=by
 have hW:=hs.W
 have h0:f []=[]:=hfN [] fun r e=>by cases e
 have hne:∀ {l},f l≠[]→l≠[]:=fun h e=>h (by rw[e,h0])
 refine⟨{G with lab:=fun b=>f (G.lab b)},hs.defers,hs.size,fun t d hd=>?_,?_,hs.fixed⟩
 ·obtain⟨d0,h1,h2,h3⟩:=henv _ (mem_of_look hd)
  simp only at h3
  subst h3
  obtain⟨v,h4,h5⟩:=hs.env t d0 h1
  exact⟨v,h4,rl_rel hf h5 h2⟩
 ·exact {
   boxes:=fun id cs hl=>by
    obtain⟨cs0,h1,h2,h3⟩:=hbx _ (mem_of_look hl)
    simp only at h3
    subst h3
    obtain⟨g,k1,⟨vs,e,e1,e2,e3⟩,k3,k4⟩:=hW.boxes id cs0 h1
    refine⟨g,k1,⟨vs,e,e1,by rw[rlL_map,List.length_map];exact e2,fun j d v hd hv=>?_⟩,k3,k4⟩
    rw[rlL_map,List.getElem?_map] at hd
    obtain⟨d0,h4,rfl⟩:=Option.map_eq_some_iff.1 hd
    exact rl_rel hf (e3 j d0 v h4 hv) (noPL_mem h2 (List.mem_of_getElem? h4))
   robs:=fun id cs hl=>by cases hl
   toks:=hW.toks
   tau:=hW.tau
   tinj:=hW.tinj
   binj:=hW.binj
   blt:=hW.blt
   lablt:=fun b hb=>hW.lablt b (hne hb)
   old:=hW.old
   olda:=hW.olda
   oldl:=fun b hlt hb=>by
    show f (G.lab b)=B.lab b
    rw[hW.oldl b hlt hb]
    exact hfN _ (hB.2 b)
   tlab:=fun k g e z hk=>by
    show f (G.lab g)=[]
    rw[hW.tlab k g e z hk,h0]
   blab:=fun i g hi=>by
    show f (G.lab g)=[]
    rw[hW.blab i g hi,h0]
   oldu:=fun b hlt hn hb=>by
    show f (G.lab b)=[]
    rw[hW.oldu b hlt hn hb,h0]
   labw:=fun b hb hor=>hW.labw b (hne hb) hor
   ids:=hW.ids
   sz:=hW.sz
   os:=hW.os
   tape:=hW.tape
   out:=hW.out
   dr:=hW.dr}
theorem sw_relab {S:Setup} {R:LS→Prop} {kk:List VItem} {B:Base} {N:Nat} (hB:B.off N) {f:List Nat→List Nat} (hf:∀l,l≠[]→f l≠[]) (hfN:∀l,(∀r,l≠N::r)→f l=l) {L:LS}
  (env':List (Nat×D)) (bx':List (Nat×List D)) (henv:∀p∈env',∃d,look L.env p.1=some d∧d.noP=true∧p.2=d.rl f) (hbx:∀p∈bx',∃cs,look L.boxes p.1=some cs∧D.noPL cs=true∧p.2=D.rlL f cs)
  (h:SW S B R kk ⟨L.n,env',bx',[],L.toks,L.fix⟩):SW S B R kk L:=fun G a w hs=>by
 obtain⟨G',h'⟩:=relab_sim hB hf hfN hs env' bx' henv hbx
 exact h G' a w h'
theorem exists_off {G:Ghost} {w:World} (h:∀b,G.lab b≠[]→b<w.heap.size):∃N,∀b l,G.lab b≠N::l:=by
 have:∀n,∃N,∀b,b<n→∀m l,G.lab b=m::l→m<N:=fun n=>by
  induction n with
  | zero=>exact⟨0,fun b hb=>absurd hb (by omega)⟩
  | succ n ih =>
   obtain⟨N,hN⟩:=ih
   refine⟨max N ((G.lab n).headD 0+1),fun b hb m l e=>?_⟩
   rcases Nat.lt_succ_iff_lt_or_eq.1 hb with hb|rfl
   ·have:=hN b hb m l e;omega
   ·rw[e];simp only[List.headD_cons];omega
 obtain⟨N,hN⟩:=this w.heap.size
 exact⟨N,fun b l e=>absurd (hN b (h b (by rw[e];simp)) N l e) (by omega)⟩
theorem fc_bodyF {S:Setup} {f:FuncId} {fn:Func} {c:Code} {ro:List (Nat×List D)} {args:List D} {d:D}
  (hf:S.P.funcs[f]?=some fn) (hb:fn.body=some c) (hname:(fn.name == "runtime.NumGoroutine")=false) (hn:args.length≤fn.ntmps)
  (h:∀B N,B.off N→SW S B (Ret S fn.results.toList d []) [.code c] ⟨fn.ntmps,enumD 0 args,[],ro,[],[]⟩):FC S f ro [] [] args d [] []:=by
 refine⟨⟨fn,hf,hname,by rw[hb];rfl⟩,fun w G vals hs=>?_⟩
 obtain⟨N,hN⟩:=exists_off hs.W.lablt
 have hB:(baseOf G w [] []).off N:=by
  refine⟨fun b hb=>?_,hN⟩
  rcases hb with⟨p,hp,_⟩|⟨k,hk,_⟩
  ·cases hp
  ·cases hk
 refine calls_of_sw hf hb hn hs (h _ N hB) fun G' L' a' w' hs' hr=>?_
 obtain⟨d0,v,⟨h1,h2⟩,h3,h4⟩:=resY_sound hs' hr
 refine⟨v,h3,v,{G' with τ:=fun _=>none},rfl,rfl,rfl,fun t d' hd=>?_,?_,hs.fixed⟩
 ·simp only[look] at hd
  split at hd
  ·rename_i ht
   subst ht
   obtain rfl:=Option.some.inj hd
   refine⟨v,rfl,?_⟩
   exact(h4.le h1).mono (show Mono G' {G' with τ:=fun _=>none} w' w' from⟨fun _ _ _ h1 h2=>⟨h1,h2⟩,fun _ _=>rfl,fun _ _ _ h=>h⟩) (fun _ _ _ h=>h) (fun _ _=>.inl rfl)
  ·cases hd
 ·exact simW_noTok (hs'.W.less h2 (ro':=[]) (by simp) (tk':=[]) (by simp))
theorem fcbF {S:Setup} {f:FuncId} {fn:Func} {c:Code} {ro:List (Nat×List D)} {args:List D} {d:D} {L0:LS} (hf:S.P.funcs[f]?=some fn) (h:∀(B:Base) N,B.off N→SW S B (Ret S fn.results.toList d []) [.code c] L0) (hb:fn.body=some c:=by exact rfl) (hname:(fn.name == "runtime.NumGoroutine")=false:=by kernel_rfl) (hn:Nat.ble args.length fn.ntmps=true:=by kernel_rfl) (e:(⟨fn.ntmps,enumD 0 args,[],ro,[],[]⟩:LS)=L0:=by
 simp only[go_sem]
 rfl):FC S f ro [] [] args d [] []:=fc_bodyF hf hb hname (Nat.le_of_ble_eq_true hn) (by rw[e];exact h)
end Go.Lg
/-
  Lg: what does not read an own list (by kind, token or box).
-/
namespace Go.Lg
open Go Go.RowKit
mutual
def D.safe (k:Nat) (tk:List Nat):D→Bool
 | .int ..|.bool _|.str _|.box ..|.ms ..|.vw ..|.raw _=>true
 | .sl (.own k' _ _) xs=>(k' != k)&&tk.contains k'&&D.safeL k tk xs
 | .sl (.que _ _) _=>false
 | .sl (.lab _) xs=>D.safeL k tk xs
 | .sl _ xs=>D.scaL xs
 | .agg cs|.tup cs|.fn _ cs=>D.safeL k tk cs
 | .imm cs=>cs.isEmpty
 | .pred _=>false
def D.safeL (k:Nat) (tk:List Nat):List D→Bool
 | []=>true
 | d::ds=>d.safe k tk&&D.safeL k tk ds
def D.scaL:List D→Bool
 | []=>true
 | d::ds=>d.sca&&D.scaL ds
end
theorem safeL_mem {k:Nat} {tk:List Nat} {ds:List D} (h:D.safeL k tk ds=true) {d:D} (hd:d∈ds):d.safe k tk=true:=by
 induction ds with
 | nil=>cases hd
 | cons x r ih =>
  simp only[D.safeL,Bool.and_eq_true] at h
  rcases List.mem_cons.1 hd with rfl|hd
  ·exact h.1
  ·exact ih h.2 hd
theorem safeL_of {k:Nat} {tk:List Nat} {ds:List D} (h:∀d∈ds,d.safe k tk=true):D.safeL k tk ds=true:=by
 induction ds with
 | nil=>rfl
 | cons x r ih=>simp only[D.safeL,Bool.and_eq_true];exact⟨h x List.mem_cons_self,ih fun d hd=>h d (List.mem_cons_of_mem _ hd)⟩
theorem scaL_mem {ds:List D} (h:D.scaL ds=true) {d:D} (hd:d∈ds):d.sca=true:=by
 induction ds with
 | nil=>cases hd
 | cons x r ih =>
  simp only[D.scaL,Bool.and_eq_true] at h
  rcases List.mem_cons.1 hd with rfl|hd
  ·exact h.1
  ·exact ih h.2 hd
theorem scaL_of {ds:List D} (h:∀d∈ds,d.sca=true):D.scaL ds=true:=by
 induction ds with
 | nil=>rfl
 | cons x r ih=>simp only[D.scaL,Bool.and_eq_true];exact⟨h x List.mem_cons_self,ih fun d hd=>h d (List.mem_cons_of_mem _ hd)⟩
theorem scaL_ints (xs:List Int) (k:IntKind):D.scaL (xs.map (.int k))=true:=scaL_of fun d hd=>by
 obtain⟨x,_,rfl⟩:=List.mem_map.1 hd;rfl
theorem safe_cells {k:Nat} {tk:List Nat} {x:D} (h:x.safe k tk=true):∀d∈x.cells,d.safe k tk=true:=by
 cases x with
 | agg cs=>exact fun d hd=>safeL_mem (ds:=cs) (by simpa[D.safe] using h) hd
 | _=>intro d hd;rw[show d=_ from List.mem_singleton.1 hd];exact h
theorem safeL_flat {k:Nat} {tk:List Nat} {xs:List D} (h:D.safeL k tk xs=true):∀d∈flat xs,d.safe k tk=true:=fun d hd=>by
 obtain⟨x,hx,hd⟩:=List.mem_flatMap.1 hd
 exact safe_cells (safeL_mem h hx) d hd
theorem scaL_flat {xs:List D} (h:D.scaL xs=true):∀d∈flat xs,d.sca=true:=fun d hd=>by
 obtain⟨x,hx,hd⟩:=List.mem_flatMap.1 hd
 have:=scaL_mem h hx
 cases x<;>simp[D.cells,D.sca] at hd this ⊢<;>subst hd<;>rfl
mutual
theorem safe_tks {k:Nat} {tk:List Nat}:∀(d:D),d.safe k tk=true→∀k'∈d.tks,k'≠k
 | .int ..,_,_,h=>by simp[D.tks] at h
 | .bool _,_,_,h=>by simp[D.tks] at h
 | .str _,_,_,h=>by simp[D.tks] at h
 | .box ..,_,_,h=>by simp[D.tks] at h
 | .ms ..,_,_,h=>by simp[D.tks] at h
 | .vw ..,_,_,h=>by simp[D.tks] at h
 | .raw _,_,_,h=>by simp[D.tks] at h
 | .imm _,_,_,h=>by simp[D.tks] at h
 | .pred _,_,_,h=>by simp[D.tks] at h
 | .sl tk0 xs,hs,k',h=>by
  cases tk0 with
  | own k2 e z =>
   simp only[D.tks,List.mem_singleton] at h
   subst h
   simp only[D.safe,Bool.and_eq_true,bne_iff_ne] at hs
   exact hs.1.1
  | que k2 e=>simp[D.safe] at hs
  | _=>simp[D.tks] at h
 | .agg cs,hs,k',h=>safeL_tks cs (by simpa[D.safe] using hs) k' (by simpa[D.tks] using h)
 | .tup cs,hs,k',h=>safeL_tks cs (by simpa[D.safe] using hs) k' (by simpa[D.tks] using h)
 | .fn _ cs,hs,k',h=>safeL_tks cs (by simpa[D.safe] using hs) k' (by simpa[D.tks] using h)
theorem safeL_tks {k:Nat} {tk:List Nat}:∀(ds:List D),D.safeL k tk ds=true→∀k'∈D.tksL ds,k'≠k
 | [],_,_,h=>by simp[D.tksL] at h
 | d::ds,hs,k',h=>by
  simp only[D.safeL,Bool.and_eq_true] at hs
  simp only[D.tksL,List.mem_append] at h
  rcases h with h|h
  ·exact safe_tks d hs.1 k' h
  ·exact safeL_tks ds hs.2 k' h
end
def Ghost.hide (G:Ghost) (g:Nat):Ghost:={G with lim:=fun b=>if b=g then 0 else G.lim b}
theorem safe_hide {G:Ghost} {w:World} {k g:Nat} {tk:List Nat} (htk:∀k'∈tk,∃x,G.τ k'=some x) (hinj:∀k' e z,G.τ k'=some (some (g,e,z))→k'=k) (hlab:G.lab g=[])
  (hsl:∀o v,o<G.lim g→w.cell? ⟨g,o,none⟩=some v→∃A n c,v=.slice A n c) {d:D} {v:Value} (h:Rel G w d v):d.safe k tk=true→Rel (G.hide g) w d v:=by
 have hl:∀b,b≠g→(G.hide g).lim b=G.lim b:=fun b hb=>by simp[Ghost.hide,hb]
 induction h with
 | int=>exact fun _=>.int
 | bool=>exact fun _=>.bool
 | str=>exact fun _=>.str
 | box hb=>exact fun _=>.box hb
 | ms hb hc hn=>exact fun _=>.ms hb hc hn
 | vw hb hc hn=>exact fun _=>.vw hb hc hn
 | raw h=>exact fun _=>.raw h
 | pred=>intro h;simp[D.safe] at h
 | agg hlen hr ih=>exact fun h=>.agg hlen fun j d v hj hv=>ih j d v hj hv (safeL_mem (by simpa[D.safe] using h) (List.mem_of_getElem? hj))
 | tup hlen hr ih=>exact fun h=>.tup hlen fun j d v hj hv=>ih j d v hj hv (safeL_mem (by simpa[D.safe] using h) (List.mem_of_getElem? hj))
 | fn hlen hr ih=>exact fun h=>.fn hlen fun j d v hj hv=>ih j d v hj hv (safeL_mem (by simpa[D.safe] using h) (List.mem_of_getElem? hj))
 | @imm cs b o hk hst hr ih =>
  intro h
  obtain rfl:cs=[]:=by simpa[D.safe] using h
  exact .imm (b:=b) (o:=o) (fun d hd=>by cases hd) (fun j d hj=>by simp at hj) (fun j d v hj=>by simp at hj)
 | @sl tk0 xs A n c b o s hn hc hm ht hA hu hk hst hr ih =>
  intro h
  have key:(∀d∈flat xs,d.safe k tk=true)→(flat xs=[]∨b≠g)→TkOk (G.hide g) w tk0 xs A n c→Rel (G.hide g) w (.sl tk0 xs) (.slice A n c):=fun hs hor ht'=>by
   refine .sl (b:=b) (o:=o) hn hc hm ht' hA hu hk (fun j d hj=>?_) (fun j d v hj hv=>?_)
   ·obtain⟨h1,h2⟩:=hst j d hj
    have hb:b≠g:=hor.resolve_left (by rintro e;rw[e] at hj;simp at hj)
    exact⟨by rw[hl b hb];exact h1,h2⟩
   ·exact ih j d v hj hv (hs d (List.mem_of_getElem? hj))
  have plain:D.scaL xs=true→TkOk (G.hide g) w tk0 xs A n c→Rel (G.hide g) w (.sl tk0 xs) (.slice A n c):=fun hs ht'=>by
   have hsc:=scaL_flat hs
   refine key (fun d hd=>?_) ?_ ht'
   ·have:=hsc d hd
    cases d<;>first|rfl|(simp[D.sca] at this)
   ·cases hf:flat xs with
    | nil=>exact .inl rfl
    | cons d0 r =>
     right
     rintro rfl
     have h0:(flat xs)[0]?=some d0:=by rw[hf];rfl
     obtain⟨h1,v,h2⟩:=hst 0 d0 h0
     obtain⟨A',n',c',rfl⟩:=hsl _ _ h1 h2
     have h3:=hr 0 d0 _ h0 h2
     have h4:=hsc d0 (by rw[hf];exact List.mem_cons_self)
     cases h3<;>simp[D.sca] at h4
  cases tk0 with
  | que k2 e=>simp[D.safe] at h
  | any=>exact plain (by simpa[D.safe] using h) ht
  | nil=>exact plain (by simpa[D.safe] using h) ht
  | nl=>exact plain (by simpa[D.safe] using h) ht
  | nn=>exact plain (by simpa[D.safe] using h) ht
  | full=>exact plain (by simpa[D.safe] using h) ht
  | lab l =>
   refine key (safeL_flat (by simpa[D.safe] using h)) ?_ ht
   rcases ht with rfl|⟨g',o',e1,e2,e3⟩
   ·exact .inl rfl
   ·rcases hA with rfl|hA
    ·exact .inl rfl
    ·right
     rintro rfl
     rw[e1] at hA
     simp only[Option.some.injEq,Addr.mk.injEq] at hA
     rw[hA.1] at e2
     exact e3 (by rw[←e2,hlab])
  | own k' e z =>
   simp only[D.safe,Bool.and_eq_true,bne_iff_ne,ne_eq,List.contains_eq_mem,decide_eq_true_eq] at h
   obtain⟨⟨h1,h2⟩,h3⟩:=h
   obtain⟨x,hx⟩:=htk k' h2
   simp only[TkOk,hx] at ht
   match x,hx,ht with
   | none,hx,ht =>
    have:xs=[]:=List.length_eq_zero_iff.1 (hn.symm.trans ht.1)
    subst this
    exact key (safeL_flat h3) (.inl rfl) (by simp only[TkOk,show (G.hide g).τ k'=some none from hx];exact ht)
   | some (g',e',z'),hx,ht =>
    have hg:g'≠g:=by rintro rfl;exact h1 (hinj k' e' z' hx)
    refine key (safeL_flat h3) ?_ ?_
    ·rcases hA with rfl|hA
     ·exact .inl rfl
     ·right
      rintro rfl
      rw[ht.2.1] at hA
      simp only[Option.some.injEq,Addr.mk.injEq] at hA
      exact hg hA.1
    ·simp only[TkOk,show (G.hide g).τ k'=some (some (g',e',z')) from hx]
     rw[hl g' hg]
     exact ht
abbrev intsT (p:Tk×List Int):D:=.sl p.1 (p.2.map (.int .i64))
theorem flat_intsT (ps:List (Tk×List Int)):flat (ps.map intsT)=ps.map intsT:=by
 induction ps with
 | nil=>rfl
 | cons p r ih=>simp[flat] at ih ⊢;simp[D.cells,ih]
end Go.Lg
