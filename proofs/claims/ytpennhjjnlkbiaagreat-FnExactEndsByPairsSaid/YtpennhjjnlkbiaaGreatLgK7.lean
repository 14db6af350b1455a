import Derived.Test.YtpennhjjnlkbiaaGreatLgK6
import Derived.Test.YtpennhjjnlkbiaaGreatLgK4
import Derived.Test.YtpennhjjnlkbiaaGreatLgK5
import Derived.Sort.Grow
import Derived.Deep.Draws
namespace Go.Lg
open Go Go.RowKit

mutual
inductive Sh where
 | slc (fs:Fs)
inductive Fs where
 | nil
 | cell (r:Fs)
 | flag (r:Fs)
 | skip (r:Fs)
 | sub (s:Sh) (r:Fs)
end
def Fs.len:Fs->Nat
 | .nil=>0
 | .cell r=>r.len+1
 | .flag r=>r.len+1
 | .skip r=>r.len+1
 | .sub _ r=>r.len+1

def cellAt(w:World)(b o:Nat):Option Value:=w.cell? ⟨b,o,none⟩
def Mkd(v:Value):Prop:=(∃m,v=.int .i64 m)∨∃c,v=.bool c
def mkV:Value->Int->Value
 | .bool _,n=>.bool (n.tmod 3==0)
 | _,n=>.int .i64 n
def MkC(w:World)(p:Nat×Nat):Prop:=∃v,Mkd v/\cellAt w p.1 p.2=some v
def HvC(w:World)(p:Nat×Nat)(n:Int):Prop:=∃v,Mkd v/\cellAt w p.1 p.2=some (mkV v n)
theorem MkC.int{w}{b o:Nat}{m:Int}(h:cellAt w b o=some (.int .i64 m)):MkC w (b,o):=⟨_,.inl ⟨m,rfl⟩,h⟩
theorem MkC.bool{w}{b o:Nat}{c:Bool}(h:cellAt w b o=some (.bool c)):MkC w (b,o):=⟨_,.inr ⟨c,rfl⟩,h⟩
theorem HvC.int{w}{p:Nat×Nat}{n m:Int}(h:HvC w p n)(hm:cellAt w p.1 p.2=some (.int .i64 m)):cellAt w p.1 p.2=some (.int .i64 n):=by
 obtain⟨v,h1,h2⟩:=h
 rw[h2] at hm ⊢
 rcases h1 with⟨m',rfl⟩|⟨c,rfl⟩
 ·rfl
 ·simp[mkV] at hm
theorem HvC.bool{w}{p:Nat×Nat}{n:Int}{c:Bool}(h:HvC w p n)(hm:cellAt w p.1 p.2=some (.bool c)):cellAt w p.1 p.2=some (.bool (n.tmod 3==0)):=by
 obtain⟨v,h1,h2⟩:=h
 rw[h2] at hm ⊢
 rcases h1 with⟨m',rfl⟩|⟨c,rfl⟩
 ·simp[mkV] at hm
 ·rfl

mutual
def Lv(lim:Nat->Nat)(w:World):Sh->Value->List (Nat×Nat)->Prop
 | .slc fs,v,as=>∃A n c b o,v=.slice A n c/\n≤maxLen/\(n=0∨A=some ⟨b,o,none⟩)/\∃ass:List (List (Nat×Nat)),ass.length=n/\as=ass.flatten/\∀i l,ass[i]?=some l->LvF lim w fs b (o+i*fs.len) l
def LvF(lim:Nat->Nat)(w:World):Fs->Nat->Nat->List (Nat×Nat)->Prop
 | .nil,_,_,as=>as=[]
 | .cell r,b,o,as=>∃l,as=(b,o)::l/\o<lim b/\(∃m,cellAt w b o=some (.int .i64 m))/\LvF lim w r b (o+1) l
 | .flag r,b,o,as=>∃l,as=(b,o)::l/\o<lim b/\(∃c,cellAt w b o=some (.bool c))/\LvF lim w r b (o+1) l
 | .skip r,b,o,as=>LvF lim w r b (o+1) as
 | .sub s r,b,o,as=>∃v l1 l2,as=l1++l2/\o<lim b/\cellAt w b o=some v/\Lv lim w s v l1/\LvF lim w r b (o+1) l2
end
def aYT(lim lim':Nat->Nat)(w w':World):Prop:=∀b o v,o<lim b->cellAt w b o=some v->o<lim' b/\(cellAt w' b o=some v∨Mkd v/\∃n,cellAt w' b o=some (mkV v n))

theorem Lv.slice{lim:Nat->Nat}{w}:∀ {s:Sh} {v as},Lv lim w s v as->∃A n c,v=.slice A n c
 | .slc _,_,_,h=>by unfold Lv at h;obtain⟨A,n,c,_,_,h,_⟩:=h;exact⟨A,n,c,h⟩

mutual
theorem Lv.mono{lim lim':Nat->Nat}{w w'}(hw:aYT lim lim' w w'):∀(s:Sh) (v:Value) (as:List (Nat×Nat)),Lv lim w s v as->Lv lim' w' s v as
 | .slc fs,v,as,h=>by
  unfold Lv at h ⊢
  obtain⟨A,n,c,b,o,h1,h2,h3,ass,h4,h5,h6⟩:=h
  exact⟨A,n,c,b,o,h1,h2,h3,ass,h4,h5,λi l hi=>LvF.mono hw fs b _ l (h6 i l hi)⟩
theorem LvF.mono{lim lim':Nat->Nat}{w w'}(hw:aYT lim lim' w w'):∀(fs:Fs) (b o:Nat) (as:List (Nat×Nat)),LvF lim w fs b o as->LvF lim' w' fs b o as
 | .nil,_,_,as,h=>by unfold LvF at h ⊢;exact h
 | .cell r,b,o,as,h=>by
  unfold LvF at h ⊢
  obtain⟨l,h1,h2,⟨m,h3⟩,h4⟩:=h
  obtain⟨q1,q2⟩:=hw b _ _ h2 h3
  refine⟨l,h1,q1,?_,LvF.mono hw r b _ l h4⟩
  rcases q2 with q2|⟨_,m',q2⟩
  ·exact⟨m,q2⟩
  ·exact⟨m',q2⟩
 | .flag r,b,o,as,h=>by
  unfold LvF at h ⊢
  obtain⟨l,h1,h2,⟨m,h3⟩,h4⟩:=h
  obtain⟨q1,q2⟩:=hw b _ _ h2 h3
  refine⟨l,h1,q1,?_,LvF.mono hw r b _ l h4⟩
  rcases q2 with q2|⟨_,m',q2⟩
  ·exact⟨m,q2⟩
  ·exact⟨_,q2⟩
 | .skip r,b,o,as,h=>by
  unfold LvF at h ⊢
  exact LvF.mono hw r b _ as h
 | .sub s r,b,o,as,h=>by
  unfold LvF at h ⊢
  obtain⟨v,l1,l2,h1,h2,h3,h4,h5⟩:=h
  obtain⟨q1,q2⟩:=hw b _ _ h2 h3
  refine⟨v,l1,l2,h1,q1,?_,Lv.mono hw s v l1 h4,LvF.mono hw r b _ l2 h5⟩
  rcases q2 with q2|⟨q2,_⟩
  ·exact q2
  ·obtain⟨A,n,c,e⟩:=h4.slice
   rw[e] at q2
   rcases q2 with⟨m,q2⟩|⟨m,q2⟩<;>cases q2
end
mutual
theorem Lv.ints{lim:Nat->Nat}{w}:∀(s:Sh) (v:Value) (as:List (Nat×Nat)),Lv lim w s v as->∀p∈as,p.2<lim p.1/\MkC w p
 | .slc fs,v,as,h=>by
  unfold Lv at h
  obtain⟨A,n,c,b,o,h1,h2,h3,ass,h4,h5,h6⟩:=h
  intro p hp
  rw[h5,List.mem_flatten] at hp
  obtain⟨l,hl,hp⟩:=hp
  obtain⟨i,hi⟩:=List.getElem?_of_mem hl
  exact LvF.ints fs b _ l (h6 i l hi) p hp
theorem LvF.ints{lim:Nat->Nat}{w}:∀(fs:Fs) (b o:Nat) (as:List (Nat×Nat)),LvF lim w fs b o as->∀p∈as,p.2<lim p.1/\MkC w p
 | .nil,_,_,as,h=>by unfold LvF at h;subst h;simp
 | .cell r,b,o,as,h=>by
  unfold LvF at h
  obtain⟨l,h1,h2,h3,h4⟩:=h
  subst h1
  intro p hp
  rcases zO.1 hp with rfl|hp
  ·obtain⟨m,h3⟩:=h3;exact⟨h2,MkC.int h3⟩
  ·exact LvF.ints r b _ l h4 p hp
 | .flag r,b,o,as,h=>by
  unfold LvF at h
  obtain⟨l,h1,h2,h3,h4⟩:=h
  subst h1
  intro p hp
  rcases zO.1 hp with rfl|hp
  ·obtain⟨m,h3⟩:=h3;exact⟨h2,MkC.bool h3⟩
  ·exact LvF.ints r b _ l h4 p hp
 | .skip r,b,o,as,h=>by
  unfold LvF at h
  exact LvF.ints r b _ as h
 | .sub s r,b,o,as,h=>by
  unfold LvF at h
  obtain⟨v,l1,l2,h1,h2,h3,h4,h5⟩:=h
  subst h1
  intro p hp
  rcases zP.1 hp with hp|hp
  ·exact Lv.ints s v l1 h4 p hp
  ·exact LvF.ints r b _ l2 h5 p hp
end
end Go.Lg
namespace Go.Lg
open Go Go.RowKit


end Go.Lg
namespace Go.Lg
open Go Go.RowKit

section ops
variable {P:Program} {n:Nat} {ops:Array Oper} {l:List Oper} {E:List (Nat×Value)} {w:World} {K:List (Nat×Value)->World->Prop} {t:Nat} {ty:TypeId} {pos:String} {aft:Array Edge}

end ops

inductive MItem where
 | code (c:Code)
 | inBlock (id:Nat)
 | loopEnd (J:List (Nat×Value)->World->Prop)
section ctl
variable {P:Program} {n:Nat} {R:List (Nat×Value)->World->Prop} {k:List MItem} {E:List (Nat×Value)} {w:World}
end ctl

end Go.Lg
namespace Go.Lg
open Go Go.RowKit

section steps
variable {lim:Nat->Nat} {w:World}
end steps

end Go.Lg
namespace Go.Lg
open Go Go.RowKit

def B0(B:Base):Ghost:=⟨B.lim,B.lab,λ_=>none,λ_=>none⟩
def KnI(B:Base)(d:D):Ghost->World->Value->Prop:=λG w v=>Rel (B0 B) B.w d v/\Mono (B0 B) G B.w w
def KD(B:Base)(d:D):D:=.pred (KnI B d)
def aNS(s:Sh)(k:Int)(n:Nat):Ghost->World->Value->Prop:=λG w v=>∃qs,Lv G.lim w s v qs/\qs.length=n/\∀(j:Nat) q,qs[j]?=some q->HvC w q (k+j)
theorem aNS.mono{s:Sh}{k:Int}{n:Nat}{G G' w w'}{v:Value}(hm:Mono G G' w w')(h:aNS s k n G w v):aNS s k n G' w' v:=by
 obtain⟨qs,h1,h2,h3⟩:=h
 refine⟨qs,Lv.mono (λb o v h1 h2=>⟨(hm.cell b o v h1 h2).1,.inl (hm.cell b o v h1 h2).2⟩) s v qs h1,h2,λj q hj=>?_⟩
 obtain⟨v0,e1,e2⟩:=h3 j q hj
 exact⟨v0,e1,(hm.cell _ _ _ (Lv.ints s v qs h1 q (zF hj)).1 e2).2⟩
def HD(s:Sh)(k:Int)(n:Nat):D:=.pred (aNS s k n)
end Go.Lg
namespace Go.Lg
open Go Go.RowKit

section regions
variable {S:Setup} {B:Base} {R:LS->Prop} {kk:List VItem} {L L':LS} {A M t1 t2 t3 id:Nat} {ty1 ty2 ty3 ty4:TypeId} {p1 p2 p3 p4:String} {a1 a2 a3 a4:Array Edge} {tys:Array TypeId} {f:FuncId} {i n N:Nat} {k:Int}

end regions
end Go.Lg
namespace Go.Lg
open Go Go.RowKit

def Ghost.frLab(G:Ghost)(g n id:Nat)(l:List Nat):Ghost:=⟨λb=>if b=g then n else G.lim b,λb=>if b=g then l else G.lab b,λi=>if i=id then none else G.β i,G.τ⟩

theorem uH{B}{L:LS}{G:Ghost}{a}{w:World}(h:Sim B L G a w){t id n s:Nat}{cs xs:List D}{l:List Nat}(ht:look L.env t=some (.ms id n))(hb:look L.boxes id=some cs)(hx:cs=flat xs)(hn:n=xs.length)
  (hu:∀x∈xs,x.cells.length=s) (hk:∀d∈cs,d.memOk=true) (hl:l≠[]) (hfix:id∉L.fix):∃G',Sim B {L.forget id with env:=eK (L.forget id).env t (.sl (.lab l) xs)} G' a w:=by
 have hW:=h.W
 obtain⟨g,hg,⟨vs,e,e1,e2,e3⟩,hl0,hown⟩:=hW.boxes id cs hb
 obtain⟨v,hv,hr⟩:=h.env t _ ht
 have hlab0:G.lab g=[]:=hW.blab id g hg
 let G':=G.frLab g cs.length id l
 have hmn:Mono G G' w w:=⟨λb o u h1 h2=>⟨by
  simp only[G',Ghost.frLab]
  split
  ·rename_i hbg;subst hbg;omega
  ·exact h1,h2⟩,λb hb=>by
  simp only[G',Ghost.frLab]
  split
  ·rename_i e0;subst e0;exact absurd hlab0 hb
  ·rfl⟩
 have hτg:∀ {k g' e' z},G.τ k=some (some (g',e',z))->g'≠g:=λ{k g' e' z} hk e0=>by
  subst e0
  exact(hW.tau k _ e' z hk).2.2.2 id hg
 have rG:∀ {d u},id∉d.ids->Rel G w d u->Rel G' w d u:=λ{d u} hid hr=>hr.mono hmn (λi hi g' hg'=>by
  have:i≠id:=λe0=>hid (e0 ▸ hi)
  simp only[G',Ghost.frLab]
  rw[if_neg this];exact hg') (λk _=>.inr ⟨rfl,λg' e' z hk'=>⟨by
   simp only[G',Ghost.frLab]
   rw[if_neg (hτg hk')],rfl⟩⟩)
 have hbox:∀ {g' cs'},id∉D.idsL cs'->dA G w g' cs'->dA G' w g' cs':=λ{g' cs'} hid ⟨vs,e,e1,e2,e3⟩=>⟨vs,e,e1,e2,λj d v hd hv=>rG (λhi=>hid (gF (zF hd) hi)) (e3 j d v hd hv)⟩
 have hcell:∀j,w.cell? ⟨g,j,none⟩=vs[j]?:=λj=>by simp[World.cell?,e1]
 have hlim:G'.lim g=cs.length:=by simp[G',Ghost.frLab]
 have hlim':∀b,b≠g->G'.lim b=G.lim b:=λb hb=>by simp[G',Ghost.frLab,hb]
 have hlab':∀b,b≠g->G'.lab b=G.lab b:=λb hb=>by simp[G',Ghost.frLab,hb]
 have hβ:∀ {i g'},G'.β i=some g'->i≠id/\G.β i=some g':=λ{i g'} hi=>by
  simp only[G',Ghost.frLab] at hi
  split at hi
  ·cases hi
  ·rename_i h0;exact⟨h0,hi⟩
 have hβ':∀ {i g'},i≠id->G.β i=some g'->G'.β i=some g':=λ{i g'} h0 hi=>by
  simp only[G',Ghost.frLab]
  rw[if_neg h0];exact hi
 have memNo:∀ {d:D},d.memOk=true->id∉d.ids:=λhm=>by rw[gC hm];simp
 refine⟨G',h.defers,h.size,λt' d hd=>?_,?_,h.fixed⟩
 ·simp only[bV] at hd
  by_cases e0:t=t'
  ·subst e0
   simp only[if_true,Option.some.injEq] at hd
   subst hd
   refine⟨v,hv,?_⟩
   cases hr with
   | @ms _ _ c1 g1 hb' hc' hn' =>
    have e0:g1=g:=zA (hb'.symm.trans hg)
    rw[e0]
    refine .sl (b:=g) (o:=0) (s:=s) (by omega) hc' hn' (.inr ⟨g,0,rfl,by simp[G',Ghost.frLab],hl⟩) (.inr rfl) hu (hx ▸ hk) (λj d hj=>?_) (λj d u hj hu'=>?_)
    ·rw[←hx] at hj
     have hlt:j<cs.length:=(zE.1 hj).1
     rw[Nat.zero_add,hlim,hcell]
     exact⟨hlt,vs[j]'(by omega),by simp[show j<vs.size by omega]⟩
    ·rw[←hx] at hj
     rw[Nat.zero_add,hcell] at hu'
     exact rG (memNo (hk d (zF hj))) (e3 j d u hj hu')
  ·rw[if_neg e0] at hd
   obtain⟨h1,h2⟩:=e8 _ _ _ _ hd
   obtain⟨u,h3,h4⟩:=h.env t' d h1
   exact⟨u,h3,rG (tK h2) h4⟩
 ·exact {
   boxes:=λi cs' hl'=>by
    simp only[LS.forget,eN] at hl'
    by_cases e0:id=i
    ·rw[if_pos e0] at hl';cases hl'
    ·rw[if_neg e0] at hl'
     obtain⟨h1,h2⟩:=e8 _ _ _ _ hl'
     obtain⟨g',k1,k2,k3,k4⟩:=hW.boxes i cs' h1
     refine⟨g',hβ' (Ne.symm e0) k1,hbox (iJ h2) k2,?_,k4⟩
     rw[hlim' g' (by rintro rfl;exact e0 (hW.binj _ _ _ hg k1))]
     exact k3
   robs:=λi cs' hl'=>by
    simp only[LS.forget,eN] at hl'
    by_cases e0:id=i
    ·rw[if_pos e0] at hl';cases hl'
    ·rw[if_neg e0] at hl'
     obtain⟨h1,h2⟩:=e8 _ _ _ _ hl'
     obtain⟨g',k1,k2,k3⟩:=hW.robs i cs' h1
     exact⟨g',hβ' (Ne.symm e0) k1,hbox (iJ h2) k2,k3⟩
   toks:=hW.toks
   tau:=λk g' e' z hk'=>by
    obtain⟨h1,h2,⟨cur,h3,h4⟩,h5⟩:=hW.tau k g' e' z hk'
    refine⟨h1,h2,⟨cur,h3,?_⟩,λi hi=>h5 i (hβ hi).2⟩
    rw[hlim' g' (hτg hk')]
    exact h4
   tinj:=hW.tinj
   binj:=λi j g' hi hj=>hW.binj i j g' (hβ hi).2 (hβ hj).2
   blt:=λi g' hi=>hW.blt i g' (hβ hi).2
   lablt:=λb hb=>by
    by_cases e0:b=g
    ·subst e0;exact hW.blt id _ hg
    ·rw[hlab' b e0] at hb;exact hW.lablt b hb
   old:=λb hb1 hb2=>by
    refine⟨(hW.old b hb1 hb2).1,?_⟩
    rw[hlim' b]
    ·exact(hW.old b hb1 hb2).2
    ·rintro rfl
     rcases hown with h|h
     ·omega
     ·exact hb2 h
   olda:=λb hb1=>by
    refine⟨?_,(hW.olda b hb1).2⟩
    have:=(hW.olda b hb1).1
    by_cases hbg:b=g
    ·subst hbg;rw[hl0] at this;omega
    ·rw[hlim' b hbg];exact this
   oldl:=λb hb1 hb2=>by
    have h0:=hW.oldl b hb1 hb2
    have hbg:b≠g:=λe0=>by subst e0;rw[hlab0] at h0;exact hb2 h0.symm
    rw[hlab' b hbg];exact h0
   tlab:=λk g' e' z hk'=>by rw[hlab' g' (hτg hk')];exact hW.tlab k g' e' z hk'
   blab:=λi g' hi=>by
    obtain⟨h0,hi⟩:=hβ hi
    have hne:g'≠g:=λe0=>h0 (hW.binj i id g (e0 ▸ hi) hg)
    rw[hlab' g' hne];exact hW.blab i g' hi
   oldu:=λb hb1 hb2 hb3=>by
    have hbg:b≠g:=λe0=>by
     subst e0
     rcases hown with h|h
     ·omega
     ·exact hb2 h
    rw[hlab' b hbg];exact hW.oldu b hb1 hb2 hb3
   labw:=λb hb hor=>by
    by_cases e0:b=g
    ·subst e0;exact⟨vs,e,e1⟩
    ·rw[hlab' b e0] at hb;exact hW.labw b hb hor
   ids:=λp hp=>hβ' (λe0=>hfix (e0 ▸ h.fixed p hp)) (hW.ids p hp)
   sz:=hW.sz
   os:=hW.os
   tape:=hW.tape
   out:=hW.out
   dr:=hW.dr}

section
variable {S:Setup} {B:Base} {R:LS->Prop} {k:List VItem} {L:LS}
end

def lE{α:Type} [Inhabited α] (g:Nat->α->D)(xs:List α):List D:=(List.range xs.length).map λj=>g j (xs.getD j default)
theorem jP{α:Type} [Inhabited α] (g:Nat->α->D)(xs:List α):(lE g xs).length=xs.length:=by simp[lE]
theorem aRH{α:Type} [Inhabited α] {g:Nat->α->D}{xs:List α}{i:Nat}{d:D}(h:(lE g xs)[i]?=some d):∃x,xs[i]?=some x/\d=g i x:=by
 unfold lE at h
 rw[zI] at h
 by_cases hi:i<xs.length
 ·rw[List.getElem?_range hi] at h
  refine⟨xs[i],zB hi,?_⟩
  simpa[List.getD,List.getElem?_eq_getElem hi] using h.symm
 ·rw[List.getElem?_eq_none (by simpa using hi)] at h
  cases h
theorem aDT:∀ {a b c d:List D},leL a b->leL c d->leL (a++c) (b++d)
 | [],[],_,_,_,h=>h
 | _::_,_::_,_,_,h1,h2=>⟨h1.1,aDT h1.2 h2⟩
 | [],_::_,_,_,h,_=>h.elim
 | _::_,[],_,_,h,_=>h.elim
theorem aIj:∀ {xs ys:List D},xs.length=ys.length->(∀(i:Nat) x y,xs[i]?=some x->ys[i]?=some y->leL x.cells y.cells)->leL (flat xs) (flat ys)
 | [],[],_,_=>trivial
 | x::xs,y::ys,hl,h=>by
  rw[oB,oB]
  exact aDT (h 0 x y rfl rfl) (aIj (by simpa using hl) λi a b ha hb=>h (i+1) a b (by simpa using ha) (by simpa using hb))
 | [],_::_,hl,_=>by simp at hl
 | _::_,[],hl,_=>by simp at hl
theorem aG6{α:Type} [Inhabited α] {g:Nat->α->D}{e:α->D}{tk:Tk}(xs:List α)(h:∀j x,leL (g j x).cells (e x).cells):D.le (.sl tk (lE g xs)) (.sl .any (xs.map e)):=by
 have hlen:(lE g xs).length=(xs.map e).length:=by rw[jP,zC]
 have hel:∀(i:Nat) a b,(lE g xs)[i]?=some a->(xs.map e)[i]?=some b->leL a.cells b.cells:=λi a b ha hb=>by
  obtain⟨x,hx,rfl⟩:=aRH ha
  rw[zI,hx] at hb
  obtain rfl:=zA hb
  exact h i x
 have hfl:=aIj hlen hel
 refine .deep ?_ (pK hfl) λj c d hc hd=>?_
 ·refine List.ext_getElem? λi=>?_
  rw[zI,zI]
  cases ha:(lE g xs)[i]? with
  | none =>
   have:xs.length≤i:=by rw[←jP g xs];exact List.getElem?_eq_none_iff.1 ha
   rw[List.getElem?_eq_none (by simpa using this)]
  | some a =>
   have hi:i<(xs.map e).length:=by rw[←hlen];exact(zE.1 ha).1
   have hb:=zB hi
   rw[hb]
   simp only[Option.map_some]
   rw[pK (hel i a _ ha hb)]
 ·obtain⟨a,ha,hle⟩:=sO hfl j d hd
  rw[hc] at ha
  obtain rfl:=zA ha
  exact hle
def upR{α:Type} [Inhabited α] (g:Nat->α->D)(xs:List α)(i:Nat):List D:=(List.range i).map λj=>g j (xs.getD j default)
theorem kH{α:Type} [Inhabited α] (g:Nat->α->D)(xs:List α)(i:Nat):(upR g xs i).length=i:=by simp[upR]
theorem aH4{α:Type} [Inhabited α] (g:Nat->α->D)(xs:List α)(i:Nat):upR g xs (i+1)=upR g xs i++[g i (xs.getD i default)]:=by
 simp[upR,List.range_succ]
theorem sU{α:Type} [Inhabited α] {g:Nat->α->D}{xs:List α}{i:Nat}{P:D->Prop}(h:∀j x,P (g j x)):∀d∈upR g xs i,P d:=λd hd=>by
 obtain⟨j,_,rfl⟩:=zJ.1 hd
 exact h j _
theorem aLq{α:Type} [Inhabited α] {g:Nat->α->D}{xs:List α}{i:Nat}(h:Om (i<xs.length)):(lE g xs).getD i default=g i (xs.getD i default):=by
 have h:i<xs.length:=h.out
 unfold lE
 simp only[List.getD,zI,List.getElem?_range h,Option.map_some,Option.getD_some]
end Go.Lg
namespace Go.Lg
open Go Go.RowKit

section regions
variable {S:Setup} {B:Base} {R:LS->Prop} {kk:List VItem} {L:LS} {A M t1 t2 t3 id:Nat} {ty1 ty2 ty3 ty4:TypeId} {p1 p2 p3 p4:String} {a1 a2 a3 a4:Array Edge} {tys:Array TypeId} {f:FuncId} {i n N:Nat} {k:Int}

end regions
section
variable (B:Base) (d:D) (s:Sh) (k:Int) (n:Nat)
theorem aXf:(KD B d).ids=[]:=rfl
theorem aWr:(KD B d).tks=[]:=rfl
theorem aR7:(KD B d).cells=[KD B d]:=rfl
theorem aXe(p:Nat->Bool):D.pu1 p (KD B d)=KD B d:=rfl
theorem aYb(p:Nat->Bool):D.pu p (KD B d)=KD B d:=rfl
theorem aXx(o:Nat):D.shT o (KD B d)=KD B d:=rfl
theorem aWP:(HD s k n).ids=[]:=rfl
theorem aWG:(HD s k n).tks=[]:=rfl
theorem aUd:(HD s k n).cells=[HD s k n]:=rfl
theorem aWO(p:Nat->Bool):D.pu1 p (HD s k n)=HD s k n:=rfl
theorem aYY(p:Nat->Bool):D.pu p (HD s k n)=HD s k n:=rfl
theorem aWq(o:Nat):D.shT o (HD s k n)=HD s k n:=rfl
end
attribute [go_sem] aXf aWr aR7 aXe aYb aXx aWP aWG aUd aWO aYY aWq
theorem aFv{S B}{R:LS->Prop}{kk:List VItem}{L:LS}(id j k:Nat)(e:TypeId)(z:Nat){cs:List D}(hb:look (L.purge (λx=>x==k)).boxes id=some cs)(hj:cs[j]?=some (.sl .nil []))(hc:(L.purge (λx=>x==k)).clean (λx=>x==k)=true)
  (h:SW S B R kk {L.purge (λx=>x==k) with boxes:=eK (L.purge (λx=>x==k)).boxes id (cs.set j (.sl (.own k e z) [])),toks:=k::L.toks}):SW S B R kk L:=λG a w hs=>by
 have hp:=l5 hs (λx=>x==k)
 have hstep:TokStep B G (G.setTok k (some none)) w w k:={
  mono:=⟨λ_ _ _ h1 h2=>⟨h1,h2⟩,λ_ _=>rfl⟩
  beta:=rfl,lab:=rfl,sz:=zQ _,os:=rfl,tape:=rfl,out:=rfl,dr:=by first|exact zQ _|exact Nat.le_succ _
  tau:=λk' hk'=>.inr ⟨by simp[Ghost.setTok,hk'],λ_ _ _ _=>⟨rfl,rfl⟩⟩
  block:=λ_ _=>.inl ⟨rfl,rfl⟩
  new:=λg e' z' hg=>by simp[Ghost.setTok] at hg
  live:=by simp[Ghost.setTok]}
 have hsim:=fH hp hstep hc (tk:=k::L.toks) (λk' hk'=>by
  by_cases e:k'=k
  ·exact .inl e
  ·rcases zO.1 hk' with h|h
   ·exact absurd h e
   ·exact .inr ⟨by simp[Ghost.setTok,e],h⟩)
 refine h _ a w ⟨hsim.defers,hsim.size,hsim.env,{hsim.W with boxes:=λi c hi=>?_},hsim.fixed⟩
 simp only[bV] at hi
 by_cases e0:id=i
 ·subst e0
  simp only[if_true,Option.some.injEq] at hi
  subst hi
  obtain⟨g,q1,⟨vs,e',e1,e2,e3⟩,q3⟩:=hsim.W.boxes id cs hb
  refine⟨g,q1,⟨vs,e',e1,by simpa using e2,λj' d v hd hv=>?_⟩,q3⟩
  by_cases hjj:j=j'
  ·subst hjj
   rw[List.getElem?_set_self (zE.1 hj).1] at hd
   obtain rfl:=zA hd
   have hr:=e3 j _ v hj hv
   cases hr with
   | @sl _ _ A n c b o s hn hcc hm ht' hA hu hk hst hr =>
    exact .sl (b:=0) (o:=0) (s:=0) hn hcc hm (by simp only[dT,Ghost.setTok,if_true];exact⟨ht'.2.1,ht'.2.2⟩) (.inl rfl) (by simp) (by simp[flat]) (by simp[flat]) (by simp[flat])
  ·rw[List.getElem?_set_ne hjj] at hd
   exact e3 j' d v hd hv
 ·rw[if_neg e0] at hi
  exact hsim.W.boxes i c hi
end Go.Lg
namespace Go.Lg
open Go Go.RowKit
variable {S:Setup}
theorem aKK(G:Ghost)(w:World)(bx:List (Nat×List D))(tk:List Nat)(k:Nat)(hk:k∉tk):cU (G.setTok k (some none)) w bx (k::tk)=cU G w bx tk:=by
 unfold cU
 congr 1
 funext b
 refine propext ⟨?_,?_⟩
 ·rintro (h|⟨k',h1,e,z,h2⟩)
  ·exact .inl h
  ·refine .inr ⟨k',?_,e,z,?_⟩
   ·rcases zO.1 h1 with rfl|h1
    ·simp[Ghost.setTok] at h2
    ·exact h1
   ·rcases zO.1 h1 with rfl|h1
    ·simp[Ghost.setTok] at h2
    ·have:k'≠k:=λe=>hk (e ▸ h1)
     simpa[Ghost.setTok,this] using h2
 ·rintro (h|⟨k',h1,e,z,h2⟩)
  ·exact .inl h
  ·have:k'≠k:=λe=>hk (e ▸ h1)
   exact .inr ⟨k',List.mem_cons_of_mem _ h1,e,z,by simpa[Ghost.setTok,this] using h2⟩
theorem FC.emp{f:FuncId}{ro bx bx':List (Nat×List D)}{tk tk':List Nat}{args args':List D}{d:D}(i k:Nat)(e:TypeId)(z:Nat){t:Tk}(h:FC S f ro bx (k::tk) args' d bx' tk')
  (hl:args'.length=args.length) (ht:look (aS 0 args) i=some (.sl t [])) (htk:t=.nil∨t=.full) (hk:k∉tk) (hc:(LS.mk args.length (aS 0 args) bx ro tk (bx.map (·.1))).clean (λx=>x==k)=true)
  (he:aS 0 args'=eK (aS 0 args) i (.sl (.own k e z) [])):FC S f ro bx tk args d bx' tk':=⟨h.1,λw G vals hs=>by
 obtain⟨v,hv,hr⟩:=hs.env i _ ht
 have hstep:TokStep (cU G w bx tk) G (G.setTok k (some none)) w w k:={
  mono:=⟨λ_ _ _ h1 h2=>⟨h1,h2⟩,λ_ _=>rfl⟩
  beta:=rfl,lab:=rfl,sz:=zQ _,os:=rfl,tape:=rfl,out:=rfl,dr:=by first|exact zQ _|exact Nat.le_succ _
  tau:=λk' hk'=>.inr ⟨by simp[Ghost.setTok,hk'],λ_ _ _ _=>⟨rfl,rfl⟩⟩
  block:=λ_ _=>.inl ⟨rfl,rfl⟩
  new:=λg e' z' hg=>by simp[Ghost.setTok] at hg
  live:=by simp[Ghost.setTok]}
 have hsim:=fH hs hstep hc (tk:=k::tk) (λk' hk'=>by
  by_cases e:k'=k
  ·exact .inl e
  ·rcases zO.1 hk' with h|h
   ·exact absurd h e
   ·exact .inr ⟨by simp[Ghost.setTok,e],h⟩)
 have h2:=h.2 w (G.setTok k (some none)) vals
 rw[aKK G w bx tk k hk,hl,he] at h2
 refine h2 (j2 hsim hv ?_)
 cases hr with
 | @sl _ _ A n c b o s hn hcc hm ht' hA hu hk hst hr =>
  have h0:n=0:=hn
  have hc0:c=0:=by
   rcases htk with rfl|rfl
   ·exact ht'.2.2
   ·have:n=c:=ht'
    omega
  exact .sl (b:=0) (o:=0) (s:=0) hn hcc hm (by simp only[dT,Ghost.setTok,if_true];exact⟨h0,hc0⟩) (.inl rfl) (by simp) (by simp[flat]) (by simp[flat]) (by simp[flat])⟩
end Go.Lg
namespace Go.Lg
open Go Go.RowKit
section
variable {S:Setup} {md:Region.Mode} {ops:Array Oper} {bx:Nat->Option (List D)} {n m h0:Nat}
end
theorem aA6{P:Program}{md:Region.Mode}{ops}{Q Q':Exit->Act->World->Prop}(h:∀e a w,Q e a w->Q' e a w):∀(f:Nat) (listed:Array Bool) (a:Act) (w:World),wpAny P md ops Q f listed a w->wpAny P md ops Q' f listed a w
 | 0,_,_,_,hh=>⟨hh.1,h _ _ _ hh.2⟩
 | f+1,_,a,w,hh=>⟨λe=>h _ _ _ (hh.1 e),λi hi=>by
  have h1:=wpOp_mono (λa w=>aA6 h f _ a w) (hh.2 i hi)
  unfold wpOp at h1 ⊢
  split at h1
  ·exact h1
  ·split at h1
   ·rename_i hw
    rw[if_pos hw]
    rcases h1 with h1|⟨h1,a,w,h2⟩
    ·exact .inl (Oper.wp_congrQ (λe a w _ hq=>h e a w hq) h1)
    ·exact .inr ⟨h1,a,w,h _ _ _ h2⟩
   ·rename_i hw
    rw[if_neg hw]
    exact h1⟩
end Go.Lg
namespace Go.Lg
open Go Go.RowKit
def aJW(P:Program)(ops:Array Oper)(Q:Exit->Act->World->Prop)(l2:List Oper):Exit->Act->World->Prop
 | .normal,a,w=>wpList P ops Q l2 a w
 | e,a,w=>Q e a w
theorem aRi{P:Program}{ops}{Q:Exit->Act->World->Prop}{l2}{o:Oper}{a:Act}{w}{K K':Act->World->Prop}(h:∀a w,K a w->K' a w)
  (hh:o.wp P a w K (aJW P ops Q l2)):o.wp P a w K' Q:=by
 unfold Oper.wp at *
 generalize (execOp a.eval o).run P w=r at *
 cases r with
 | ok n w' =>
  cases n<;>simp only[Oper.upon] at hh ⊢ <;>
   first
    | exact h _ _ hh
    | exact hh
    | (refine hh.mono λe w2 h2=>?_;revert h2;cases e<;>first|exact λh2=>h _ _ h2|exact λh2=>h2)
    | (refine hh.mono λv w2 h2=>h _ _ h2)
 | halt x w'=>cases x<;>simp only[Oper.upon] at hh ⊢<;>exact hh
theorem m7{P:Program}{ops}{Q:Exit->Act->World->Prop}{l2}:∀(l1:List Oper) (a:Act) (w:World),wpList P ops (aJW P ops Q l2) l1 a w->wpList P ops Q (l1++l2) a w
 | [],a,w,h=>h
 | o::l1,a,w,h=>by
  unfold wpList at h
  rw[List.cons_append]
  unfold wpList
  split at h
  ·rename_i hw
   rw[if_pos hw]
   rcases h with h|⟨h1,h2⟩
   ·exact .inl (aRi (λa w h=>m7 l1 a w h) h)
   ·exact .inr ⟨h1,h2⟩
  ·rename_i hw
   rw[if_neg hw]
   exact m7 l1 _ _ h
theorem aU.app{S:Setup}{B ops l l2 L}{N M:LS->Prop}(h:aU S B ops l L N)(hN:∀L',N L'->aU S B ops l2 L' M):aU S B ops (l++l2) L M:=λG a w hs Q hQ =>
 m7 l a w (h G a w hs (aJW S.P ops Q l2) λL' G' a' w' h1 h2=>hN L' h1 G' a' w' h2 Q hQ)
theorem aIi{B L}{G:Ghost}{a}{w:World}(h:Sim B L G a w)(arr:Array Value)(e:TypeId)(z N:Nat)(hz:0<z)(hN:N≤arr.size)(tok:Nat) :
  TokStep B G ((G.grow w.heap.size N).setTok tok (some (some (w.heap.size,e,z)))) w (w.alloc (.cells arr e)) tok:=by
 have hW:=h.W
 have hold:∀b,b<w.heap.size->(w.alloc (.cells arr e)).heap[b]?=w.heap[b]?:=λb hb=>Below.heap_alloc w _ b hb
 have hlim:∀b,b<w.heap.size->(G.grow w.heap.size N).lim b=G.lim b:=λb hb=>by simp only[Ghost.grow];rw[if_neg (by omega)]
 have hmn:Mono G ((G.grow w.heap.size N).setTok tok (some (some (w.heap.size,e,z)))) w (w.alloc (.cells arr e)):=by
  refine⟨λb o v h1 h2=>?_,λ_ _=>rfl⟩
  have hlt:=nP h2
  exact⟨by show o<(G.grow w.heap.size N).lim b;rw[hlim b hlt];exact h1,by rw[b8 (hold b hlt)];exact h2⟩
 have hnew:(w.alloc (.cells arr e)).heap[w.heap.size]?=some (.cells arr e (0,0)):=heap_alloc_new w _
 refine {
  mono:=hmn
  beta:=rfl
  lab:=rfl
  sz:=by simp
  os:=rfl
  tape:=rfl
  out:=rfl
  dr:=by first|exact zQ _|exact Nat.le_succ _
  tau:=λk hk=>?_
  block:=λb hb=>.inl ⟨hold b hb,hlim b hb⟩
  new:=λg e' z' hg=>?_
  live:=by simp[Ghost.setTok]}
 ·simp only[Ghost.setTok,if_neg hk]
  refine .inr ⟨rfl,λg e' z' hg=>?_⟩
  obtain⟨_,_,⟨cur,hc,_⟩,_⟩:=hW.tau k g e' z' hg
  exact⟨hlim g (b5 hc),hold g (b5 hc)⟩
 ·simp only[Ghost.setTok,if_true,Option.some.injEq,Prod.mk.injEq] at hg
  obtain⟨rfl,rfl,rfl⟩:=hg
  refine⟨.inl hW.sz,hz,⟨arr,hnew,by simpa[Ghost.setTok,Ghost.grow] using hN⟩,λi hi=>?_,λk e' z' hk hkk=>?_,Classical.byContradiction λhne=>Nat.lt_irrefl _ (hW.lablt _ hne)⟩
  ·have:=hW.blt _ _ hi;omega
  ·simp only[Ghost.setTok,if_neg hk] at hkk
   obtain⟨_,_,⟨cur,hc,_⟩,_⟩:=hW.tau k _ _ _ hkk
   have:=b5 hc
   omega
theorem aU.buildOwn{S:Setup}{B ops l}{L:LS}{K:LS->Prop}{t n:Nat}{T e:TypeId}{i:TyI}{ps:Array (Nat×Operand)}{qs:List (Nat×D)}{ty:TypeId}{pos aft}(tok:Nat)
  (hds:rU (aV L) ps.toList=some qs) (hk:S.kd T=some (.slice e)) (hi:S.tab e=some i)
  (hside:(t<L.n/\0<n/\0<i.size/\n*i.size≤16777216)/\qs.map (·.1)=List.range n/\∀p∈qs,p.2.cells.length=i.size/\∀c∈p.2.strip.cells,c.memOk=true) (hc:L.clean (λx=>x==tok)=true)
  (h:aU S B ops l (({L with toks:=tok::L.toks}:LS).put t (.sl (.own tok e i.size) (qs.map (·.2.strip)))) K):aU S B ops (⟨some t,.buildSlice T n ps,ty,pos,aft,none⟩::l) L K:=by
 intro G a w hs Q hQ
 obtain⟨⟨s1,s2,s3,s4⟩,hidx,hcell⟩:=hside
 refine wpList_step λN hN=>?_
 rw[if_pos (bN (S:=S) (b:=true) rfl hs rfl)]
 have hv:PRel G w qs (ps.map λ(i,x)=>(i,a.eval x)).toList:=by simpa using mP hs hds
 generalize hvs:(ps.map λ(i,x)=>(i,a.eval x))=vs at hv
 have hu:=d8 hk
 have hok:=S.ok e i hi
 obtain⟨inf,i1,i2,i3,z,i4,i5,i6⟩:=hok.info
 have hzs:z.cells.size=i.size:=by rw[i5];simp[TyI.size]
 have hlen:qs.length=n:=by have:=congrArg List.length hidx;simpa using this
 let q2:=qs.map λp=>(p.1,p.2.strip)
 have hq:PRel G w q2 vs.toList:=hv.strip
 have hqi:q2.map (·.1)=List.range' 0 (n-0):=by
  simp only[q2,List.map_map,Nat.sub_zero]
  rw[←List.range_eq_range',←hidx]
  rfl
 have hqc:∀p∈q2,p.2.cells.length=i.size:=λp hp=>by
  obtain⟨p0,h0,rfl⟩:=zJ.1 hp
  simp only[g6]
  exact(hcell p0 h0).1
 obtain⟨arr,e1,e2⟩:=aCT (s:=i.size) (k:=0) (n:=n) (dn:=[]) (arr:=(Array.range (n*i.size)).map (z.cells[· % z.cells.size]!)) hq hqi (Nat.zero_le _) hqc rfl (by simp) (by simp) (by simp[flat])
 simp only[List.nil_append] at e2
 have hq2:q2.map (·.2)=qs.map (·.2.strip):=by simp[q2]
 rw[hq2] at e2
 have hmem:∀d∈flat (qs.map (·.2.strip)),d.memOk=true:=λd hd=>by
  obtain⟨x,hx,hd⟩:=List.mem_flatMap.1 hd
  obtain⟨p,hp,rfl⟩:=zJ.1 hx
  exact(hcell p hp).2 d hd
 have hu2:∀x∈qs.map (·.2.strip),x.cells.length=i.size:=λx hx=>by
  obtain⟨p,hp,rfl⟩:=zJ.1 hx
  rw[g6]
  exact(hcell p hp).1
 have hn0:n*i.size≠0:=by
  intro h0
  rcases Nat.mul_eq_zero.1 h0 with h|h<;>omega
 have hrun:(Instr.buildSlice T n vs).run S.P w=.ok (.slice (some ⟨w.heap.size,0,none⟩) n n) (w.alloc (.cells arr e)):=by
  refine run_buildSlice (P:=S.P) w T e n vs arr inf z hu i1 i4 (by rw[i2];omega) (by rw[i2];exact hn0) ?_
  rw[i2]
  exact e1
 have hop:(execOp a.eval ⟨some t,.buildSlice T n ps,ty,pos,aft,none⟩).run S.P w=.ok (.value (.slice (some ⟨w.heap.size,0,none⟩) n n)) (w.alloc (.cells arr e)):=by
  simp[execOp,hvs,hrun]
 unfold Oper.wp
 rw[hop]
 have harr:=e2.1
 have hfl:=cZ hu2
 have hst:=aIi hs arr e i.size (n*i.size) s3 (by rw[harr,hfl,zC,hlen];exact zQ _) tok
 have hsim:=fH hs hst hc (tk:=tok::L.toks) (λk' hk'=>by
  by_cases e:k'=tok
  ·exact .inl e
  ·rcases zO.1 hk' with h|h
   ·exact absurd h e
   ·exact .inr ⟨by simp[Ghost.setTok,e,Ghost.grow],h⟩)
 refine hN _ _ (h _ _ _ (hsim.putO (t:=some t) (λt' ht=>by obtain rfl:=zA ht;exact s1) ?_) Q hQ)
 have hnew:(w.alloc (.cells arr e)).heap[w.heap.size]?=some (.cells arr e (0,0)):=heap_alloc_new w _
 have hcl:∀j,(w.alloc (.cells arr e)).cell? ⟨w.heap.size,j,none⟩=arr[j]?:=λj=>gZ w arr e j
 have hnm:n≤maxLen:=by
  have:=Nat.le_mul_of_pos_right n s3
  simp only[maxLen];omega
 refine .sl (b:=w.heap.size) (o:=0) (s:=i.size) (by simp[hlen]) (Nat.le_refl _) hnm ?_ (.inr rfl) hu2 hmem (λj d hd=>?_) (λj d v hd hv'=>?_)
 ·simp only[dT,Ghost.setTok,if_true]
  refine⟨⟨trivial,trivial⟩,trivial,by simp[Ghost.grow],?_,hu2⟩
  unfold World.shape?
  simp only[hnew,harr,hfl,zC,hlen]
 ·have hj:j<n*i.size:=by
   have:=(zE.1 hd).1
   rw[hfl,zC,hlen] at this
   exact this
  have hja:j<arr.size:=by rw[harr,hfl,zC,hlen];exact hj
  simp only[Nat.zero_add]
  refine⟨by simpa[Ghost.setTok,Ghost.grow] using hj,arr[j],?_⟩
  rw[hcl]
  simp[hja]
 ·simp only[Nat.zero_add,hcl] at hv'
  exact qG hst (e2.2 j d v hd hv') (hmem d (zF hd))
def aWl(S:Setup)(tok t u T n:Nat)(ps:Array (Nat×Operand))(M:LS->Prop)(L:LS):Prop :=
 ∃(qs:List (Nat×D)) (e:TypeId) (i:TyI),rU (aV L) ps.toList=some qs/\S.kd T=some (.slice e)/\S.tab e=some i ∧
  ((t<L.n/\0<n/\0<i.size/\n*i.size≤16777216)/\qs.map (·.1)=List.range n/\∀p∈qs,p.2.cells.length=i.size/\∀c∈p.2.strip.cells,c.memOk=true)/\L.clean (λx=>x==tok)=true/\u<L.n ∧
  M ((({L with toks:=tok::L.toks}:LS).put t (.sl (.own tok e i.size) (qs.map (·.2.strip)))).put u (.sl (.own tok e i.size) (qs.map (·.2.strip))))
theorem gU{S}{base:Nat}{B ops l2}{K:LS->Prop}{K':List Oper->LS->Prop}(hK:∀l L,K' l L->aU S B ops (l++l2) L K):∀(l:List Oper) (L:LS),bC S base ops K' l L->aU S B ops (l++l2) L K
 | [],L,h=>hK [] L h
 | ⟨dst,op,ty,pos,aft,g⟩::l,L,h=>by
  unfold bC at h
  split at h
  ·exact hK _ L h
  ·split at h
   ·rename_i hg
    intro G a w hs Q hQ
    refine wpList_step λN hN=>?_
    rw[if_pos (bN (S:=S) rfl hs (o:=⟨dst,op,ty,pos,aft,g⟩) hg)]
    exact Oper.wp_mono (λa' w' h'=>hN a' w' h') (aB2 h (λL' h'=>gU hK l L' h') G a w hs Q hQ)
   ·rename_i hg
    exact aU.skip (o:=⟨dst,op,ty,pos,aft,g⟩) hg h.1 (gU hK l _ h.2)
   ·exact hK _ L h
theorem aCs{S B}{R:LS->Prop}{k:List VItem}{L}(base:Nat)(kp:List (Nat×List Nat))(m tok:Nat){id t u T n:Nat}{ps:Array (Nat×Operand)}{ty1 ty2:TypeId}{p1 p2:String}{a1 a2:Array Edge}{l:List Oper}
  (hl:l.drop m=[⟨some t,.buildSlice T n ps,ty1,p1,a1,none⟩,⟨some u,.assign (.tmp t),ty2,p2,a2,none⟩])
  (h:∀K:List Oper->LS->Prop,KOk S base B l.toArray (aWl S tok t u T n ps λL'=>SW S B R k (L'.keepAt kp id)) K->bC S base l.toArray K (l.take m) L):SW S B R (.code (.region id l.toArray false)::k) L:=by
 have hs:∀l' L',bC S base l.toArray (λl' L'=>aU S B l.toArray (l'++l.drop m) L' (λL2=>SW S B R k L2)) l' L'->aU S B l.toArray (l'++l.drop m) L' (λL2=>SW S B R k L2) :=
  gU (base:=base) (K':=λl' L'=>aU S B l.toArray (l'++l.drop m) L' (λL2=>SW S B R k L2)) (λ_ _ h=>h)
 have hfin:∀L,aWl S tok t u T n ps (λL'=>SW S B R k (L'.keepAt kp id)) L->aU S B l.toArray (l.drop m) L (λL2=>SW S B R k L2):=λL ⟨qs,e,i,h1,h2,h3,h4,h5,h6,h7⟩=>by
  rw[hl]
  refine aU.buildOwn tok h1 h2 h3 h4 h5 (aU.step (base:=base) rfl ?_)
  simp only[aCQ,opY,aV,LS.get,LS.put,bV,if_true,aR,LS.putO]
  exact⟨h6,aU.nil (fP kp id h7)⟩
 have hl2:l.take m++l.drop m=l:=List.take_append_drop m l
 have hgo:=hs _ _ (h _ {
  nil:=λh=>hfin _ h
  raw:=λh=>h.app λL' h'=>hfin L' h'
  weak:=λhc h=>aU.weak hc (hs _ _ h)
  split:=λt _ ht h1 h0=>aU.split t ht (λe=>hs _ _ (h1 e)) (λe=>hs _ _ (h0 e))
  skip:=λhg hd h=>aU.skip hg hd (hs _ _ h)
  call:=λhg _ _ _ _ _ hf hds fc hside h=>aU.call hg hf hds fc hside (hs _ _ h)
  callB:=λhg _ _ _ _ _ _ _ _ _ hf hds fc hside h=>aU.callB hg hf hds fc hside (hs _ _ h)
  callT:=λhg _ _ _ _ _ _ _ hf hds fc hside h=>aU.callTi hg (base+_) hf hds fc hside (hs _ _ h)
  callM:=λhg _ _ _ _ _ _ _ hf hds fc hside h=>aU.callM hg (base+_) hf hds fc hside (hs _ _ h)})
 rw[hl2] at hgo
 exact yX hgo
end Go.Lg
namespace Go.Lg
open Go Go.RowKit
end Go.Lg
namespace Go.Lg
open Go Go.RowKit
def Base.off(B:Base)(N:Nat):Prop:=(∀b,¬B.ab b)/\∀b l,B.lab b≠N::l
theorem aLl{G:Ghost}{w:World}(h:∀b,G.lab b≠[]->b<w.heap.size):∃N,∀b l,G.lab b≠N::l:=by
 have:∀n,∃N,∀b,b<n->∀m l,G.lab b=m::l->m<N:=λn=>by
  induction n with
  | zero=>exact⟨0,λb hb=>absurd hb (by omega)⟩
  | succ n ih =>
   obtain⟨N,hN⟩:=ih
   refine⟨max N ((G.lab n).headD 0+1),λb hb m l e=>?_⟩
   rcases Nat.lt_succ_iff_lt_or_eq.1 hb with hb|rfl
   ·have:=hN b hb m l e;omega
   ·rw[e];simp only[List.headD_cons];omega
 obtain⟨N,hN⟩:=this w.heap.size
 exact⟨N,λb l e=>absurd (hN b (h b (by rw[e];simp)) N l e) (by omega)⟩
theorem aHV{S:Setup}{f:FuncId}{fn:Func}{c:Code}{ro:List (Nat×List D)}{args:List D}{d:D}
  (hf:S.P.funcs[f]?=some fn) (hb:fn.body=some c) (hname:(fn.name == "runtime.NumGoroutine")=false) (hn:args.length≤fn.ntmps)
  (h:∀B N,B.off N->SW S B (Ret S fn.results.toList d []) [.code c] ⟨fn.ntmps,aS 0 args,[],ro,[],[]⟩):FC S f ro [] [] args d [] []:=by
 refine⟨⟨fn,hf,hname,by rw[hb];rfl⟩,λw G vals hs=>?_⟩
 obtain⟨N,hN⟩:=aLl hs.W.lablt
 have hB:(cU G w [] []).off N:=by
  refine⟨λb hb=>?_,hN⟩
  rcases hb with⟨p,hp,_⟩|⟨k,hk,_⟩
  ·cases hp
  ·cases hk
 refine lC hf hb hn hs (h _ N hB) λG' L' a' w' hs' hr=>?_
 obtain⟨d0,v,⟨h1,h2⟩,h3,h4⟩:=kO hs' hr
 refine⟨v,h3,v,{G' with τ:=λ_=>none},rfl,rfl,rfl,λt d' hd=>?_,?_,hs.fixed⟩
 ·simp only[look] at hd
  split at hd
  ·rename_i ht
   subst ht
   obtain rfl:=zA hd
   refine⟨v,rfl,?_⟩
   exact(h4.le h1).mono (show Mono G' {G' with τ:=λ_=>none} w' w' from⟨λ_ _ _ h1 h2=>⟨h1,h2⟩,λ_ _=>rfl⟩) (λ_ _ _ h=>h) (λ_ _=>.inl rfl)
  ·cases hd
 ·exact mF (hs'.W.less h2 (ro':=[]) (by simp) (tk':=[]) (by simp))
end Go.Lg
namespace Go.Lg
open Go Go.RowKit
mutual
def D.safe(k:Nat)(tk:List Nat):D->Bool
 | .int ..|.bool _|.str _|.box ..|.ms ..|.vw ..|.raw _=>true
 | .sl (.own k' _ _) xs=>(k' != k)&&tk.contains k'&&D.safeL k tk xs
 | .sl (.que _ _) _=>false
 | .sl (.lab _) xs=>D.safeL k tk xs
 | .sl _ xs=>D.scaL xs
 | .agg cs|.tup cs|.fn _ cs=>D.safeL k tk cs
 | .imm cs=>cs.isEmpty
 | .pred _=>false
def D.safeL(k:Nat)(tk:List Nat):List D->Bool
 | []=>true
 | d::ds=>d.safe k tk&&D.safeL k tk ds
def D.scaL:List D->Bool
 | []=>true
 | d::ds=>d.sca&&D.scaL ds
end
theorem oM{k:Nat}{tk:List Nat}{ds:List D}(h:D.safeL k tk ds=true){d:D}(hd:d∈ds):d.safe k tk=true:=by
 induction ds with
 | nil=>cases hd
 | cons x r ih =>
  simp only[D.safeL,Bool.and_eq_true] at h
  rcases zO.1 hd with rfl|hd
  ·exact h.1
  ·exact ih h.2 hd
theorem aB7{k:Nat}{tk:List Nat}{ds:List D}(h:∀d∈ds,d.safe k tk=true):D.safeL k tk ds=true:=by
 induction ds with
 | nil=>rfl
 | cons x r ih=>simp only[D.safeL,Bool.and_eq_true];exact⟨h x zH,ih λd hd=>h d (zG _ hd)⟩
theorem aSX{ds:List D}(h:D.scaL ds=true){d:D}(hd:d∈ds):d.sca=true:=by
 induction ds with
 | nil=>cases hd
 | cons x r ih =>
  simp only[D.scaL,Bool.and_eq_true] at h
  rcases zO.1 hd with rfl|hd
  ·exact h.1
  ·exact ih h.2 hd
theorem aVF{ds:List D}(h:∀d∈ds,d.sca=true):D.scaL ds=true:=by
 induction ds with
 | nil=>rfl
 | cons x r ih=>simp only[D.scaL,Bool.and_eq_true];exact⟨h x zH,ih λd hd=>h d (zG _ hd)⟩
theorem aAP(xs:List Int)(k:IntKind):D.scaL (xs.map (.int k))=true:=aVF λd hd=>by
 obtain⟨x,_,rfl⟩:=zJ.1 hd;rfl
theorem aK1{k:Nat}{tk:List Nat}{x:D}(h:x.safe k tk=true):∀d∈x.cells,d.safe k tk=true:=by
 cases x with
 | agg cs=>exact λd hd=>oM (ds:=cs) (by simpa[D.safe] using h) hd
 | _=>intro d hd;rw[show d=_ from zN.1 hd];exact h
theorem vI{k:Nat}{tk:List Nat}{xs:List D}(h:D.safeL k tk xs=true):∀d∈flat xs,d.safe k tk=true:=λd hd=>by
 obtain⟨x,hx,hd⟩:=List.mem_flatMap.1 hd
 exact aK1 (oM h hx) d hd
theorem aQz{xs:List D}(h:D.scaL xs=true):∀d∈flat xs,d.sca=true:=λd hd=>by
 obtain⟨x,hx,hd⟩:=List.mem_flatMap.1 hd
 have:=aSX h hx
 cases x<;>simp[D.cells,D.sca] at hd this ⊢<;>subst hd<;>rfl
mutual
theorem aI3{k:Nat}{tk:List Nat}:∀(d:D),d.safe k tk=true->∀k'∈d.tks,k'≠k
 | .int ..,_,_,h=>by simp[D.tks] at h
 | .bool _,_,_,h=>by simp[D.tks] at h
 | .str _,_,_,h=>by simp[D.tks] at h
 | .box ..,_,_,h=>by simp[D.tks] at h
 | .ms ..,_,_,h=>by simp[D.tks] at h
 | .vw ..,_,_,h=>by simp[D.tks] at h
 | .raw _,_,_,h=>by simp[D.tks] at h
 | .imm _,_,_,h=>by simp[D.tks] at h
 | .pred _,_,_,h=>by simp[D.tks] at h
 | .sl tk0 xs,hs,k',h=>by
  cases tk0 with
  | own k2 e z =>
   simp only[D.tks,zN] at h
   subst h
   simp only[D.safe,Bool.and_eq_true,bne_iff_ne] at hs
   exact hs.1.1
  | que k2 e=>simp[D.safe] at hs
  | _=>simp[D.tks] at h
 | .agg cs,hs,k',h=>r6 cs (by simpa[D.safe] using hs) k' (by simpa[D.tks] using h)
 | .tup cs,hs,k',h=>r6 cs (by simpa[D.safe] using hs) k' (by simpa[D.tks] using h)
 | .fn _ cs,hs,k',h=>r6 cs (by simpa[D.safe] using hs) k' (by simpa[D.tks] using h)
theorem r6{k:Nat}{tk:List Nat}:∀(ds:List D),D.safeL k tk ds=true->∀k'∈D.tksL ds,k'≠k
 | [],_,_,h=>by simp[D.tksL] at h
 | d::ds,hs,k',h=>by
  simp only[D.safeL,Bool.and_eq_true] at hs
  simp only[D.tksL,zP] at h
  rcases h with h|h
  ·exact aI3 d hs.1 k' h
  ·exact r6 ds hs.2 k' h
end
def Ghost.hide(G:Ghost)(g:Nat):Ghost:={G with lim:=λb=>if b=g then 0 else G.lim b}
theorem aOM{G:Ghost}{w:World}{k g:Nat}{tk:List Nat}(htk:∀k'∈tk,∃x,G.τ k'=some x)(hinj:∀k' e z,G.τ k'=some (some (g,e,z))->k'=k)(hlab:G.lab g=[])
  (hsl:∀o v,o<G.lim g->w.cell? ⟨g,o,none⟩=some v->∃A n c,v=.slice A n c) {d:D} {v:Value} (h:Rel G w d v):d.safe k tk=true->Rel (G.hide g) w d v:=by
 have hl:∀b,b≠g->(G.hide g).lim b=G.lim b:=λb hb=>by simp[Ghost.hide,hb]
 induction h with
 | int=>exact λ_=>.int
 | bool=>exact λ_=>.bool
 | str=>exact λ_=>.str
 | box hb=>exact λ_=>.box hb
 | ms hb hc hn=>exact λ_=>.ms hb hc hn
 | vw hb hc hn=>exact λ_=>.vw hb hc hn
 | raw h=>exact λ_=>.raw h
 | pred=>intro h;simp[D.safe] at h
 | agg hlen hr ih=>exact λh=>.agg hlen λj d v hj hv=>ih j d v hj hv (oM (by simpa[D.safe] using h) (List.mem_of_getElem? hj))
 | tup hlen hr ih=>exact λh=>.tup hlen λj d v hj hv=>ih j d v hj hv (oM (by simpa[D.safe] using h) (List.mem_of_getElem? hj))
 | fn hlen hr ih=>exact λh=>.fn hlen λj d v hj hv=>ih j d v hj hv (oM (by simpa[D.safe] using h) (List.mem_of_getElem? hj))
 | @imm cs b o hk hst hr ih =>
  intro h
  obtain rfl:cs=[]:=by simpa[D.safe] using h
  exact .imm (b:=b) (o:=o) (λd hd=>by cases hd) (λj d hj=>by simp at hj) (λj d v hj=>by simp at hj)
 | @sl tk0 xs A n c b o s hn hc hm ht hA hu hk hst hr ih =>
  intro h
  have key:(∀d∈flat xs,d.safe k tk=true)->(flat xs=[]∨b≠g)->dT (G.hide g) w tk0 xs A n c->Rel (G.hide g) w (.sl tk0 xs) (.slice A n c):=λhs hor ht'=>by
   refine .sl (b:=b) (o:=o) hn hc hm ht' hA hu hk (λj d hj=>?_) (λj d v hj hv=>?_)
   ·obtain⟨h1,h2⟩:=hst j d hj
    have hb:b≠g:=hor.resolve_left (by rintro e;rw[e] at hj;simp at hj)
    exact⟨by rw[hl b hb];exact h1,h2⟩
   ·exact ih j d v hj hv (hs d (zF hj))
  have plain:D.scaL xs=true->dT (G.hide g) w tk0 xs A n c->Rel (G.hide g) w (.sl tk0 xs) (.slice A n c):=λhs ht'=>by
   have hsc:=aQz hs
   refine key (λd hd=>?_) ?_ ht'
   ·have:=hsc d hd
    cases d<;>first|rfl|(simp[D.sca] at this)
   ·cases hf:flat xs with
    | nil=>exact .inl rfl
    | cons d0 r =>
     right
     rintro rfl
     have h0:(flat xs)[0]?=some d0:=by rw[hf];rfl
     obtain⟨h1,v,h2⟩:=hst 0 d0 h0
     obtain⟨A',n',c',rfl⟩:=hsl _ _ h1 h2
     have h3:=hr 0 d0 _ h0 h2
     have h4:=hsc d0 (by rw[hf];exact zH)
     cases h3<;>simp[D.sca] at h4
  cases tk0 with
  | que k2 e=>simp[D.safe] at h
  | any=>exact plain (by simpa[D.safe] using h) ht
  | nil=>exact plain (by simpa[D.safe] using h) ht
  | nl=>exact plain (by simpa[D.safe] using h) ht
  | nn=>exact plain (by simpa[D.safe] using h) ht
  | full=>exact plain (by simpa[D.safe] using h) ht
  | lab l =>
   refine key (vI (by simpa[D.safe] using h)) ?_ ht
   rcases ht with rfl|⟨g',o',e1,e2,e3⟩
   ·exact .inl rfl
   ·rcases hA with rfl|hA
    ·exact .inl rfl
    ·right
     rintro rfl
     rw[e1] at hA
     simp only[Option.some.injEq,Addr.mk.injEq] at hA
     rw[hA.1] at e2
     exact e3 (by rw[←e2,hlab])
  | own k' e z =>
   simp only[D.safe,Bool.and_eq_true,bne_iff_ne,ne_eq,List.contains_eq_mem,decide_eq_true_eq] at h
   obtain⟨⟨h1,h2⟩,h3⟩:=h
   obtain⟨x,hx⟩:=htk k' h2
   simp only[dT,hx] at ht
   match x,hx,ht with
   | none,hx,ht =>
    have:xs=[]:=List.length_eq_zero_iff.1 (hn.symm.trans ht.1)
    subst this
    exact key (vI h3) (.inl rfl) (by simp only[dT,show (G.hide g).τ k'=some none from hx];exact ht)
   | some (g',e',z'),hx,ht =>
    have hg:g'≠g:=by rintro rfl;exact h1 (hinj k' e' z' hx)
    refine key (vI h3) ?_ ?_
    ·rcases hA with rfl|hA
     ·exact .inl rfl
     ·right
      rintro rfl
      rw[ht.2.1] at hA
      simp only[Option.some.injEq,Addr.mk.injEq] at hA
      exact hg hA.1
    ·simp only[dT,show (G.hide g).τ k'=some (some (g',e',z')) from hx]
     rw[hl g' hg]
     exact ht
abbrev nG (p:Tk×List Int):D:=.sl p.1 (p.2.map (.int .i64))
theorem pP(ps:List (Tk×List Int)):flat (ps.map nG)=ps.map nG:=by
 induction ps with
 | nil=>rfl
 | cons p r ih=>simp[flat] at ih ⊢;simp[D.cells,ih]
end Go.Lg
