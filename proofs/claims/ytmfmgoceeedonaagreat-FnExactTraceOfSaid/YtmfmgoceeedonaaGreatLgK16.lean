import Derived.Test.YtmfmgoceeedonaaGreatLgK4
import Derived.Scope
namespace Go.Lg
open Go Go.RowKit
section
variable {S:Setup} {B:Base} {R:LS->Prop} {k:List VItem} {L:LS}
theorem aU3{l:Nat}(h:SW S B R k L):SW S B R (.code (.label l)::k) L:=λG a w hs=>wp_label (h G a w hs)
theorem wS{P:Program}:∀(k:List VItem) (l:Nat) (a:Act) (w:World),¬rN P B R k (.goto l) a w
 | [],l,a,w,h=>by
  rcases h with⟨h|h,_⟩|⟨c,h,_⟩<;>cases h
 | .inBlock id::k,l,a,w,h=>wS k l a w h
 | .loopEnd J::k,l,a,w,h=>wS k l a w h
 | .code c::k,l,a,w,h=>wS k l a w h
theorem aVv{c:Code}(h:SW S B R (.code c::k) L):SW S B R (.code (.scope c)::k) L:=λG a w hs=>by
 refine wp_scope_straight ?_;refine Code.wp_mono ?_ (h G a w hs);intro e a w hq;cases e<;>first|exact hq|exact(wS k _ a w hq).elim
def Ghost.renB(G:Ghost)(i i':Nat):Ghost:={G with β:=λj=>if j=i' then G.β i else if j=i then none else G.β j}
def aBc(i i':Nat)(d d':D):Prop:=(i∉d.ids/\i'∉d.ids/\d'=d)∨(∃n,d=.ms i n/\d'=.ms i' n)∨∃o,d=.box i o/\d'=.box i' o
theorem aBc.keep{i i':Nat}{d:D}(h:d.ids=[]):aBc i i' d d:=.inl ⟨by rw[h];simp,by rw[h];simp,rfl⟩
theorem aBc.rel{i i':Nat}{d d':D}(h:aBc i i' d d'){G:Ghost}{w:World}{v:Value}(hr:Rel G w d v):Rel (G.renB i i') w d' v:=by
 rcases h with⟨h1,h2,rfl⟩|⟨n,rfl,rfl⟩|⟨o,rfl,rfl⟩
 ·refine Rel.mono (G:=G) (w:=w) (G':=G.renB i i') (w':=w) ⟨λb o v a1 a2=>⟨a1,a2⟩,λb hb=>rfl⟩ hr (λj hj g hg=>?_) (λk hk=>.inr ⟨rfl,λ_ _ _ _=>⟨rfl,rfl⟩⟩);have e1:j≠i':=λe=>h2 (e ▸ hj);have e2:j≠i:=λe=>h1 (e ▸ hj);simp only[Ghost.renB,if_neg e1,if_neg e2];exact hg
 ·cases hr with
  | @ms _ _ c g hb hc hn=>exact .ms (by simp[Ghost.renB,hb]) hc hn
 ·cases hr with
  | @box _ _ g hb=>exact .box (by simp[Ghost.renB,hb])
theorem aLb{i i' g:Nat}{cs cs':List D}(hl:cs'.length≤cs.length)(h:∀(j:Nat) d d',cs[j]?=some d->cs'[j]?=some d'->aBc i i' d d'){G:Ghost}{w:World}(hb:dD G w g cs):dD (G.renB i i') w g cs':=by
 obtain⟨vs,e,h1,h2,h3⟩:=hb;refine⟨vs,e,h1,by omega,λj d' v hd hv=>?_⟩;have hj:j<cs.length:=by have:=(zE.1 hd).1;omega
 exact(h j _ d' (zB hj) hd).rel (h3 j _ v (zB hj) hv)
theorem aQq{L':LS}(i i':Nat)(hne:i≠i')(hf:i∉L.fix)(hf':i'∉L.fix)(hn:L'.n=L.n)(hfx:L'.fix=L.fix)(htk:L'.toks=L.toks)(hro:L'.ro=[])
  (henv:∀p∈L'.env,∃d,look L.env p.1=some d/\aBc i i' d p.2)
  (hbx:∀p∈L'.boxes,(p.1=i'/\∃cs,look L.boxes i=some cs/\p.2.length≤cs.length/\∀(j:Nat) d d',cs[j]?=some d->p.2[j]?=some d'->aBc i i' d d')∨(p.1≠i'/\p.1≠i/\∃cs,look L.boxes p.1=some cs/\p.2.length≤cs.length/\∀(j:Nat) d d',cs[j]?=some d->p.2[j]?=some d'->aBc i i' d d'))
  (h:SW S B R k L'):SW S B R k L:=λG a w hs=>by
 have hW:=hs.W;have hβ:∀j g,(G.renB i i').β j=some g->(j=i'/\G.β i=some g)∨(j≠i'/\j≠i/\G.β j=some g):=λj g hj=>by
  simp only[Ghost.renB] at hj;split at hj
  ·exact .inl ⟨by assumption,hj⟩
  ·split at hj
   ·cases hj
   ·exact .inr ⟨by assumption,by assumption,hj⟩
 have hβ1:∀j,j≠i'->j≠i->(G.renB i i').β j=G.β j:=λj h1 h2=>by simp[Ghost.renB,h1,h2]
 have hβ2:(G.renB i i').β i'=G.β i:=by simp[Ghost.renB]
 refine h (G.renB i i') a w ⟨hs.defers,by rw[hn];exact hs.size,λt d hd=>?_,?_,by rw[hfx];exact hs.fixed⟩
 ·obtain⟨d0,h1,h2⟩:=henv (t,d) (bB hd);obtain⟨v,h3,h4⟩:=hs.env t d0 h1;exact⟨v,h3,h2.rel h4⟩
 ·exact {
   boxes:=λid cs hl=>by
    rcases hbx (id,cs) (bB hl) with⟨e,cs0,h1,h2,h3⟩|⟨e1,e2,cs0,h1,h2,h3⟩
    ·obtain⟨g,q1,q2,q3⟩:=hW.boxes i cs0 h1;have e:id=i':=e;subst e;exact⟨g,by rw[hβ2];exact q1,aLb h2 h3 q2,q3⟩
    ·obtain⟨g,q1,q2,q3⟩:=hW.boxes id cs0 h1;exact⟨g,by rw[hβ1 id e1 e2];exact q1,aLb h2 h3 q2,q3⟩
   robs:=λid cs hl=>by rw[hro] at hl;cases hl
   toks:=λk hk=>by rw[htk] at hk;exact hW.toks k hk
   tau:=λk g e z hk=>by
    obtain⟨q1,q2,q3,q4⟩:=hW.tau k g e z hk;refine⟨q1,q2,q3,λj hj=>?_⟩;rcases hβ j g hj with⟨_,h1⟩|⟨_,_,h1⟩
    ·exact q4 _ h1
    ·exact q4 _ h1
   tinj:=hW.tinj
   binj:=λj j' g h1 h2=>by
    rcases hβ j g h1 with⟨e1,h1⟩|⟨e1,e2,h1⟩<;>rcases hβ j' g h2 with⟨e3,h2⟩|⟨e3,e4,h2⟩
    ·rw[e1,e3]
    ·exact absurd (hW.binj _ _ _ h2 h1) e4
    ·exact absurd (hW.binj _ _ _ h1 h2) e2
    ·exact hW.binj _ _ _ h1 h2
   blt:=λj g h1=>by
    rcases hβ j g h1 with⟨_,h1⟩|⟨_,_,h1⟩<;>exact hW.blt _ _ h1
   lablt:=hW.lablt
   old:=hW.old
   olda:=hW.olda
   oldl:=hW.oldl
   tlab:=hW.tlab
   blab:=λj g h1=>by
    rcases hβ j g h1 with⟨_,h1⟩|⟨_,_,h1⟩<;>exact hW.blab _ _ h1
   oldu:=hW.oldu
   labw:=hW.labw
   ids:=λp hp=>by
    have hx:=hs.fixed p hp;rw[hβ1 p.1 (λe=>hf' (e ▸ hx)) (λe=>hf (e ▸ hx))];exact hW.ids p hp
   sz:=hW.sz
   os:=hW.os
   tape:=hW.tape
   out:=hW.out
   dr:=hW.dr}
def n9(K:Nat)(ps:List Nat)(row:Nat->List D):List (Nat×List D):=ps.map λp=>(p+K,row p)
def mk1(ps:List Nat)(p:Nat):Nat:=if p∈ps then 1 else 0
theorem aAL{ps:List Nat}{p:Nat}:1≤mk1 ps p↔p∈ps:=by unfold mk1;split<;>simp_all
theorem wZ{K:Nat}{row:Nat->List D}{p:Nat}:∀ {ps:List Nat},p∈ps->look (n9 K ps row) (p+K)=some (row p)
 | q::ps,h=>by
  simp only[n9,List.map_cons,look];by_cases e:q=p
  ·subst e;simp
  ·rw[if_neg (by omega)];exact wZ ((zO.1 h).resolve_left λh=>e h.symm)
theorem tT{K:Nat}{row:Nat->List D}{t:Nat}:∀ {ps:List Nat},(∀p∈ps,p+K≠t)->look (n9 K ps row) t=none
 | [],_=>rfl
 | q::ps,h=>by
  simp only[n9,List.map_cons,look];rw[if_neg (h q zH)];exact tT λp hp=>h p (zG _ hp)
theorem aNf{K:Nat}{ps:List Nat}{row:Nat->List D}{p:Nat}(h:Om (1≤mk1 ps p)):look (n9 K ps row) (p+K)=some (row p):=wZ (aAL.1 h.1)
def aXs(row:Nat->List D)(p:Nat)(c:List D):Nat->List D:=λq=>if q=p then c else row q
theorem aHA{K:Nat}{row:Nat->List D}{p:Nat}{c:List D}:∀ {ps:List Nat},ps.Nodup->p∈ps->eU (n9 K ps row) (p+K) c=n9 K ps (aXs row p c)
 | q::ps,hn,h=>by
  have hq:=List.nodup_cons.1 hn;simp only[n9,List.map_cons,eU];by_cases e:q=p
  ·subst e;simp only[if_true,aXs];congr 1
   refine List.map_congr_left λx hx=>?_;have:x≠q:=λe=>hq.1 (e ▸ hx);simp[this]
  ·rw[if_neg (by omega)];have ih:=aHA (K:=K) (row:=row) (c:=c) hq.2 ((zO.1 h).resolve_left λh=>e h.symm);simp only[n9] at ih;rw[ih];simp[aXs,e]
end
end Go.Lg
