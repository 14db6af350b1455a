import Derived.Test.YtmfmgoceeedonaaGreatLgK13
import Derived.Test.YtmfmgoceeedonaaGreatLgK7
import Derived.KernelRfl
namespace Go.Lg
open Go Go.RowKit
mutual
def D.noL(l:List Nat):D->Bool
 | .int ..|.bool _|.str _|.raw _=>true
 | .sl (.lab q) xs=>q != l&&D.noLL l xs
 | .sl _ xs=>D.noLL l xs
 | .agg cs|.tup cs=>D.noLL l cs
 | _=>false
def D.noLL(l:List Nat):List D->Bool
 | []=>true
 | d::ds=>d.noL l&&D.noLL l ds
end
theorem aAu{l:List Nat}{ds:List D}(h:D.noLL l ds=true){d:D}(hd:d∈ds):d.noL l=true:=by
 induction ds with
 | nil=>cases hd
 | cons x r ih =>
  simp only[D.noLL,Bool.and_eq_true] at h;rcases zO.1 hd with rfl|hd
  ·exact h.1
  ·exact ih h.2 hd
theorem aAT{α:Type}{l:List Nat}{f:α->D}(h:∀x,(f x).noL l=true):∀xs:List α,D.noLL l (xs.map f)=true
 | []=>rfl
 | x::r=>by simp only[List.map_cons,D.noLL,h x,aAT h r,Bool.and_self]
theorem aQk{l:List Nat}{x:D}(h:x.noL l=true):∀d∈x.cells,d.noL l=true:=by
 cases x with
 | agg cs=>exact λd hd=>aAu (ds:=cs) (by simpa[D.noL] using h) hd
 | _=>intro d hd;rw[show d=_ from zN.1 hd];exact h
theorem aU7{l:List Nat}{xs:List D}(h:D.noLL l xs=true):∀d∈flat xs,d.noL l=true:=λd hd=>by
 obtain⟨x,hx,hd⟩:=List.mem_flatMap.1 hd;exact aQk (aAu h hx) d hd
theorem aXm{l:List Nat}{G G':Ghost}{w}(hlim:G'.lim=G.lim)(hτ:G'.τ=G.τ)(hlab:∀b,G.lab b≠l->G'.lab b=G.lab b){d:D}{v:Value}(h:Rel G w d v):d.noL l=true->Rel G' w d v:=by
 induction h with
 | int=>exact λ_=>.int
 | bool=>exact λ_=>.bool
 | str=>exact λ_=>.str
 | raw h=>exact λ_=>.raw h
 | agg hlen hr ih=>exact λh=>.agg hlen λj d v hj hv=>ih j d v hj hv (aAu (by simpa[D.noL] using h) (List.mem_of_getElem? hj))
 | tup hlen hr ih=>exact λh=>.tup hlen λj d v hj hv=>ih j d v hj hv (aAu (by simpa[D.noL] using h) (List.mem_of_getElem? hj))
 | @sl tk0 xs A n c b o s hn hc hm ht hA hu hk hst hr ih =>
  intro h;have key:D.noLL l xs=true->dZ G' w tk0 xs A n c->Rel G' w (.sl tk0 xs) (.slice A n c):=λhP ht' =>
   .sl (b:=b) (o:=o) hn hc hm ht' hA hu hk (λj d hj=>by rw[hlim];exact hst j d hj) λj d v hj hv=>ih j d v hj hv (aU7 hP d (zF hj))
  cases tk0 with
  | lab q =>
   simp only[D.noL,Bool.and_eq_true,bne_iff_ne,ne_eq] at h;refine key h.2 ?_;rcases ht with ht|⟨g,o',e1,e2,e3⟩
   ·exact .inl ht
   ·exact .inr ⟨g,o',e1,by rw[hlab g (by rw[e2];exact h.1)];exact e2,e3⟩
  | own k e z=>exact key (by simpa[D.noL] using h) (by simp only[dZ] at ht ⊢;rw[hτ,hlim];exact ht)
  | que k e=>exact key (by simpa[D.noL] using h) (by simp only[dZ] at ht ⊢;rw[hτ,hlim];exact ht)
  | any=>exact key (by simpa[D.noL] using h) ht
  | nil=>exact key (by simpa[D.noL] using h) ht
  | nl=>exact key (by simpa[D.noL] using h) ht
  | nn=>exact key (by simpa[D.noL] using h) ht
  | full=>exact key (by simpa[D.noL] using h) ht
 | _=>intro h;simp[D.noL] at h
def FCO(S:Setup)(l:List Nat)(f:FuncId)(args:List D)(d:D)(tk':List Nat):Prop :=
 Enters S.P f/\∀(w:World) (G:Ghost) (vals:Array Value),(∀b,b<w.heap.size->G.lab b=l)->Sim (dE G w [] []) ⟨args.length,eY 0 args,[],[],[],[]⟩ G ⟨vals,[]⟩ w →
  Calls S.P f vals w λe w'=>∃v G',e=.returned v/\Sim (dE G w [] []) ⟨1,[(0,d)],[],[],tk',[]⟩ G' ⟨#[v],[]⟩ w'
theorem aGW(G1:Ghost)(w:World)(b:Nat):¬(dE G1 w [] []).ab b:=by
 rintro (⟨p,hp,_⟩|⟨k,hk,_⟩)
 ·cases hp
 ·cases hk
theorem aI6{S}{f:FuncId}{args:List D}{d:D}{tk':List Nat}(l:List Nat)(hl:l≠[])(hok:D.okLbL args=true)(hd:d.noL l=true)(h:FCO S l f (D.lbL l args) d tk'):FC S f [] [] [] args d [] tk':=by
 refine⟨h.1,λw G vals hs=>?_⟩;have hW:=hs.W;let G0:Ghost:={lim:=G.lim,lab:=λb=>if b<w.heap.size then l else [],β:=λ_=>none,τ:=λ_=>none};have hlab0:∀b,b<w.heap.size->G0.lab b=l:=λb hb=>by simp[G0,hb]
 have hno:∀(G1:Ghost) b,¬(dE G1 w [] []).ab b:=λG1 b=>aGW G1 w b;have hlen:(D.lbL l args).length=args.length:=by rw[j2,zC]
 have h0:Sim (dE G0 w [] []) ⟨(D.lbL l args).length,eY 0 (D.lbL l args),[],[],[],[]⟩ G0 ⟨vals,[]⟩ w:=by
  refine⟨rfl,by rw[hlen];exact hs.size,λt d' hd'=>?_,?_,λp hp=>by cases hp⟩
  ·rw[iB] at hd';simp only[Nat.zero_le,if_true,Nat.sub_zero,j2,zI] at hd';obtain⟨d0,h1,rfl⟩:=Option.map_eq_some_iff.1 hd';obtain⟨v,h2,h3⟩:=hs.env t d0 (by simp only[iB,Nat.zero_le,if_true,Nat.sub_zero];exact h1);exact⟨v,h2,aVG hl (G:=G) (G':=G0) rfl hlab0 h3 (nL hok (zF h1))⟩
  ·exact {
    boxes:=λid cs hl=>by cases hl
    robs:=λid cs hl=>by cases hl
    toks:=λk hk=>by cases hk
    tau:=λk g e z hk=>by cases hk
    tinj:=λk k' g e z e' z' hk=>by cases hk
    binj:=λi j g hi=>by cases hi
    blt:=λi g hi=>by cases hi
    lablt:=λb hb=>by
     simp only[G0] at hb;split at hb
     ·assumption
     ·exact absurd rfl hb
    old:=λ_ _ _=>⟨rfl,rfl⟩
    olda:=λ_ _=>⟨zQ _,λ_ _ _ h=>h⟩
    oldl:=λ_ _ _=>rfl
    tlab:=λk g e z hk=>by cases hk
    blab:=λi g hi=>by cases hi
    oldu:=λ_ _ _ h=>h
    labw:=λb hb hor=>by
     rcases hor with hor|hor
     ·simp only[G0] at hb;split at hb
      ·rename_i hlt;exact absurd hlt (Nat.not_lt.2 hor)
      ·exact absurd rfl hb
     ·exact absurd hor (hno _ b)
    ids:=λp hp=>by cases hp
    sz:=zQ _
    os:=rfl
    tape:=rfl
    out:=rfl
    dr:=zQ _}
 refine(h.2 w G0 vals hlab0 h0).mono ?_;rintro e w' ⟨v,G',rfl,hend⟩;have hE:=hend.W;let G2:Ghost:={lim:=G'.lim,lab:=λb=>if b<w.heap.size then G.lab b else G'.lab b,β:=G'.β,τ:=G'.τ};have hl2:∀b,¬b<w.heap.size->G2.lab b=G'.lab b:=λb hb=>by simp[G2,hb]
 have hl1:∀b,b<w.heap.size->G2.lab b=G.lab b:=λb hb=>by simp[G2,hb]
 have hold:∀b,b<w.heap.size->G'.lab b=l:=λb hb=>by
  have e0:=hlab0 b hb;exact(hE.oldl b hb (show G0.lab b≠[] by rw[e0];exact hl)).trans e0
 refine⟨v,G2,rfl,hend.defers,hend.size,λt d' hd'=>?_,?_,λp hp=>by cases hp⟩
 ·obtain⟨v',h1,h2⟩:=hend.env t d' hd';simp only[look] at hd';split at hd'
  ·obtain rfl:=zA hd';exact⟨v',h1,aXm (l:=l) (G:=G') (G':=G2) rfl rfl (λb hb=>by
    by_cases hlt:b<w.heap.size
    ·exact absurd (hold b hlt) hb
    ·exact hl2 b hlt) h2 hd⟩
  ·cases hd'
 ·exact {
   boxes:=λid cs hl=>by cases hl
   robs:=λid cs hl=>by cases hl
   toks:=hE.toks
   tau:=λk g e z hk=>by
    obtain⟨h1,h2⟩:=hE.tau k g e z hk;exact⟨.inl (h1.resolve_right (hno _ g)),h2⟩
   tinj:=hE.tinj
   binj:=hE.binj
   blt:=hE.blt
   lablt:=λb hb=>by
    by_cases hlt:b<w.heap.size
    ·exact Nat.lt_of_lt_of_le hlt hE.sz
    ·rw[hl2 b hlt] at hb;exact hE.lablt b hb
   old:=λb hlt _=>hE.old b hlt (hno _ b)
   olda:=hE.olda
   oldl:=λb hlt _=>hl1 b hlt
   tlab:=λk g e z hk=>by
    have h1:=hE.tlab k g e z hk;by_cases hlt:g<w.heap.size
    ·rw[hold g hlt] at h1;exact absurd h1 hl
    ·rw[hl2 g hlt];exact h1
   blab:=λi g hi=>by
    have h1:=hE.blab i g hi;by_cases hlt:g<w.heap.size
    ·rw[hold g hlt] at h1;exact absurd h1 hl
    ·rw[hl2 g hlt];exact h1
   oldu:=λb hlt _ hb=>by rw[hl1 b hlt];exact hb
   labw:=λb hb hor=>by
    rcases hor with hor|hor
    ·rw[hl2 b (Nat.not_lt.2 hor)] at hb;exact hE.labw b hb (.inl hor)
    ·exact absurd hor (hno _ b)
   ids:=λp hp=>by cases hp
   sz:=hE.sz
   os:=hE.os
   tape:=hE.tape
   out:=hE.out
   dr:=hE.dr}
def Base.olds(B:Base)(l:List Nat):Prop:=(∀b,¬B.ab b)/\∀b,b<B.w.heap.size->B.lab b=l
theorem aVp{S:Setup}{f:FuncId}{fn:Func}{c:Code}{l:List Nat}{args:List D}{d:D}
  (hf:S.P.funcs[f]?=some fn) (hb:fn.body=some c) (hname:(fn.name == "runtime.NumGoroutine")=false) (hn:args.length≤fn.ntmps)
  (h:∀B,B.olds l->SW S B (Ret S fn.results.toList d []) [.code c] ⟨fn.ntmps,eY 0 args,[],[],[],[]⟩):FCO S l f args d []:=by
 refine⟨⟨fn,hf,hname,by rw[hb];rfl⟩,λw G vals hG hs=>kX hf hb hn hs (h _ ⟨λb=>aGW G w b,hG⟩) λG' L' a' w' hs' hr=>?_⟩;obtain⟨d0,v,⟨h1,h2⟩,h3,h4⟩:=kU hs' hr;refine⟨v,h3,v,{G' with τ:=λ_=>none},rfl,rfl,rfl,λt d' hd=>?_,?_,hs.fixed⟩
 ·simp only[look] at hd;split at hd
  ·rename_i ht;subst ht;obtain rfl:=zA hd;refine⟨v,rfl,?_⟩;exact(h4.le h1).mono (show Mono G' {G' with τ:=λ_=>none} w' w' from⟨λ_ _ _ h1 h2=>⟨h1,h2⟩,λ_ _=>rfl⟩) (λ_ _ _ h=>h) (λ_ _=>.inl rfl)
  ·cases hd
 ·exact l7 (hs'.W.less h2 (ro':=[]) (by simp) (tk':=[]) (by simp))
def PLI(q:List Nat)(ys:List Int):Ghost->World->Value->Prop:=λG w v=>∃g c,v=.slice (some ⟨g,0,none⟩) ys.length c/\ys.length≤c/\c≤maxLen/\(G.lab g=q/\q≠[])/\∀j n,ys[j]?=some n->j<G.lim g/\w.cell? ⟨g,j,none⟩=some (.int .i64 n)
def PL(q:List Nat)(ys:List Int):D:=.pred (PLI q ys)
theorem aW8{q:List Nat}{ys:List Int}{G G' w w'}{v:Value}(hm:Mono G G' w w')(h:PLI q ys G w v):PLI q ys G' w' v:=by
 obtain⟨g,c,h1,h2,h3,⟨h4,h5⟩,h6⟩:=h;exact⟨g,c,h1,h2,h3,⟨(hm.lab g (by rw[h4];exact h5)).trans h4,h5⟩,λj n hj=>hm.cell g j _ (h6 j n hj).1 (h6 j n hj).2⟩
theorem aUa{q:List Nat}{ys:List Int}{G w}{v:Value}(h:PLI q ys G w v):Rel G w (PL q ys) v:=by
 have h0:=h;obtain⟨g,c,h1,_⟩:=h0;exact .pred (λcs e=>by rw[h1] at e;cases e) λG' w' hm=>aW8 hm h
theorem aO0{q:List Nat}{ys:List Int}{G w}{v:Value}(h:Rel G w (PL q ys) v):PLI q ys G w v:=by
 cases h with
 | pred hv h=>exact h G w (Mono.refl G w)
theorem aPS{q:List Nat}{ys:List Int}:D.le (PL q ys) (.sl .any (ys.map (.int .i64))):=.kn λG w v h=>by
 obtain⟨g,c,rfl,h2,h3,h4,h6⟩:=aO0 h;refine .sl (b:=g) (o:=0) (s:=1) (by simp) h2 h3 trivial (.inr rfl) (fI λ_=>rfl) (λd hd=>fJ ys d (by rwa [dA] at hd)) (λj d hj=>?_) (λj d u hj hu=>?_)
 ·rw[dA,zI] at hj;obtain⟨n,hn,rfl⟩:=Option.map_eq_some_iff.1 hj;rw[Nat.zero_add];exact⟨(h6 j n hn).1,_,(h6 j n hn).2⟩
 ·rw[dA,zI] at hj;obtain⟨n,hn,rfl⟩:=Option.map_eq_some_iff.1 hj;rw[Nat.zero_add,(h6 j n hn).2] at hu;obtain rfl:=zA hu;exact .int
theorem rB{S B}{R:LS->Prop}{kk:List VItem}{L:LS}(q:List Nat)(hq:q≠[])(t id:Nat){n:Nat}{ys:List Int}(ht:look L.env t=some (.ms id n))(hb:look L.boxes id=some (ys.map (.int .i64)))(hn:n=ys.length)(hne:ys≠[])(hfix:id∉L.fix)
  (h:SW S B R kk {L.forget id with env:=eU (L.forget id).env t (PL q ys)}):SW S B R kk L:=λG a w hs=>by
 subst hn;have hW:=hs.W;obtain⟨v,hv,hr⟩:=hs.env t _ ht;obtain⟨G',h'⟩:=pC hs (xs:=ys.map (D.int .i64)) (s:=1) (l:=q) ht hb (dA ys).symm (by simp) (fI λ_=>rfl) (fJ _) hq hfix;refine h G' a w ⟨h'.defers,h'.size,λt' d hd=>?_,h'.W,h'.fixed⟩;simp only[b7] at hd;split at hd
 ·rename_i e0;subst e0;obtain rfl:=zA hd;obtain⟨v',hv',hr'⟩:=h'.env t (.sl (.lab q) (ys.map (.int .i64))) (by simp[b7]);obtain rfl:v'=v:=zA (hv'.symm.trans hv);refine⟨v',hv,aUa ?_⟩;cases hr with
  | @ms _ _ c g hβ hc hm =>
  cases hr' with
  | @sl _ _ A n _ b o s hn hc' hm' ht' hA hu hk hst hrr =>
  have hA:=hA.resolve_left (by simpa using hne);simp only[Option.some.injEq,Addr.mk.injEq,and_true] at hA;obtain⟨rfl,rfl⟩:=hA;rcases ht' with ht'|⟨g',o',e1,e2,e3⟩
  ·exact absurd ht' (by simpa using hne)
  ·simp only[Option.some.injEq,Addr.mk.injEq,and_true] at e1;obtain⟨rfl,rfl⟩:=e1;refine⟨_,_,rfl,hc,hm,⟨e2,e3⟩,λj m hj=>?_⟩;have h0:(flat (ys.map (D.int .i64)))[j]?=some (.int .i64 m):=by rw[dA,zI,hj];rfl
   obtain⟨k1,u,k2⟩:=hst j _ h0;have k3:=hrr j _ u h0 k2;rw[Nat.zero_add] at k1 k2;cases k3;exact⟨k1,k2⟩
 ·rename_i e0;exact h'.env t' d (by simp only[b7];rw[if_neg e0];exact hd)
mutual
def D.safeP(q:List Nat)(tk:List Nat):D->Bool
 | .int ..|.bool _|.str _|.box ..|.ms ..|.vw ..|.raw _=>true
 | .sl (.own k _ _) xs=>tk.contains k&&D.safePL q tk xs
 | .sl (.que _ _) _=>false
 | .sl (.lab l) xs=>l != q&&D.safePL q tk xs
 | .sl _ xs=>xs.isEmpty
 | .agg cs|.tup cs|.fn _ cs=>D.safePL q tk cs
 | .imm cs=>cs.isEmpty
 | .pred _=>false
def D.safePL(q:List Nat)(tk:List Nat):List D->Bool
 | []=>true
 | d::ds=>d.safeP q tk&&D.safePL q tk ds
end
theorem mC{q tk:List Nat}{ds:List D}(h:D.safePL q tk ds=true){d:D}(hd:d∈ds):d.safeP q tk=true:=by
 induction ds with
 | nil=>cases hd
 | cons x r ih =>
  simp only[D.safePL,Bool.and_eq_true] at h;rcases zO.1 hd with rfl|hd
  ·exact h.1
  ·exact ih h.2 hd
theorem lT{α:Type}{q tk:List Nat}{f:α->D}(h:∀x,(f x).safeP q tk=true):∀xs:List α,D.safePL q tk (xs.map f)=true
 | []=>rfl
 | x::r=>by simp only[List.map_cons,D.safePL,h x,lT h r,Bool.and_self]
theorem aKy{q tk:List Nat}{x:D}(h:x.safeP q tk=true):∀d∈x.cells,d.safeP q tk=true:=by
 cases x with
 | agg cs=>exact λd hd=>mC (ds:=cs) (by simpa[D.safeP] using h) hd
 | _=>intro d hd;rw[show d=_ from zN.1 hd];exact h
theorem oV{q tk:List Nat}{xs:List D}(h:D.safePL q tk xs=true):∀d∈flat xs,d.safeP q tk=true:=λd hd=>by
 obtain⟨x,hx,hd⟩:=List.mem_flatMap.1 hd;exact aKy (mC h hx) d hd
theorem aMx{G:Ghost}{w}{g:Nat}{q tk:List Nat}(htk:∀k∈tk,∃x,G.τ k=some x)(ht0:∀k g' e z,G.τ k=some (some (g',e,z))->G.lab g'=[])(hlab:G.lab g=q)(hq:q≠[]){d:D}{v:Value}(h:Rel G w d v) :
  d.safeP q tk=true->Rel {G.hide g with lab:=λb=>if b=g then [] else G.lab b} w d v:=by
 let G1:Ghost:={G.hide g with lab:=λb=>if b=g then [] else G.lab b};have hl:∀b,b≠g->G1.lim b=G.lim b:=λb hb=>by simp[G1,Ghost.hide,hb]
 show d.safeP q tk=true->Rel G1 w d v;induction h with
 | int=>exact λ_=>.int
 | bool=>exact λ_=>.bool
 | str=>exact λ_=>.str
 | box hb=>exact λ_=>.box hb
 | ms hb hc hn=>exact λ_=>.ms hb hc hn
 | vw hb hc hn=>exact λ_=>.vw hb hc hn
 | raw h=>exact λ_=>.raw h
 | pred=>intro h;simp[D.safeP] at h
 | agg hlen hr ih=>exact λh=>.agg hlen λj d v hj hv=>ih j d v hj hv (mC (by simpa[D.safeP] using h) (List.mem_of_getElem? hj))
 | tup hlen hr ih=>exact λh=>.tup hlen λj d v hj hv=>ih j d v hj hv (mC (by simpa[D.safeP] using h) (List.mem_of_getElem? hj))
 | fn hlen hr ih=>exact λh=>.fn hlen λj d v hj hv=>ih j d v hj hv (mC (by simpa[D.safeP] using h) (List.mem_of_getElem? hj))
 | @imm cs b o hk hst hr ih =>
  intro h;obtain rfl:cs=[]:=by simpa[D.safeP] using h
  exact .imm (b:=b) (o:=o) (λd hd=>by cases hd) (λj d hj=>by simp at hj) (λj d v hj=>by simp at hj)
 | @sl tk0 xs A n c b o s hn hc hm ht hA hu hk hst hr ih =>
  intro h;have key:(∀d∈flat xs,d.safeP q tk=true)->(xs=[]∨b≠g)->dZ G1 w tk0 xs A n c->Rel G1 w (.sl tk0 xs) (.slice A n c):=λhs hor ht'=>by
   refine .sl (b:=b) (o:=o) hn hc hm ht' hA hu hk (λj d hj=>?_) (λj d v hj hv=>?_)
   ·obtain⟨h1,h2⟩:=hst j d hj;have hb:b≠g:=hor.resolve_left (by rintro rfl;simp[flat] at hj);exact⟨by rw[hl b hb];exact h1,h2⟩
   ·exact ih j d v hj hv (hs d (zF hj))
  have emp:xs.isEmpty=true->dZ G1 w tk0 xs A n c->Rel G1 w (.sl tk0 xs) (.slice A n c):=λhe ht'=>by
   obtain rfl:xs=[]:=by simpa using he
   exact key (λd hd=>by simp[flat] at hd) (.inl rfl) ht'
  cases tk0 with
  | que k2 e=>simp[D.safeP] at h
  | any=>exact emp (by simpa only[D.safeP] using h) ht
  | nil=>exact emp (by simpa only[D.safeP] using h) ht
  | nl=>exact emp (by simpa only[D.safeP] using h) ht
  | nn=>exact emp (by simpa only[D.safeP] using h) ht
  | full=>exact emp (by simpa only[D.safeP] using h) ht
  | lab l =>
   simp only[D.safeP,Bool.and_eq_true,bne_iff_ne,ne_eq] at h;rcases ht with rfl|⟨g',o',e1,e2,e3⟩
   ·exact key (oV h.2) (.inl rfl) (.inl rfl)
   ·have hg:g'≠g:=by rintro rfl;exact h.1 (e2.symm.trans hlab)
    refine key (oV h.2) ?_ (.inr ⟨g',o',e1,by simp[G1,hg,e2],e3⟩);rcases hA with rfl|hA
    ·exact .inl rfl
    ·right
     rintro rfl;rw[e1] at hA;simp only[Option.some.injEq,Addr.mk.injEq] at hA;exact hg hA.1
  | own k' e z =>
   simp only[D.safeP,Bool.and_eq_true,List.contains_eq_mem,decide_eq_true_eq] at h;obtain⟨x,hx⟩:=htk k' h.1;simp only[dZ,hx] at ht;match x,hx,ht with
   | none,hx,ht =>
    have:xs=[]:=List.length_eq_zero_iff.1 (hn.symm.trans ht.1);subst this;exact key (oV h.2) (.inl rfl) (by simp only[dZ,show G1.τ k'=some none from hx];exact ht)
   | some (g',e',z'),hx,ht =>
    have hg:g'≠g:=by rintro rfl;exact hq (hlab.symm.trans (ht0 k' _ e' z' hx))
    refine key (oV h.2) ?_ ?_
    ·rcases hA with rfl|hA
     ·exact .inl rfl
     ·right
      rintro rfl;rw[ht.2.1] at hA;simp only[Option.some.injEq,Addr.mk.injEq] at hA;exact hg hA.1
    ·simp only[dZ,show G1.τ k'=some (some (g',e',z')) from hx];rw[hl g' hg];exact ht
theorem aW0{S}{B:Base}{R:LS->Prop}{kk:List VItem}{L:LS}(l q:List Nat)(hB:B.olds l)(hl:l≠[])(hql:q≠l)(t id:Nat){ys:List Int}(ht:look L.env t=some (PL q ys))(hne:ys≠[])(hid:id∉L.fix)
  (env':List (Nat×D)) (bx':List (Nat×List D)) (henv:∀p∈env',look L.env p.1=some p.2/\p.2.safeP q L.toks=true/\id∉p.2.ids) (hbx:∀p∈bx',p.1≠id/\look L.boxes p.1=some p.2/\D.safePL q L.toks p.2=true/\id∉D.idsL p.2)
  (h:SW S B R kk ⟨L.n,(t,.ms id ys.length)::env',(id,ys.map (.int .i64))::bx',[],L.toks,L.fix⟩):SW S B R kk L:=λG a w hs=>by
 have hW:=hs.W;obtain⟨v,hv,hrel⟩:=hs.env t _ ht;obtain⟨b,c,rfl,hc,hm,⟨hlab,hq⟩,hcell⟩:=aO0 hrel;have hnew:B.w.heap.size≤b:=by
  rcases Nat.lt_or_ge b B.w.heap.size with hlt|hge
  ·exact absurd (hlab.symm.trans ((hW.oldl b hlt (by rw[hB.2 b hlt];exact hl)).trans (hB.2 b hlt))) hql
  ·exact hge
 obtain⟨cur,e0,hcur⟩:=hW.labw b (by rw[hlab];exact hq) (.inl hnew);have hlt:b<w.heap.size:=bX hcur;have hcc:∀(j:Nat) (n:Int),ys[j]?=some n->cur[j]?=some (Value.int .i64 n):=λj n hj=>by
  have:=(hcell j n hj).2;simpa[World.cell?,hcur] using this
 have hlen:ys.length≤cur.size:=by
  rcases Nat.lt_or_ge (ys.length-1) cur.size with h1|h1
  ·omega
  ·have hp:0<ys.length:=List.length_pos_iff.2 hne;have:=hcc (ys.length-1) _ (zB (by omega));rw[Array.getElem?_eq_none h1] at this;cases this
 have htb:∀k e z,G.τ k≠some (some (b,e,z)):=λk e z hk=>hq (hlab.symm.trans (hW.tlab k b e z hk));have hbb:∀i,G.β i≠some b:=λi hi=>hq (hlab.symm.trans (hW.blab i b hi));let G2:Ghost:={lim:=λx=>if x=b then 0 else G.lim x,lab:=λx=>if x=b then [] else G.lab x,β:=λi=>if i=id then some b else G.β i,τ:=G.τ};have conv:∀ {d v},d.safeP q L.toks=true->id∉d.ids->Rel G w d v->Rel G2 w d v:=λ{d v} hd hi hr=>by
  let G1:Ghost:={G.hide b with lab:=λx=>if x=b then [] else G.lab x};have h1:Rel G1 w d v:=aMx hW.toks hW.tlab hlab hq hr hd;refine Rel.mono (G:=G1) (G':=G2) (w':=w) ⟨λ_ _ _ h1 h2=>⟨h1,h2⟩,λ_ _=>rfl⟩ h1 (λi hii g hg=>?_) (λk' _=>.inr ⟨rfl,λ_ _ _ _=>⟨rfl,rfl⟩⟩);have:i≠id:=λe=>hi (e ▸ hii);simp only[G2,if_neg this];exact hg
 refine h G2 a w ⟨hs.defers,hs.size,λt' d hd=>?_,?_,hs.fixed⟩
 ·simp only[look] at hd;split at hd
  ·rename_i e0;subst e0;obtain rfl:=zA hd;exact⟨_,hv,.ms (by simp[G2]) hc hm⟩
  ·obtain⟨h1,h2,h3⟩:=henv _ (bB hd);obtain⟨v',hv',hr'⟩:=hs.env t' _ h1;exact⟨v',hv',conv h2 h3 hr'⟩
 ·exact {
   boxes:=λi cs' hl=>by
    simp only[look] at hl;split at hl
    ·rename_i e1;subst e1;obtain rfl:=zA hl;refine⟨b,by simp[G2],⟨cur,e0,hcur,by simpa using hlen,λj d v hd hv=>?_⟩,by simp[G2],.inl hnew⟩;rw[zI] at hd;obtain⟨n,hn,rfl⟩:=Option.map_eq_some_iff.1 hd;rw[hcc j n hn] at hv;obtain rfl:=zA hv;exact .int
    ·obtain⟨h1,h2,h3,h4⟩:=hbx _ (bB hl);obtain⟨g,e1,⟨vs,ee,f1,f2,f3⟩,e3,e4⟩:=hW.boxes i cs' h2;refine⟨g,by simp only[G2];rw[if_neg h1];exact e1,⟨vs,ee,f1,f2,λj d v hd hv=>?_⟩,?_,e4⟩
     ·have hm:=zF hd;exact conv (mC h3 hm) (λhi=>h4 (aSE hm hi)) (f3 j d v hd hv)
     ·simp only[G2];split
      ·rfl
      ·exact e3
   robs:=λi cs' hl=>by cases hl
   toks:=hW.toks
   tau:=λk' g e' z hk'=>by
    obtain⟨q1,q2,⟨cur',q3,q4⟩,q5⟩:=hW.tau k' g e' z hk';refine⟨q1,q2,⟨cur',q3,?_⟩,λi=>?_⟩
    ·simp only[G2];split
     ·omega
     ·exact q4
    ·simp only[G2];split
     ·intro e1;obtain rfl:=zA e1;exact htb k' e' z hk'
     ·exact q5 i
   tinj:=hW.tinj
   binj:=λi j g hi hj=>by
    simp only[G2] at hi hj;split at hi<;>split at hj
    ·omega
    ·obtain rfl:=zA hi;exact absurd hj (hbb j)
    ·obtain rfl:=zA hj;exact absurd hi (hbb i)
    ·exact hW.binj i j g hi hj
   blt:=λi g hi=>by
    simp only[G2] at hi;split at hi
    ·obtain rfl:=zA hi;exact hlt
    ·exact hW.blt i g hi
   lablt:=λx hx=>by
    simp only[G2] at hx;split at hx
    ·exact absurd rfl hx
    ·exact hW.lablt x hx
   old:=λx hlt hqa=>by
    obtain⟨k1,k2⟩:=hW.old x hlt hqa;exact⟨k1,by simp only[G2];rw[if_neg (by omega)];exact k2⟩
   olda:=λx hlt=>by
    simp only[G2];rw[if_neg (by omega)];exact hW.olda x hlt
   oldl:=λx hlt hx=>by
    simp only[G2];rw[if_neg (by omega)];exact hW.oldl x hlt hx
   tlab:=λk' g e' z hk'=>by
    simp only[G2];split
    ·rfl
    ·exact hW.tlab k' g e' z hk'
   blab:=λi g hi=>by
    simp only[G2] at hi ⊢;split at hi
    ·obtain rfl:=Option.some.inj hi;simp
    ·split
     ·rfl
     ·exact hW.blab i g hi
   oldu:=λx hlt hxa hx=>by
    simp only[G2];rw[if_neg (by omega)];exact hW.oldu x hlt hxa hx
   labw:=λx hx hor=>by
    simp only[G2] at hx;split at hx
    ·exact absurd rfl hx
    ·exact hW.labw x hx hor
   ids:=λp hp=>by
    have:p.1≠id:=λe1=>hid (e1 ▸ hs.fixed p hp);simp only[G2];rw[if_neg this];exact hW.ids p hp
   sz:=hW.sz
   os:=hW.os
   tape:=hW.tape
   out:=hW.out
   dr:=hW.dr}
mutual
theorem aVj(l:List Nat):∀d:D,d.okLb=true->D.le (d.lb l) d/\∀c∈d.cells,D.le (c.lb l) c
 | .int ..,_=>⟨.refl _,λc hc=>by rw[zN.1 hc];exact .refl _⟩
 | .bool _,_=>⟨.refl _,λc hc=>by rw[zN.1 hc];exact .refl _⟩
 | .str _,_=>⟨.refl _,λc hc=>by rw[zN.1 hc];exact .refl _⟩
 | .sl tk xs,h=>by
  cases tk with
  | any =>
   have hP:D.okLbL xs=true:=by simpa[D.okLb] using h
   have ih:=aI8 l xs hP;have h1:D.le ((D.sl .any xs).lb l) (.sl .any xs):=by
    refine .deep ?_ ?_ λj c d h1 h2=>?_
    ·rw[j2,List.map_map];exact List.map_congr_left λx _=>by simp[aFn]
    ·rw[aA5,zC]
    ·rw[aA5,zI,h2] at h1;obtain rfl:=zA h1;obtain⟨x,hx,hd⟩:=List.mem_flatMap.1 (zF h2);exact(ih x hx).2 d hd
   exact⟨h1,λc hc=>by rw[zN.1 hc];exact h1⟩
  | _=>simp[D.okLb] at h
 | .agg cs,h=>by
  simp only[D.okLb,Bool.and_eq_true] at h;have ih:=aI8 l cs h.2;refine⟨.agg (by rw[j2,zC]) λj c d h1 h2=>?_,λc hc=>(ih c hc).1⟩;rw[j2,zI,h2] at h1;obtain rfl:=zA h1;exact(ih d (zF h2)).1
 | .fn ..,h=>by simp[D.okLb] at h
 | .box ..,h=>by simp[D.okLb] at h
 | .ms ..,h=>by simp[D.okLb] at h
 | .vw ..,h=>by simp[D.okLb] at h
 | .imm _,h=>by simp[D.okLb] at h
 | .tup _,h=>by simp[D.okLb] at h
 | .raw _,h=>by simp[D.okLb] at h
 | .pred _,h=>by simp[D.okLb] at h
theorem aI8(l:List Nat):∀ds:List D,D.okLbL ds=true->∀d∈ds,D.le (d.lb l) d/\∀c∈d.cells,D.le (c.lb l) c
 | [],_,d,hd=>by cases hd
 | x::r,h,d,hd=>by
  simp only[D.okLbL,Bool.and_eq_true] at h;rcases zO.1 hd with e|hd
  ·rw[e];exact aVj l x h.1
  ·exact aI8 l r h.2 d hd
end
theorem aYl(l:List Nat){d:D}(h:d.okLb=true):D.le (d.lb l) d:=(aVj l d h).1
theorem rV{S B}{R:LS->Prop}{kk:List VItem}{L:LS}(t s:Nat)(l:List Nat){id n:Nat}{cs:List D}(xs:List D)(ht:look L.env t=some (.ms id n))(hb:look L.boxes id=some cs)(hx:cs=flat xs)(hn:n=xs.length)
  (hu:∀x∈xs,x.cells.length=s) (hk:∀d∈cs,d.memOk=true) (hl:l≠[]) (hfix:id∉L.fix) (hh:SW S B R kk {L.forget id with env:=eU (L.forget id).env t (.sl (.lab l) xs)}):SW S B R kk L:=λG a w hs=>by
 obtain⟨G',h'⟩:=pC hs ht hb hx hn hu hk hl hfix;exact hh G' a w h'
theorem vT{S}{B:Base}{R:LS->Prop}{kk:List VItem}{L:LS}(rid:Nat)(l q:List Nat)(hB:B.olds l)(hl:l≠[])(hql:q≠l)(t id:Nat){ys:List Int}{ops:Array Oper}{dr:Bool}(ht:look L.env t=some (PL q ys))(hne:ys≠[])(hid:id∉L.fix)
  (env':List (Nat×D)) (bx':List (Nat×List D)) (henv:∀p∈env',look L.env p.1=some p.2/\p.2.safeP q L.toks=true/\id∉p.2.ids) (hbx:∀p∈bx',p.1≠id/\look L.boxes p.1=some p.2/\D.safePL q L.toks p.2=true/\id∉D.idsL p.2)
  (h:SW S B R (.code (.region rid ops dr)::kk) ⟨L.n,(t,.ms id ys.length)::env',(id,ys.map (.int .i64))::bx',[],L.toks,L.fix⟩):SW S B R (.code (.region rid ops dr)::kk) L :=
 aW0 l q hB hl hql t id ht hne hid env' bx' henv hbx h
theorem aZC{q:List Nat}{ys:List Int}:D.le (PL q ys) (.sl (.lab q) (ys.map (.int .i64))):=.kn λG w v h=>by
 obtain⟨g,c,rfl,h2,h3,⟨h4,h5⟩,h6⟩:=aO0 h;refine .sl (b:=g) (o:=0) (s:=1) (by simp) h2 h3 (.inr ⟨g,0,rfl,h4,h5⟩) (.inr rfl) (fI λ_=>rfl) (λd hd=>fJ ys d (by rwa [dA] at hd)) (λj d hj=>?_) (λj d u hj hu=>?_)
 ·rw[dA,zI] at hj;obtain⟨n,hn,rfl⟩:=Option.map_eq_some_iff.1 hj;rw[Nat.zero_add];exact⟨(h6 j n hn).1,_,(h6 j n hn).2⟩
 ·rw[dA,zI] at hj;obtain⟨n,hn,rfl⟩:=Option.map_eq_some_iff.1 hj;rw[Nat.zero_add,(h6 j n hn).2] at hu;obtain rfl:=zA hu;exact .int
theorem aUf{S B}{R:LS->Prop}{kk:List VItem}{L:LS}(t:Nat)(q:List Nat){k:Nat}{e:TypeId}{z:Nat}{ys:List Int}(ht:look L.env t=some (.sl (.own k e z) (ys.map (.int .i64))))(hk:k∈L.toks)(hq:q≠[])(hne:ys≠[])
  (h:SW S B R kk {L with env:=eU L.env t (PL q ys),toks:=L.toks.filter λx=>!(x==k)}):SW S B R kk L:=λG a w hs=>by
 obtain⟨h1,h2,h3⟩:=aEm hs.W k hq;obtain⟨v,hv,hr⟩:=hs.env t _ ht;have hs1:Sim B {L with toks:=L.toks.filter λx=>!(x==k)} (G.setLab k q) a w:=⟨hs.defers,hs.size,λt' d' hd=>by
  obtain⟨u,q1,q2⟩:=hs.env t' d' hd;exact⟨u,q1,h3 q2⟩,h1,hs.fixed⟩
 have hl:=aPT hs.W hk hq hr;refine h _ a w (mL hs1 hv (aUa ?_));have hne':ys.map (D.int .i64)≠[]:=by simpa using hne
 obtain⟨x,hx⟩:=hs.W.toks k hk;cases hr with
 | @sl _ _ A n c b o s hn hc hm ht' hA hu hkk hst hrr =>
 simp only[dZ,hx] at ht';match x,hx,ht' with
 | none,_,ht'=>exact absurd (List.length_eq_zero_iff.1 (hn.symm.trans ht'.1)) hne'
 | some (g,e',z'),hx,ht' =>
 obtain⟨_,hA0,_⟩:=ht';cases hl with
 | @sl _ _ _ _ _ b2 o2 s2 hn2 hc2 hm2 ht2 hA2 hu2 hkk2 hst2 hrr2 =>
 have hA2:=hA2.resolve_left hne';rw[hA0] at hA2;simp only[Option.some.injEq,Addr.mk.injEq,and_true] at hA2;obtain⟨rfl,rfl⟩:=hA2;subst hA0;obtain rfl:n=ys.length:=by simpa using hn
 refine⟨_,_,rfl,hc,hm,⟨aGK ⟨e',z',hx⟩,hq⟩,λj m hj=>?_⟩;have h0:(flat (ys.map (D.int .i64)))[j]?=some (.int .i64 m):=by rw[dA,zI,hj];rfl
 obtain⟨k1,u,k2⟩:=hst2 j _ h0;have k3:=hrr2 j _ u h0 k2;rw[Nat.zero_add] at k1 k2;cases k3;exact⟨k1,k2⟩
theorem aPQ{S B}{R:LS->Prop}{kk:List VItem}{L:LS}(t:Nat){d d':D}(ht:look L.env t=some d)(hle:D.le d d')(h:SW S B R kk {L with env:=eU L.env t d'}):SW S B R kk L:=λG a w hs=>by
 obtain⟨v,hv,hr⟩:=hs.env t _ ht;exact h G a w (mL hs hv (hr.le hle))
theorem aVi {S:Setup} {f:FuncId} {fn:Func} {c:Code} {l:List Nat} {args:List D} {d:D} {L0} (hf:S.P.funcs[f]?=some fn) (h:∀B:Base,B.olds l→SW S B (Ret S fn.results.toList d []) [.code c] L0) (hb:fn.body=some c:=by exact rfl) (hname:(fn.name == "runtime.NumGoroutine")=false:=by kernel_rfl) (hn:Nat.ble args.length fn.ntmps=true:=by kernel_rfl) (e:(⟨fn.ntmps,eY 0 args,[],[],[],[]⟩:LS)=L0:=by
 simp only[go_sem];rfl):FCO S l f args d []:=aVp hf hb hname (Nat.le_of_ble_eq_true hn) (by rw[e];exact h)
end Go.Lg
