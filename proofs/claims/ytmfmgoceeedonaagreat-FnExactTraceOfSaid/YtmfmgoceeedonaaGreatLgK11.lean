import Derived.Test.YtmfmgoceeedonaaGreatLgK7
import Derived.KernelRfl
namespace Go.Lg
open Go Go.RowKit
def D.offI:D->Bool
 | .int k _=>k != .i64
 | .bool _|.str _|.sl ..|.fn ..=>true
 | _=>false
def D.offIL:List D->Bool
 | []=>true
 | d::ds=>d.offI&&D.offIL ds
mutual
def D.safeI(k:Nat)(tk:List Nat):D->Bool
 | .int ..|.bool _|.str _|.box ..|.ms ..|.vw ..|.raw _=>true
 | .sl (.own k' _ _) xs=>(k' != k)&&tk.contains k'&&D.safeIL k tk xs
 | .sl (.que _ _) _=>false
 | .sl (.lab _) xs=>D.safeIL k tk xs
 | .sl _ xs=>D.safeIL k tk xs&&D.offIL xs
 | .agg cs|.tup cs|.fn _ cs=>D.safeIL k tk cs
 | .imm cs=>cs.isEmpty
 | .pred _=>false
def D.safeIL(k:Nat)(tk:List Nat):List D->Bool
 | []=>true
 | d::ds=>d.safeI k tk&&D.safeIL k tk ds
end
theorem n8{k:Nat}{tk:List Nat}{ds:List D}(h:D.safeIL k tk ds=true){d:D}(hd:d∈ds):d.safeI k tk=true:=by
 induction ds with
 | nil=>cases hd
 | cons x r ih =>
  simp only[D.safeIL,Bool.and_eq_true] at h;rcases zO.1 hd with rfl|hd
  ·exact h.1
  ·exact ih h.2 hd
theorem aGR{k:Nat}{tk:List Nat}{ds:List D}(h:∀d∈ds,d.safeI k tk=true):D.safeIL k tk ds=true:=by
 induction ds with
 | nil=>rfl
 | cons x r ih=>simp only[D.safeIL,Bool.and_eq_true];exact⟨h x zH,ih λd hd=>h d (zG _ hd)⟩
theorem aLD{k:Nat}{tk:List Nat}{x:D}(h:x.safeI k tk=true):∀d∈x.cells,d.safeI k tk=true:=by
 cases x with
 | agg cs=>exact λd hd=>n8 (ds:=cs) (by simpa[D.safeI] using h) hd
 | _=>intro d hd;rw[show d=_ from zN.1 hd];exact h
theorem pA{k:Nat}{tk:List Nat}{xs:List D}(h:D.safeIL k tk xs=true):∀d∈flat xs,d.safeI k tk=true:=λd hd=>by
 obtain⟨x,hx,hd⟩:=List.mem_flatMap.1 hd;exact aLD (n8 h hx) d hd
theorem aOJ{G:Ghost}{w:World}{k g:Nat}{tk:List Nat}(htk:∀k'∈tk,∃x,G.τ k'=some x)(hinj:∀k' e z,G.τ k'=some (some (g,e,z))->k'=k)(hlab:G.lab g=[])
  (hsl:∀o v,o<G.lim g->w.cell? ⟨g,o,none⟩=some v->∃n,v=.int .i64 n) {d:D} {v:Value} (h:Rel G w d v):d.safeI k tk=true->Rel (G.hide g) w d v:=by
 have hl:∀b,b≠g->(G.hide g).lim b=G.lim b:=λb hb=>by simp[Ghost.hide,hb]
 induction h with
 | int=>exact λ_=>.int
 | bool=>exact λ_=>.bool
 | str=>exact λ_=>.str
 | box hb=>exact λ_=>.box hb
 | ms hb hc hn=>exact λ_=>.ms hb hc hn
 | vw hb hc hn=>exact λ_=>.vw hb hc hn
 | raw h=>exact λ_=>.raw h
 | pred=>intro h;simp[D.safeI] at h
 | agg hlen hr ih=>exact λh=>.agg hlen λj d v hj hv=>ih j d v hj hv (n8 (by simpa[D.safeI] using h) (List.mem_of_getElem? hj))
 | tup hlen hr ih=>exact λh=>.tup hlen λj d v hj hv=>ih j d v hj hv (n8 (by simpa[D.safeI] using h) (List.mem_of_getElem? hj))
 | fn hlen hr ih=>exact λh=>.fn hlen λj d v hj hv=>ih j d v hj hv (n8 (by simpa[D.safeI] using h) (List.mem_of_getElem? hj))
 | @imm cs b o hk hst hr ih =>
  intro h;obtain rfl:cs=[]:=by simpa[D.safeI] using h
  exact .imm (b:=b) (o:=o) (λd hd=>by cases hd) (λj d hj=>by simp at hj) (λj d v hj=>by simp at hj)
 | @sl tk0 xs A n c b o s hn hc hm ht hA hu hk hst hr ih =>
  intro h;have key:(∀d∈flat xs,d.safeI k tk=true)->(flat xs=[]∨b≠g)->dZ (G.hide g) w tk0 xs A n c->Rel (G.hide g) w (.sl tk0 xs) (.slice A n c):=λhs hor ht'=>by
   refine .sl (b:=b) (o:=o) hn hc hm ht' hA hu hk (λj d hj=>?_) (λj d v hj hv=>?_)
   ·obtain⟨h1,h2⟩:=hst j d hj;have hb:b≠g:=hor.resolve_left (by rintro e;rw[e] at hj;simp at hj);exact⟨by rw[hl b hb];exact h1,h2⟩
   ·exact ih j d v hj hv (hs d (zF hj))
  have plain:D.safeIL k tk xs=true->(∀d,(flat xs)[0]?=some d->d.offI=true)->dZ (G.hide g) w tk0 xs A n c->Rel (G.hide g) w (.sl tk0 xs) (.slice A n c):=λhs ho ht'=>by
   refine key (pA hs) ?_ ht';cases hf:flat xs with
   | nil=>exact .inl rfl
   | cons d0 r =>
    right
    rintro rfl;have h0:(flat xs)[0]?=some d0:=by rw[hf];rfl
    obtain⟨h1,v,h2⟩:=hst 0 d0 h0;obtain⟨n',rfl⟩:=hsl _ _ h1 h2;have h3:=hr 0 d0 _ h0 h2;have h4:=ho d0 h0;cases h3<;>simp[D.offI] at h4
  have hoff:D.offIL xs=true->∀d,(flat xs)[0]?=some d->d.offI=true:=λho d hd=>by
   cases xs with
   | nil=>simp[flat] at hd
   | cons x r =>
    simp only[D.offIL,Bool.and_eq_true] at ho;have hx:flat (x::r)=x::flat r:=by
     have:x.cells=[x]:=by
      have:=ho.1;cases x<;>first|rfl|(simp[D.offI] at this)
     simp[flat,this]
    rw[hx] at hd;obtain rfl:=zA hd;exact ho.1
  have h2:∀ {a b:Bool},(a&&b)=true->a=true/\b=true:=λ{a b} h=>by simpa using h
  cases tk0 with
  | que k2 e=>simp[D.safeI] at h
  | any=>have:=h2 (by simpa only[D.safeI] using h);exact plain this.1 (hoff this.2) ht
  | nil=>have:=h2 (by simpa only[D.safeI] using h);exact plain this.1 (hoff this.2) ht
  | nl=>have:=h2 (by simpa only[D.safeI] using h);exact plain this.1 (hoff this.2) ht
  | nn=>have:=h2 (by simpa only[D.safeI] using h);exact plain this.1 (hoff this.2) ht
  | full=>have:=h2 (by simpa only[D.safeI] using h);exact plain this.1 (hoff this.2) ht
  | lab l =>
   refine key (pA (by simpa[D.safeI] using h)) ?_ ht;rcases ht with rfl|⟨g',o',e1,e2,e3⟩
   ·exact .inl rfl
   ·rcases hA with rfl|hA
    ·exact .inl rfl
    ·right
     rintro rfl;rw[e1] at hA;simp only[Option.some.injEq,Addr.mk.injEq] at hA;rw[hA.1] at e2;exact e3 (by rw[←e2,hlab])
  | own k' e z =>
   simp only[D.safeI,Bool.and_eq_true,bne_iff_ne,ne_eq,List.contains_eq_mem,decide_eq_true_eq] at h;obtain⟨⟨h1,h2⟩,h3⟩:=h;obtain⟨x,hx⟩:=htk k' h2;simp only[dZ,hx] at ht;match x,hx,ht with
   | none,hx,ht =>
    have:xs=[]:=List.length_eq_zero_iff.1 (hn.symm.trans ht.1);subst this;exact key (pA h3) (.inl rfl) (by simp only[dZ,show (G.hide g).τ k'=some none from hx];exact ht)
   | some (g',e',z'),hx,ht =>
    have hg:g'≠g:=by rintro rfl;exact h1 (hinj k' e' z' hx)
    refine key (pA h3) ?_ ?_
    ·rcases hA with rfl|hA
     ·exact .inl rfl
     ·right
      rintro rfl;rw[ht.2.1] at hA;simp only[Option.some.injEq,Addr.mk.injEq] at hA;exact hg hA.1
    ·simp only[dZ,show (G.hide g).τ k'=some (some (g',e',z')) from hx];rw[hl g' hg];exact ht
mutual
theorem aHd{k:Nat}{tk:List Nat}:∀(d:D),d.safeI k tk=true->∀k'∈d.tks,k'≠k
 | .int ..,_,_,h=>by simp[D.tks] at h
 | .bool _,_,_,h=>by simp[D.tks] at h
 | .str _,_,_,h=>by simp[D.tks] at h
 | .box ..,_,_,h=>by simp[D.tks] at h
 | .ms ..,_,_,h=>by simp[D.tks] at h
 | .vw ..,_,_,h=>by simp[D.tks] at h
 | .raw _,_,_,h=>by simp[D.tks] at h
 | .imm _,_,_,h=>by simp[D.tks] at h
 | .pred _,_,_,h=>by simp[D.tks] at h
 | .sl tk0 xs,hs,k',h=>by
  cases tk0 with
  | own k2 e z =>
   simp only[D.tks,zN] at h;subst h;simp only[D.safeI,Bool.and_eq_true,bne_iff_ne] at hs;exact hs.1.1
  | que k2 e=>simp[D.safeI] at hs
  | _=>simp[D.tks] at h
 | .agg cs,hs,k',h=>rI cs (by simpa[D.safeI] using hs) k' (by simpa[D.tks] using h)
 | .tup cs,hs,k',h=>rI cs (by simpa[D.safeI] using hs) k' (by simpa[D.tks] using h)
 | .fn _ cs,hs,k',h=>rI cs (by simpa[D.safeI] using hs) k' (by simpa[D.tks] using h)
theorem rI{k:Nat}{tk:List Nat}:∀(ds:List D),D.safeIL k tk ds=true->∀k'∈D.tksL ds,k'≠k
 | [],_,_,h=>by simp[D.tksL] at h
 | d::ds,hs,k',h=>by
  simp only[D.safeIL,Bool.and_eq_true] at hs;simp only[D.tksL,zP] at h;rcases h with h|h
  ·exact aHd d hs.1 k' h
  ·exact rI ds hs.2 k' h
end
theorem aSE{ds:List D}{d:D}(hd:d∈ds){i:Nat}(h:i∈d.ids):i∈D.idsL ds:=by
 induction ds with
 | nil=>cases hd
 | cons x r ih =>
  simp only[D.idsL,zP];rcases zO.1 hd with rfl|hd
  ·exact .inl h
  ·exact .inr (ih hd)
theorem aT3{G w}{bx:List (Nat×List D)}(b:Nat)(h:(dE G w bx []).ab b):∃p∈(dE G w bx []).ids,p.2=b:=by
 rcases h with⟨p,hp,hb⟩|⟨k,hk,_⟩
 ·exact⟨(p.1,b),List.mem_filterMap.2 ⟨p,hp,by rw[hb];rfl⟩,rfl⟩
 ·cases hk
theorem aTA{S:Setup}{f:FuncId}{fn:Func}{c:Code}{ro bx:List (Nat×List D)}{args:List D}{d:D}{bx':List (Nat×List D)}
  (hf:S.P.funcs[f]?=some fn) (hb:fn.body=some c) (hname:(fn.name == "runtime.NumGoroutine")=false) (hn:args.length≤fn.ntmps)
  (h:∀B:Base,(∀b,B.ab b->∃p∈B.ids,p.2=b)->SW S B (Ret S fn.results.toList d bx') [.code c] ⟨fn.ntmps,eY 0 args,bx,ro,[],bx.map (·.1)⟩):FC S f ro bx [] args d bx' []:=by
 refine⟨⟨fn,hf,hname,by rw[hb];rfl⟩,λw G vals hs=>kX hf hb hn hs (h _ aT3) λG' L' a' w' hs' hr=>?_⟩;obtain⟨d0,v,⟨h1,h2⟩,h3,h4⟩:=kU hs' hr;refine⟨v,h3,v,{G' with τ:=λ_=>none},rfl,rfl,rfl,λt d' hd=>?_,?_,hs.fixed⟩
 ·simp only[look] at hd;split at hd
  ·rename_i ht;subst ht;obtain rfl:=zA hd;refine⟨v,rfl,?_⟩;exact(h4.le h1).mono (show Mono G' {G' with τ:=λ_=>none} w' w' from⟨λ_ _ _ h1 h2=>⟨h1,h2⟩,λ_ _=>rfl⟩) (λ_ _ _ h=>h) (λ_ _=>.inl rfl)
  ·cases hd
 ·exact l7 (hs'.W.less h2 (ro':=[]) (by simp) (tk':=[]) (by simp))
theorem aZ9 {S:Setup} {f:FuncId} {fn:Func} {c:Code} {ro bx:List (Nat×List D)} {args:List D} {d:D} {bx':List (Nat×List D)} {L0} (hf:S.P.funcs[f]?=some fn) (h:∀B:Base,(∀b,B.ab b→∃p∈B.ids,p.2=b)→SW S B (Ret S fn.results.toList d bx') [.code c] L0) (hb:fn.body=some c:=by exact rfl) (hname:(fn.name == "runtime.NumGoroutine")=false:=by kernel_rfl) (hn:Nat.ble args.length fn.ntmps=true:=by kernel_rfl) (e:(⟨fn.ntmps,eY 0 args,bx,ro,[],bx.map (·.1)⟩:LS)=L0:=by
 simp only[go_sem];rfl):FC S f ro bx [] args d bx' []:=aTA hf hb hname (Nat.le_of_ble_eq_true hn) (by rw[e];exact h)
end Go.Lg
