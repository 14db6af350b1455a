/-
  Lg: LgThawO, one behind the other.
-/
import Derived.Test.YtpennhjjnlkbiaaGreatLgK7
/-
  Lg: an own list of numbers is taken for memory (a box): what stays of the state must be seen not to read its block.
-/
namespace Go.Lg
open Go Go.RowKit
def D.offI:D→Bool
 | .int k _=>k != .i64
 | .bool _|.str _|.sl ..|.fn ..=>true
 | _=>false
def D.offIL:List D→Bool
 | []=>true
 | d::ds=>d.offI&&D.offIL ds
mutual
def D.safeI (k:Nat) (tk:List Nat):D→Bool
 | .int ..|.bool _|.str _|.box ..|.ms ..|.vw ..|.raw _=>true
 | .sl (.own k' _ _) xs=>(k' != k)&&tk.contains k'&&D.safeIL k tk xs
 | .sl (.que _ _) _=>false
 | .sl (.lab _) xs=>D.safeIL k tk xs
 | .sl _ xs=>D.safeIL k tk xs&&D.offIL xs
 | .agg cs|.tup cs|.fn _ cs=>D.safeIL k tk cs
 | .imm cs=>cs.isEmpty
 | .pred _=>false
def D.safeIL (k:Nat) (tk:List Nat):List D→Bool
 | []=>true
 | d::ds=>d.safeI k tk&&D.safeIL k tk ds
end
theorem safeIL_mem {k:Nat} {tk:List Nat} {ds:List D} (h:D.safeIL k tk ds=true) {d:D} (hd:d∈ds):d.safeI k tk=true:=by
 induction ds with
 | nil=>cases hd
 | cons x r ih =>
  simp only[D.safeIL,Bool.and_eq_true] at h
  rcases List.mem_cons.1 hd with rfl|hd
  ·exact h.1
  ·exact ih h.2 hd
theorem safeIL_of {k:Nat} {tk:List Nat} {ds:List D} (h:∀d∈ds,d.safeI k tk=true):D.safeIL k tk ds=true:=by
 induction ds with
 | nil=>rfl
 | cons x r ih=>simp only[D.safeIL,Bool.and_eq_true];exact⟨h x List.mem_cons_self,ih fun d hd=>h d (List.mem_cons_of_mem _ hd)⟩
theorem safeI_cells {k:Nat} {tk:List Nat} {x:D} (h:x.safeI k tk=true):∀d∈x.cells,d.safeI k tk=true:=by
 cases x with
 | agg cs=>exact fun d hd=>safeIL_mem (ds:=cs) (by simpa[D.safeI] using h) hd
 | _=>intro d hd;rw[show d=_ from List.mem_singleton.1 hd];exact h
theorem safeIL_flat {k:Nat} {tk:List Nat} {xs:List D} (h:D.safeIL k tk xs=true):∀d∈flat xs,d.safeI k tk=true:=fun d hd=>by
 obtain⟨x,hx,hd⟩:=List.mem_flatMap.1 hd
 exact safeI_cells (safeIL_mem h hx) d hd
theorem safeI_hide {G:Ghost} {w:World} {k g:Nat} {tk:List Nat} (htk:∀k'∈tk,∃x,G.τ k'=some x) (hinj:∀k' e z,G.τ k'=some (some (g,e,z))→k'=k) (hlab:G.lab g=[])
  (hsl:∀o v,o<G.lim g→w.cell? ⟨g,o,none⟩=some v→∃n,v=.int .i64 n) {d:D} {v:Value} (h:Rel G w d v):d.safeI k tk=true→Rel (G.hide g) w d v:=by
 have hl:∀b,b≠g→(G.hide g).lim b=G.lim b:=fun b hb=>by simp[Ghost.hide,hb]
 induction h with
 | int=>exact fun _=>.int
 | bool=>exact fun _=>.bool
 | str=>exact fun _=>.str
 | box hb=>exact fun _=>.box hb
 | ms hb hc hn=>exact fun _=>.ms hb hc hn
 | vw hb hc hn=>exact fun _=>.vw hb hc hn
 | raw h=>exact fun _=>.raw h
 | pred=>intro h;simp[D.safeI] at h
 | agg hlen hr ih=>exact fun h=>.agg hlen fun j d v hj hv=>ih j d v hj hv (safeIL_mem (by simpa[D.safeI] using h) (List.mem_of_getElem? hj))
 | tup hlen hr ih=>exact fun h=>.tup hlen fun j d v hj hv=>ih j d v hj hv (safeIL_mem (by simpa[D.safeI] using h) (List.mem_of_getElem? hj))
 | fn hlen hr ih=>exact fun h=>.fn hlen fun j d v hj hv=>ih j d v hj hv (safeIL_mem (by simpa[D.safeI] using h) (List.mem_of_getElem? hj))
 | @imm cs b o hk hst hr ih =>
  intro h
  obtain rfl:cs=[]:=by simpa[D.safeI] using h
  exact .imm (b:=b) (o:=o) (fun d hd=>by cases hd) (fun j d hj=>by simp at hj) (fun j d v hj=>by simp at hj)
 | @sl tk0 xs A n c b o s hn hc hm ht hA hu hk hst hr ih =>
  intro h
  have key:(∀d∈flat xs,d.safeI k tk=true)→(flat xs=[]∨b≠g)→TkOk (G.hide g) w tk0 xs A n c→Rel (G.hide g) w (.sl tk0 xs) (.slice A n c):=fun hs hor ht'=>by
   refine .sl (b:=b) (o:=o) hn hc hm ht' hA hu hk (fun j d hj=>?_) (fun j d v hj hv=>?_)
   ·obtain⟨h1,h2⟩:=hst j d hj
    have hb:b≠g:=hor.resolve_left (by rintro e;rw[e] at hj;simp at hj)
    exact⟨by rw[hl b hb];exact h1,h2⟩
   ·exact ih j d v hj hv (hs d (List.mem_of_getElem? hj))
  have plain:D.safeIL k tk xs=true→(∀d,(flat xs)[0]?=some d→d.offI=true)→TkOk (G.hide g) w tk0 xs A n c→Rel (G.hide g) w (.sl tk0 xs) (.slice A n c):=fun hs ho ht'=>by
   refine key (safeIL_flat hs) ?_ ht'
   cases hf:flat xs with
   | nil=>exact .inl rfl
   | cons d0 r =>
    right
    rintro rfl
    have h0:(flat xs)[0]?=some d0:=by rw[hf];rfl
    obtain⟨h1,v,h2⟩:=hst 0 d0 h0
    obtain⟨n',rfl⟩:=hsl _ _ h1 h2
    have h3:=hr 0 d0 _ h0 h2
    have h4:=ho d0 h0
    cases h3<;>simp[D.offI] at h4
  have hoff:D.offIL xs=true→∀d,(flat xs)[0]?=some d→d.offI=true:=fun ho d hd=>by
   cases xs with
   | nil=>simp[flat] at hd
   | cons x r =>
    simp only[D.offIL,Bool.and_eq_true] at ho
    have hx:flat (x::r)=x::flat r:=by
     have:x.cells=[x]:=by
      have:=ho.1
      cases x<;>first|rfl|(simp[D.offI] at this)
     simp[flat,this]
    rw[hx] at hd
    obtain rfl:=Option.some.inj hd
    exact ho.1
  have h2:∀ {a b:Bool},(a&&b)=true→a=true∧b=true:=fun {a b} h=>by simpa using h
  cases tk0 with
  | que k2 e=>simp[D.safeI] at h
  | any=>have:=h2 (by simpa only[D.safeI] using h);exact plain this.1 (hoff this.2) ht
  | nil=>have:=h2 (by simpa only[D.safeI] using h);exact plain this.1 (hoff this.2) ht
  | nl=>have:=h2 (by simpa only[D.safeI] using h);exact plain this.1 (hoff this.2) ht
  | nn=>have:=h2 (by simpa only[D.safeI] using h);exact plain this.1 (hoff this.2) ht
  | full=>have:=h2 (by simpa only[D.safeI] using h);exact plain this.1 (hoff this.2) ht
  | lab l =>
   refine key (safeIL_flat (by simpa[D.safeI] using h)) ?_ ht
   rcases ht with rfl|⟨g',o',e1,e2,e3⟩
   ·exact .inl rfl
   ·rcases hA with rfl|hA
    ·exact .inl rfl
    ·right
     rintro rfl
     rw[e1] at hA
     simp only[Option.some.injEq,Addr.mk.injEq] at hA
     rw[hA.1] at e2
     exact e3 (by rw[←e2,hlab])
  | own k' e z =>
   simp only[D.safeI,Bool.and_eq_true,bne_iff_ne,ne_eq,List.contains_eq_mem,decide_eq_true_eq] at h
   obtain⟨⟨h1,h2⟩,h3⟩:=h
   obtain⟨x,hx⟩:=htk k' h2
   simp only[TkOk,hx] at ht
   match x,hx,ht with
   | none,hx,ht =>
    have:xs=[]:=List.length_eq_zero_iff.1 (hn.symm.trans ht.1)
    subst this
    exact key (safeIL_flat h3) (.inl rfl) (by simp only[TkOk,show (G.hide g).τ k'=some none from hx];exact ht)
   | some (g',e',z'),hx,ht =>
    have hg:g'≠g:=by rintro rfl;exact h1 (hinj k' e' z' hx)
    refine key (safeIL_flat h3) ?_ ?_
    ·rcases hA with rfl|hA
     ·exact .inl rfl
     ·right
      rintro rfl
      rw[ht.2.1] at hA
      simp only[Option.some.injEq,Addr.mk.injEq] at hA
      exact hg hA.1
    ·simp only[TkOk,show (G.hide g).τ k'=some (some (g',e',z')) from hx]
     rw[hl g' hg]
     exact ht
mutual
theorem safeI_tks {k:Nat} {tk:List Nat}:∀(d:D),d.safeI k tk=true→∀k'∈d.tks,k'≠k
 | .int ..,_,_,h=>by simp[D.tks] at h
 | .bool _,_,_,h=>by simp[D.tks] at h
 | .str _,_,_,h=>by simp[D.tks] at h
 | .box ..,_,_,h=>by simp[D.tks] at h
 | .ms ..,_,_,h=>by simp[D.tks] at h
 | .vw ..,_,_,h=>by simp[D.tks] at h
 | .raw _,_,_,h=>by simp[D.tks] at h
 | .imm _,_,_,h=>by simp[D.tks] at h
 | .pred _,_,_,h=>by simp[D.tks] at h
 | .sl tk0 xs,hs,k',h=>by
  cases tk0 with
  | own k2 e z =>
   simp only[D.tks,List.mem_singleton] at h
   subst h
   simp only[D.safeI,Bool.and_eq_true,bne_iff_ne] at hs
   exact hs.1.1
  | que k2 e=>simp[D.safeI] at hs
  | _=>simp[D.tks] at h
 | .agg cs,hs,k',h=>safeIL_tks cs (by simpa[D.safeI] using hs) k' (by simpa[D.tks] using h)
 | .tup cs,hs,k',h=>safeIL_tks cs (by simpa[D.safeI] using hs) k' (by simpa[D.tks] using h)
 | .fn _ cs,hs,k',h=>safeIL_tks cs (by simpa[D.safeI] using hs) k' (by simpa[D.tks] using h)
theorem safeIL_tks {k:Nat} {tk:List Nat}:∀(ds:List D),D.safeIL k tk ds=true→∀k'∈D.tksL ds,k'≠k
 | [],_,_,h=>by simp[D.tksL] at h
 | d::ds,hs,k',h=>by
  simp only[D.safeIL,Bool.and_eq_true] at hs
  simp only[D.tksL,List.mem_append] at h
  rcases h with h|h
  ·exact safeI_tks d hs.1 k' h
  ·exact safeIL_tks ds hs.2 k' h
end
theorem mem_idsLO {ds:List D} {d:D} (hd:d∈ds) {i:Nat} (h:i∈d.ids):i∈D.idsL ds:=by
 induction ds with
 | nil=>cases hd
 | cons x r ih =>
  simp only[D.idsL,List.mem_append]
  rcases List.mem_cons.1 hd with rfl|hd
  ·exact .inl h
  ·exact .inr (ih hd)
end Go.Lg
