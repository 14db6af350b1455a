import Derived.Test.YtmfmgoceeedonaaGreatLgK7
import Derived.Test.YtmfmgoceeedonaaGreatLgK6
namespace Go.Lg
open Go Go.RowKit
def Ghost.cutB(G:Ghost)(b m:Nat):Ghost:={G with lim:=λx=>if x=b then m else G.lim x}
theorem aWu{B:Base}{L:LS}{G:Ghost}{a}{w:World}(hs:Sim B L G a w)(hP:∀b,B.ab b->∃p∈B.ids,p.2=b){k:Nat}{e:TypeId}(hk:k∈L.toks){ps:List (Tk×List Int)}(hmem:∀p∈ps,(oY p).memOk=true)
  {A:Option Addr} {n c:Nat} (hv:Rel G w (.sl (.own k e 1) (ps.map oY)) (.slice A n c)) {m:Nat} (hm:m≤ps.length) (env':List (Nat×D)) (bx':List (Nat×List D))
  (henv:∀p∈env',look L.env p.1=some p.2/\p.2.safe k L.toks=true) (hbx:∀p∈bx',look L.boxes p.1=some p.2/\∀d∈p.2,d.safe k L.toks=true) :
  ∃G',Sim B ⟨L.n,env',bx',[],L.toks,L.fix⟩ G' a w/\Rel G' w (.sl (.own k e 1) ((ps.take m).map oY)) (.slice A m c):=by
 have hW:=hs.W;obtain⟨x,hx⟩:=hW.toks k hk;have hv0:=hv;cases hv with
 | @sl _ _ _ _ _ b o s hn hc hmx ht hA hu hmm hst hr =>
 simp only[dZ,hx] at ht;have hnl:n=ps.length:=by simpa using hn
 rcases Nat.eq_zero_or_pos ps.length with h0|h0
 ·obtain rfl:ps=[]:=List.length_eq_zero_iff.1 h0;obtain rfl:m=0:=by simpa using hm
  obtain rfl:n=0:=hnl;refine⟨G,⟨hs.defers,hs.size,λt d hd=>?_,{hW with boxes:=λid cs h=>?_,robs:=λid cs h=>(by cases h)},hs.fixed⟩,hv0⟩
  ·exact hs.env t d (henv _ (bB hd)).1
  ·exact hW.boxes id cs (hbx _ (bB h)).1
 ·have hne:ps≠[]:=by rintro rfl;exact absurd h0 (by simp)
  match x,hx,ht with
  | none,hx,ht=>omega
  | some (gb,e2,z2),hx,ht =>
  obtain⟨⟨rfl,rfl⟩,rfl,h3,h4,h5⟩:=ht;obtain⟨rfl,rfl⟩:b=gb/\o=0:=by
   rcases hA with hA|hA
   ·exact absurd (List.map_eq_nil_iff.1 hA) hne
   ·simp only[Option.some.injEq,Addr.mk.injEq] at hA;exact⟨hA.1.symm,hA.2.1.symm⟩
  obtain⟨t1,t2,⟨cur,t3,t4⟩,t5⟩:=hW.tau k b e2 1 hx;have hnew:B.w.heap.size≤b:=t1.resolve_right λhab=>by
   obtain⟨q,hq,e⟩:=hP b hab;exact t5 q.1 (by rw[hW.ids q hq,e])
  rw[rT] at hmm hst hr;have hlim:G.lim b=ps.length:=by omega
  have hsl:∀o v,o<G.lim b->w.cell? ⟨b,o,none⟩=some v->∃A n c,v=.slice A n c:=λo v ho hv=>by
   have hj:o<ps.length:=by omega
   have:=hr o (oY ps[o]) v (by simp[hj]) (by rw[Nat.zero_add];exact hv);cases this;exact⟨_,_,_,rfl⟩
  have hnlim:∀g,g≠b->(G.cutB b m).lim g=G.lim g:=λg hg=>by simp[Ghost.cutB,hg]
  have keep:∀ {d v},d.safe k L.toks=true->Rel G w d v->Rel (G.cutB b m) w d v:=λ{d v} hd hr=>by
   have h1:=aRU hW.toks (λk' e z h=>hW.tinj k' k b e z e2 1 h hx) (hW.tlab k b e2 1 hx) hsl hr hd;refine Rel.mono (G:=G.hide b) (G':=G.cutB b m) (w:=w) (w':=w) ⟨λb' o v h1 h2=>⟨?_,h2⟩,λ_ _=>rfl⟩ h1 (λ_ _ _ h=>h) (λk' hk'=>.inr ⟨rfl,λg' e' z' hg=>⟨?_,rfl⟩⟩)
   ·simp only[Ghost.hide] at h1;split at h1
    ·omega
    ·rename_i hb';rw[hnlim b' hb'];exact h1
   ·have hg0:G.τ k'=some (some (g',e',z')):=hg;have hgb:g'≠b:=by
     rintro rfl;exact aMi _ hd k' hk' (hW.tinj k' k g' e' z' e2 1 hg0 hx)
    rw[hnlim g' hgb];simp[Ghost.hide,hgb]
  have psafe:∀p∈ps,(oY p).safe k L.toks=true:=λp hpm=>by
   have hm:=hmem p hpm;have h1:=aCi p.2 .i64;have h2:D.safeL k L.toks (p.2.map (.int .i64))=true:=aEJ λd hd=>by obtain⟨x,_,rfl⟩:=zJ.1 hd;rfl
   obtain⟨tk0,xs⟩:=p;cases tk0<;>first|(simp[D.memOk] at hm;done)|(simp only[D.safe];first|exact h1|exact h2)
  refine⟨G.cutB b m,⟨hs.defers,hs.size,λt d hd=>?_,?_,hs.fixed⟩,?_⟩
  ·obtain⟨h1,h2⟩:=henv _ (bB hd);obtain⟨v,q1,q2⟩:=hs.env t d h1;exact⟨v,q1,keep h2 q2⟩
  ·exact {
    boxes:=λid cs h=>by
     obtain⟨h1,h2⟩:=hbx _ (bB h);obtain⟨g,q1,⟨vs,e0,q2,q3,q4⟩,q5,q6⟩:=hW.boxes id cs h1;have hgb:g≠b:=by rintro rfl;exact t5 id q1
     exact⟨g,q1,⟨vs,e0,q2,q3,λj d v hd hv=>keep (h2 d (zF hd)) (q4 j d v hd hv)⟩,by rw[hnlim g hgb];exact q5,q6⟩
    robs:=λid cs h=>by cases h
    toks:=hW.toks
    tau:=λk' g' e' z' hg=>by
     obtain⟨h1,h2,⟨cur',y3,y4⟩,h5⟩:=hW.tau k' g' e' z' hg;refine⟨h1,h2,⟨cur',y3,?_⟩,h5⟩;by_cases eb:g'=b
     ·subst eb;simp only[Ghost.cutB,if_true];omega
     ·rw[hnlim g' eb];exact y4
    tinj:=hW.tinj
    binj:=hW.binj
    blt:=hW.blt
    lablt:=hW.lablt
    old:=λb' hlt hn=>by
     obtain⟨h1,h2⟩:=hW.old b' hlt hn;exact⟨h1,by rw[hnlim b' (by omega)];exact h2⟩
    olda:=λb' hlt=>by
     obtain⟨h1,h2⟩:=hW.olda b' hlt;exact⟨by rw[hnlim b' (by omega)];exact h1,h2⟩
    oldl:=hW.oldl
    tlab:=hW.tlab
    blab:=hW.blab
    oldu:=hW.oldu
    labw:=hW.labw
    ids:=hW.ids
    sz:=hW.sz
    os:=hW.os
    tape:=hW.tape
    out:=hW.out
    dr:=hW.dr}
  ·have hml:((ps.take m).map oY).length=m:=by rw[zC,List.length_take];omega
   refine .sl (b:=b) (o:=0) (s:=1) hml.symm (by omega) hmx ?_ (.inr rfl) (λx hx=>by obtain⟨p,_,rfl⟩:=zJ.1 hx;rfl) (λd hd=>?_) (λj d hj=>?_) (λj d v hj hv=>?_)
   ·have hx':(G.cutB b m).τ k=some (some (b,e2,1)):=hx;simp only[dZ,hx'];refine⟨⟨trivial,trivial⟩,trivial,?_,h4,λx hx=>by obtain⟨p,_,rfl⟩:=zJ.1 hx;rfl⟩;simp[Ghost.cutB]
   ·rw[rT] at hd;obtain⟨p,hpq,rfl⟩:=zJ.1 hd;exact hmem p (List.mem_of_mem_take hpq)
   ·rw[rT] at hj;have hjl:j<m:=by have:=(zE.1 hj).1;rw[hml] at this;exact this
    refine⟨by rw[Nat.zero_add];simpa[Ghost.cutB] using hjl,?_⟩;exact(hst j (oY ps[j]) (by simp[show j<ps.length by omega])).2
   ·rw[rT] at hj;have hjl:j<m:=by have:=(zE.1 hj).1;rw[hml] at this;exact this
    have hjp:j<ps.length:=by omega
    rw[zI,List.getElem?_take,if_pos hjl,zB hjp] at hj;obtain rfl:=zA hj;exact keep (psafe _ (List.getElem_mem hjp)) (hr j (oY ps[j]) v (by simp[hjp]) hv)
theorem aK.popOwn{S:Setup}{B:Base}{ops l}{L:LS}{K:LS->Prop}{t:Nat}{x hiO:Operand}{T ty e:TypeId}{pos aft}{j:TyI}{kd:IntKind}{m:Int}
  (hP:∀b,B.ab b->∃p∈B.ids,p.2=b) {k:Nat} (hk:k∈L.toks) {ps:List (Tk×List Int)} (hx:aM L x=some (.sl (.own k e 1) (ps.map oY))) (hh:aM L hiO=some (.int kd m)) (hT:S.kd T=some (.slice e)) (he:S.tab e=some j) (hm:0≤m/\m≤ps.length)
  (hmem:∀p∈ps,(oY p).memOk=true) (env':List (Nat×D)) (bx':List (Nat×List D)) (henv:∀p∈env',look L.env p.1=some p.2/\p.2.safe k L.toks=true) (hbx:∀p∈bx',look L.boxes p.1=some p.2/\∀d∈p.2,d.safe k L.toks=true) (ht:t<L.n)
  (h:aK S B ops l ((⟨L.n,env',bx',[],L.toks,L.fix⟩:LS).put t (.sl (.own k e 1) ((ps.take m.toNat).map oY))) K) :
  aK S B ops (⟨some t,.slice T x none (some hiO) none,ty,pos,aft,none⟩::l) L K:=by
 intro G a w hs Q hQ;refine wpList_step λN hN=>?_;rw[if_pos (bS (S:=S) (b:=true) rfl hs rfl)];have hr:=aO hs hx;have hi:=aO hs hh;generalize hu:a.eval x=u at hr;generalize hi2:a.eval hiO=iv at hi;cases hi;obtain⟨A,n,c,rfl⟩:∃A n c,u=.slice A n c:=by cases hr;exact⟨_,_,_,rfl⟩
 obtain⟨hn,hc⟩:n=ps.length/\n≤c:=by
  cases hr with
  | sl hn hc hm ht hA hu hmem hst hr=>exact⟨by simpa using hn,hc⟩
 obtain⟨G',hs',hr'⟩:=aWu hs hP hk hmem hr (m:=m.toNat) (by omega) env' bx' henv hbx;have hu':=aN hT;have hel:S.P.elem T=e:=by simp[Program.elem,hu']
 have hu2:S.P.underlying T=some (.slice (S.P.elem T)):=by rw[hel];exact hu'
 have hok:=S.ok e j he;have hrun:(execOp a.eval ⟨some t,.slice T x none (some hiO) none,ty,pos,aft,none⟩).run S.P w=.ok (.value (.slice A m.toNat c)) w:=by
  have h1:=fK (P:=S.P) w true n c none (some (.int kd m)) none (some m) (.inl ⟨rfl,rfl⟩) (.inr ⟨kd,m,rfl,rfl⟩) (by simp) (by simpa using hm.1) (by simp;omega) hc;have h2:(Instr.sliceAt T (.slice A n c) none (some (.int kd m)) none).run S.P w=.ok (.slice A m.toNat c) w:=by
   rw[run_sliceAt_slice w T _ _ _ _ hu2,run_slice_any w T _ _ _ hu2,h1];cases A<;>simp[hel,run_sizeOf hok,sliced,Addr.add]
  simp[execOp,hu,hi2,h2]
 unfold Oper.wp;rw[hrun];exact hN _ _ (h G' _ w (hs'.put ht hr') Q hQ)
end Go.Lg
