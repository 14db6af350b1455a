import Derived.Test.YtmfmgoceeedonaaGreatLgK6
import Derived.Laws.CopyRow
namespace Go.Lg
open Go Go.RowKit
variable {S:Setup} {B:Base} {ops:Array Oper} {l:List Oper} {L:LS} {K:LS->Prop}
theorem aK.sliceMv{a b c:Nat}{T e ty:TypeId}{j:TyI}{pos aft}{id n i:Nat}(ha:aM L (.tmp a)=some (.ms id n))(hb:aM L (.tmp b)=some (.int .i64 i))(hin:i<n)
  (hk:S.kd T=some (.slice e)) (hi:S.tab e=some j) (hz:j.size=1) (hc:c<L.n) (h:aK S B ops l (L.put c (.vw id i (n-i))) K) :
  aK S B ops (⟨some c,.slice T (.tmp a) (some (.tmp b)) none none,ty,pos,aft,none⟩::l) L K:=by
 intro G w0 w hs Q hQ;refine wpList_step λN hN=>?_;rw[if_pos (bS (S:=S) (b:=true) rfl hs rfl)];have hr:=aO hs ha;have hv:=aHG (aO hs hb);generalize hu:w0.eval (.tmp a)=u at hr;have hkd:=aN hk;have hok:=S.ok e _ hi;cases hr with
 | @ms _ _ cap g hβ hcap hmx =>
 have he:S.P.elem T=e:=by simp[Program.elem,hkd]
 have hu':S.P.underlying T=some (.slice (S.P.elem T)):=by rw[he];exact hkd
 have hsl:(Instr.sliceAt T (.slice (some ⟨g,0,none⟩) n cap) (some (.int .i64 i)) none none).run S.P w=.ok (sliced (some ⟨g,0,none⟩) i n cap 1) w:=by
  rw[run_sliceAt_slice w T _ _ _ _ hu',run_slice_any w T _ _ _ hu',fK w true n cap (some (.int .i64 i)) none (some i) none (.inr ⟨_,_,rfl,rfl⟩) (.inl ⟨rfl,rfl⟩) (by simp) (by simp;omega) (by simp) hcap];simp[he,run_sizeOf hok,hz]
 have h0:sliced (some ⟨g,0,none⟩) i n cap 1=.slice (some ⟨g,i,none⟩) (n-i) (cap-i):=by
  unfold sliced;rw[if_neg (by omega)];simp only[Option.map_some,Addr.add,Nat.zero_add,Nat.mul_one];split
  ·rename_i e;subst e;rfl
  ·rfl
 rw[h0] at hsl;have hop:(execOp w0.eval ⟨some c,.slice T (.tmp a) (some (.tmp b)) none none,ty,pos,aft,none⟩).run S.P w=.ok (.value (.slice (some ⟨g,i,none⟩) (n-i) (cap-i))) w:=by
  simp[execOp,hu,hv,hsl]
 unfold Oper.wp;rw[hop];exact hN _ _ (h G _ w (hs.put hc (.vw hβ (by omega) (by omega))) Q hQ)
theorem aGq{G:Ghost}{w0:Act}{w:World}(hs:Sim B L G w0 w){c x y:Nat}{T U e ty:TypeId}{j:TyI}{pos:String}{aft:Array Edge}(hk:S.kd T=some (.slice e))(hi:S.tab e=some j)(hz:j.size=1)
  {id off g dn dc:Nat} (hx:w0.eval (.tmp x)=.slice (some ⟨g,off,none⟩) dn dc) (hβ:G.β id=some g) {cs:List D} (hcs:look L.boxes id=some cs) {sa:Addr} {m sc:Nat} (hy:w0.eval (.tmp y)=.slice (some sa) m sc)
  (ns:List Int) (hn:ns.length=Nat.min m dn) (hfit:off+ns.length≤cs.length) (hsrc:∀(j:Nat) (n:Int),ns[j]?=some n->w.cell? (sa.add j)=some (Value.int .i64 n)) :
  ∃w',(execOp w0.eval ⟨some c,.call ⟨.builtin .copy,#[.tmp x,.tmp y],#[T,U]⟩,ty,pos,aft,none⟩).run S.P w=.ok (.value (.int .i64 ns.length)) w'/\Sim B {L with boxes:=eU L.boxes id (dF cs off (ns.map (.int .i64)))} G w0 w':=by
 have hkd:=aN hk;have hok:=S.ok e _ hi;obtain⟨g',w',hβ',hst,hsim⟩:=aBZ hs (id:=id) (off:=off) (cs:=cs) (new:=ns.map (D.int .i64)) (vl:=ns.map (Value.int .i64)) hcs (by simpa using hfit) (by simp) (λj d v hd hv=>by
  rw[zI] at hd hv;obtain⟨n,hn,rfl⟩:=Option.map_eq_some_iff.1 hd;rw[hn] at hv;obtain rfl:=zA hv;exact .int) (λv hv=>by obtain⟨n,_,rfl⟩:=zJ.1 hv;rfl)
 obtain rfl:g'=g:=zA (hβ'.symm.trans hβ);refine⟨w',?_,hsim⟩;have hst:=hst S.P;have hl:=run_loadCells_list (P:=S.P) w sa (ns.map (Value.int .i64)) (λj v hv=>by
  rw[zI] at hv;obtain⟨n,hn,rfl⟩:=Option.map_eq_some_iff.1 hv;exact hsrc j n hn)
 rw[zC] at hl;have hcp:(Builtin.copy_ #[T,U] ty #[.slice (some ⟨g',off,none⟩) dn dc,.slice (some sa) m sc]).run S.P w=.ok (goInt ns.length) w':=by
  simp[Builtin.copy_,run_underlying hkd,Builtin.lenOf,Builtin.firstCells,run_sizeOf hok,hz,←hn,hl,hst]
 simp[execOp,resolve,invoke,builtin,hx,hy,hcp,goInt]
theorem aK.copyL{a b c:Nat}{T U e ty:TypeId}{j:TyI}{pos aft}{id n:Nat}{cs:List D}{tk:Tk}{ys:List Int}(ha:aM L (.tmp a)=some (.ms id n))(hcs:look L.boxes id=some cs)(hb:aM L (.tmp b)=some (.sl tk (ys.map (.int .i64))))(hne:ys≠[])
  (hk:S.kd T=some (.slice e)) (hi:S.tab e=some j) (hz:j.size=1) (hl:ys.length≤n/\ys.length≤cs.length) (hc:c<L.n) (h:aK S B ops l ({L with boxes:=eU L.boxes id (dF cs 0 (ys.map (.int .i64)))}.put c (.int .i64 ys.length)) K) :
  aK S B ops (⟨some c,.call ⟨.builtin .copy,#[.tmp a,.tmp b],#[T,U]⟩,ty,pos,aft,none⟩::l) L K:=by
 intro G w0 w hs Q hQ;refine wpList_step λN hN=>?_;rw[if_pos (bS (S:=S) (b:=true) rfl hs rfl)];have hr:=aO hs ha;have hr2:=aO hs hb;generalize hu:w0.eval (.tmp a)=u at hr;generalize hv:w0.eval (.tmp b)=v at hr2;cases hr with
 | @ms _ _ cap g hβ hcap hmx =>
 cases hr2 with
 | @sl _ _ A m c2 b2 o s hn hcc hmm ht hA hus hkk hst hrr =>
 obtain rfl:=hA.resolve_left (by simpa using hne);have hm:m=ys.length:=by simpa using hn
 subst hm;obtain⟨w',h1,h2⟩:=aGq (c:=c) (ty:=ty) (pos:=pos) (aft:=aft) (U:=U) hs hk hi hz hu hβ hcs hv ys (by simp only[Nat.min_def];rw[if_pos hl.1]) (by omega) (λj m hj=>by
  have h0:(flat (ys.map (D.int .i64)))[j]?=some (.int .i64 m):=by rw[dA,zI,hj];rfl
  obtain⟨k1,u,k2⟩:=hst j _ h0;have k3:=hrr j _ u h0 k2;cases k3;rw[e8];exact k2)
 unfold Oper.wp;rw[h1];exact hN _ _ (h G _ w' (h2.put hc .int) Q hQ)
theorem aK.copyM{a b c:Nat}{T U e ty:TypeId}{j:TyI}{pos aft}{id off n m:Nat}{ys:List Int}(ha:aM L (.tmp a)=some (.vw id off n))(hcs:look L.boxes id=some (ys.map (.int .i64)))(hb:aM L (.tmp b)=some (.ms id m))
  (hk:S.kd T=some (.slice e)) (hi:S.tab e=some j) (hz:j.size=1) (hl:off+Nat.min m n≤ys.length) (hc:c<L.n) (h:aK S B ops l ({L with boxes:=eU L.boxes id (dF (ys.map (.int .i64)) off ((ys.take (Nat.min m n)).map (.int .i64)))}.put c (.int .i64 (Nat.min m n:Nat))) K) :
  aK S B ops (⟨some c,.call ⟨.builtin .copy,#[.tmp a,.tmp b],#[T,U]⟩,ty,pos,aft,none⟩::l) L K:=by
 intro G w0 w hs Q hQ;refine wpList_step λN hN=>?_;rw[if_pos (bS (S:=S) (b:=true) rfl hs rfl)];have hr:=aO hs ha;have hr2:=aO hs hb;generalize hu:w0.eval (.tmp a)=u at hr;generalize hv:w0.eval (.tmp b)=v at hr2;cases hr with
 | @vw _ _ _ cap g hβ hcap hmx =>
 cases hr2 with
 | @ms _ _ cap2 g2 hβ2 hcap2 hmx2 =>
 obtain rfl:g2=g:=zA (hβ2.symm.trans hβ);obtain⟨g3,hβ3,⟨vs,e3,f1,f2,f3⟩,_,_⟩:=hs.W.boxes id _ hcs;obtain rfl:g3=g2:=zA (hβ3.symm.trans hβ);have hlen:(ys.take (Nat.min m n)).length=Nat.min m n:=by rw[List.length_take,Nat.min_eq_left];omega
 obtain⟨w',h1,h2⟩:=aGq (c:=c) (ty:=ty) (pos:=pos) (aft:=aft) (U:=U) hs hk hi hz hu hβ hcs hv (ys.take (Nat.min m n)) hlen (by rw[hlen,zC];exact hl) (λj k hj=>by
  have hj2:ys[j]?=some k:=by
   rw[List.getElem?_take] at hj;split at hj
   ·exact hj
   ·cases hj
  have hlt:j<vs.size:=by
   have:=(zE.1 hj2).1;simp at f2;omega
  have hv0:vs[j]?=some vs[j]:=by simp[hlt]
  have:=f3 j (.int .i64 k) vs[j] (by rw[zI,hj2];rfl) hv0;have hshape:=aHG this;rw[e8,Nat.zero_add];unfold World.cell?;simp only[f1];rw[hv0,hshape];rfl)
 unfold Oper.wp;rw[h1,hlen];exact hN _ _ (h G _ w' (by rw[hlen] at *;exact h2.put hc .int) Q hQ)
theorem aK.copy0{a b c:Nat}{T U e ty:TypeId}{j:TyI}{pos aft}{id:Nat}{tk:Tk}{ys:List D}(ha:aM L (.tmp a)=some (.ms id 0))(hb:aM L (.tmp b)=some (.sl tk ys))
  (hk:S.kd T=some (.slice e)) (hi:S.tab e=some j) (hz:j.size=1) (hc:c<L.n) (h:aK S B ops l (L.put c (.int .i64 0)) K) :
  aK S B ops (⟨some c,.call ⟨.builtin .copy,#[.tmp a,.tmp b],#[T,U]⟩,ty,pos,aft,none⟩::l) L K:=by
 intro G w0 w hs Q hQ;refine wpList_step λN hN=>?_;rw[if_pos (bS (S:=S) (b:=true) rfl hs rfl)];have hr:=aO hs ha;have hr2:=aO hs hb;generalize hu:w0.eval (.tmp a)=u at hr;generalize hv:w0.eval (.tmp b)=v at hr2;have hkd:=aN hk;have hok:=S.ok e _ hi;cases hr with
 | @ms _ _ cap g hβ hcap hmx =>
 cases hr2 with
 | @sl _ _ A m c2 b2 o s hn hcc hmm ht hA hus hkk hst hrr =>
 have hl0:∀(x:Addr),(loadCells x 0).run S.P w=.ok #[] w:=λx=>by simpa using run_loadCells_list (P:=S.P) w x [] (by simp)
 have hcp:(Builtin.copy_ #[T,U] ty #[.slice (some ⟨g,0,none⟩) 0 cap,.slice A m c2]).run S.P w=.ok (goInt 0) w:=by
  cases A<;>simp[Builtin.copy_,run_underlying hkd,Builtin.lenOf,Builtin.firstCells,run_sizeOf hok,hz,storeCells,hl0]
 have hop:(execOp w0.eval ⟨some c,.call ⟨.builtin .copy,#[.tmp a,.tmp b],#[T,U]⟩,ty,pos,aft,none⟩).run S.P w=.ok (.value (.int .i64 0)) w:=by
  simp[execOp,resolve,invoke,builtin,hu,hv,hcp,goInt]
 unfold Oper.wp;rw[hop];exact hN _ _ (h G _ w (hs.put hc .int) Q hQ)
end Go.Lg
