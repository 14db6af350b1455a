/-
  Lg: LgMv, LgAppM, one behind the other.
-/
import Derived.Test.YtkfkdgginfpdnaaGreatDoorLgK6
import Derived.Laws.CopyRow
/-
  Lg: a part of memory as a slice ('x[i:]' of a made list), and the library's copy into memory.
-/
namespace Go.Lg
open Go Go.RowKit
variable {S:Setup} {B:Base} {ops:Array Oper} {l:List Oper} {L:LS} {K:LS→Prop}
theorem LopsW.sliceMv {a b c:Nat} {T e ty:TypeId} {j:TyI} {pos:String} {aft:Array Edge} {id n i:Nat} (ha:evalO L (.tmp a)=some (.ms id n)) (hb:evalO L (.tmp b)=some (.int .i64 i)) (hin:i<n)
  (hk:S.kd T=some (.slice e)) (hi:S.tab e=some j) (hz:j.size=1) (hc:c<L.n) (h:LopsW S B ops l (L.put c (.vw id i (n-i))) K) :
  LopsW S B ops (⟨some c,.slice T (.tmp a) (some (.tmp b)) none none,ty,pos,aft,none⟩::l) L K:=by
 intro G w0 w hs Q hQ
 refine wpList_step fun N hN=>?_
 rw[if_pos (guardY_sound (S:=S) (b:=true) rfl hs rfl)]
 have hr:=eval_sound hs ha
 have hv:=int_shape (eval_sound hs hb)
 generalize hu:w0.eval (.tmp a)=u at hr
 have hkd:=kd_slice hk
 have hok:=S.ok e _ hi
 cases hr with
 | @ms _ _ cap g hβ hcap hmx =>
 have he:S.P.elem T=e:=by simp[Program.elem,hkd]
 have hu':S.P.underlying T=some (.slice (S.P.elem T)):=by rw[he];exact hkd
 have hsl:(Instr.sliceAt T (.slice (some ⟨g,0,none⟩) n cap) (some (.int .i64 i)) none none).run S.P w=.ok (sliced (some ⟨g,0,none⟩) i n cap 1) w:=by
  rw[run_sliceAt_slice w T _ _ _ _ hu',run_slice_any w T _ _ _ hu',run_sliceBounds_lh w true n cap (some (.int .i64 i)) none (some i) none (.inr ⟨_,_,rfl,rfl⟩) (.inl ⟨rfl,rfl⟩) (by simp) (by simp;omega) (by simp) hcap]
  simp[he,run_sizeOf hok,hz]
 have h0:sliced (some ⟨g,0,none⟩) i n cap 1=.slice (some ⟨g,i,none⟩) (n-i) (cap-i):=by
  unfold sliced
  rw[if_neg (by omega)]
  simp only[Option.map_some,Addr.add,Nat.zero_add,Nat.mul_one]
  split
  ·rename_i e;subst e;rfl
  ·rfl
 rw[h0] at hsl
 have hop:(execOp w0.eval ⟨some c,.slice T (.tmp a) (some (.tmp b)) none none,ty,pos,aft,none⟩).run S.P w=.ok (.value (.slice (some ⟨g,i,none⟩) (n-i) (cap-i))) w:=by
  simp[execOp,hu,hv,hsl]
 unfold Oper.wp
 rw[hop]
 exact hN _ _ (h G _ w (hs.put hc (.vw hβ (by omega) (by omega))) Q hQ)
theorem copy_step {G:Ghost} {w0:Act} {w:World} (hs:Sim B L G w0 w) {c x y:Nat} {T U e ty:TypeId} {j:TyI} {pos:String} {aft:Array Edge} (hk:S.kd T=some (.slice e)) (hi:S.tab e=some j) (hz:j.size=1)
  {id off g dn dc:Nat} (hx:w0.eval (.tmp x)=.slice (some ⟨g,off,none⟩) dn dc) (hβ:G.β id=some g) {cs:List D} (hcs:look L.boxes id=some cs) {sa:Addr} {m sc:Nat} (hy:w0.eval (.tmp y)=.slice (some sa) m sc)
  (ns:List Int) (hn:ns.length=Nat.min m dn) (hfit:off+ns.length≤cs.length) (hsrc:∀(j:Nat) (n:Int),ns[j]?=some n→w.cell? (sa.add j)=some (Value.int .i64 n)) :
  ∃w',(execOp w0.eval ⟨some c,.call ⟨.builtin .copy,#[.tmp x,.tmp y],#[T,U]⟩,ty,pos,aft,none⟩).run S.P w=.ok (.value (.int .i64 ns.length)) w'∧Sim B {L with boxes:=setA L.boxes id (putCells cs off (ns.map (.int .i64)))} G w0 w':=by
 have hkd:=kd_slice hk
 have hok:=S.ok e _ hi
 obtain⟨g',w',hβ',hst,hsim⟩:=store_sim hs (id:=id) (off:=off) (cs:=cs) (new:=ns.map (D.int .i64)) (vl:=ns.map (Value.int .i64)) hcs (by simpa using hfit) (by simp) (fun j d v hd hv=>by
  rw[List.getElem?_map] at hd hv
  obtain⟨n,hn,rfl⟩:=Option.map_eq_some_iff.1 hd
  rw[hn] at hv
  obtain rfl:=Option.some.inj hv
  exact .int) (fun v hv=>by obtain⟨n,_,rfl⟩:=List.mem_map.1 hv;rfl)
 obtain rfl:g'=g:=Option.some.inj (hβ'.symm.trans hβ)
 refine⟨w',?_,hsim⟩
 have hst:=hst S.P
 have hl:=run_loadCells_list (P:=S.P) w sa (ns.map (Value.int .i64)) (fun j v hv=>by
  rw[List.getElem?_map] at hv
  obtain⟨n,hn,rfl⟩:=Option.map_eq_some_iff.1 hv
  exact hsrc j n hn)
 rw[List.length_map] at hl
 have hcp:(Builtin.copy_ #[T,U] ty #[.slice (some ⟨g',off,none⟩) dn dc,.slice (some sa) m sc]).run S.P w=.ok (goInt ns.length) w':=by
  simp[Builtin.copy_,run_underlying hkd,Builtin.lenOf,Builtin.firstCells,run_sizeOf hok,hz,←hn,hl,hst]
 simp[execOp,resolve,invoke,builtin,hx,hy,hcp,goInt]
theorem LopsW.copyL {a b c:Nat} {T U e ty:TypeId} {j:TyI} {pos:String} {aft:Array Edge} {id n:Nat} {cs:List D} {tk:Tk} {ys:List Int} (ha:evalO L (.tmp a)=some (.ms id n)) (hcs:look L.boxes id=some cs) (hb:evalO L (.tmp b)=some (.sl tk (ys.map (.int .i64)))) (hne:ys≠[])
  (hk:S.kd T=some (.slice e)) (hi:S.tab e=some j) (hz:j.size=1) (hl:ys.length≤n∧ys.length≤cs.length) (hc:c<L.n) (h:LopsW S B ops l ({L with boxes:=setA L.boxes id (putCells cs 0 (ys.map (.int .i64)))}.put c (.int .i64 ys.length)) K) :
  LopsW S B ops (⟨some c,.call ⟨.builtin .copy,#[.tmp a,.tmp b],#[T,U]⟩,ty,pos,aft,none⟩::l) L K:=by
 intro G w0 w hs Q hQ
 refine wpList_step fun N hN=>?_
 rw[if_pos (guardY_sound (S:=S) (b:=true) rfl hs rfl)]
 have hr:=eval_sound hs ha
 have hr2:=eval_sound hs hb
 generalize hu:w0.eval (.tmp a)=u at hr
 generalize hv:w0.eval (.tmp b)=v at hr2
 cases hr with
 | @ms _ _ cap g hβ hcap hmx =>
 cases hr2 with
 | @sl _ _ A m c2 b2 o s hn hcc hmm ht hA hus hkk hst hrr =>
 obtain rfl:=hA.resolve_left (by simpa using hne)
 have hm:m=ys.length:=by simpa using hn
 subst hm
 obtain⟨w',h1,h2⟩:=copy_step (c:=c) (ty:=ty) (pos:=pos) (aft:=aft) (U:=U) hs hk hi hz hu hβ hcs hv ys (by simp only[Nat.min_def];rw[if_pos hl.1]) (by omega) (fun j m hj=>by
  have h0:(flat (ys.map (D.int .i64)))[j]?=some (.int .i64 m):=by rw[flat_ints,List.getElem?_map,hj];rfl
  obtain⟨k1,u,k2⟩:=hst j _ h0
  have k3:=hrr j _ u h0 k2
  cases k3
  rw[add_mk];exact k2)
 unfold Oper.wp
 rw[h1]
 exact hN _ _ (h G _ w' (h2.put hc .int) Q hQ)
theorem LopsW.copyM {a b c:Nat} {T U e ty:TypeId} {j:TyI} {pos:String} {aft:Array Edge} {id off n m:Nat} {ys:List Int} (ha:evalO L (.tmp a)=some (.vw id off n)) (hcs:look L.boxes id=some (ys.map (.int .i64))) (hb:evalO L (.tmp b)=some (.ms id m))
  (hk:S.kd T=some (.slice e)) (hi:S.tab e=some j) (hz:j.size=1) (hl:off+Nat.min m n≤ys.length) (hc:c<L.n) (h:LopsW S B ops l ({L with boxes:=setA L.boxes id (putCells (ys.map (.int .i64)) off ((ys.take (Nat.min m n)).map (.int .i64)))}.put c (.int .i64 (Nat.min m n:Nat))) K) :
  LopsW S B ops (⟨some c,.call ⟨.builtin .copy,#[.tmp a,.tmp b],#[T,U]⟩,ty,pos,aft,none⟩::l) L K:=by
 intro G w0 w hs Q hQ
 refine wpList_step fun N hN=>?_
 rw[if_pos (guardY_sound (S:=S) (b:=true) rfl hs rfl)]
 have hr:=eval_sound hs ha
 have hr2:=eval_sound hs hb
 generalize hu:w0.eval (.tmp a)=u at hr
 generalize hv:w0.eval (.tmp b)=v at hr2
 cases hr with
 | @vw _ _ _ cap g hβ hcap hmx =>
 cases hr2 with
 | @ms _ _ cap2 g2 hβ2 hcap2 hmx2 =>
 obtain rfl:g2=g:=Option.some.inj (hβ2.symm.trans hβ)
 obtain⟨g3,hβ3,⟨vs,e3,f1,f2,f3⟩,_,_⟩:=hs.W.boxes id _ hcs
 obtain rfl:g3=g2:=Option.some.inj (hβ3.symm.trans hβ)
 have hlen:(ys.take (Nat.min m n)).length=Nat.min m n:=by rw[List.length_take,Nat.min_eq_left];omega
 obtain⟨w',h1,h2⟩:=copy_step (c:=c) (ty:=ty) (pos:=pos) (aft:=aft) (U:=U) hs hk hi hz hu hβ hcs hv (ys.take (Nat.min m n)) hlen (by rw[hlen,List.length_map];exact hl) (fun j k hj=>by
  have hj2:ys[j]?=some k:=by
   rw[List.getElem?_take] at hj
   split at hj
   ·exact hj
   ·cases hj
  have hlt:j<vs.size:=by
   have:=(List.getElem?_eq_some_iff.1 hj2).1
   simp at f2;omega
  have hv0:vs[j]?=some vs[j]:=by simp[hlt]
  have:=f3 j (.int .i64 k) vs[j] (by rw[List.getElem?_map,hj2];rfl) hv0
  have hshape:=int_shape this
  rw[add_mk,Nat.zero_add]
  unfold World.cell?
  simp only[f1]
  rw[hv0,hshape]
  rfl)
 unfold Oper.wp
 rw[h1,hlen]
 exact hN _ _ (h G _ w' (by rw[hlen] at *;exact h2.put hc .int) Q hQ)
theorem LopsW.copy0 {a b c:Nat} {T U e ty:TypeId} {j:TyI} {pos:String} {aft:Array Edge} {id:Nat} {tk:Tk} {ys:List D} (ha:evalO L (.tmp a)=some (.ms id 0)) (hb:evalO L (.tmp b)=some (.sl tk ys))
  (hk:S.kd T=some (.slice e)) (hi:S.tab e=some j) (hz:j.size=1) (hc:c<L.n) (h:LopsW S B ops l (L.put c (.int .i64 0)) K) :
  LopsW S B ops (⟨some c,.call ⟨.builtin .copy,#[.tmp a,.tmp b],#[T,U]⟩,ty,pos,aft,none⟩::l) L K:=by
 intro G w0 w hs Q hQ
 refine wpList_step fun N hN=>?_
 rw[if_pos (guardY_sound (S:=S) (b:=true) rfl hs rfl)]
 have hr:=eval_sound hs ha
 have hr2:=eval_sound hs hb
 generalize hu:w0.eval (.tmp a)=u at hr
 generalize hv:w0.eval (.tmp b)=v at hr2
 have hkd:=kd_slice hk
 have hok:=S.ok e _ hi
 cases hr with
 | @ms _ _ cap g hβ hcap hmx =>
 cases hr2 with
 | @sl _ _ A m c2 b2 o s hn hcc hmm ht hA hus hkk hst hrr =>
 have hl0:∀(x:Addr),(loadCells x 0).run S.P w=.ok #[] w:=fun x=>by simpa using run_loadCells_list (P:=S.P) w x [] (by simp)
 have hcp:(Builtin.copy_ #[T,U] ty #[.slice (some ⟨g,0,none⟩) 0 cap,.slice A m c2]).run S.P w=.ok (goInt 0) w:=by
  cases A<;>simp[Builtin.copy_,run_underlying hkd,Builtin.lenOf,Builtin.firstCells,run_sizeOf hok,hz,storeCells,hl0]
 have hop:(execOp w0.eval ⟨some c,.call ⟨.builtin .copy,#[.tmp a,.tmp b],#[T,U]⟩,ty,pos,aft,none⟩).run S.P w=.ok (.value (.int .i64 0)) w:=by
  simp[execOp,resolve,invoke,builtin,hu,hv,hcp,goInt]
 unfold Oper.wp
 rw[hop]
 exact hN _ _ (h G _ w (hs.put hc .int) Q hQ)
end Go.Lg
/-
  Lg: append of made memory to an empty list without room: a new list of its own.
-/
namespace Go.Lg
open Go Go.RowKit
theorem appMs_sound {S:Setup} {B:Base} {L:LS} {G:Ghost} {a:Act} {w:World} (hs:Sim B L G a w) {tok:Nat} (hc:L.clean (fun k=>k==tok)=true) {t ty e:TypeId} {i:TyI} (hk:S.kd t=some (.slice e)) (hi:S.tab e=some i)
  (hz:i.size=1) {tk:Tk} {ys:List D} {v u:Value} (hx:Rel G w (.sl tk []) v) (htk:tk=.nil∨tk=.full) {id n:Nat} (hy:Rel G w (.ms id n) u) (hbx:look L.boxes id=some ys) (hn:n=ys.length) (h0:0<n)
  (hcell:∀y∈ys,y.cells=[y]) (hmem:∀y∈ys,y.memOk=true) (hb:n*i.bytes≤140737488355328) (h63:n≤140737488355328) :
  ∃v' G' w',(Builtin.append_ #[t,t] ty #[v,u]).run S.P w=.ok v' w'∧Sim B {L with toks:=tok::killed tk L.toks} G' a w'∧Rel G' w' (.sl (.own tok e 1) ys) v':=by
 have ht:=kd_slice hk
 obtain⟨inf,i1,i2,i3,z,i4,i5,_⟩:=(S.ok e i hi).info
 cases hy with
 | @ms _ _ c2 g hβ hcap hmx =>
 obtain⟨A,m,c,rfl⟩:∃A n c,v=.slice A n c:=by cases hx;exact⟨_,_,_,rfl⟩
 have hmc:m=0∧c=0:=by
  cases hx with
  | @sl _ _ _ _ _ b o s hn hcc hm ht hA hu hk hstt hrr =>
   have hm0:m=0:=by rw[hn];rfl
   rcases htk with rfl|rfl
   ·exact⟨ht.2.1,ht.2.2⟩
   ·have:m=c:=ht
    exact⟨hm0,by omega⟩
 obtain⟨rfl,rfl⟩:=hmc
 obtain⟨g',k1,⟨vs,e1,k2,k3,k4⟩,k5,k6⟩:=hs.W.boxes id ys hbx
 obtain rfl:g=g':=by rw[hβ] at k1;exact Option.some.inj k1
 have hfl:flat ys=ys:=by
  have:∀l:List D,(∀y∈l,y.cells=[y])→flat l=l:=fun l=>by
   induction l with
   | nil=>intro _;rfl
   | cons y r ih =>
    intro h
    show y.cells++flat r=y::r
    rw[h y List.mem_cons_self,ih fun q hq=>h q (List.mem_cons_of_mem _ hq)]
    rfl
  exact this ys hcell
 have hu1:∀y∈ys,y.cells.length=1:=fun y hy=>by rw[hcell y hy];rfl
 let news:=vs.toList.take n
 have hnl:news.length=n*inf.size:=by
  have:inf.size=1:=by rw[i2,hz]
  simp[news,this];omega
 have hnews:∀(j:Nat) u,news[j]?=some u→w.cell? ((⟨g,0,none⟩:Addr).add j)=some u:=fun j u hu=>by
  rw[add_mk,Nat.zero_add]
  have:vs[j]?=some u:=by
   simp only[news,List.getElem?_take] at hu
   split at hu
   ·simpa using hu
   ·cases hu
  simp[World.cell?,k2,this]
 have hnr:∀(j:Nat) d u,ys[j]?=some d→news[j]?=some u→Rel G w d u:=fun j d u hd hu=>by
  have:vs[j]?=some u:=by
   simp only[news,List.getElem?_take] at hu
   split at hu
   ·simpa using hu
   ·cases hu
  exact k4 j d u hd this
 have hzs:z.cells.size=inf.size:=by rw[i5,i2];simp[TyI.size]
 have hcapg:=grownCap_ge w (0+n) 0 e
 have hrun:(Builtin.append_ #[t,t] ty #[.slice A 0 0,.slice (some ⟨g,0,none⟩) n c2]).run S.P w =
   .ok (.slice (some ⟨w.heap.size,0,none⟩) (0+n) (grownCap w (0+n) 0 e)) (w.drew.alloc (.cells (([]:List Value).toArray++news.toArray++Builtin.zeroCells z.cells (grownCap w (0+n) 0 e-(0+n))) e)):=by
  cases A with
  | none=>simpa using run_append_nil (P:=S.P) w t ty e inf z ht i1 i4 ⟨g,0,none⟩ n c2 news hnl hnews h0 (by omega) (by rw[i3];omega)
  | some ad=>exact run_append_grow (P:=S.P) w t ty e inf z ht i1 i4 ad 0 0 [] (by simp) (by simp) ⟨g,0,none⟩ n c2 news hnl hnews (by omega) (by omega) (growslice_fits (by omega) (by rw[i3,Nat.zero_add];exact hb))
 obtain⟨G',q1,q2⟩:=grow_case (xs:=ys) (e:=e) (z:=1) hs hc tk (by decide) hu1 (by rw[hfl];exact hmem) (([]:List Value).toArray++news.toArray++Builtin.zeroCells z.cells (grownCap w (0+n) 0 e-(0+n))) (grownCap w (0+n) 0 e) (by rw[←hn];omega)
  (grownCap_le_maxLen w (0+n) 0 e (by simp[maxLen];omega)) (by
   have:inf.size=1:=by rw[i2,hz]
   simp only[Array.size_append,List.size_toArray,size_zeroCells,hzs,this,hnl,List.length_nil]
   omega) (fun j d u hd hu=>by
   rw[hfl] at hd
   have hlt:=(List.getElem?_eq_some_iff.1 hd).1
   have h1:inf.size=1:=by rw[i2,hz]
   simp only[List.append_toArray,List.nil_append] at hu
   rw[Array.getElem?_append_left (by simp[hnl,h1];omega)] at hu
   exact hnr j d u hd (by simpa using hu))
 rw[←hn] at q2
 rw[Nat.zero_add] at q1 q2 hrun
 exact⟨_,G',_,hrun,q1,q2⟩
theorem LopsW.appMs {S:Setup} {B:Base} {ops:Array Oper} {l:List Oper} {L:LS} {K:LS→Prop} {x y t:Nat} {T e ty:TypeId} {i:TyI} {pos:String} {aft:Array Edge} {id n:Nat} {tk:Tk} {ys:List D} (tok:Nat)
  (hx:evalO L (.tmp x)=some (.sl tk [])) (htk:tk=.nil∨tk=.full) (hy:evalO L (.tmp y)=some (.ms id n)) (hbx:look L.boxes id=some ys) (hn:n=ys.length) (h0:0<n) (hcell:∀y∈ys,y.cells=[y]) (hmem:∀y∈ys,y.memOk=true)
  (hk:S.kd T=some (.slice e)) (hi:S.tab e=some i) (hz:i.size=1) (hb:n*i.bytes≤140737488355328∧n≤140737488355328) (hc:L.clean (fun k=>k==tok)=true) (ht:t<L.n)
  (h:LopsW S B ops l ({L with toks:=tok::L.toks}.put t (.sl (.own tok e 1) ys)) K) :
  LopsW S B ops (⟨some t,.call ⟨.builtin .append,#[.tmp x,.tmp y],#[T,T]⟩,ty,pos,aft,none⟩::l) L K:=by
 intro G a w hs Q hQ
 refine wpList_step fun N hN=>?_
 rw[if_pos (guardY_sound (S:=S) (b:=true) rfl hs rfl)]
 obtain⟨v',G',w',h1,h2,h3⟩:=appMs_sound (ty:=ty) hs hc hk hi hz (eval_sound hs hx) htk (eval_sound hs hy) hbx hn h0 hcell hmem hb.1 hb.2
 unfold Oper.wp
 have hop:(execOp a.eval ⟨some t,.call ⟨.builtin .append,#[.tmp x,.tmp y],#[T,T]⟩,ty,pos,aft,none⟩).run S.P w=.ok (.value v') w':=by
  simp[execOp,resolve,invoke,builtin,h1]
 rw[hop]
 have hkl:killed tk L.toks=L.toks:=by rcases htk with rfl|rfl<;>rfl
 rw[hkl] at h2
 exact hN _ _ (h G' _ w' (h2.put ht h3) Q hQ)
theorem LopsW.nilMs {S:Setup} {B:Base} {ops:Array Oper} {l:List Oper} {L:LS} {K:LS→Prop} {x t:Nat} {T U e ty:TypeId} {pos:String} {aft:Array Edge} {id n:Nat}
  (hx:evalO L (.tmp x)=some (.ms id n)) (hk:S.kd T=some (.slice e)) (ht:t<L.n) (h:LopsW S B ops l (L.put t (.bool false)) K) :
  LopsW S B ops (⟨some t,.binOp .eql T (.tmp x) (.const (.slice none 0 0)) U,ty,pos,aft,none⟩::l) L K:=by
 intro G a w hs Q hQ
 refine wpList_step fun N hN=>?_
 rw[if_pos (guardY_sound (S:=S) (b:=true) rfl hs rfl)]
 have hr:=eval_sound hs hx
 generalize hu:a.eval (.tmp x)=u at hr
 cases hr with
 | @ms _ _ c g hβ hc hm =>
 have heql:=Lib.run_eql_slice_nil (P:=S.P) w T e (some ⟨g,0,none⟩) n c 0 0 (kd_slice hk)
 unfold Oper.wp
 have hop:(execOp a.eval ⟨some t,.binOp .eql T (.tmp x) (.const (.slice none 0 0)) U,ty,pos,aft,none⟩).run S.P w=.ok (.value (.bool false)) w:=by
  have he:a.eval (.const (.slice none 0 0))=.slice none 0 0:=rfl
  simp[execOp,hu,he,eqGuard_at_slice,heql]
 rw[hop]
 exact hN _ _ (h G _ _ (hs.put ht .bool) Q hQ)
theorem sw_ms0 {S:Setup} {B:Base} {R:LS→Prop} {kk:List VItem} {L:LS} (t:Nat) {id:Nat} (ht:look L.env t=some (.ms id 0)) (h:SW S B R kk {L with env:=setA L.env t (.sl .nn [])}):SW S B R kk L:=fun G a w hs=>by
 obtain⟨v,hv,hr⟩:=hs.env t _ ht
 refine h G a w (env_set hs hv ?_)
 cases hr with
 | @ms _ _ c g hβ hc hm=>exact .sl (b:=0) (o:=0) (s:=0) rfl hc hm (by intro h;cases h) (.inl rfl) (fun x hx=>by cases hx) (fun d hd=>by cases hd) (fun j d hd=>by simp[flat] at hd) (fun j d v hd=>by simp[flat] at hd)
end Go.Lg
