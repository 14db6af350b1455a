/-
  Lg: LgDraw4, LgRedo, LgDraw5, LgDrv, one behind the other.
-/
import Derived.Test.YtkfkdgginfpdnaaGreatDoorLgK4
import Derived.KernelRfl
/-
  Lg, part 41: a region that draws its order, in which new memory is made: variables, and lists that calls return as their own.
-/
namespace Go.Lg
open Go Go.RowKit

inductive Fact
 | box (cs:List D)
 | own (k:Nat) (e:TypeId) (z:Nat) (xs:List D)

section
variable {B:Base} {bx ro:List (Nat×List D)} {tk:List Nat} {G G':Ghost} {w w':World}
theorem Quiet.mono (hW:SimW B bx ro tk G w) (hq:Quiet G G' w w'):Mono G G' w w' :=
 ⟨fun b o v h1 h2=>by
  obtain⟨e1,e2,_⟩:=hq.heap b (cell_lt h2)
  exact⟨by rw[e2];exact h1,by rw[cell_of_heap e1];exact h2⟩,fun b hb=>(hq.heap b (hW.lablt b hb)).2.2,fun b es c hb=>(hq.heap b (heap_lt hb)).1.trans hb⟩
theorem Quiet.rel (hW:SimW B bx ro tk G w) (hq:Quiet G G' w w') {d:D} {v:Value} (hr:Rel G w d v):Rel G' w' d v :=
 hr.mono (hq.mono hW) (fun i _ g hg=>by rw[hq.beta];exact hg) (fun k _=>.inr ⟨by rw[hq.tau],fun g e z hk=>by
  obtain⟨_,_,⟨cur,hc,_⟩,_⟩:=hW.tau k g e z hk
  obtain⟨e1,e2,_⟩:=hq.heap g (heap_lt hc)
  exact⟨e2,shape_of_heap e1⟩⟩)
end

section
variable {S:Setup} {ops:Array Oper} {bx:Nat→Option (List D)} {n m:Nat} {md:Region.Mode}
end

section
variable {S:Setup} {ops:Array Oper} {L0 L:LS} {K:List (Nat×Fact)→LS→Prop} {F:List (Nat×Fact)} {o:Oper} {l:List Oper}
end

def toF (base:Nat):List (Nat×Fact)→LS→(LS→Prop)→Prop
 | [],L,N=>N L
 | (t,.box cs)::F,L,N=>(t<L.n∧base+t∉L.fix)∧(look F t).isNone=true∧toF base F (L.newBox t (base+t) cs (.box (base+t) 0)) N
 | (t,.own kk e z xs)::F,L,N=>(t<L.n∧(L.purge (fun k=>k==kk)).clean (fun k=>k==kk)=true)∧(look F t).isNone=true ∧
   toF base F {L.purge (fun k=>k==kk) with env:=setA (L.purge (fun k=>k==kk)).env t (.sl (.own (kk) e z) xs),toks:=kk::L.toks} N
theorem toF_nil (base:Nat) (L:LS) (N:LS→Prop):toF base [] L N=N L:=rfl
theorem toF_box (base t:Nat) (cs:List D) (F:List (Nat×Fact)) (L:LS) (N:LS→Prop):toF base ((t,.box cs)::F) L N=((t<L.n∧base+t∉L.fix)∧(look F t).isNone=true∧toF base F (L.newBox t (base+t) cs (.box (base+t) 0)) N):=rfl
theorem toF_own (base t kk : Nat) (e : TypeId) (z : Nat) (xs : List D) (F : List (Nat × Fact)) (L : LS) (N : LS → Prop) : toF base ((t, .own kk e z xs) :: F) L N = ((t < L.n ∧ (L.purge (fun k => k == kk)).clean (fun k => k == kk) = true) ∧ (look F t).isNone = true ∧
   toF base F {L.purge (fun k=>k==kk) with env:=setA (L.purge (fun k=>k==kk)).env t (.sl (.own (kk) e z) xs),toks:=kk::L.toks} N):=rfl
attribute [go_sem] toF_nil toF_box toF_own Option.isNone_none Option.isNone_some
end Go.Lg
/-
  Lg, part 42: a struct that is put together in a drawn part is put together once more behind it: so what has got a token bears it there too.
-/
namespace Go.Lg
open Go Go.RowKit

section
variable {P:Program} {ops:Array Oper} {Q:Exit→Act→World→Prop}
def redo1 (S:Setup) (o:Oper) (L:LS) (N:LS→Prop):Prop:=match o.dst,o.op,o.guard with
 | some d,.build t ps,none=>someK (zipO (evalO L) ps.toList) fun q=>buildY S t q fun d'=>d<L.n∧N (L.put d d')
 | _,_,_=>False
def redoL (S:Setup):List Oper→LS→(LS→Prop)→Prop
 | [],L,N=>N L
 | o::l,L,N=>redo1 S o L fun L'=>redoL S l L' N
theorem redoL_nil (S:Setup) (L:LS) (N:LS→Prop):redoL S [] L N=N L:=rfl
theorem redoL_build (S:Setup) (d:Nat) (t:TypeId) (ps:Array (Nat×Operand)) (ty:TypeId) (pos:String) (aft:Array Edge) (l:List Oper) (L:LS) (N:LS→Prop):redoL S (⟨some d,.build t ps,ty,pos,aft,none⟩::l) L N=someK (zipO (evalO L) ps.toList) fun q=>buildY S t q fun d'=>d<L.n∧redoL S l (L.put d d') N:=by
 simp only[redoL,redo1]
end

attribute [go_sem] redoL_nil redoL_build List.filterMap_cons List.filterMap_nil
end Go.Lg
/-
  Lg, part 43: a region that draws its order, with one operation in the midst that waits for all ahead of it and for which all behind it wait: it may be of any kind.
-/
namespace Go.Lg
open Go Go.RowKit

def first(n m:Nat):Array Bool:=((List.range n).map fun j=>decide (j<m)).toArray
theorem Oper.wp_congrQ {P:Program} {o:Oper} {a:Act} {w:World} {K:Act→World→Prop} {Q Q':Exit→Act→World→Prop} (h:∀e a w,e≠.normal→Q e a w→Q' e a w) (hh:o.wp P a w K Q):o.wp P a w K Q':=by
 have hl:LetsOut Q→LetsOut Q':=fun⟨a,w,hq⟩=>⟨a,w,h _ a w (by simp) hq⟩
 unfold Oper.wp at *
 generalize (execOp a.eval o).run P w=r at hh ⊢
 cases r with
 | ok x w' =>
  cases x with
  | enter f args =>
   refine Calls.mono hh fun e w'' he=>?_
   cases e with
   | returned v=>exact he
   | panicked c=>exact h _ _ _ (by simp) he
   | outgrown=>exact hl he
  | _=>exact hh
 | halt x w' =>
  cases x<;>first|exact h _ _ _ (by simp) hh|exact hh

end Go.Lg
/-
  Lg: the driver's rules with what is reckoned behind them ('the goal is this one').
-/
namespace Go.Lg
open Go Go.RowKit
theorem tTT:True:=trivial
section
variable {S:Setup} {base:Nat} {B:Base} {ops:Array Oper} {N:LS→Prop} {K:List Oper→LS→Prop} {l:List Oper} {L L':LS} {p q:Prop}
theorem runL_g (h:q) (e:runL S base ops K l L=q:=by
 simp (disch:=(refine Om.mk ?_;omega)) only[go_sem]
 rfl):runL S base ops K l L:=e ▸ h
theorem runQ_g (h:q) (e:runQ S ops K l L=q:=by
 simp (disch:=(refine Om.mk ?_;omega)) only[go_sem]
 rfl):runQ S ops K l L:=e ▸ h
theorem and_o {a:Prop} (h:q) (e:a:=by first|omega|(simp only[lens];omega)):a∧q:=⟨e,h⟩
theorem cvA (h:L.covers L':=by
 refine covers_mk0 rfl rfl ?_ ?_ ?_ ?_<;>simp (disch:=(refine Om.mk ?_;omega)) only[go_sem]<;>(try omega)):L.covers L':=h
theorem cvB (h:L.covers L':=by
 refine covers_mk0 rfl rfl ?_ ?_ ?_ ?_<;>simp (disch:=(refine Om.mk ?_;omega)) only[go_sem]<;>(try omega)
 all_goals first|exact⟨rfl,rfl⟩|exact⟨rfl,rfl,rfl⟩|exact⟨rfl,by omega⟩|rfl):L.covers L':=h
section
variable {R:LS→Prop} {k:List VItem}
class Nrm (k:List VItem) (k':outParam (List VItem)):Prop where
 sw:∀ {S:Setup} {B:Base} {R:LS→Prop} {L:LS},SW S B R k' L→SW S B R k L
instance {x y:Code}:Nrm (.code (.seq x y)::k) (.code x::.code y::k):=⟨sw_seq⟩
instance {id:Nat} {c:Code}:Nrm (.code (.block id c)::k) (.code c::.inBlock id::k):=⟨sw_block⟩
instance:Nrm (.code .skip::k) k:=⟨sw_skip⟩
instance {id:Nat}:Nrm (.inBlock id::k) k:=⟨sw_inBlock⟩
theorem sw_n {k':List VItem} [Nrm k k'] (h:SW S B R k' L):SW S B R k L:=Nrm.sw h
theorem sw_retg (h:q) (e:R L=q:=by
 first
  | (simp (disch:=(refine Om.mk ?_;omega)) only[go_sem];rfl)
  | rfl):SW S B R (.code .ret::k) L:=sw_ret (e ▸ h)
theorem sw_retg0 {rs:List ResultVar} {d:D} {bx':List (Nat×List D)} (h:q) (e:Ret0 S rs d bx' L=q:=by
 first
  | (simp (disch:=(refine Om.mk ?_;omega)) only[go_sem];rfl)
  | rfl):SW S B (Ret S rs d bx') (.code .ret::k) L:=sw_ret (ret0 (e ▸ h))
theorem sw_condg {c:Operand} {x y:Code} {b:Bool} (hc:evalO L c=some (.bool b)) (h1:p→SW S B R (.code x::k) L) (h0:q→SW S B R (.code y::k) L) (e1:(b=true)=p:=by
 first
  | (simp (disch:=(refine Om.mk ?_;omega)) only[go_sem];rfl)
  | rfl) (e0:(b=false)=q:=by
 first
  | (simp (disch:=(refine Om.mk ?_;omega)) only[go_sem];rfl)
  | rfl):SW S B R (.code (.cond c x y)::k) L:=sw_cond hc (fun h=>h1 (e1 ▸ h)) fun h=>h0 (e0 ▸ h)
end
theorem runG_fk {o:Oper} {g:Option Bool} {r:Nat×Bool} {t:Nat} {b:Bool} (h1:p→runL S base ops K (o::l) (L.put t (.bool true))) (h0:q→runL S base ops K (o::l) (L.put t (.bool false))) (hp:o.guard=some r:=by exact rfl) (hj:(ops[r.1]?).bind (·.dst)=some t:=by exact rfl) (ht:L.get t=some (.bool b):=by exact rfl) (hc:isVCall o.op=false:=by exact rfl) (hg:g=guardT r.2 (L.get t):=by exact rfl) (e1:(b=true)=p:=by
 first
  | (simp (disch:=(refine Om.mk ?_;omega)) only[go_sem];rfl)
  | rfl) (e0:(b=false)=q:=by
 first
  | (simp (disch:=(refine Om.mk ?_;omega)) only[go_sem];rfl)
  | rfl):runG S base ops K l L o g:=runG_fork hp hj ht hc hg (fun h=>h1 (e1 ▸ h)) fun h=>h0 (e0 ▸ h)
theorem runQG_fk {o:Oper} {g:Option Bool} {r:Nat×Bool} {t:Nat} {b:Bool} (h1:p→runQ S ops K (o::l) (L.put t (.bool true))) (h0:q→runQ S ops K (o::l) (L.put t (.bool false))) (hp:o.guard=some r:=by exact rfl) (hj:(ops[r.1]?).bind (·.dst)=some t:=by exact rfl) (ht:L.get t=some (.bool b):=by exact rfl) (hc:isQCall o.op=false:=by exact rfl) (hg:g=guardT r.2 (L.get t):=by exact rfl) (e1:(b=true)=p:=by
 first
  | (simp (disch:=(refine Om.mk ?_;omega)) only[go_sem];rfl)
  | rfl) (e0:(b=false)=q:=by
 first
  | (simp (disch:=(refine Om.mk ?_;omega)) only[go_sem];rfl)
  | rfl):runQG S ops K l L o g:=runQG_fork hp hj ht hc hg (fun h=>h1 (e1 ▸ h)) fun h=>h0 (e0 ▸ h)
theorem KOk.n0 (hK:KOk S base B ops N K) (h:q) (e:N L=q:=by
 simp only[go_sem]
 rfl):K [] L:=hK.nil (e ▸ h)
theorem QOk.n0 (hK:QOk S ops N K) (h:q) (e:N L=q:=by
 simp only[go_sem]
 rfl):K [] L:=hK.nil (e ▸ h)
variable {f:Operand} {args:Array Operand} {tys:Array TypeId} {ty:TypeId} {pos:String} {aft:Array Edge} {g:Option (Nat×Bool)} {fid:Nat} {cap ds:List D} {d:D} {dst:Option Nat}
theorem KOk.c1 (hK:KOk S base B ops N K) (hg:guardY ops L g=some true) (hf:evalO L f=some (.fn fid cap)) (hds:mapO (evalO L) args.toList=some ds) (fc:FC S fid [] [] [] (ds++cap) d [] []) (h:runL S base ops K l (L.putO dst d)) (h1:d.ids=[]:=by exact rfl) (h2:d.tks=[]:=by exact rfl) (h3:dstB dst L.n=true:=by exact rfl):K (⟨dst,.call ⟨.value f,args,tys⟩,ty,pos,aft,g⟩::l) L:=hK.c0 hg hf hds fc h1 h2 h3 h
theorem QOk.c1 (hK:QOk S ops N K) (hg:guardY ops L g=some true) (hf:evalO L f=some (.fn fid cap)) (hds:mapO (evalO L) args.toList=some ds) (fc:FC S fid [] [] [] (ds++cap) d [] []) (h:runQ S ops K l (L.putO dst d)) (h1:d.ids=[]:=by exact rfl) (h2:d.tks=[]:=by exact rfl) (h3:dstB dst L.n=true:=by exact rfl):K (⟨dst,.call ⟨.value f,args,tys⟩,ty,pos,aft,g⟩::l) L:=hK.c0 hg hf hds fc h1 h2 h3 h
theorem KOk.cR (hK:KOk S base B ops N K) (hg:guardY ops L g=some true) (hf:evalO L f=some (.fn fid cap)) (hds:mapO (evalO L) args.toList=some ds) {ro:List (Nat×List D)} (fc:FC S fid ro [] [] (ds++cap) d [] []) (h:runL S base ops K l (L.putO dst d)) (h0:∀p∈ro,L.getBox p.1=some p.2:=by simp[LS.getBox,Lg.look]) (h1:d.ids=[]:=by exact rfl) (h2:d.tks=[]:=by exact rfl) (h3:dstOk dst L:=by simp only[dstOk,Nat.reduceLT]):K (⟨dst,.call ⟨.value f,args,tys⟩,ty,pos,aft,g⟩::l) L:=hK.call hg hf hds fc ⟨h0,h1,h2,h3⟩ h
theorem QOk.cR (hK:QOk S ops N K) (hg:guardY ops L g=some true) (hf:evalO L f=some (.fn fid cap)) (hds:mapO (evalO L) args.toList=some ds) {ro:List (Nat×List D)} (fc:FC S fid ro [] [] (ds++cap) d [] []) (h:runQ S ops K l (L.putO dst d)) (h0:∀p∈ro,L.getBox p.1=some p.2:=by simp[LS.getBox,Lg.look]) (h1:d.ids=[]:=by exact rfl) (h2:d.tks=[]:=by exact rfl) (h3:dstOk dst L:=by simp only[dstOk,Nat.reduceLT]):K (⟨dst,.call ⟨.value f,args,tys⟩,ty,pos,aft,g⟩::l) L:=hK.call hg hf hds fc ⟨h0,h1,h2,h3⟩ h
theorem KOk.cB (hK:KOk S base B ops N K) {t:Nat} (hg:guardY ops L g=some true) (hf:evalO L f=some (.fn fid cap)) (hds:mapO (evalO L) args.toList=some ds) {ro cx cx':List (Nat×List D)} {tk0 tk':List Nat} (fc:FC S fid ro cx tk0 (ds++cap) d cx' tk') (h:q) (s1:t<L.n:=by simp only[Nat.reduceLT])
  (s2:∀p∈ro,L.getBox p.1=some p.2∧p.1∉cx.map (·.1):=by first|(simp;all_goals fail)|(simp[LS.getBox,Lg.look];all_goals fail)) (s3:∀p∈cx,look L.boxes p.1=some p.2:=by(simp[Lg.look];all_goals fail)) (s4:∀k∈tk0,k∈L.toks:=by(simp;all_goals fail)) (s5:∀p∈cx',p.1∈cx.map (·.1):=by(simp;all_goals fail))
  (s6:∀i∈d.ids,i∈cx.map (·.1):=by(simp[D.ids,D.idsL];all_goals fail)) (s7:∀p∈cx',∀i∈D.idsL p.2,i∈cx.map (·.1):=by(simp[D.ids,D.idsL];all_goals fail)) (s8:∀k∈d.tks,k∈tk':=by(simp[D.tks,D.tksL];all_goals fail)) (s9:∀p∈cx',∀k∈D.tksL p.2,k∈tk':=by(simp[D.tks,D.tksL];all_goals fail)) (s10:∀k∈tk',k<1000:=by(simp;all_goals fail))
  (s11:L.clean (inTok (1000*(t+1)))=true:=by exact rfl) (e:runL S base ops K l ((L.after (1000*(t+1)) cx tk0 cx' tk').put t (d.shT (1000*(t+1))))=q:=by
 simp (disch:=(refine Om.mk ?_;omega)) only[go_sem]
 rfl):K (⟨some t,.call ⟨.value f,args,tys⟩,ty,pos,aft,g⟩::l) L:=hK.callB hg hf hds fc ⟨⟨s1,s2,s3,s4,s5⟩,⟨s6,s7,s8,s9,s10⟩,s11⟩ (e ▸ h)
theorem KOk.cT (hK:KOk S base B ops N K) {t:Nat} (hg:guardY ops L g=some true) (hf:evalO L f=some (.fn fid cap)) (hds:mapO (evalO L) args.toList=some ds) {ro:List (Nat×List D)} {ys:List Int} {e0:TypeId} {z0:Nat} (fc:FC S fid ro [] [] (ds++cap) (.sl (.own 0 e0 z0) (ys.map (.int .i64))) [] [0]) (h:q) (s1:t<L.n:=by simp only[Nat.reduceLT]) (s2:base+t∉L.fix:=by simp) (s3:∀p∈ro,L.getBox p.1=some p.2:=by simp[Lg.look]) (s4:ys≠[]:=by assumption)
  (e:runL S base ops K l ((L.thawed (base+t) (ys.map (.int .i64))).put t (.ms (base+t) ys.length))=q:=by
 simp (disch:=(refine Om.mk ?_;omega)) only[go_sem]
 rfl):K (⟨some t,.call ⟨.value f,args,tys⟩,ty,pos,aft,g⟩::l) L:=hK.callT hg hf hds fc ⟨⟨s1,s2,s3⟩,s4⟩ (e ▸ h)
theorem KOk.cM (hK:KOk S base B ops N K) {t:Nat} (hg:guardY ops L g=some true) (hf:evalO L f=some (.fn fid cap)) (hds:mapO (evalO L) args.toList=some ds) {ro:List (Nat×List D)} {cs0:List D} {j0 n0:Nat} (fc:FC S fid ro [] [] (ds++cap) (.ms j0 n0) [(j0,cs0)] []) (h:q) (s1:t<L.n:=by simp only[Nat.reduceLT]) (s2:base+t∉L.fix:=by simp) (s3:∀p∈ro,L.getBox p.1=some p.2:=by simp[Lg.look]) (s4:∀d∈cs0,d.memOk=true:=by first|exact memOk_ints _|simp)
  (e:runL S base ops K l ((L.thawed (base+t) cs0).put t (.ms (base+t) n0))=q:=by
 simp (disch:=(refine Om.mk ?_;omega)) only[go_sem]
 rfl):K (⟨some t,.call ⟨.value f,args,tys⟩,ty,pos,aft,g⟩::l) L:=hK.callM hg hf hds fc ⟨⟨s1,s2,s3⟩,s4⟩ (e ▸ h)
end
theorem sw_bndg {S:Setup} {B:Base} {R:LS→Prop} {k:List VItem} {L:LS} (t:Nat) {d:D} {p:Prop} (hk:p→SW S B R k L) (h:look L.env t=some d:=by exact rfl) (e:d.bnd=p:=by
 simp only[D.bnd,List.length_map]
 rfl):SW S B R k L:=sw_bnd t h fun hd=>hk (e ▸ hd)
theorem sw_bnd_aggg {S:Setup} {B:Base} {R:LS→Prop} {k:List VItem} {L:LS} (t j:Nat) {cs:List D} {d:D} {p:Prop} (hk:p→SW S B R k L) (h:look L.env t=some (.agg cs):=by exact rfl) (hj:cs[j]?=some d:=by exact rfl) (e:d.bnd=p:=by
 simp only[D.bnd,List.length_map]
 rfl):SW S B R k L:=sw_bnd_agg t j h hj fun hd=>hk (e ▸ hd)
theorem fcb {S:Setup} {f:FuncId} {fn:Func} {c:Code} {ro bx:List (Nat×List D)} {tk:List Nat} {args:List D} {d:D} {bx':List (Nat×List D)} {L0:LS} (hf:S.P.funcs[f]?=some fn) (h:∀B:Base,SW S B (Ret S fn.results.toList d bx') [.code c] L0) (hb:fn.body=some c:=by exact rfl) (hname:(fn.name == "runtime.NumGoroutine")=false:=by kernel_rfl) (hn:Nat.ble args.length fn.ntmps=true:=by kernel_rfl) (e:(⟨fn.ntmps,enumD 0 args,bx,ro,tk,bx.map (·.1)⟩:LS)=L0:=by
 simp only[go_sem]
 rfl):FC S f ro bx tk args d bx' []:=fc_body hf hb hname (Nat.le_of_ble_eq_true hn) (by rw[e];exact h)
theorem fcb1 {S:Setup} {f:FuncId} {fn:Func} {c:Code} {ro bx:List (Nat×List D)} {tk:List Nat} {args:List D} {d:D} {bx':List (Nat×List D)} {L0:LS} (hf:S.P.funcs[f]?=some fn) (h:∀B:Base,SW S B (Ret1 S fn.results.toList d bx') [.code c] L0) (hb:fn.body=some c:=by exact rfl) (hname:(fn.name == "runtime.NumGoroutine")=false:=by kernel_rfl) (hn:Nat.ble args.length fn.ntmps=true:=by kernel_rfl) (e:(⟨fn.ntmps,enumD 0 args,bx,ro,tk,bx.map (·.1)⟩:LS)=L0:=by
 simp only[go_sem]
 rfl):FC S f ro bx tk args d bx' [0]:=fc_body1 hf hb hname (Nat.le_of_ble_eq_true hn) (by rw[e];exact h)
theorem fcbN {S:Setup} {f:FuncId} {fn:Func} {c:Code} {ro bx:List (Nat×List D)} {tk:List Nat} {args:List D} {d:D} {bx':List (Nat×List D)} {tk':List Nat} {L0:LS} (hf:S.P.funcs[f]?=some fn) (htk:tk'=List.range tk'.length) (h:∀B:Base,SW S B (RetN S fn.results.toList d bx' tk'.length) [.code c] L0) (hb:fn.body=some c:=by exact rfl) (hname:(fn.name == "runtime.NumGoroutine")=false:=by kernel_rfl) (hn:Nat.ble args.length fn.ntmps=true:=by kernel_rfl) (e:(⟨fn.ntmps,enumD 0 args,bx,ro,tk,bx.map (·.1)⟩:LS)=L0:=by
 simp only[go_sem]
 rfl):FC S f ro bx tk args d bx' tk':=fc_bodyN hf hb hname (Nat.le_of_ble_eq_true hn) htk (by rw[e];exact h)
end Go.Lg
