/-
  Lg: LgMapS, one behind the other.
-/
import Derived.Test.YtkfkdgginfpdnaaGreatDoorLgK21
import Derived.DeepKeys3
import Derived.WideKeyRuns
/-
  Lg: maps whose keys are a number and a text.
-/
namespace Go.Lg
open Go Go.RowKit
def sK (q:IntKind) (k:Int×ByteArray):Value:=.agg #[.int q k.1,.string k.2]
def sKD (q:IntKind) (k:Int×ByteArray):D:=.agg [.int q k.1,.str k.2]
def strE (q vk:IntKind) (ps:List ((Int×ByteArray)×Int)):List (Value×Value):=ps.map fun p=>(sK q p.1,.int vk p.2)
def findS (ps:List ((Int×ByteArray)×Int)) (k:Int×ByteArray):Option Int:=(ps.find? fun p=>decide (p.1=k)).map (·.2)
def KeyS (P:Program) (KT:TypeId) (q:IntKind):Prop:=P.keyTypeAt 2 KT=true∧∃f0 f1:Field,P.underlying KT=some (.struct #[f0,f1])∧((f0.name != "_")=true∧(f1.name != "_")=true)∧(f0.offset=0∧f1.offset=1)∧(P.cellsOf KT=2∧P.cellsOf f0.type=1∧P.cellsOf f1.type=1)∧P.underlying f0.type=some (.int q)∧P.underlying f1.type=some .string
def GoodK (q:IntKind) (k:Int×ByteArray):Prop:=(Lit.int q k.1).wf=true∧k.2.size≤maxLen
theorem KeyS.wide {P:Program} {KT:TypeId} {q:IntKind} (h:KeyS P KT q):(match P.underlying KT with|some (.array _ _)|some (.struct _)=>true|_=>false)=true:=by
 obtain⟨_,f0,f1,hu,_⟩:=h
 rw[hu]
theorem KeyS.formed {P:Program} {KT:TypeId} {q:IntKind} (h:KeyS P KT q) (k:Int×ByteArray):(sK q k).formed P KT=true:=by
 obtain⟨_,f0,f1,hu,_,_,⟨hc,_⟩,_⟩:=h
 simp[sK,Value.formed,hu,hc]
theorem KeyS.lits {P:Program} {KT:TypeId} {q:IntKind} (h:KeyS P KT q) {k:Int×ByteArray} (hk:GoodK q k):P.keyLits 2 KT [.int q k.1,.string k.2]=some [.int q k.1,.string k.2.data.toList]:=by
 obtain⟨_,f0,f1,hu,⟨n0,n1⟩,⟨o0,o1⟩,⟨hc,c0,c1⟩,u0,u1⟩:=h
 have e0:P.keyLits 1 f0.type [.int q k.1]=some [.int q k.1]:=by simp[Program.keyLits,u0,hk.1]
 have e1:P.keyLits 1 f1.type [.string k.2]=some [.string k.2.data.toList]:=by simp[Program.keyLits,u1,hk.2]
 have n0:f0.name ≠ "_" := by simpa using n0
 have n1:f1.name ≠ "_" := by simpa using n1
 rw[show (2:Nat)=1+1 from rfl]
 unfold Program.keyLits
 rw[hu]
 simp[hc,n0,n1,o0,o1,c0,c1,e0,e1]
theorem barr_inj:∀ {a b:ByteArray},a.data.toList=b.data.toList→a=b
 | ⟨⟨x⟩⟩,⟨⟨y⟩⟩,h=>by
  have h:x=y:=h
  rw[h]
theorem eq_sK {P:Program} {KT:TypeId} {q:IntKind} (h:KeyS P KT q) (w:World) {a b:Int×ByteArray} (ha:GoodK q a) (hb:GoodK q b):(Op.equal KT (sK q a) (sK q b)).run P w=.ok (decide (a=b)) w:=by
 obtain⟨r,h1,h2⟩:=run_equalIn_deep (P:=P) 9998 2 KT h.1 w 2 2 (sK q a) (sK q b) _ _ (h.formed a) (h.formed b) (h.lits ha) (h.lits hb)
 have e:(r=true)↔a=b:=by
  rw[h2]
  constructor
  ·intro h
   simp only[List.cons.injEq,Lit.int.injEq,Lit.string.injEq,and_true,true_and] at h
   exact Prod.ext h.1 (barr_inj h.2)
  ·rintro rfl;rfl
 have e2:r=decide (a=b):=by
  by_cases hab:a=b
  ·simp[hab,e.2 hab]
  ·have:r≠true:=fun h=>hab (e.1 h)
   simp[hab,this]
 rw[←e2]
 exact h1
theorem check_sK {P:Program} {KT:TypeId} {q:IntKind} (h:KeyS P KT q) (w:World) (em:Bool) {a:Int×ByteArray} (ha:GoodK q a):(Instr.checkKey em 10000 KT (sK q a)).run P w=.ok () w :=
 run_checkKey_deep em 9998 2 KT h.1 w 2 (sK q a) _ (h.formed a) (h.lits ha)
theorem find_sK {P:Program} {KT:TypeId} {q vk:IntKind} (h:KeyS P KT q) (w:World) {k:Int×ByteArray} (hk0:GoodK q k):∀(i:Nat) {L:List MapEntry} {ps:List ((Int×ByteArray)×Int)},(∀p∈ps,GoodK q p.1)→L.map (fun e=>(e.key,e.val))=strE q vk ps→∃r,(Instr.findAsking KT (sK q k) L i).run P w=.ok r w∧r.map (·.2)=(findS ps k).map (.int vk)
 | i,[],[],_,_=>⟨none,by simp[Instr.findAsking],rfl⟩
 | i,e::L,p::ps,hg,hl=>by
  simp only[strE,List.map_cons,List.cons.injEq,Prod.mk.injEq] at hl
  obtain⟨⟨h1,h2⟩,h3⟩:=hl
  have he:=eq_sK h w hk0 (hg p List.mem_cons_self)
  by_cases hk:p.1=k
  ·refine⟨some (i,e.val),?_,?_⟩
   ·rw[hk] at he h1
    simp[Instr.findAsking,h1,he]
   ·simp[findS,hk,h2]
  ·obtain⟨r,h4,h5⟩:=find_sK h w hk0 (i+1) (fun x hx=>hg x (List.mem_cons_of_mem _ hx)) h3
   refine⟨r,?_,?_⟩
   ·have:decide (k=p.1)=false:=by simpa using fun e=>hk e.symm
    rw[this] at he
    simp[Instr.findAsking,h1,he,h4]
   ·rw[h5]
    simp[findS,hk]
 | _,[],p::ps,_,h=>by simp[strE] at h
 | _,e::L,[],_,h=>by simp[strE] at h
theorem rel_sKD {G:Ghost} {w:World} {q:IntKind} {k:Int×ByteArray} {v:Value} (h:Rel G w (sKD q k) v):v=sK q k:=by
 cases h with
 | @agg cs vl hl hr =>
  match vl,hl with
  | [x,y],_ =>
   have h0:=hr 0 _ x rfl rfl
   have h1:=hr 1 _ y rfl rfl
   cases h0;cases h1
   rfl
theorem LopsW.mapGetS {S:Setup} {B:Base} {ops:Array Oper} {l:List Oper} {L:LS} {K:LS→Prop} {t:Nat} {T KT VT:TypeId} {q vk:IntKind} {xm xk:Operand} {ty:TypeId} {pos:String} {aft:Array Edge} {m n0:Nat} {ps:List ((Int×ByteArray)×Int)} {k:Int×ByteArray}
  (hT:S.P.underlying T=some (.map KT VT)) (hK:KeyS S.P KT q) (hz:∀w,(zeroValue VT).run S.P w=.ok (.int vk 0) w) (hm:evalO L xm=some (mpd m n0 (strE q vk ps))) (hk:evalO L xk=some (sKD q k)) (hgk:GoodK q k) (hg:∀p∈ps,GoodK q p.1) (ht:t<L.n)
  (h:LopsW S B ops l (L.put t (.tup [.int vk ((findS ps k).getD 0),.bool (findS ps k).isSome])) K):LopsW S B ops (⟨some t,.lookup T xm xk true,ty,pos,aft,none⟩::l) L K:=by
 intro G a w hs Q hQ
 refine wpList_step fun N hN=>?_
 rw[if_pos (guardY_sound (S:=S) (b:=true) rfl hs rfl)]
 obtain⟨⟨e1,e2⟩,ents,c,e3,e4⟩:=mpd_inv (eval_sound hs hm)
 have hkv:a.eval xk=sK q k:=rel_sKD (eval_sound hs hk)
 obtain⟨r,r1,r2⟩:=find_sK hK w hgk 0 hg e4
 rw[←run_findKey_eq w hK.wide] at r1
 unfold Oper.wp
 have hop:(execOp a.eval ⟨some t,.lookup T xm xk true,ty,pos,aft,none⟩).run S.P w=.ok (.value (.tuple #[.int vk ((findS ps k).getD 0),.bool (findS ps k).isSome])) w:=by
  have hg:(getObj m).run S.P w=.ok (.map ents c) w:=by simp[getObj,Sem.run,e3]
  cases r with
  | none =>
   have hf:findS ps k=none:=by cases hx:findS ps k with
    | none=>rfl
    | some x=>rw[hx] at r2;simp at r2
   simp[execOp,Instr.lookup,run_underlying hT,e1,hkv,hg,check_sK hK _ _ hgk,r1,hz,hf]
  | some x =>
   obtain⟨y,hy,hxy⟩:∃y,findS ps k=some y∧x.2=.int vk y:=by cases hx:findS ps k with
    | none=>rw[hx] at r2;simp at r2
    | some y=>rw[hx] at r2;exact⟨y,rfl,by simpa using r2⟩
   simp[execOp,Instr.lookup,run_underlying hT,e1,hkv,hg,check_sK hK _ _ hgk,r1,hxy,hy]
 rw[hop]
 refine hN _ _ (h _ _ _ (hs.putO (t:=some t) (fun t' ht'=>by obtain rfl:=Option.some.inj ht';exact ht) ?_) Q hQ)
 exact .tup (vl:=[.int vk ((findS ps k).getD 0),.bool (findS ps k).isSome]) rfl fun j d v h1 h2=>by
  match j with
  | 0=>cases h1;cases h2;exact .int
  | 1=>cases h1;cases h2;exact .bool
theorem LopsW.mapPutS {S:Setup} {B:Base} {ops:Array Oper} {l:List Oper} {L:LS} {K:LS→Prop} {T KT VT:TypeId} {q vk:IntKind} {xm xk xv:Operand} {ty:TypeId} {pos:String} {aft:Array Edge} {m:Nat} {ps:List ((Int×ByteArray)×Int)} {k:Int×ByteArray} {v:Int}
  (hT:S.P.underlying T=some (.map KT VT)) (hK:KeyS S.P KT q) (hm:evalO L xm=some (mpd m B.w.heap.size (strE q vk ps))) (hk:evalO L xk=some (sKD q k)) (hv:evalO L xv=some (.int vk v)) (hgk:GoodK q k) (hg:∀p∈ps,GoodK q p.1) (hnew:findS ps k=none)
  (env':List (Nat×D)) (bx':List (Nat×List D)) (henv:∀p∈env',∃d,look L.env p.1=some d∧MpK m B.w.heap.size (strE q vk ps) (strE q vk (ps++[(k,v)])) d p.2) (hbx:∀p∈bx',∃cs,look L.boxes p.1=some cs∧p.2.length=cs.length∧∀(j:Nat) d d',cs[j]?=some d→p.2[j]?=some d'→MpK m B.w.heap.size (strE q vk ps) (strE q vk (ps++[(k,v)])) d d')
  (h:LopsW S B ops l ⟨L.n,env',bx',[],L.toks,L.fix⟩ K):LopsW S B ops (⟨none,.mapUpdate T xm xk xv,ty,pos,aft,none⟩::l) L K:=by
 intro G a w hs Q hQ
 refine wpList_step fun N hN=>?_
 rw[if_pos (guardY_sound (S:=S) (b:=true) rfl hs rfl)]
 obtain⟨⟨e1,e2⟩,ents,c,e3,e4⟩:=mpd_inv (eval_sound hs hm)
 have hkv:a.eval xk=sK q k:=rel_sKD (eval_sound hs hk)
 have hvv:a.eval xv=.int vk v:=by
  have hv:=eval_sound hs hv
  generalize a.eval xv=u at hv
  cases hv;rfl
 obtain⟨r,r1,r2⟩:=find_sK hK w hgk 0 hg e4
 rw[←run_findKey_eq w hK.wide] at r1
 have hr:r=none:=by rw[hnew] at r2;cases r with
  | none=>rfl
  | some x=>simp at r2
 subst hr
 unfold Oper.wp
 have hop:(execOp a.eval ⟨none,.mapUpdate T xm xk xv,ty,pos,aft,none⟩).run S.P w=.ok .skip (w.putObj m (.map (ents.push {key:=sK q k,val:=.int vk v,born:=c}) (c+1))):=by
  have hg:(getObj m).run S.P w=.ok (.map ents c) w:=by simp[getObj,Sem.run,e3]
  have hp:∀o,(setObj m o).run S.P w=.ok () (w.putObj m o):=fun o=>by simp[setObj,Sem.run,e3,World.putObj]
  simp[execOp,Instr.mapUpdate,run_underlying hT,e1,hkv,hvv,hg,check_sK hK _ _ hgk,r1,hp]
 rw[hop]
 refine hN _ _ (h G _ _ (putMap_sim hs e3 e2 ?_ env' bx' henv hbx) Q hQ)
 simp only[Array.toList_push,List.map_append,e4,strE,List.map_cons,List.map_nil]
theorem LopsW.storeMp {S:Setup} {B:Base} {ops:Array Oper} {l:List Oper} {L:LS} {K:LS→Prop} {T:TypeId} {x v:Operand} {ty:TypeId} {pos:String} {aft:Array Edge} {id off m n0:Nat} {es:List (Value×Value)} {cs:List D} {i:TyI}
  (hx:evalO L x=some (.box id off)) (hv:evalO L v=some (mpd m n0 es)) (hcs:look L.boxes id=some cs) (hi:S.tab T=some i) (h1:i.size=1) (h2:off+1≤cs.length)
  (h:LopsW S B ops l {L with boxes:=setA L.boxes id (putC cs off [mpd m n0 es])} K):LopsW S B ops (⟨none,.store T x v,ty,pos,aft,none⟩::l) L K:=by
 intro G a w hs Q hQ
 refine wpList_step fun N hN=>?_
 rw[if_pos (guardY_sound (S:=S) (b:=true) rfl hs rfl)]
 have hv:=eval_sound hs hv
 have hm:a.eval v=.map (some m):=(mpd_inv hv).1.1
 obtain⟨g,w',k1,k2,k3⟩:=store_sim hs hcs (new:=[mpd m n0 es]) h2 (vl:=[.map (some m)]) rfl (fun j d u hd hu=>by
  match j with
  | 0=>cases hd;cases hu;rw[←hm];exact hv) (fun u hu=>by rw[List.mem_singleton.1 hu];rfl)
 have hx:=eval_sound hs hx
 generalize hu:a.eval x=u at hx
 cases hx with
 | @box _ _ g' hb =>
 rw[k1] at hb
 obtain rfl:=Option.some.inj hb
 have hsz:=run_sizeOf (S.ok T i hi) w
 have hr:(execOp a.eval ⟨none,.store T x v,ty,pos,aft,none⟩).run S.P w=.ok .skip w':=by
  have:=k2 S.P
  simp[execOp,Instr.storeAt,hu,hm,Instr.sureAddr,storeVar,hsz,h1,Value.cells,this]
 unfold Oper.wp
 rw[hr]
 refine hN _ _ (h G a w' ?_ Q hQ)
 rw[putC_eq h2]
 exact k3
end Go.Lg
