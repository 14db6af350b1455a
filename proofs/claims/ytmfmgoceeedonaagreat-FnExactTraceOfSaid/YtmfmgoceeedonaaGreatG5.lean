/-
  U11, U1x, U14, U15, U16, U20, P20, P21, P22, one behind the other.
-/
import Derived.Test.YtmfmgoceeedonaaGreatG4
import Derived.Test.YtmfmgoceeedonaaGreatG1
import Derived.Test.YtmfmgoceeedonaaGreatG3
namespace Go.Proofs.YtmfmgoceeedonaaGreat
open Go Go.Lg
set_option linter.unusedSimpArgs false
set_option linter.unusedVariables false
set_option maxHeartbeats 4000000
section
attribute [local irreducible] SW bA bC dM bZ FC dX
theorem aJv{B:Base}{R:LS->Prop}{k:List VItem}{L:LS}(rid t s:Nat)(tk:Tk){id n:Nat}{cs:List D}(xs:List D){ops:Array Oper}{dr:Bool}(ht:Lg.look L.env t=some (.ms id n))(hb:Lg.look L.boxes id=some cs)(hx:cs=flat xs)(hn:n=xs.length)
  (hu:∀x∈xs,x.cells.length=s) (hk:∀d∈cs,d.memOk=true) (htk:tk=.any∨tk=.nn) (hh:SW S B R (.code (.region rid ops dr)::k) {L with env:=eU L.env t (.sl tk xs),boxes:=dG id L.boxes}):SW S B R (.code (.region rid ops dr)::k) L :=
 l6 t s tk xs ht hb hx hn hu hk htk hh
def awF(n:Int):Int:=if n<0 then n-24 else n
def oZ(t:List Int):List Int:=t.map awF
def x7(f:Int->Int)(t:List Int)(i:Nat):List Int:=(t.take i).map f++t.drop i
theorem aLI(f:Int->Int)(t:List Int)(i:Nat):(x7 f t i).length=t.length:=by unfold x7;simp;omega
theorem aYp(f:Int->Int)(t:List Int):x7 f t 0=t:=rfl
theorem aK4(f:Int->Int)(t:List Int){i:Nat}(h:i<t.length):(x7 f t i).getD i default=t.getD i default:=by
 unfold x7;simp only[zD];rw[zM (by rw[zC,List.length_take];omega),zC,List.length_take,List.getElem?_drop,show min i t.length=i by omega,Nat.sub_self,Nat.add_zero]
theorem aHj(f:Int->Int)(t:List Int){i:Nat}(h:i<t.length):x7 f t (i+1)=(x7 f t i).set i (f (t.getD i default)):=by
 unfold x7;rw[List.take_succ_eq_append_getElem h,List.map_append,List.drop_eq_getElem_cons h,List.set_append,if_neg (by rw[zC,List.length_take];omega),zC,List.length_take,show min i t.length=i by omega,Nat.sub_self,List.set_cons_zero,List.append_assoc];simp[List.getD,h]
theorem aRY(f:Int->Int)(t:List Int){i:Nat}(h:i<t.length)(hn:f (t.getD i default)=t.getD i default):x7 f t (i+1)=x7 f t i:=by
 rw[aHj f t h,hn,←aK4 f t h];have hl:i<(x7 f t i).length:=by rw[aLI];exact h
 rw[zD,zB hl,Option.getD_some,List.set_getElem_self]
theorem aSX(f:Int->Int)(t:List Int):x7 f t t.length=t.map f:=by unfold x7;simp
theorem aHS(tk:Tk)(xs:List Int)(hl:xs.length≤17592186044416):FC S 62 [] [] [] [.sl tk (xs.map (.int .i64))] (.sl (.own 0 2 1) (xs.map (.int .i64))) [] [0]:=by
 refine FC.args (args':=[.sl .any (xs.map (.int .i64))]) ?_ (by simp only[go_sem]);refine aQz Tryz.func62 λB=>?_;refine bM 0 λhb0=>?_;refine aFw 0 rfl (λhx=>?_) ?_<;>simp only[go_sem]
 ·have hx:xs=[]:=by simpa using hx
  subst hx;repeat' first|exact h.elim|(refine eF 2 5000 2 1 rfl (.inl rfl) rfl ?_;simp only[go_sem])|apply aG|refine aE 0 aNo λK hK=>?_|refine aB ?_|refine gL ?_|(refine hK.n0 ?_;clear hK K)|refine aA rfl (λh=>?_) λh=>?_|apply tTT
  exact n7 rfl (by simp)
 ·repeat' first|exact h.elim|apply aG|refine aE 0 aNo λK hK=>?_|refine aB ?_|refine gL ?_|(refine hK.n0 ?_;clear hK K)|refine aA rfl (λh=>?_) λh=>?_|with_reducible refine aH ?_|apply tTT
  exact n7 rfl (by simp)
def aKa:List (Nat×List Nat):=[(0,[0]),(1,[3]),(2,[3,8,9,10]),(3,[3,8,9,10,11]),(4,[3,4,5,8,9,10]),(5,[3,4,5,8,9,10,16]),(6,[3,8,9,10]),(7,[3,8,9,10]),(8,[2])]
attribute [go_sem] aKa Tryz.results101 Tryz.ntmps101
theorem aXH(t:List Int)(h1:1≤t.length/\t.length≤1000)(ht:∀x∈t,-24≤x):FC S 101 [] [] [] [.sl .any (t.map (.int .i64))] (.sl .any ((oZ t).map (.int .i64))) [] []:=by
 have hne:t≠[]:=by rintro rfl;simp at h1
 refine fcb Tryz.func101 λB=>?_;repeat' first|apply aG|refine aE 0 aKa λK hK=>?_|refine aB ?_|(refine hK.n0 ?_;clear hK K)|refine hK.cT rfl rfl rfl (aHS .any t (by omega)) ?_|apply tTT
 refine bG (ι:=Nat) (λi=>[(10,.int .i64 i)]) (λi=>[(7,(x7 awF t i).map (.int .i64))]) (λ_=>[]) (λi=>i≤t.length) (λi=>t.length-i) 0 (by rw[aYp];(refine aD rfl rfl ?_ ?_ ?_ ?_<;>simp(disch:=apply aR;omega)only[go_sem]<;>(try omega));all_goals first|rfl|exact⟨rfl,rfl⟩|trace_state) (by omega) (λi hi=>?_);simp only[go_sem];have hpl:=aLI awF t i;have hpg:=@aK4 awF t i;have hpn:=@aHj awF t i;have hps:=@aRY awF t i;by_cases hil:i<t.length
 ·have hpg:=hpg hil;have hx:=ht _ (aX t i hil);by_cases hv:t.getD i default<0
  ·have hf:awF (t.getD i default)=t.getD i default-24:=if_pos hv;repeat' first|exact h.elim|(exfalso;omega)|apply aG|refine aE 0 aKa λK hK=>?_|refine aB ?_|(refine hK.n0 ?_;clear hK K)|refine aA rfl (λh=>?_) λh=>?_|apply aF|with_reducible refine aH ?_|apply tTT
   all_goals exact⟨i+1,(by rw[hpn hil,hf,←hpg];(refine aD rfl rfl ?_ ?_ ?_ ?_<;>simp(disch:=apply aR;omega)only[go_sem]<;>(try omega));all_goals first|rfl|exact⟨rfl,by omega⟩|omega|trace_state),by omega,by omega⟩
  ·have hf:awF (t.getD i default)=t.getD i default:=if_neg hv;repeat' first|exact h.elim|(exfalso;omega)|apply aG|refine aE 0 aKa λK hK=>?_|refine aB ?_|(refine hK.n0 ?_;clear hK K)|refine aA rfl (λh=>?_) λh=>?_|apply aF|with_reducible refine aH ?_|apply tTT
   all_goals exact⟨i+1,(by rw[hps hil hf];(refine aD rfl rfl ?_ ?_ ?_ ?_<;>simp(disch:=apply aR;omega)only[go_sem]<;>(try omega));all_goals first|rfl|exact⟨rfl,by omega⟩|omega|trace_state),by omega,by omega⟩
 ·repeat' first|exact h.elim|(exfalso;omega)|(refine aJv 8 3 1 .any ((x7 awF t i).map (.int .i64)) rfl rfl (dA _).symm (by rw[zC,hpl]) (fI λ_=>rfl) (fJ _) (.inl rfl) ?_;simp only[go_sem])|apply aG|refine aE 0 aKa λK hK=>?_|refine aB ?_|refine aC ?_|(refine hK.n0 ?_;clear hK K)|refine aA rfl (λh=>?_) λh=>?_|refine aJ rfl ?_|apply tTT
  all_goals (rw[show i=t.length by omega,aSX];rfl)
end
section
theorem aXC{rs t:List Int}(h:aT rs t):bL t=t:=by
 unfold bL;conv=>rhs;rw[←List.map_id t]
 exact List.map_congr_left λx hx=>by have:=h.ge x hx;unfold phi;rw[if_neg (by omega)];rfl
theorem XT.of{rs t:List Int}(h:aT rs t):XT rs t:=⟨by rw[aXC h];exact h,λx hx=>by have:=h.ge x hx;omega⟩
theorem aY4{n:Int}(h:-24≤n):phi (awF n)=n:=by unfold phi awF;split<;>split<;>omega
theorem aRD{rs t:List Int}(h:aT rs t):bL (oZ t)=t:=by
 unfold bL oZ;rw[List.map_map];conv=>rhs;rw[←List.map_id t]
 exact List.map_congr_left λx hx=>aY4 (h.ge x hx)
theorem XT.away{rs t:List Int}(h:aT rs t):XT rs (oZ t):=⟨by rw[aRD h];exact h,λx hx=>by
 obtain⟨y,hy,rfl⟩:=zJ.1 hx;have:=h.ge y hy;unfold awF;split<;>omega⟩
def b0:Bds:=List.replicate 48 []
theorem aYF(i:Nat):b0.getD i default=[]:=by
 unfold b0;rw[zD,List.getElem?_replicate];split<;>rfl
theorem aLE(rs:List Int):BOK rs b0:=⟨by simp[b0],λx hx=>.inl (List.eq_of_mem_replicate hx)⟩
def ap(σ:Int->List Int)(t:List Int):List Int:=t.flatMap λx=>if x<0 then σ x else [x]
theorem aZh(σ:Int->List Int):ap σ []=[]:=rfl
theorem rH(σ:Int->List Int)(x:Int)(t:List Int):ap σ (x::t)=(if x<0 then σ x else [x])++ap σ t:=rfl
theorem aE5(σ:Int->List Int):∀xs:List (List Int),ap σ xs.flatten=(xs.map (ap σ)).flatten
 | []=>rfl
 | x::xs=>by
  have:=aE5 σ xs;simp only[ap,List.flatten_cons,List.flatMap_append,List.map_cons] at this ⊢;rw[this]
def GS(rs:List Int)(σ:Int->List Int):Prop:=∀x,x<0->Fl rs 1 (σ x)
def Sat(σ:Int->List Int)(β:Bds):Prop:=∀i:Nat,β.getD i default≠[]->σ (-1-(i:Int))=ap σ (β.getD i default)
theorem aPP{x:Int}(h:x<0)(h8:-48≤x):-24≤phi x/\phi x≤-1:=by unfold phi;split<;>omega
theorem aOC{rs:List Int}{σ:Int->List Int}(hσ:GS rs σ):∀(t:List Int) (k:Nat),Fl rs k (bL t)->(∀x∈t,-48≤x)->Fl rs k (ap σ t)
 | [],k,h,_=>h
 | x::t,k,h,h8=>by
  have e:bL (x::t)=phi x::bL t:=rfl;rw[e] at h;cases h with
  | @cons _ k' _ h0 r =>
   have hx8:=h8 x zH;have ht8:∀y∈t,-48≤y:=λy hy=>h8 y (zG _ hy);rw[rH];by_cases hx:x<0
   ·rw[if_pos hx];rw[jZ (aPP hx hx8)] at r;have:=(hσ x hx).app (aOC hσ t _ r ht8);rwa [Int.toNat_zero,Nat.add_zero,Nat.add_comm] at this
   ·rw[if_neg hx];rw[aDv (by omega)] at h0 r;exact .cons h0 (aOC hσ t _ r ht8)
theorem aPO{rs:List Int}{σ:Int->List Int}(hσ:GS rs σ){t:List Int}(h:XT rs t):Fl rs 1 (ap σ t):=aOC hσ t 1 (vN h.1) h.2
theorem aMs{rs:List Int}{σ:Int->List Int}(hσ:GS rs σ){t:List Int}(h:XT rs t):1≤(ap σ t).length:=(aPO hσ h).len
theorem aIK{rs t:List Int}(h:XT rs t):∃l,t=hd t::l/\0≤arS rs (phi (hd t))/\Fl rs (arS rs (phi (hd t))).toNat (bL l):=by
 have hl:=h.len;cases t with
 | nil=>simp at hl
 | cons x l =>
  refine⟨l,rfl,?_⟩;have h1:=vN h.1;have e:bL (x::l)=phi x::bL l:=rfl;rw[e] at h1;cases h1 with
  | @cons _ k' _ h0 r =>
   rw[Nat.zero_add] at r;exact⟨h0,r⟩
theorem n5{rs t:List Int}(h:XT rs t)(hn:hd t<0):t=[hd t]:=by
 obtain⟨l,e,h0,h1⟩:=aIK h;have h8:=(h.get (a:=0) (by have:=h.len;omega)).1;rw[jZ (aPP hn h8)] at h1;have h2:=h1.zero;have h3:l=[]:=by
  cases l with
  | nil=>rfl
  | cons y l=>simp[bL] at h2
 rw[h3] at e;exact e
theorem aEk{σ:Int->List Int}{x:Int}(h:x<0):ap σ [x]=σ x:=by
 rw[rH,if_pos h,aZh,List.append_nil]
def iA(rs a:List Int):List (List Int):=(List.range (dN rs (bL a) 0).length).map λk=>pX rs a ((dN rs (bL a) 0).getD k default)
theorem aFH{rs t:List Int}(h:XT rs t):t=hd t::(iA rs t).flatten:=by
  have h1:=aSQ h _ (zQ _);obtain⟨l,e,h0,h2⟩:=aIK h;have hl:=h.len;have e0:bL t=[phi (hd t)]++(bL l++[]):=by
    have:bL t=bL (hd t::l):=congrArg bL e;rw[this];simp[bL]
  have hn:(dN rs (bL t) 0).length=(arS rs (phi (hd t))).toNat:=by
    unfold dN;rw[fE,mS t 0 (by omega)];rfl
  obtain⟨l1,l2,e1,h3,h4,h5⟩:=Fl.cut [phi (hd t)] [] _ _ _ h2 (zQ _);rw[Nat.sub_self] at h4;have e2:=h4.zero;rw[e2,List.append_nil] at e1;have h6:d8 rs (bL t) 1 (dN rs (bL t) 0).length=t.length:=by
    rw[hn,e0];have h5':=h5;simp only[List.length_cons,List.length_nil,Nat.zero_add] at h5';rw[h5',←e1,←e7 t,e0];simp
  rw[h6,List.drop_length,List.append_nil] at h1;have e3:t=hd t::t.drop 1:=by
    conv=>lhs;rw[e]
    rw [show t.drop 1 = l by conv => lhs; rw [e]
                             rfl]
  conv=>lhs;rw[e3,h1]
  rfl
theorem nF{rs a:List Int}(h:XT rs a):∀x∈iA rs a,XT rs x:=λx hx=>by
 simp only[iA,zJ,List.mem_range] at hx;obtain⟨k,hk,rfl⟩:=hx;exact qZ h (jP h hk)
theorem aCM{rs:List Int}:∀(xs ys:List (List Int)),xs.length=ys.length->(∀x∈xs,Fl rs 1 x)->(∀y∈ys,Fl rs 1 y)->xs.flatten=ys.flatten->xs=ys
 | [],[],_,_,_,_=>rfl
 | x::xs,y::ys,hl,hx,hy,e=>by
  obtain⟨e1,e2⟩:=(hx x zH).uniq (hy y zH) e;rw[e1,aCM xs ys (by simpa using hl) (λz hz=>hx z (zG _ hz)) (λz hz=>hy z (zG _ hz)) e2]
 | [],_::_,hl,_,_,_=>by simp at hl
 | _::_,[],hl,_,_,_=>by simp at hl
theorem sI{rs:List Int}{σ:Int->List Int}{t:List Int}(h:XT rs t)(h0:0≤hd t):ap σ t=hd t::((iA rs t).map (ap σ)).flatten:=by
 conv=>lhs;rw[aFH h]
 rw[rH,if_neg (by omega),aE5];rfl
theorem aA1{α β:Type}(f:α->β):∀ps:List (α×α),(ps.map (·.1)).map f=(ps.map (·.2)).map f↔∀p∈ps,f p.1=f p.2
 | []=>by simp
 | p::ps=>by
  simp only[List.map_cons,List.cons.injEq,zO,forall_eq_or_imp,aA1 f ps]
theorem nJ(rs a b:List Int):(eC rs a b).map (·.1)=iA rs a:=aVI rs a b
theorem vC{rs a b:List Int}(hA:XT rs a)(hB:XT rs b)(he:hd a=hd b):(eC rs a b).map (·.2)=iA rs b:=by
 rw[aV0,←wB hA hB he];rfl
theorem aPq{rs a b:List Int}{σ:Int->List Int}(hσ:GS rs σ)(hA:XT rs a)(hB:XT rs b)(he:hd a=hd b)(h0:0≤hd a):ap σ a=ap σ b↔∀p∈eC rs a b,ap σ p.1=ap σ p.2:=by
 rw[←aA1 (ap σ),nJ,vC hA hB he,sI hA h0,sI hB (by omega),he];constructor
 ·intro e;have e:=(List.cons.inj e).2;refine aCM (rs:=rs) _ _ ?_ ?_ ?_ e
  ·rw[zC,zC,←nJ rs a b,←vC hA hB he,zC,zC]
  ·intro x hx;obtain⟨y,hy,rfl⟩:=zJ.1 hx;exact aPO hσ (nF hA y hy)
  ·intro x hx;obtain⟨y,hy,rfl⟩:=zJ.1 hx;exact aPO hσ (nF hB y hy)
 ·intro e;rw[e]
theorem aGD{rs a:List Int}{σ:Int->List Int}(hA:XT rs a)(h0:0≤hd a):(((iA rs a).map (ap σ)).map List.length).sum+1=(ap σ a).length:=by
 rw[sI hA h0,List.length_cons,List.length_flatten]
def Edge(β:Bds)(i j:Nat):Prop:=∃x∈β.getD i default,x<0/\vIx x=j
inductive Rch (β:Bds):Nat->Nat->Prop
 | refl (i:Nat):Rch β i i
 | step {i j k:Nat} (h:Edge β i j) (r:Rch β j k):Rch β i k
theorem Rch.trans{β:Bds}{i j k:Nat}(h:Rch β i j)(h':Rch β j k):Rch β i k:=by
 induction h with
 | refl=>exact h'
 | step e _ ih=>exact .step e (ih h')
def Acy(β:Bds):Prop:=∀i j,Edge β i j->¬Rch β j i
theorem aGP{p q:Nat->Bool}(h:∀x,p x=true->q x=true):∀l:List Nat,(∃x∈l,q x=true/\p x=false)->(l.filter p).length<(l.filter q).length
 | [],⟨x,hx,_⟩=>by cases hx
 | y::l,⟨x,hx,h1,h2⟩=>by
  have hle:∀l:List Nat,(l.filter p).length≤(l.filter q).length:=λl=>by
   induction l with
   | nil=>exact zQ _
   | cons z l ih =>
    by_cases hz:p z=true
    ·rw[List.filter_cons_of_pos hz,List.filter_cons_of_pos (h z hz),List.length_cons,List.length_cons];omega
    ·rw[List.filter_cons_of_neg hz];by_cases hz':q z=true
     ·rw[List.filter_cons_of_pos hz',List.length_cons];omega
     ·rw[List.filter_cons_of_neg hz'];exact ih
  rcases zO.1 hx with rfl|hx
  ·rw[List.filter_cons_of_pos h1,List.filter_cons_of_neg (by rw[h2];simp),List.length_cons];have:=hle l;omega
  ·have ih:=aGP h l ⟨x,hx,h1,h2⟩;by_cases hz:p y=true
   ·rw[List.filter_cons_of_pos hz,List.filter_cons_of_pos (h y hz),List.length_cons,List.length_cons];omega
   ·rw[List.filter_cons_of_neg hz];by_cases hz':q y=true
    ·rw[List.filter_cons_of_pos hz',List.length_cons];omega
    ·rw[List.filter_cons_of_neg hz'];exact ih
theorem aXo{rs:List Int}{β:Bds}(hβ:BOK rs β){i j:Nat}(h:Edge β i j):i<48:=by
 obtain⟨x,hx,_⟩:=h;by_cases hl:i<β.length
 ·rw[←hβ.1];exact hl
 ·rw[zD,List.getElem?_eq_none (by omega)] at hx;cases hx
theorem vR{rs:List Int}{β:Bds}(hβ:BOK rs β)(hA:Acy β):∃r:Nat->Nat,(∀i j,Edge β i j->r j<r i)/\∀i,r i≤48:=by
 classical
 refine⟨λi=>((List.range 48).filter λk=>decide (Rch β i k)).length,λi j he=>?_,λi=>?_⟩
 ·refine aGP (λk hk=>?_) _ ⟨i,List.mem_range.2 (aXo hβ he),?_,?_⟩
  ·exact decide_eq_true (.step he (of_decide_eq_true hk))
  ·exact decide_eq_true (.refl i)
  ·exact decide_eq_false (hA i j he)
 ·exact Nat.le_trans (List.length_filter_le _ _) (by simp)
def itS(β:Bds):Nat->Int->List Int
 | 0,_=>[-1]
 | n+1,x=>if β.getD (vIx x) default=[] then [-1] else ap (itS β n) (β.getD (vIx x) default)
theorem aVn(rs:List Int):Fl rs 1 [-1]:=.cons (by rw[jZ (by omega)];omega) (by rw[jZ (by omega)];exact .nil)
theorem aTh{rs:List Int}{β:Bds}(hβ:BOK rs β):∀n,GS rs (itS β n)
 | 0=>λx _=>aVn rs
 | n+1=>λx hx=>by
  unfold itS;split
  ·exact aVn rs
  ·rename_i h;exact aPO (aTh hβ n) (hβ.get h)
theorem aK1{σ τ:Int->List Int}:∀ {t:List Int},(∀x∈t,x<0->σ x=τ x)->ap σ t=ap τ t
 | [],_=>rfl
 | x::t,h=>by
  rw[rH,rH,aK1 λy hy=>h y (zG _ hy)];by_cases hx:x<0
  ·rw[if_pos hx,if_pos hx,h x zH hx]
  ·rw[if_neg hx,if_neg hx]
theorem aMU{rs:List Int}{β:Bds}(hβ:BOK rs β)(hA:Acy β):∃σ,GS rs σ/\Sat σ β:=by
 obtain⟨r,hr,h48⟩:=vR hβ hA;have st:∀n x,x<0->r (vIx x)<n->itS β n x=itS β (n+1) x:=by
  intro n;induction n with
  | zero=>intro x _ h;omega
  | succ n ih =>
   intro x hx h;show (if β.getD (vIx x) default=[] then [-1] else ap (itS β n) (β.getD (vIx x) default))=if β.getD (vIx x) default=[] then [-1] else ap (itS β (n+1)) (β.getD (vIx x) default);split
   ·rfl
   ·exact aK1 λy hy h0=>ih y h0 (by have:=hr (vIx x) (vIx y) ⟨y,hy,h0,rfl⟩;omega)
 refine⟨itS β 49,aTh hβ 49,λi hi=>?_⟩;have hv:vIx (-1-(i:Int))=i:=by unfold vIx;omega
 rw[st 49 _ (by omega) (by rw[hv];have:=h48 i;omega)];show (if β.getD (vIx (-1-(i:Int))) default=[] then [-1] else ap (itS β 49) (β.getD (vIx (-1-(i:Int))) default))=_;rw[hv,if_neg hi]
theorem aZF{σ:Int->List Int}{β:Bds}(h:Sat σ β){x:Int}(hx:x<0)(hb:β.getD (vIx x) default≠[]):σ x=ap σ (β.getD (vIx x) default):=by
 have:=h (vIx x) hb;rwa [show -1-((vIx x:Nat):Int)=x by unfold vIx;omega] at this
theorem aAb{rs:List Int}{β:Bds}(hβ:BOK rs β){r:Nat->Nat}(hr:∀i j,Edge β i j->r j<r i):∀(g:Nat) (t:List Int),XT rs t->(hd t<0->r (vIx (hd t))<g)->∃u,dU β (g+1) t=some u/\XT rs u/\(hd u<0->β.getD (vIx (hd u)) default=[])/\(∀σ,Sat σ β->ap σ u=ap σ t)/\∀i,(∃x∈u,x<0/\Rch β (vIx x) i)->∃x∈t,x<0/\Rch β (vIx x) i
 | g,t,hT,hg=>by
  by_cases hc:hd t<0/\β.getD (vIx (hd t)) default≠[]
  ·obtain⟨g',rfl⟩:∃g',g=g'+1:=⟨g-1,by have:=hg hc.1;omega⟩;have hb:=hβ.get hc.2;have hlb:=hb.len;have hmem:hd (β.getD (vIx (hd t)) default)∈β.getD (vIx (hd t)) default:=aX _ 0 (by omega);obtain⟨u,h1,h2,h3,h4,h5⟩:=aAb hβ hr g' _ hb (λh0=>by
    have:=hr (vIx (hd t)) _ ⟨_,hmem,h0,rfl⟩;have:=hg hc.1;omega)
   have ht:t=[hd t]:=n5 hT hc.1;refine⟨u,?_,h2,h3,λσ hs=>?_,λi hi=>?_⟩
   ·rw[dU];exact(if_pos hc).trans h1
   ·rw[h4 σ hs,←aZF hs hc.1 hc.2,←aEk (σ:=σ) hc.1,←ht]
   ·obtain⟨x,hx,h0,hxr⟩:=h5 i hi;exact⟨hd t,by rw[ht];exact zN.2 (by simp[hd]),hc.1,.step ⟨x,hx,h0,rfl⟩ hxr⟩
  ·refine⟨t,?_,hT,λh0=>?_,λ_ _=>rfl,λi h=>h⟩
   ·rw[dU];exact if_neg hc
   ·exact Classical.byContradiction λhn=>hc ⟨h0,hn⟩
def Sn(s:List Bool)(k:Nat):Prop:=s.getD k default=true
theorem aJu{s:List Bool}{i k:Nat}(hi:i<s.length):Sn (s.set i true) k↔i=k∨Sn s k:=by
 unfold Sn;by_cases e:i=k
 ·subst e;simp[zD,hi]
 ·simp only[zD,List.getElem?_set_ne e];simp[e]
def aPL(β:Bds)(n:Int)(t:List Int)(s:List Bool)(q:Bool×List Bool):Prop :=
 q.2.length=48/\(q.1=true->∃x∈t,x<0/\Rch β (vIx x) (vIx n))/\(q.1=false->(∀k,Sn s k->Sn q.2 k)/\(∀x∈t,x<0->x≠n/\Sn q.2 (vIx x))/\∀k,Sn q.2 k->¬Sn s k->∀y∈β.getD k default,y<0->y≠n/\Sn q.2 (vIx y))
theorem aFk{x:Int}(h:-48≤x)(h0:x<0):vIx x<48:=by unfold vIx;omega
theorem aAc{β:Bds}{n:Int}(hn:n<0){rec:List Int->List Bool->Option (Bool×List Bool)}:∀(t:List Int) (s:List Bool),(∀x∈t,x<0->β.getD (vIx x) default≠[]->∀s:List Bool,s.length=48->∃q,rec (β.getD (vIx x) default) s=some q/\aPL β n (β.getD (vIx x) default) s q)->(∀x∈t,-48≤x)->s.length=48->∃q,aFh β n rec t s=some q/\aPL β n t s q
 | [],s,_,_,hl=>⟨(false,s),rfl,hl,λh=>(by cases h),λ_=>⟨λ_ h=>h,λx hx=>(by cases hx),λk h1 h2=>absurd h1 h2⟩⟩
 | m::r,s,hrec,h8,hl=>by
  have hrec':∀x∈r,x<0->β.getD (vIx x) default≠[]->∀s:List Bool,s.length=48->∃q,rec (β.getD (vIx x) default) s=some q/\aPL β n (β.getD (vIx x) default) s q:=λx hx=>hrec x (zG _ hx);have h8':∀x∈r,-48≤x:=λx hx=>h8 x (zG _ hx);have hm8:=h8 m zH;unfold aFh;by_cases e:m=n
  ·rw[if_pos e];exact⟨_,rfl,hl,λ_=>⟨m,zH,by omega,by rw[e];exact .refl _⟩,λh=>by cases h⟩
  rw[if_neg e];by_cases h0:0≤m∨s.getD (vIx m) default=true
  ·rw[if_pos h0];obtain⟨q,h1,h2,h3,h4⟩:=aAc hn r s hrec' h8' hl;refine⟨q,h1,h2,λh=>?_,λh=>?_⟩
   ·obtain⟨x,hx,hx0,hr⟩:=h3 h;exact⟨x,zG _ hx,hx0,hr⟩
   ·obtain⟨k1,k2,k3⟩:=h4 h;refine⟨k1,λx hx hx0=>?_,k3⟩;rcases zO.1 hx with rfl|hx
    ·exact⟨e,k1 _ (h0.resolve_left (by omega))⟩
    ·exact k2 x hx hx0
  rw[if_neg h0];have hm0:m<0:=by omega
  have hns:¬Sn s (vIx m):=λh=>h0 (.inr h);have hlt:=aFk hm8 hm0;have hset:=@aJu s (vIx m);by_cases hb:β.getD (vIx m) default=[]
  ·rw[if_pos hb];obtain⟨q,h1,h2,h3,h4⟩:=aAc hn r (s.set (vIx m) true) hrec' h8' (by rw[List.length_set];exact hl);refine⟨q,h1,h2,λh=>?_,λh=>?_⟩
   ·obtain⟨x,hx,hx0,hr⟩:=h3 h;exact⟨x,zG _ hx,hx0,hr⟩
   ·obtain⟨k1,k2,k3⟩:=h4 h;refine⟨λk hk=>k1 k ((hset (by omega)).2 (.inr hk)),λx hx hx0=>?_,λk hk hk' y hy hy0=>?_⟩
    ·rcases zO.1 hx with rfl|hx
     ·exact⟨e,k1 _ ((hset (by omega)).2 (.inl rfl))⟩
     ·exact k2 x hx hx0
    ·by_cases ek:vIx m=k
     ·subst ek;rw[hb] at hy;cases hy
     ·exact k3 k hk (λh=>hk' (((hset (by omega)).1 h).resolve_left ek)) y hy hy0
  rw[if_neg hb];obtain⟨q1,g1,g2,g3,g4⟩:=hrec m zH hm0 hb (s.set (vIx m) true) (by rw[List.length_set];exact hl);rw[g1];obtain⟨b1,s2⟩:=q1;cases b1 with
  | true =>
   obtain⟨y,hy,hy0,hr⟩:=g3 rfl;exact⟨_,rfl,g2,λ_=>⟨m,zH,hm0,.step ⟨y,hy,hy0,rfl⟩ hr⟩,λh=>by cases h⟩
  | false =>
   obtain⟨a1,a2,a3⟩:=g4 rfl;obtain⟨q,h1,h2,h3,h4⟩:=aAc hn r s2 hrec' h8' g2;refine⟨q,h1,h2,λh=>?_,λh=>?_⟩
   ·obtain⟨x,hx,hx0,hr⟩:=h3 h;exact⟨x,zG _ hx,hx0,hr⟩
   ·obtain⟨k1,k2,k3⟩:=h4 h;refine⟨λk hk=>k1 k (a1 k ((hset (by omega)).2 (.inr hk))),λx hx hx0=>?_,λk hk hk' y hy hy0=>?_⟩
    ·rcases zO.1 hx with rfl|hx
     ·exact⟨e,k1 _ (a1 _ ((hset (by omega)).2 (.inl rfl)))⟩
     ·exact k2 x hx hx0
    ·by_cases h5:Sn s2 k
     ·by_cases ek:vIx m=k
      ·subst ek;have:=a2 y hy hy0;exact⟨this.1,k1 _ this.2⟩
      ·have:=a3 k h5 (λh=>hk' (((hset (by omega)).1 h).resolve_left ek)) y hy hy0;exact⟨this.1,k1 _ this.2⟩
     ·exact k3 k hk h5 y hy hy0
theorem aLT{rs:List Int}{β:Bds}(hβ:BOK rs β){n:Int}(hn:n<0){r:Nat->Nat}(hr:∀i j,Edge β i j->r j<r i):∀(f:Nat) (t:List Int) (s:List Bool),(∀x∈t,x<0->β.getD (vIx x) default≠[]->r (vIx x)<f)->(∀x∈t,-48≤x)->s.length=48->∃q,xC β n (f+1) t s=some q/\aPL β n t s q
 | f,t,s,hf,h8,hl=>by
  refine aAc hn t s (λx hx h0 hb s hs=>?_) h8 hl;have:=hf x hx h0 hb;obtain⟨f',rfl⟩:∃f',f=f'+1:=⟨f-1,by omega⟩;exact aLT hβ hn hr f' _ s (λy hy hy0 _=>by have:=hr (vIx x) (vIx y) ⟨y,hy,hy0,rfl⟩;omega) (hβ.get hb).2 hs
def mQ(β:Bds)(n:Int)(t:List Int):Prop:=∃x∈t,x<0/\Rch β (vIx x) (vIx n)
theorem aS8{rs:List Int}{β:Bds}(hβ:BOK rs β)(hA:Acy β){n:Int}(hn:n<0){t:List Int}(hT:∀x∈t,-48≤x):∃q,xC β n 60 t (List.replicate 48 false)=some q/\(q.1=true↔mQ β n t):=by
 obtain⟨r,hr,h48⟩:=vR hβ hA;obtain⟨q,h1,h2,h3,h4⟩:=aLT hβ hn hr 59 t (List.replicate 48 false) (λx _ _ _=>by have:=h48 (vIx x);omega) hT (by simp);refine⟨q,h1,h3,λ⟨x,hx,hx0,hrc⟩=>?_⟩;cases hq:q.1 with
 | true=>rfl
 | false =>
  exfalso;obtain⟨k1,k2,k3⟩:=h4 hq;have hno:∀k,¬Sn (List.replicate 48 false) k:=λk hk=>by
   unfold Sn at hk;rw[zD,List.getElem?_replicate] at hk;split at hk<;>cases hk
  have key:∀i j,Rch β i j->Sn q.2 i->i≠vIx n->j≠vIx n:=by
   intro i j h;induction h with
   | refl i=>exact λ_ h=>h
   | step he _ ih =>
    intro hs _;obtain⟨y,hy,hy0,rfl⟩:=he;have:=k3 _ hs (hno _) y hy hy0;exact ih this.2 λe=>this.1 (wX hy0 hn e)
  have:=k2 x hx hx0;exact key _ _ hrc this.2 (λe=>this.1 (wX hx0 hn e)) rfl
def cnt(β:Bds):Nat:=(β.filter λx=>x.isEmpty).length
theorem aJy:∀(β:Bds) (i:Nat) (y:List Int),i<β.length->β.getD i default=[]->y≠[]->cnt (β.set i y)+1=cnt β
 | [],i,y,h,_,_=>by simp at h
 | x::β,0,y,_,h,hy=>by
  have:x=[]:=h;subst this;cases y with
  | nil=>exact absurd rfl hy
  | cons a b=>simp[cnt]
 | x::β,i+1,y,h,h1,hy=>by
  have:=aJy β i y (by simpa using h) h1 hy;simp only[cnt,List.set_cons_succ,List.filter_cons] at this ⊢;split<;>simp_all<;>omega
theorem uF{β:Bds}{i:Nat}(hi:i<β.length)(y:List Int)(k:Nat):(β.set i y).getD k default=if i=k then y else β.getD k default:=by
 by_cases e:i=k
 ·subst e;simp[zD,hi]
 ·simp only[zD,List.getElem?_set_ne e,if_neg e]
theorem aXO{β:Bds}{i:Nat}(hi:i<β.length)(hb:β.getD i default=[]){y:List Int}{a b:Nat}(h:Rch (β.set i y) a b):Rch β a b∨(Rch β a i/\∃z∈y,z<0/\Rch β (vIx z) b):=by
 induction h with
 | refl a=>exact .inl (.refl a)
 | @step a c b he hr ih =>
  obtain⟨x,hx,hx0,rfl⟩:=he;rw[uF hi] at hx;by_cases e:i=a
  ·subst e;rw[if_pos rfl] at hx;rcases ih with ih|⟨ih,hz⟩
   ·exact .inr ⟨.refl _,x,hx,hx0,ih⟩
   ·exact .inr ⟨.refl _,hz⟩
  ·rw[if_neg e] at hx;have he:Edge β a (vIx x):=⟨x,hx,hx0,rfl⟩;rcases ih with ih|⟨ih,hz⟩
   ·exact .inl (.step he ih)
   ·exact .inr ⟨.step he ih,hz⟩
theorem aKz{β:Bds}(hA:Acy β){x:Int}(hi:vIx x<β.length)(hb:β.getD (vIx x) default=[]){y:List Int}(ho:¬mQ β x y):Acy (β.set (vIx x) y):=by
 intro i j he hr;have hr:=aXO hi hb hr;obtain⟨z,hz,hz0,rfl⟩:=he;rw[uF hi] at hz;by_cases e:vIx x=i
 ·subst e;rw[if_pos rfl] at hz;rcases hr with hr|⟨hr,_⟩
  ·exact ho ⟨z,hz,hz0,hr⟩
  ·exact ho ⟨z,hz,hz0,hr⟩
 ·rw[if_neg e] at hz;have he:Edge β i (vIx z):=⟨z,hz,hz0,rfl⟩;rcases hr with hr|⟨hr,w,hw,hw0,hr2⟩
  ·exact hA _ _ he hr
  ·exact ho ⟨w,hw,hw0,hr2.trans (.step he hr)⟩
theorem aLf{β:Bds}{x:Int}(hx:x<0)(hi:vIx x<β.length)(hb:β.getD (vIx x) default=[]){y:List Int}(hy:y≠[])(σ:Int->List Int):Sat σ (β.set (vIx x) y)↔Sat σ β/\σ x=ap σ y:=by
 have hv:-1-((vIx x:Nat):Int)=x:=by unfold vIx;omega
 constructor
 ·intro h;constructor
  ·intro i hne;have:=h i;rw[uF hi] at this;by_cases e:vIx x=i
   ·subst e;exact absurd hb hne
   ·rw[if_neg e] at this;exact this hne
  ·have:=h (vIx x);rw[uF hi,if_pos rfl,hv] at this;exact this hy
 ·intro ⟨h1,h2⟩ i hne;rw[uF hi] at hne ⊢;by_cases e:vIx x=i
  ·subst e;rw[if_pos rfl,hv];exact h2
  ·rw[if_neg e] at hne ⊢;exact h1 i hne
theorem aN6{σ:Int->List Int}{z:Int}(hz:z<0):∀ {t:List Int},z∈t->(σ z).length≤(ap σ t).length
 | x::t,h=>by
  rw[rH,zK];rcases zO.1 h with rfl|h
  ·rw[if_pos hz];omega
  ·have:=aN6 (σ:=σ) hz h;omega
theorem aT1{β:Bds}{σ:Int->List Int}(hs:Sat σ β){i j:Nat}(h:Rch β i j):(σ (-1-(j:Int))).length≤(σ (-1-(i:Int))).length:=by
 induction h with
 | refl=>exact zQ _
 | @step i j k he _ ih =>
  obtain⟨z,hz,hz0,rfl⟩:=he;have hne:β.getD i default≠[]:=λe=>by rw[e] at hz;cases hz
  rw[hs i hne];have:=aN6 (σ:=σ) hz0 hz;rw[show -1-((vIx z:Nat):Int)=z by unfold vIx;omega] at ih;omega
theorem aKZ{rs:List Int}{β:Bds}{x:Int}(hx:x<0){y:List Int}(hY:XT rs y)(h0:0≤hd y)(ho:mQ β x y)(σ:Int->List Int)(hs:Sat σ β):σ x≠ap σ y:=by
 intro e;obtain⟨z,hz,hz0,hr⟩:=ho;have h1:=aT1 hs hr;rw[show -1-((vIx z:Nat):Int)=z by unfold vIx;omega,show -1-((vIx x:Nat):Int)=x by unfold vIx;omega] at h1;obtain⟨l,el,_⟩:=aIK hY;have hzl:z∈l:=by
  rw[el] at hz;rcases zO.1 hz with h|h
  ·omega
  ·exact h
 have h2:=aN6 (σ:=σ) hz0 hzl;have h3:(ap σ y).length=(ap σ l).length+1:=by
  conv=>lhs;rw[el]
  rw[rH,if_neg (by omega)];simp only[zK,List.length_singleton];omega
 rw[e] at h1;omega
def Good(rs:List Int)(β:Bds)(P:(Int->List Int)->Prop):Option Bds->Prop
 | none=>∀σ,GS rs σ->Sat σ β->¬P σ
 | some β'=>BOK rs β'/\Acy β'/\(β'=β∨cnt β'<cnt β)/\∀σ,GS rs σ->(Sat σ β'↔Sat σ β/\P σ)
theorem Good.congr{rs:List Int}{β:Bds}{P Q:(Int->List Int)->Prop}{r:Option Bds}(h:Good rs β P r)(he:∀σ,GS rs σ->Sat σ β->(P σ↔Q σ)):Good rs β Q r:=by
 cases r with
 | none=>exact λσ h1 h2 h3=>h σ h1 h2 ((he σ h1 h2).2 h3)
 | some β' =>
  obtain⟨h1,h2,h3,h4⟩:=h;exact⟨h1,h2,h3,λσ hσ=>(h4 σ hσ).trans ⟨λ⟨a,b⟩=>⟨a,(he σ hσ a).1 b⟩,λ⟨a,b⟩=>⟨a,(he σ hσ a).2 b⟩⟩⟩
theorem aHn{rs:List Int}{β:Bds}(hβ:BOK rs β)(hA:Acy β){x y:List Int}(hX:XT rs x)(hY:XT rs y)(hx:hd x<0)(hbx:β.getD (vIx (hd x)) default=[])(hby:hd y<0->β.getD (vIx (hd y)) default=[])(hne:hd y<0->hd y≠hd x) :
  ∃r,aG4 60 β x y=some r/\Good rs β (λσ=>σ (hd x)=ap σ y) r:=by
 have hx8:=(hX.get (a:=0) (by have:=hX.len;omega)).1;have hlt:=aFk hx8 hx;have hl:vIx (hd x)<β.length:=by rw[hβ.1];exact hlt
 have good:¬mQ β (hd x) y->Good rs β (λσ=>σ (hd x)=ap σ y) (some (β.set (vIx (hd x)) y)):=λho =>
  ⟨hβ.set _ hY,aKz hA hl hbx ho,.inr (by have:=aJy β _ y hl hbx hY.ne;omega),λσ _=>aLf hx hl hbx hY.ne σ⟩
 unfold aG4;by_cases h0:0≤hd y
 ·rw[if_pos h0];obtain⟨q,h1,h2⟩:=aS8 hβ hA hx hY.2;rw[h1];obtain⟨b,s⟩:=q;cases b with
  | true=>exact⟨_,rfl,λσ _ hs=>aKZ hx hY h0 (h2.1 rfl) σ hs⟩
  | false=>exact⟨_,rfl,good λho=>by have:=h2.2 ho;cases this⟩
 ·rw[if_neg h0];refine⟨_,rfl,good λ⟨z,hz,hz0,hr⟩=>?_⟩;have ey:=n5 hY (by omega);rw[ey] at hz;obtain rfl:=zN.1 hz;generalize ei:vIx (hd y)=i at hr;generalize ej:vIx (hd x)=j at hr;cases hr with
  | refl=>exact hne hz0 (wX hz0 hx (ei.trans ej.symm))
  | step he _ =>
   obtain⟨w,hw,_⟩:=he;rw[←ei,hby hz0] at hw;cases hw
theorem aE2{rec rec':Bds->List Int->List Int->Option (Option Bds)}(h:∀β a b r,rec β a b=some r->rec' β a b=some r):∀(ps:List (List Int×List Int)) (β:Bds) (r:Option Bds),eqL rec ps β=some r->eqL rec' ps β=some r
 | [],_,_,e=>e
 | p::ps,β,r,e=>by
  unfold eqL at e ⊢;split at e
  ·cases e
  ·rename_i hq;rw[h _ _ _ _ hq];exact e
  ·rename_i β' hq;rw[h _ _ _ _ hq];exact aE2 h ps β' r e
theorem aKL{rs:List Int}{g:Nat}:∀(f:Nat) (β:Bds) (a b:List Int) (r:Option Bds),eqM rs g f β a b=some r->eqM rs g (f+1) β a b=some r
 | 0,_,_,_,_,e=>by cases e
 | f+1,β,a,b,r,e=>by
  unfold eqM at e ⊢;split at e
  ·rename_i a1 b1 h1 h2;unfold eqB at e ⊢;split at e
   ·rename_i c;rw[if_pos c];exact e
   ·rename_i c;rw[if_neg c];split at e
    ·rename_i c;rw[if_pos c];exact e
    ·rename_i c;rw[if_neg c];split at e
     ·rename_i c;rw[if_pos c];exact e
     ·rename_i c;rw[if_neg c];split at e
      ·rename_i c;rw[if_pos c];exact e
      ·rename_i c;rw[if_neg c];exact aE2 (λβ a b r=>aKL f β a b r) _ _ _ e
  ·cases e
theorem aMV{rs:List Int}{g:Nat}{f:Nat}{β:Bds}{a b:List Int}{r:Option Bds}(h:eqM rs g f β a b=some r):∀d,eqM rs g (f+d) β a b=some r
 | 0=>h
 | d+1=>aKL _ _ _ _ _ (aMV h d)
theorem aYE{rs:List Int}{g:Nat}{f:Nat}{β:Bds}{ps:List (List Int×List Int)}{r:Option Bds}(h:eqL (eqM rs g f) ps β=some r)(d:Nat):eqL (eqM rs g (f+d)) ps β=some r :=
 aE2 (λβ a b r h=>aMV h d) ps β r h
def lO(σ:Int->List Int)(ps:List (List Int×List Int)):Prop:=∀p∈ps,ap σ p.1=ap σ p.2
theorem aSh{rs:List Int}{β β1:Bds}{P Q:(Int->List Int)->Prop}(h1:Good rs β P (some β1)){r:Option Bds}(h2:Good rs β1 Q r):Good rs β (λσ=>P σ/\Q σ) r:=by
 obtain⟨a1,a2,a3,a4⟩:=h1;cases r with
 | none=>exact λσ hσ hs ⟨hp,hq⟩=>h2 σ hσ ((a4 σ hσ).2 ⟨hs,hp⟩) hq
 | some β2 =>
  obtain⟨b1,b2,b3,b4⟩:=h2;refine⟨b1,b2,?_,λσ hσ=>?_⟩
  ·rcases b3 with b3|b3
   ·rw[b3];exact a3
   ·rcases a3 with a3|a3
    ·rw[a3] at b3;exact .inr b3
    ·exact .inr (by omega)
  ·rw[b4 σ hσ,a4 σ hσ,and_assoc]
theorem aPl{rs:List Int}(I:Bds->Prop)(hI:∀β β',I β->BOK rs β->Acy β->(β'=β∨cnt β'<cnt β)->I β'):∀(ps:List (List Int×List Int)),
  (∀p∈ps,∀β,I β->BOK rs β->Acy β->∃f r,eqM rs 60 f β p.1 p.2=some r/\Good rs β (λσ=>ap σ p.1=ap σ p.2) r)->∀β,I β->BOK rs β->Acy β->∃f r,eqL (eqM rs 60 f) ps β=some r/\Good rs β (λσ=>lO σ ps) r
 | [],_,β,_,hβ,hA=>⟨0,some β,rfl,hβ,hA,.inl rfl,λσ _=>⟨λh=>⟨h,λp hp=>by cases hp⟩,λh=>h.1⟩⟩
 | p::ps,h,β,hi,hβ,hA=>by
  obtain⟨f1,r1,e1,g1⟩:=h p zH β hi hβ hA;cases r1 with
  | none =>
   refine⟨f1,none,?_,λσ h1 h2 h3=>g1 σ h1 h2 (h3 p zH)⟩;unfold eqL;rw[e1]
  | some β1 =>
   obtain⟨f2,r2,e2,g2⟩:=aPl I hI ps (λq hq=>h q (zG _ hq)) β1 (hI β β1 hi hβ hA g1.2.2.1) g1.1 g1.2.1;refine⟨f1+f2,r2,?_,(aSh g1 g2).congr λσ _ _=>?_⟩
   ·unfold eqL;rw[aMV e1 f2];have:=aYE e2 f1;rwa [Nat.add_comm] at this
   ·simp only[lO,zO,forall_eq_or_imp]
theorem aW4{rs:List Int}{β:Bds}(hβ:BOK rs β)(hA:Acy β){a b a1 b1:List Int}(hra:dU β 60 a=some a1)(hrb:dU β 60 b=some b1)(hA1:XT rs a1)(hB1:XT rs b1)
  (ha:hd a1<0->β.getD (vIx (hd a1)) default=[]) (hb:hd b1<0->β.getD (vIx (hd b1)) default=[]) (hrec:hd a1=hd b1->0≤hd a1->∃f r,eqL (eqM rs 60 f) (eC rs a1 b1) β=some r/\Good rs β (λσ=>lO σ (eC rs a1 b1)) r) :
  ∃f r,eqM rs 60 f β a b=some r/\Good rs β (λσ=>ap σ a1=ap σ b1) r:=by
 have e:∀f,eqM rs 60 (f+1) β a b=eqB rs 60 (eqM rs 60 f) β a1 b1:=λf=>by
  show (match dU β 60 a,dU β 60 b with|some a1,some b1=>eqB rs 60 (eqM rs 60 f) β a1 b1|_,_=>none)=_;rw[hra,hrb]
 by_cases c1:hd a1=hd b1/\hd a1<0
 ·refine⟨1,some β,?_,hβ,hA,.inl rfl,λσ _=>⟨λh=>⟨h,?_⟩,λh=>h.1⟩⟩
  ·rw[e];unfold eqB;rw[if_pos c1]
  ·rw[n5 hA1 c1.2,n5 hB1 (by omega),c1.1]
 by_cases c2:hd b1<0/\(0≤hd a1∨hd b1<hd a1)
 ·obtain⟨r,h1,h2⟩:=aHn hβ hA hB1 hA1 c2.1 (hb c2.1) ha (λh e=>c1 ⟨e,h⟩);refine⟨1,r,?_,h2.congr λσ _ _=>?_⟩
  ·rw[e];unfold eqB;rw[if_neg c1,if_pos c2];exact h1
  ·conv=>rhs;rw[n5 hB1 c2.1]
   rw[aEk (σ:=σ) c2.1];exact eq_comm
 by_cases c3:hd a1<0
 ·obtain⟨r,h1,h2⟩:=aHn hβ hA hA1 hB1 c3 (ha c3) hb (λh e=>c1 ⟨e.symm,c3⟩);refine⟨1,r,?_,h2.congr λσ _ _=>?_⟩
  ·rw[e];unfold eqB;rw[if_neg c1,if_neg c2,if_pos c3];exact h1
  ·conv=>rhs;rw[n5 hA1 c3]
   rw[aEk (σ:=σ) c3]
 by_cases c4:hd a1=hd b1
 ·obtain⟨f,r,h1,h2⟩:=hrec c4 (by omega);refine⟨f+1,r,?_,h2.congr λσ hσ _=>(aPq hσ hA1 hB1 c4 (by omega)).symm⟩;rw[e];unfold eqB;rw[if_neg c1,if_neg c2,if_neg c3,if_neg (by omega)];exact h1
 ·refine⟨1,none,?_,λσ _ _ h=>?_⟩
  ·rw[e];unfold eqB;rw[if_neg c1,if_neg c2,if_neg c3,if_pos c4]
  ·have h0:0≤hd b1:=by
    by_cases h:hd b1<0
    ·exact absurd ⟨h,.inl (by omega)⟩ c2
    ·omega
   have h:ap σ a1=ap σ b1:=h;rw[sI hA1 (by omega),sI hB1 h0] at h;exact c4 (List.cons.inj h).1
theorem aTK{rs a:List Int}{σ:Int->List Int}(hA:XT rs a)(h0:0≤hd a):∀x∈iA rs a,(ap σ x).length+1≤(ap σ a).length:=λx hx=>by
 have h1:=aGD (σ:=σ) hA h0;have h2:(ap σ x).length≤(((iA rs a).map (ap σ)).map List.length).sum:=by
  have:∀(l:List Nat) (n:Nat),n∈l->n≤l.sum:=λl n h=>by
   induction l with
   | nil=>cases h
   | cons m l ih =>
    rw[List.sum_cons];rcases zO.1 h with rfl|h
    ·omega
    ·have:=ih h;omega
  exact this _ _ (zJ.2 ⟨_,zJ.2 ⟨x,hx,rfl⟩,rfl⟩)
 omega
theorem aTG(rs:List Int):∀(c:Nat) (β:Bds),cnt β<c->BOK rs β->Acy β->∀a b,XT rs a->XT rs b->∃f r,eqM rs 60 f β a b=some r/\Good rs β (λσ=>ap σ a=ap σ b) r
 | 0,β,h,_,_,_,_,_,_=>by omega
 | c+1,β,h,hβ,hA,a,b,hTa,hTb=>by
  obtain⟨σ,hσ,hsat⟩:=aMU hβ hA;obtain⟨r,hr,h48⟩:=vR hβ hA;have main:∀(m:Nat) (a b:List Int),(ap σ a).length≤m->XT rs a->XT rs b->∃f r,eqM rs 60 f β a b=some r/\Good rs β (λσ=>ap σ a=ap σ b) r:=by
   intro m;induction m with
   | zero=>intro a b hm ha _;have:=aMs hσ ha;omega
   | succ m ih =>
    intro a b hm ha hb;obtain⟨a1,u1,u2,u3,u4,_⟩:=aAb hβ hr 59 a ha (λ_=>by have:=h48 (vIx (hd a));omega);obtain⟨b1,v1,v2,v3,v4,_⟩:=aAb hβ hr 59 b hb (λ_=>by have:=h48 (vIx (hd b));omega);obtain⟨f,q,k1,k2⟩:=aW4 hβ hA u1 v1 u2 v2 u3 v3 (λhe h0=>by
     refine aPl (λβ'=>β'=β∨cnt β'<c) (λβ1 β2 h1 _ _ h2=>?_) _ (λp hp β1 hi hβ1 hA1=>?_) β (.inl rfl) hβ hA
     ·rcases h1 with rfl|h1
      ·rcases h2 with rfl|h2
       ·exact .inl rfl
       ·exact .inr (by omega)
      ·rcases h2 with rfl|h2
       ·exact .inr h1
       ·exact .inr (by omega)
     ·have hp1:p.1∈iA rs a1:=by rw[←nJ rs a1 b1];exact zJ.2 ⟨p,hp,rfl⟩
      have hp2:p.2∈iA rs b1:=by rw[←vC u2 v2 he];exact zJ.2 ⟨p,hp,rfl⟩
      rcases hi with rfl|hi
      ·have h1:=aTK (σ:=σ) u2 h0 _ hp1;rw[u4 σ hsat] at h1;exact ih _ _ (by omega) (nF u2 _ hp1) (nF v2 _ hp2)
      ·exact aTG rs c β1 hi hβ1 hA1 _ _ (nF u2 _ hp1) (nF v2 _ hp2))
    exact⟨f,q,k1,k2.congr λτ _ hs=>by rw[u4 τ hs,v4 τ hs]⟩
  exact main _ a b (zQ _) hTa hTb
def oS(rs:List Int)(β:Bds)(P:(Int->List Int)->Prop):Prop:=∃σ,GS rs σ/\Sat σ β/\P σ
theorem aSw{rs:List Int}{β:Bds}{P:(Int->List Int)->Prop}{r:Option Bds}(h:Good rs β P r):r.isSome=true↔oS rs β P:=by
 cases r with
 | none=>exact Iff.intro (λh=>by cases h) (λ⟨σ,h1,h2,h3⟩=>absurd h3 (h σ h1 h2))
 | some β' =>
  refine⟨λ_=>?_,λ_=>rfl⟩;obtain⟨h1,h2,_,h4⟩:=h;obtain⟨σ,hσ,hs⟩:=aMU h1 h2;have:=(h4 σ hσ).1 hs;exact⟨σ,hσ,this.1,this.2⟩
theorem aUK{rs:List Int}{β:Bds}(hβ:BOK rs β)(hA:Acy β){a b:List Int}(ha:XT rs a)(hb:XT rs b):∃f r,eqM rs 60 f β a b=some r/\(r.isSome=true↔oS rs β λσ=>ap σ a=ap σ b):=by
 obtain⟨f,r,h1,h2⟩:=aTG rs (cnt β+1) β (by omega) hβ hA a b ha hb;exact⟨f,r,h1,aSw h2⟩
noncomputable def oH(rs:List Int):Nat->Bds->List (List Int×List Int)->Option Bool
 | 0,_,_=>none
 | n+1,β,ps=>match ps.getLast? with
  | none=>some true
  | some p=>match dU β 60 p.1,dU β 60 p.2 with
   | some u,some v =>
    if hd u=hd v/\hd u<0 then oH rs n β ps.dropLast
    else if hd u<0 then (if tst (mQ β (hd u) v)=true then some false else oH rs n (β.set (vIx (hd u)) v) ps.dropLast)
    else if hd v<0 then (if tst (mQ β (hd v) u)=true then some false else oH rs n (β.set (vIx (hd v)) u) ps.dropLast)
    else if hd u≠hd v then some false
    else oH rs n β (ps.dropLast++eC rs u v)
   | _,_=>none
theorem qB{rs:List Int}{β:Bds}(hβ:BOK rs β)(hA:Acy β){t:List Int}(hT:XT rs t):∃u,dU β 60 t=some u/\XT rs u/\(hd u<0->β.getD (vIx (hd u)) default=[])/\∀σ,Sat σ β->ap σ u=ap σ t:=by
 obtain⟨r,hr,h48⟩:=vR hβ hA;obtain⟨u,h1,h2,h3,h4,_⟩:=aAb hβ hr 59 t hT (λ_=>by have:=h48 (vIx (hd t));omega);exact⟨u,h1,h2,h3,h4⟩
def wt(σ:Int->List Int)(ps:List (List Int×List Int)):Nat:=(ps.map λp=>(ap σ p.1).length).sum
theorem aN1(σ:Int->List Int)(ps qs:List (List Int×List Int)):wt σ (ps++qs)=wt σ ps+wt σ qs:=by simp[wt]
theorem aVV{rs a b:List Int}{σ:Int->List Int}(hA:XT rs a)(h0:0≤hd a):wt σ (eC rs a b)+1=(ap σ a).length:=by
 rw[←aGD hA h0,←nJ rs a b];simp[wt,List.map_map,Function.comp_def]
theorem aOe(σ:Int->List Int)(ps:List (List Int×List Int))(p:List Int×List Int):lO σ (ps++[p])↔lO σ ps/\ap σ p.1=ap σ p.2:=by
 simp only[lO,zP,zN];exact⟨λh=>⟨λq hq=>h q (.inl hq),h p (.inr rfl)⟩,λh q hq=>hq.elim (h.1 q) λe=>e ▸ h.2⟩
theorem aSA(σ:Int->List Int)(ps qs:List (List Int×List Int)):lO σ (ps++qs)↔lO σ ps/\lO σ qs:=by
 simp only[lO,zP];exact⟨λh=>⟨λq hq=>h q (.inl hq),λq hq=>h q (.inr hq)⟩,λh q hq=>hq.elim (h.1 q) (h.2 q)⟩
theorem oS.congr{rs:List Int}{β:Bds}{P Q:(Int->List Int)->Prop}(h:∀σ,GS rs σ->Sat σ β->(P σ↔Q σ)):oS rs β P↔oS rs β Q :=
 ⟨λ⟨σ,h1,h2,h3⟩=>⟨σ,h1,h2,(h σ h1 h2).1 h3⟩,λ⟨σ,h1,h2,h3⟩=>⟨σ,h1,h2,(h σ h1 h2).2 h3⟩⟩
theorem nD{rs:List Int}{β:Bds}(hβ:BOK rs β)(hA:Acy β){u v:List Int}(hU:XT rs u)(hV:XT rs v)(hu:hd u<0)(hb:β.getD (vIx (hd u)) default=[])(ho:¬mQ β (hd u) v)(P:(Int->List Int)->Prop) :
  BOK rs (β.set (vIx (hd u)) v)/\Acy (β.set (vIx (hd u)) v)/\cnt (β.set (vIx (hd u)) v)<cnt β/\(oS rs (β.set (vIx (hd u)) v) P↔oS rs β λσ=>P σ/\ap σ u=ap σ v):=by
 have hx8:=(hU.get (a:=0) (by have:=hU.len;omega)).1;have hl:vIx (hd u)<β.length:=by rw[hβ.1];exact aFk hx8 hu
 refine⟨hβ.set _ hV,aKz hA hl hb ho,by have:=aJy β _ v hl hb hV.ne;omega,?_⟩;have hs:=λσ=>aLf hu hl hb hV.ne σ;have he:∀σ,(ap σ u=ap σ v↔σ (hd u)=ap σ v):=λσ=>by
  conv=>lhs;rw[n5 hU hu]
  rw[aEk (σ:=σ) hu]
 constructor
 ·rintro⟨σ,h1,h2,h3⟩;have:=(hs σ).1 h2;exact⟨σ,h1,this.1,h3,(he σ).2 this.2⟩
 ·rintro⟨σ,h1,h2,h3,h4⟩;exact⟨σ,h1,(hs σ).2 ⟨h2,(he σ).1 h4⟩,h3⟩
theorem aUD{rs:List Int}{β:Bds}{u v:List Int}(hU:XT rs u)(hV:XT rs v)(hu:hd u<0)(hbu:β.getD (vIx (hd u)) default=[])(hbv:hd v<0->β.getD (vIx (hd v)) default=[])(hne:¬(hd u=hd v))(ho:mQ β (hd u) v)(P:(Int->List Int)->Prop):¬oS rs β λσ=>P σ/\ap σ u=ap σ v:=by
 rintro⟨σ,_,h2,_,h4⟩;have h5:σ (hd u)=ap σ v:=by
  have:=h4;rw[n5 hU hu,aEk (σ:=σ) hu] at this;have e:hd [hd u]=hd u:=rfl;first|exact this|(rw[e] at this;exact this)
 by_cases h0:0≤hd v
 ·exact aKZ hu hV h0 ho σ h2 h5
 ·obtain⟨z,hz,hz0,hr⟩:=ho;rw[n5 hV (by omega)] at hz;obtain rfl:=zN.1 hz;generalize ei:vIx (hd v)=i at hr;generalize ej:vIx (hd u)=j at hr;cases hr with
  | refl=>exact hne (wX hu hz0 (ej.trans ei.symm))
  | step he _ =>
   obtain⟨w,hw,_⟩:=he;rw[←ei,hbv hz0] at hw;cases hw
theorem aEH(rs:List Int):∀(c:Nat) (β:Bds),cnt β<c->BOK rs β->Acy β->∀ps:List (List Int×List Int),(∀p∈ps,XT rs p.1/\XT rs p.2)->∃n b,oH rs n β ps=some b/\(b=true↔oS rs β λσ=>lO σ ps)
 | 0,β,h,_,_,_,_=>by omega
 | c+1,β,h,hβ,hA,ps,hps=>by
  obtain⟨σ,hσ,hsat⟩:=aMU hβ hA;have main:∀(m:Nat) (ps:List (List Int×List Int)),wt σ ps≤m->(∀p∈ps,XT rs p.1/\XT rs p.2)->∃n b,oH rs n β ps=some b/\(b=true↔oS rs β λσ=>lO σ ps):=by
   intro m;induction m with
   | zero =>
    intro ps hm hp;rcases List.eq_nil_or_concat ps with rfl|⟨qs,p,rfl⟩
    ·exact⟨1,true,rfl,Iff.intro (λ_=>⟨σ,hσ,hsat,λp hp=>(by cases hp)⟩) (λ_=>rfl)⟩
    ·have h1:=(hp p (by simp)).1;have:=aMs hσ h1;rw[List.concat_eq_append,aN1] at hm;have h2:wt σ [p]=(ap σ p.1).length:=by simp[wt]
     omega
   | succ m ih =>
    intro ps hm hp;rcases List.eq_nil_or_concat ps with rfl|⟨qs,p,rfl⟩
    ·exact⟨1,true,rfl,Iff.intro (λ_=>⟨σ,hσ,hsat,λp hp=>(by cases hp)⟩) (λ_=>rfl)⟩
    rw[List.concat_eq_append] at hm hp ⊢;obtain⟨hp1,hp2⟩:=hp p (by simp);have hq:∀p∈qs,XT rs p.1/\XT rs p.2:=λp hp'=>hp p (by simp[hp']);obtain⟨u,u1,u2,u3,u4⟩:=qB hβ hA hp1;obtain⟨v,v1,v2,v3,v4⟩:=qB hβ hA hp2;have hwq:wt σ qs+(ap σ p.1).length≤m+1:=by
     rw[aN1] at hm;simpa[wt] using hm
    have hpos:=aMs hσ hp1;have step:∀n,oH rs (n+1) β (qs++[p])=if hd u=hd v/\hd u<0 then oH rs n β qs else if hd u<0 then (if tst (mQ β (hd u) v)=true then some false else oH rs n (β.set (vIx (hd u)) v) qs) else if hd v<0 then (if tst (mQ β (hd v) u)=true then some false else oH rs n (β.set (vIx (hd v)) u) qs) else if hd u≠hd v then some false else oH rs n β (qs++eC rs u v):=λn=>by
     conv=>lhs;unfold oH
     simp only[List.getLast?_append,List.getLast?_singleton,Option.some_or,u1,v1,List.dropLast_concat]
    have hU:(oS rs β λσ=>lO σ (qs++[p]))↔oS rs β λσ=>lO σ qs/\ap σ u=ap σ v:=oS.congr λτ h1 h2=>by rw[aOe,u4 τ h2,v4 τ h2]
    rw[hU];by_cases c1:hd u=hd v/\hd u<0
    ·obtain⟨n,b,h1,h2⟩:=ih qs (by omega) hq;refine⟨n+1,b,by rw[step,if_pos c1];exact h1,h2.trans (oS.congr λτ _ _=>?_)⟩;have e:u=v:=by rw[n5 u2 c1.2,n5 v2 (by omega),c1.1]
     rw[e];simp
    by_cases c2:hd u<0
    ·by_cases ho:mQ β (hd u) v
     ·refine⟨1,false,by rw[step,if_neg c1,if_pos c2,if_pos (b8 ho)],Iff.intro (λh=>(by cases h)) (λh=>?_)⟩;exact absurd h (aUD u2 v2 c2 (u3 c2) v3 (λe=>c1 ⟨e,c2⟩) ho _)
     ·obtain⟨b1,b2,b3,b4⟩:=nD hβ hA u2 v2 c2 (u3 c2) ho λσ=>lO σ qs;obtain⟨n,b,h1,h2⟩:=aEH rs c _ (by omega) b1 b2 qs hq;exact⟨n+1,b,by rw[step,if_neg c1,if_pos c2,if_neg (by rw[bV ho];simp)];exact h1,h2.trans b4⟩
    by_cases c3:hd v<0
    ·have hsw:(oS rs β λσ=>lO σ qs/\ap σ u=ap σ v)↔oS rs β λσ=>lO σ qs/\ap σ v=ap σ u:=oS.congr λτ _ _=>by rw[eq_comm (a:=ap τ u)]
     rw[hsw];by_cases ho:mQ β (hd v) u
     ·refine⟨1,false,by rw[step,if_neg c1,if_neg c2,if_pos c3,if_pos (b8 ho)],Iff.intro (λh=>(by cases h)) (λh=>?_)⟩;exact absurd h (aUD v2 u2 c3 (v3 c3) u3 (λe=>c1 ⟨e.symm,by omega⟩) ho _)
     ·obtain⟨b1,b2,b3,b4⟩:=nD hβ hA v2 u2 c3 (v3 c3) ho λσ=>lO σ qs;obtain⟨n,b,h1,h2⟩:=aEH rs c _ (by omega) b1 b2 qs hq;exact⟨n+1,b,by rw[step,if_neg c1,if_neg c2,if_pos c3,if_neg (by rw[bV ho];simp)];exact h1,h2.trans b4⟩
    by_cases c4:hd u=hd v
    ·have hpx:∀p∈qs++eC rs u v,XT rs p.1/\XT rs p.2:=λp hp'=>by
      rcases zP.1 hp' with hp'|hp'
      ·exact hq p hp'
      ·exact w9 u2 v2 c4 p hp'
     have hw2:=aVV (b:=v) (σ:=σ) u2 (by omega);rw[u4 σ hsat] at hw2;obtain⟨n,b,h1,h2⟩:=ih (qs++eC rs u v) (by rw[aN1];omega) hpx;refine⟨n+1,b,by rw[step,if_neg c1,if_neg c2,if_neg c3,if_neg (by simpa using c4)];exact h1,h2.trans (oS.congr λτ hτ _=>?_)⟩;rw[aSA];exact and_congr_right λ_=>(aPq hτ u2 v2 c4 (by omega)).symm
    ·refine⟨1,false,by rw[step,if_neg c1,if_neg c2,if_neg c3,if_pos c4],Iff.intro (λh=>(by cases h)) (λ⟨τ,hτ,_,_,h4⟩=>?_)⟩;rw[sI u2 (by omega),sI v2 (by omega)] at h4;exact absurd (List.cons.inj h4).1 c4
  exact main _ ps (zQ _) hps
theorem aQl{rs:List Int}{β:Bds}(hβ:BOK rs β)(hA:Acy β){a b:List Int}(ha:XT rs a)(hb:XT rs b):∃n r,oH rs n β [(a,b)]=some r/\(r=true↔oS rs β λσ=>ap σ a=ap σ b):=by
 obtain⟨n,r,h1,h2⟩:=aEH rs (cnt β+1) β (by omega) hβ hA [(a,b)] (λp hp=>by rw[zN] at hp;subst hp;exact⟨ha,hb⟩);exact⟨n,r,h1,h2.trans (oS.congr λσ _ _=>⟨λh=>h (a,b) (zN.2 rfl),λh p hp=>by rw[zN] at hp;subst hp;exact h⟩)⟩
noncomputable def uB(rs:List Int):Nat->Bds->List (List Int×List Int)->Option Bool
 | 0,_,_=>none
 | n+1,β,ps=>if 400000<ps.length then none else match ps.getLast? with
  | none=>some true
  | some p=>match dU β 60 p.1,dU β 60 p.2 with
   | some u,some v =>
    if hd u=hd v/\hd u<0 then uB rs n β ps.dropLast
    else if hd u<0 then (if tst (mQ β (hd u) v)=true then some false else uB rs n (β.set (vIx (hd u)) v) ps.dropLast)
    else if hd v<0 then (if tst (mQ β (hd v) u)=true then some false else uB rs n (β.set (vIx (hd v)) u) ps.dropLast)
    else if hd u≠hd v then some false
    else uB rs n β (ps.dropLast++eC rs u v)
   | _,_=>none
def rkL(r:Nat->Nat):List Int->Nat
 | []=>0
 | z::t=>max (if z<0 then r (vIx z)+1 else 0) (rkL r t)
theorem aIy{r:Nat->Nat}{k:Nat}:∀ {t:List Int},(∀z∈t,z<0->r (vIx z)+1≤k)->rkL r t≤k
 | [],_=>Nat.zero_le _
 | z::t,h=>by
  have h1:=h z (zH ..);have h2:=aIy (r:=r) λy hy=>h y (zG _ hy);unfold rkL;split<;>rename_i c
  ·have:=h1 c;omega
  ·omega
theorem aIX{r:Nat->Nat}:∀ {t:List Int} {z:Int},z∈t->z<0->r (vIx z)+1≤rkL r t
 | y::t,z,h,h0=>by
  unfold rkL;rcases zO.1 h with rfl|h
  ·rw[if_pos h0];omega
  ·have:=aIX (r:=r) h h0;omega
def mu(r:Nat->Nat)(t:List Int):Nat:=61*rkL r t+t.length
theorem aXY{rs:List Int}{r:Nat->Nat}(hr:∀i,r i≤48){t:List Int}(h:XT rs t):mu r t≤3049:=by
 have h1:=h.len;have h2:rkL r t≤49:=aIy λz _ _=>by have:=hr (vIx z);omega
 unfold mu;omega
theorem aXu{rs:List Int}{r:Nat->Nat}{u p:List Int}(h:XT rs u)(hp:p∈iA rs u):mu r p+1≤mu r u:=by
 have hf:=aFH h;have h1:∀z∈p,z∈u:=λz hz=>by
  rw[hf];exact zG _ (List.mem_flatten.2 ⟨p,hp,hz⟩)
 have h2:p.length+1≤u.length:=by
  rw[hf,List.length_cons];have:p.length≤(iA rs u).flatten.length:=(List.sublist_flatten_of_mem hp).length_le;omega
 have h3:rkL r p≤rkL r u:=aIy λz hz h0=>aIX (h1 z hz) h0;unfold mu;omega
theorem aPw{rs:List Int}{β:Bds}(hβ:BOK rs β){r:Nat->Nat}(hr:∀i j,Edge β i j->r j<r i):∀(g:Nat) {t u:List Int},XT rs t->dU β g t=some u->mu r u≤mu r t
 | 0,_,_,_,h=>by cases h
 | g+1,t,u,hT,h=>by
  unfold dU at h;split at h
  ·rename_i c;have hc1:hd t<0:=c.1;have hX:=hβ.get c.2;have ih:=aPw hβ hr g hX h;have hl:=hX.len;have h2:rkL r (β.getD (vIx (t.getD 0 default)) default)≤r (vIx (hd t)):=aIy λz hz h0=>hr _ _ ⟨z,hz,h0,rfl⟩;have h3:r (vIx (hd t))+1≤rkL r t:=by
    exact aIX (aX t 0 (by have:=hT.len;omega)) hc1
   have h4:=hT.len;unfold mu at *;omega
  ·obtain rfl:=zA h;exact zQ _
theorem aC3{rs u v:List Int}(h:XT rs u):(eC rs u v).length≤3:=by
 have hl:=h.len;have hlen:=e7 u;have hlo:=h.1.low (a:=0) (by omega);have:(eC rs u v).length=(arS rs ((bL u).getD 0 default)).toNat:=by simp[eC,dN,fE]
 rw[this];omega
def StI(β:Bds)(ps:List (List Int×List Int)):Prop:=∃(r:Nat->Nat) (C:Nat),(∀i j,Edge β i j->r j<r i)/\(∀i,r i≤48)/\C+6098*cnt β≤6098*50/\∀(j:Nat) (p:List Int×List Int),ps[j]?=some p->2*mu r p.1+j≤C
theorem StI.len{β:Bds}{ps:List (List Int×List Int)}(h:StI β ps):ps.length≤304901:=by
 obtain⟨r,C,_,_,h3,h4⟩:=h;rcases Nat.eq_zero_or_pos ps.length with h0|h0
 ·omega
 ·have:=h4 (ps.length-1) _ (zB (by omega));omega
theorem StI.pop{β:Bds}{qs:List (List Int×List Int)}{p:List Int×List Int}(h:StI β (qs++[p])):StI β qs:=by
 obtain⟨r,C,h1,h2,h3,h4⟩:=h;exact⟨r,C,h1,h2,h3,λj q hj=>h4 j q (by rw[zL (zE.1 hj).1];exact hj)⟩
theorem StI.bind{rs:List Int}{β β':Bds}{qs:List (List Int×List Int)}(h:StI β qs)(hβ:BOK rs β')(hA:Acy β')(hc:cnt β'<cnt β)(hX:∀p∈qs,XT rs p.1/\XT rs p.2):StI β' qs:=by
 obtain⟨r',h1',h2'⟩:=vR hβ hA;have hl:qs.length≤304901:=h.len;obtain⟨r,C,h1,h2,h3,h4⟩:=h;have hq:qs.length≤C+1:=by
  rcases Nat.eq_zero_or_pos qs.length with h0|h0
  ·omega
  ·have:=h4 (qs.length-1) _ (zB (by omega));omega
 refine⟨r',C+6098,h1',h2',by omega,λj p hj=>?_⟩;have hm:=aXY h2' (hX p (zF hj)).1;have:=(zE.1 hj).1;omega
theorem StI.parts{rs:List Int}{β:Bds}(hβ:BOK rs β){qs:List (List Int×List Int)}{p:List Int×List Int}(h:StI β (qs++[p]))(hT:XT rs p.1){u v:List Int}(hu:dU β 60 p.1=some u)(hU:XT rs u):StI β (qs++eC rs u v):=by
 obtain⟨r,C,h1,h2,h3,h4⟩:=h;refine⟨r,C,h1,h2,h3,λj q hj=>?_⟩;rcases Nat.lt_or_ge j qs.length with hl|hl
 ·exact h4 j q (by rw[zL hl] at hj ⊢;exact hj)
 ·rw[zM hl] at hj;have hj3:=(zE.1 hj).1;have h5:=aC3 (v:=v) hU;have hq:q.1∈iA rs u:=by
   rw[←nJ rs u v];exact zJ.2 ⟨q,zF hj,rfl⟩
  have h6:=aXu (r:=r) hU hq;have h7:=aPw hβ h1 60 hT hu;have h8:=h4 qs.length p (by simp);omega
theorem StI.start{rs:List Int}{β:Bds}(hβ:BOK rs β)(hA:Acy β){a b:List Int}(ha:XT rs a):StI β [(a,b)]:=by
 obtain⟨r,h1,h2⟩:=vR hβ hA;have hc:cnt β≤48:=by
  have:=List.length_filter_le (λx=>x.isEmpty) β;rw[hβ.1] at this;exact this
 refine⟨r,6098,h1,h2,by omega,λj p hj=>?_⟩;have hjl:=(zE.1 hj).1;have:p∈[(a,b)]:=zF hj;rw[zN] at this;subst this;have:=aXY h2 ha;simp at hjl;simp only;omega
theorem aMk(rs:List Int):∀(n:Nat) (β:Bds) (ps:List (List Int×List Int)) (b:Bool),BOK rs β->Acy β->(∀p∈ps,XT rs p.1/\XT rs p.2)->StI β ps->oH rs n β ps=some b->uB rs n β ps=some b
 | 0,_,_,_,_,_,_,_,h=>by cases h
 | n+1,β,ps,b,hβ,hA,hX,hI,h=>by
  have hlen:=hI.len;unfold oH at h;unfold uB;rw[if_neg (by omega)];rcases List.eq_nil_or_concat ps with rfl|⟨qs,p,rfl⟩
  ·exact h
  rw[List.concat_eq_append] at h hX hI ⊢;obtain⟨hp1,hp2⟩:=hX p (by simp);have hq:∀p∈qs,XT rs p.1/\XT rs p.2:=λp hp'=>hX p (by simp[hp']);obtain⟨u,u1,u2,u3,u4⟩:=qB hβ hA hp1;obtain⟨v,v1,v2,v3,v4⟩:=qB hβ hA hp2;simp only[List.getLast?_append,List.getLast?_singleton,Option.some_or,u1,v1,List.dropLast_concat] at h ⊢;have ih:=aMk rs n;by_cases c1:hd u=hd v/\hd u<0
  ·rw[if_pos c1] at h ⊢;exact ih β qs b hβ hA hq hI.pop h
  rw[if_neg c1] at h ⊢;by_cases c2:hd u<0
  ·rw[if_pos c2] at h ⊢;by_cases ho:mQ β (hd u) v
   ·rw[if_pos (b8 ho)] at h ⊢;exact h
   ·rw[if_neg (by rw[bV ho];simp)] at h ⊢;obtain⟨b1,b2,b3,_⟩:=nD hβ hA u2 v2 c2 (u3 c2) ho λ_=>True;exact ih _ qs b b1 b2 hq (hI.pop.bind b1 b2 b3 hq) h
  rw[if_neg c2] at h ⊢;by_cases c3:hd v<0
  ·rw[if_pos c3] at h ⊢;by_cases ho:mQ β (hd v) u
   ·rw[if_pos (b8 ho)] at h ⊢;exact h
   ·rw[if_neg (by rw[bV ho];simp)] at h ⊢;obtain⟨b1,b2,b3,_⟩:=nD hβ hA v2 u2 c3 (v3 c3) ho λ_=>True;exact ih _ qs b b1 b2 hq (hI.pop.bind b1 b2 b3 hq) h
  rw[if_neg c3] at h ⊢;by_cases c4:hd u=hd v
  ·rw[if_neg (by simpa using c4)] at h ⊢;refine ih β _ b hβ hA (λp hp'=>?_) (hI.parts hβ hp1 u1 u2) h;rcases zP.1 hp' with hp'|hp'
   ·exact hq p hp'
   ·exact w9 u2 v2 c4 p hp'
  ·rw[if_pos c4] at h ⊢;exact h
theorem aMW{rs:List Int}{β:Bds}(hβ:BOK rs β)(hA:Acy β){a b:List Int}(ha:XT rs a)(hb:XT rs b):∃n r,uB rs n β [(a,b)]=some r/\(r=true↔oS rs β λσ=>ap σ a=ap σ b):=by
 obtain⟨n,r,h1,h2⟩:=aQl hβ hA ha hb;exact⟨n,r,aMk rs n β _ r hβ hA (λp hp=>by rw[zN] at hp;subst hp;exact⟨ha,hb⟩) (StI.start hβ hA ha) h1,h2⟩
def aPU(rs c b:List Int):Prop:=oS rs b0 λσ=>ap σ c=ap σ (oZ b)
theorem aOa:Acy b0:=λi j h _=>by
 obtain⟨x,hx,_⟩:=h;rw[aYF] at hx;cases hx
theorem aRj{rs c b:List Int}(hc:XT rs c)(hb:aT rs b):∃n r,uB rs n b0 [(c,oZ b)]=some r/\(r=true↔aPU rs c b):=aMW (aLE rs) aOa hc (XT.away hb)
theorem aSm{rs c b:List Int}(hc:XT rs c)(hb:aT rs b):∃f r,eqM rs 60 f b0 c (oZ b)=some r/\(r.isSome=true↔aPU rs c b):=aUK (aLE rs) aOa hc (XT.away hb)
end
section
attribute [local irreducible] SW bA bC dM bZ FC dX aF5
noncomputable def mkO(x:SystemT)(t:List Int)(a:Nat):Int:=if t.getD a default<0 then 2 else if a=0 then 0 else if tst (aF5 x (t.getD a default))=true then 2 else 1
def aLZ:List (Nat×List Nat):=[(0,[1,2,3]),(1,[2,3,7]),(2,[2,3,7,12]),(3,[6]),(4,[3,7,15]),(5,[6]),(6,[18]),(7,[6]),(8,[6])]
attribute [go_sem] aLZ Tryz.results125 Tryz.ntmps125
theorem aSu(x:SystemT)(t:List Int)(a:Nat)(ha:a<t.length)(h:∀r∈x.rules,1≤r.l.length):FC S 125 [] [] [] [bR x,.sl .any (t.map (.int .i64)),.int .i64 a] (.int .i64 (mkO x t a)) [] []:=by
 have cD:=rC x (t.getD a default) h;unfold mkO;refine fcb Tryz.func125 λB=>?_;by_cases c1:t.getD a default<0
 ·rw[if_pos c1];repeat' first|exact h.elim|(exfalso;omega)|apply aG|refine aE 0 aLZ λK hK=>?_|refine aB ?_|refine aC ?_|(refine hK.n0 ?_;clear hK K)|refine aA rfl (λh=>?_) λh=>?_|with_reducible refine aH ?_|apply tTT
 rw[if_neg c1];by_cases c2:a=0
 ·rw[if_pos c2];repeat' first|exact h.elim|(exfalso;omega)|apply aG|refine aE 0 aLZ λK hK=>?_|refine aB ?_|refine aC ?_|(refine hK.n0 ?_;clear hK K)|refine aA rfl (λh=>?_) λh=>?_|with_reducible refine aH ?_|apply tTT
 rw[if_neg c2];by_cases c3:aF5 x (t.getD a default)
 ·rw[b8 c3] at cD ⊢;rw[if_pos rfl];repeat' first|exact h.elim|(exfalso;omega)|apply aG|refine aE 0 aLZ λK hK=>?_|refine aB ?_|refine aC ?_|(refine hK.n0 ?_;clear hK K)|refine aA rfl (λh=>?_) λh=>?_|refine hK.c1 rfl rfl rfl (cD) ?_|with_reducible refine aH ?_|apply tTT
 ·rw[bV c3] at cD ⊢;rw[if_neg (by decide)];repeat' first|exact h.elim|(exfalso;omega)|apply aG|refine aE 0 aLZ λK hK=>?_|refine aB ?_|refine aC ?_|(refine hK.n0 ?_;clear hK K)|refine aA rfl (λh=>?_) λh=>?_|refine hK.c1 rfl rfl rfl (cD) ?_|with_reducible refine aH ?_|apply tTT
end
section
attribute [local irreducible] SW bA bC dM bZ FC dX aF5 mkO
noncomputable def eR(x:SystemT)(t:List Int):Nat->Nat->Nat->List Int×Nat
 | 0,_,n=>([],n)
 | f+1,a,n=>if a<t.length then (if mkO x t a=2 then (-((n:Int)+1)::(eR x t f (eJ x.sig t a).toNat (n+1)).1,(eR x t f (eJ x.sig t a).toNat (n+1)).2) else (t.getD a default::(eR x t f (a+1) n).1,(eR x t f (a+1) n).2)) else ([],n)
theorem aR4(x:SystemT)(t:List Int)(a:Nat):mkO x t a=0∨mkO x t a=1∨mkO x t a=2:=by
 unfold mkO;split
 ·simp
 ·split
  ·simp
  ·split<;>simp
def aQc:List (Nat×List Nat):=[(0,[1,2]),(1,[1,2,6]),(2,[1,2,6,7]),(3,[1,2,6,7,8]),(4,[1,2,6,7,8,12]),(5,[1,2,6,7,8,16]),(6,[1,2,6,7,8,16,17]),(7,[1,2,6,7,8,16,19]),(8,[1,2,6,7,8,21]),(9,[1,2,6,7,8]),(10,[1,2,6,7,8]),(11,[1,2,6,7,8]),(12,[1,2,6,7,8]),(13,[1,2,6,7,8]),(14,[4,5])]
attribute [go_sem] aQc Tryz.results99 Tryz.ntmps99
theorem aSs(x:SystemT)(t:List Int)(hT:aT x.sig t)(h:∀r∈x.rules,1≤r.l.length):FC S 99 [] [] [] [bR x,.sl .any (t.map (.int .i64))] (.tup [.sl .any ((eR x t 60 0 0).1.map (.int .i64)),.bool (decide ((((eR x t 60 0 0).2:Nat):Int)≤24))]) [] []:=by
 have hl:=hT.2.1;generalize hR:eR x t 60 0 0=R;refine fcb Tryz.func99 λB=>?_;repeat' first|apply aG|refine aE 0 aQc λK hK=>?_|refine aB ?_|(refine hK.n0 ?_;clear hK K)|apply tTT
 refine eF 6 39000 2 1 rfl (.inl rfl) rfl ?_;simp only[go_sem];refine bG (ι:=Nat×Nat×Nat×List Int) (λq=>[(1,.sl .any (t.map (.int .i64))),(2,.box 2 0),(8,.int .i64 q.2.1),(7,.int .i64 q.2.2.1),(6,.sl (.own 39000 2 1) (q.2.2.2.map (.int .i64)))]) (λ_=>[]) (λ_=>[39000]) (λq=>(q.2.1≤t.length/\q.2.2.1≤q.2.1/\q.2.2.2.length≤q.2.1/\t.length≤q.2.1+q.1)/\q.2.2.2++(eR x t q.1 q.2.1 q.2.2.1).1=R.1/\(eR x t q.1 q.2.1 q.2.2.1).2=R.2) (λq=>t.length-q.2.1) (60,0,0,[]) cvA ⟨⟨by simp,by simp,by simp,by dsimp only;omega⟩,by dsimp only;rw[hR];rfl,by dsimp only;rw[hR]⟩ (λq hq=>?_);obtain⟨f,a,n,out⟩:=q;obtain⟨⟨h1,h2,h3,h4⟩,h5,h6⟩:=hq;dsimp only at h1 h2 h3 h4 h5 h6;simp only[go_sem];by_cases hal:a<t.length
 ·obtain⟨f,rfl⟩:∃g,f=g+1:=⟨f-1,by omega⟩;have he:=gQ hT hal;have cM:=aSu x t a hal h;have cE:=aAg .any .any x.sig t a hT.1 (λy hy=>hT.ge y hy) hl.2 (by omega);unfold eR at h5 h6;rw[if_pos hal] at h5 h6;rcases aR4 x t a with e|e|e
  ·rw[if_neg (by rw[e];decide)] at h5 h6;rw[e] at cM;repeat' first|exact h.elim|(refine kL 30000 39000 rfl rfl ?_;simp only[go_sem])|(exfalso;omega)|apply aG|refine aE 0 aQc λK hK=>?_|refine aB ?_|(refine hK.n0 ?_;clear hK K)|refine aA rfl (λh=>?_) λh=>?_|refine aJ rfl ?_|apply aF|refine hK.c1 rfl rfl rfl (cM) ?_|with_reducible refine aH ?_|apply tTT
   exact⟨(f,a+1,n,out++[t.getD a default]),cvA,⟨⟨by dsimp only;omega,by dsimp only;omega,by dsimp only;rw[zK,List.length_singleton];omega,by dsimp only;omega⟩,by dsimp only;rw[List.append_assoc];exact h5,h6⟩,by dsimp only;omega⟩
  ·rw[if_neg (by rw[e];decide)] at h5 h6;rw[e] at cM;repeat' first|exact h.elim|(refine kL 30000 39000 rfl rfl ?_;simp only[go_sem])|(exfalso;omega)|apply aG|refine aE 0 aQc λK hK=>?_|refine aB ?_|(refine hK.n0 ?_;clear hK K)|refine aA rfl (λh=>?_) λh=>?_|refine aJ rfl ?_|apply aF|refine hK.c1 rfl rfl rfl (cM) ?_|with_reducible refine aH ?_|apply tTT
   exact⟨(f,a+1,n,out++[t.getD a default]),cvA,⟨⟨by dsimp only;omega,by dsimp only;omega,by dsimp only;rw[zK,List.length_singleton];omega,by dsimp only;omega⟩,by dsimp only;rw[List.append_assoc];exact h5,h6⟩,by dsimp only;omega⟩
  ·rw[if_pos e] at h5 h6;rw[e] at cM;repeat' first|exact h.elim|(exfalso;omega)|apply aG|refine aE 0 aQc λK hK=>?_|refine aB ?_|(refine hK.n0 ?_;clear hK K)|refine aA rfl (λh=>?_) λh=>?_|refine aJ rfl ?_|apply aF|refine hK.c1 rfl rfl rfl (cM) ?_|refine hK.c1 rfl rfl rfl (cE) ?_|with_reducible refine aH ?_|apply tTT
   exact⟨(f,(eJ x.sig t a).toNat,n+1,out++[-((n:Int)+1)]),(by(refine aD rfl rfl ?_ ?_ ?_ ?_<;>simp(disch:=apply aR;omega)only[go_sem]<;>(try omega));all_goals first|exact⟨by rw[Int.zero_sub],by omega,by omega⟩|trace_state),⟨⟨by dsimp only;omega,by dsimp only;omega,by dsimp only;rw[zK,List.length_singleton];omega,by dsimp only;omega⟩,by dsimp only;rw[List.append_assoc];exact h5,h6⟩,by dsimp only;omega⟩
 ·have hz:eR x t f a n=([],n):=by
   cases f with
   | zero=>rfl
   | succ f=>unfold eR;rw[if_neg hal]
  rw[hz] at h5 h6;dsimp only at h5 h6;rw[List.append_nil] at h5;repeat' first|exact h.elim|(exfalso;omega)|apply aG|refine aE 0 aQc λK hK=>?_|refine aB ?_|refine aC ?_|(refine hK.n0 ?_;clear hK K)|refine aA rfl (λh=>?_) λh=>?_|refine aJ rfl ?_|with_reducible refine aH ?_|apply tTT
  subst h6;first|rfl|exact⟨h5,rfl⟩|exact h5
end
end Go.Proofs.YtmfmgoceeedonaaGreat
