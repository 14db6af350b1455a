/-
  U01, U02, U03, U04, one behind the other.
-/
import Derived.Test.YtpennhjjnlkbiaaGreatG1
import Derived.Test.YtpennhjjnlkbiaaGreatLgK14
import Derived.Test.YtpennhjjnlkbiaaGreatLgK12
namespace Go.Proofs.YtpennhjjnlkbiaaGreat
open Go Go.Lg
set_option linter.unusedSimpArgs false
set_option linter.unusedVariables false
set_option maxHeartbeats 4000000
section
attribute [local irreducible] SW bC bE dE bU FC dO
def phi(n:Int):Int:=if n < -24 then n+24 else n
def bI(t:List Int):List Int:=t.map phi
theorem eJ(t:List Int):(bI t).length=t.length:=zC _
theorem lB(t:List Int)(i:Nat)(h:i<t.length):(bI t).getD i default=phi (t.getD i default):=by
 simp[bI,zD,h]
theorem aN2(n:Int)(h:-48≤n):phi n<0↔n<0:=by unfold phi;split<;>omega
theorem aBK{n:Int}(h:0≤n):phi n=n:=by unfold phi;rw[if_neg (by omega)]
theorem aUm{n:Int}(h:-48≤n):-24≤phi n:=by unfold phi;split<;>omega
def XT(rs t:List Int):Prop:=aX rs (bI t)/\∀x∈t,-48≤x
theorem XT.len{rs t:List Int}(h:XT rs t):1≤t.length/\t.length≤60:=by have:=h.1.2.1;rwa [eJ] at this
theorem XT.get{rs t:List Int}(h:XT rs t){a:Nat}(ha:a<t.length):-48≤t.getD a default/\t.getD a default<rs.length:=by
 have h1:=h.2 _ (bA t a ha)
 have h2:=(h.1.low (a:=a) (by rw[eJ];exact ha)).1
 rw[lB t a ha] at h2
 refine⟨h1,?_⟩
 have:=h2.2
 unfold phi at this
 split at this<;>omega
def oZ(rs t:List Int)(a:Nat):List Int:=(t.take (d7 rs (bI t) a).toNat).drop a
theorem aSQ(rs t:List Int)(a:Nat):bI (oZ rs t a)=dJ rs (bI t) a:=by simp[bI,oZ,dJ,List.map_drop,List.map_take]
theorem pT{rs t:List Int}(h:XT rs t){a:Nat}(ha:a<t.length):XT rs (oZ rs t a):=by
 refine⟨?_,λx hx=>h.2 x (List.mem_of_mem_take (List.mem_of_mem_drop hx))⟩
 rw[aSQ]
 exact nH h.1 (by rw[eJ];exact ha)
theorem aAV(tk:Tk)(rs:List Int)(n:Int)(hn:-48≤n/\n<rs.length):FC S 141 [] [] [] [.agg [.sl tk (rs.map (.int .i64))],.int .i64 n] (.int .i64 (arS rs (phi n))) [] []:=by
 refine aP Tryz.func141 rfl (by kernel_rfl) (by simp[Tryz.f141]) λB=>?_
 simp only[Tryz.ntmps141,aS,aZ,Nat.reduceAdd]
 refine bX 0 0 rfl rfl λhb0_0=>?_
 simp only[D.bnd,zC] at hb0_0
 repeat' first|apply aE|apply aJ|refine aI 0 aSK λK hK=>?_|((first|apply aD|refine aA (aO ?_)|apply aA);simp(disch:=apply aB;omega)only[go_sem,Tryz.results141])|(apply hK.nil;clear hK K;simp only[go_sem])|((first|refine aF rfl ?_ ?_)<;>intro h<;>try simp(disch:=apply aB;omega)only[go_sem] at h)|(with_reducible refine And.intro (by first|omega|(simp only[lens];omega)) ?_)|fail
 ·exact(iX (by unfold phi;split<;>omega)).symm
 ·rw[aBK (by omega),jZ (by omega)]
theorem aTO(id:Nat)(rs t:List Int)(a:Nat)(hs:eA rs)(ht:∀x∈t,-48≤x):FC S 162 [] [(id,[.sl .any (rs.map (.int .i64)),.sl .any (t.map (.int .i64)),.int .i64 a])] [] [.box id 0] (.int .i64 (nxS rs (bI t) a)) [(id,[.sl .any (rs.map (.int .i64)),.sl .any (t.map (.int .i64)),.int .i64 ((if nxS rs (bI t) a<0 then a else a+1:Nat):Int)])] []:=by
 have hx:a<t.length->-48≤t.getD a default:=λh=>ht _ (bA t a h)
 have hp:=lB t a
 have hlen:=eJ t
 have hneg:=aN2 (t.getD a default)
 have hpos:=@aBK (t.getD a default)
 refine aP Tryz.func162 rfl (by kernel_rfl) (by simp[Tryz.f162]) λB=>?_
 simp only[Tryz.ntmps162,aS,aZ,Nat.reduceAdd]
 refine o9 id 1 (if_pos rfl) rfl λhbid_1=>?_
 simp only[D.bnd,zC] at hbid_1
 repeat' first|apply aE|apply aJ|refine aI 0 aIN λK hK=>?_|refine aY aIN (by kernel_rfl) λK hK=>?_|((first|apply aD|apply aK|refine aA (aO ?_)|apply aA);simp(disch:=apply aB;omega)only[go_sem,Tryz.results162])|(apply hK.nil;clear hK K;simp only[go_sem])|((first|refine aH rfl rfl rfl rfl rfl ?_ ?_|refine aN rfl rfl rfl rfl rfl ?_ ?_|refine aF rfl ?_ ?_)<;>intro h<;>try simp(disch:=apply aB;omega)only[go_sem] at h)|refine hK.c0 rfl rfl rfl (aAV _ _ _ ⟨by omega,by omega⟩) rfl rfl rfl ?_|(with_reducible refine And.intro (by first|omega|(simp only[lens];omega)) ?_)|fail
 ·have e:nxS rs (bI t) a=-1:=if_neg (by omega)
  simp[e]
 ·have e:nxS rs (bI t) a=-1:=by rw[nxS,if_pos (by omega),hp (by omega),hpos (by omega),aC7 (by omega) (by omega)]
  simp[e]
 ·have e:nxS rs (bI t) a=arS rs (phi (t.getD a default)):=by rw[nxS,if_pos (by omega),hp (by omega)]
  have h0:0≤arS rs (phi (t.getD a default)):=by
   by_cases hn:t.getD a default<0
   ·rw[iX (by unfold phi;split<;>omega)];omega
   ·rw[hpos (by omega),jZ (by omega)];exact(hs.2 _ (by omega)).1
  rw[if_neg (by omega)]
  exact⟨e.symm,by simp⟩
theorem aT8(id:Nat)(rs t:List Int)(a:Nat)(hs:eA rs)(ht:∀x∈t,-48≤x)(hl:t.length≤60):FC S 153 [] [(id,[.sl .any (rs.map (.int .i64)),.sl .any (t.map (.int .i64)),.int .i64 a])] [] [.box id 0] (.bool (jQ rs ((bI t).drop a) 1 a).2) [(id,[.sl .any (rs.map (.int .i64)),.sl .any (t.map (.int .i64)),.int .i64 (jQ rs ((bI t).drop a) 1 a).1])] []:=by
 have hlen:=eJ t
 refine aP Tryz.func153 rfl (by kernel_rfl) (by simp[Tryz.f153]) λB=>?_
 simp only[Tryz.ntmps153,aS,aZ,Nat.reduceAdd]
 refine o9 id 1 (if_pos rfl) rfl λhbid_1=>?_
 simp only[D.bnd,zC] at hbid_1
 repeat' first|apply aE|apply aG|refine aI 0 aI8 λK hK=>?_|((first|apply aD|refine aA (aO ?_)|apply aA);simp(disch:=apply aB;omega)only[go_sem,Tryz.results153])|(apply hK.nil;clear hK K;simp only[go_sem])|fail
 refine bB (ι:=Nat×Int) (λp=>[(3,.int .i64 p.2)]) (λp=>[(id,[.sl .any (rs.map (.int .i64)),.sl .any (t.map (.int .i64)),.int .i64 p.1])]) (λp=>(a≤p.1/\((1≤p.2/\jQ rs ((bI t).drop a) 1 a=jQ rs ((bI t).drop p.1) p.2 p.1)∨(p.2=0/\jQ rs ((bI t).drop a) 1 a=(p.1,true))))/\p.2≤1+3*p.1) (λp=>t.length-p.1) (a,1) (by(refine aC rfl rfl ?_ ?_ ?_ ?_<;>simp(disch:=apply aB;omega)only[go_sem]<;>(try omega))) ?_ (λp hp=>?_)
 rotate_left
 simp only[go_sem]
 obtain⟨i,need⟩:=p
 obtain⟨⟨h1,h2⟩,h4⟩:=hp
 dsimp only at h1 h2 h4
 have hr:=sA hs ((bI t).getD i default)
 have hn:nxS rs (bI t) i≤3:=by unfold nxS;split<;>omega
 have hb:i<(bI t).length->jQ rs ((bI t).drop i) need i=_:=aEt rs (bI t) need i
 repeat' first|apply aE|apply aG|apply aM|apply aJ|refine aI 0 aI8 λK hK=>?_|((first|apply aD|refine aA (aO ?_)|apply aA);simp(disch:=apply aB;omega)only[go_sem,Tryz.results153])|(apply hK.nil;clear hK K;simp only[go_sem])|((first|refine aF rfl ?_ ?_)<;>intro h<;>try simp(disch:=apply aB;omega)only[go_sem] at h)|refine aT rfl ?_|apply aL|(refine hK.callB rfl rfl rfl (aTO id rs t i hs ht) ⟨⟨by simp only[Nat.reduceLT],(by first|(simp;all_goals fail)|(simp[LS.getBox,Lg.look];all_goals fail)),by(simp[Lg.look];all_goals fail),by(simp;all_goals fail),by(simp;all_goals fail)⟩,⟨by(simp[D.ids,D.idsL];all_goals fail),by(simp[D.ids,D.idsL];all_goals fail),by(simp[D.tks,D.tksL];all_goals fail),by(simp[D.tks,D.tksL];all_goals fail),by(simp;all_goals fail)⟩,rfl⟩ ?_;simp(disch:=apply aB;omega)only[go_sem])|fail
 ·have e:i<t.length->nxS rs (bI t) i=arS rs ((bI t).getD i default):=λh=>if_pos (by omega)
  rcases h2 with⟨h2,h3⟩|⟨h2,h3⟩
  ·rw[h3]
   by_cases hi:i<t.length
   ·rw[hb (by omega),if_pos (by rw[←e hi];assumption),if_pos (by assumption)];simp
   ·rw[aKv rs (bI t) need i (by omega),if_pos (by assumption)];simp
  ·omega
 ·have hi:i<t.length:=by
   by_cases hi:i<t.length
   ·exact hi
   ·have:nxS rs (bI t) i=-1:=if_neg (by omega)
    omega
  have e:nxS rs (bI t) i=arS rs ((bI t).getD i default):=if_pos (by omega)
  refine⟨(i+1,need+nxS rs (bI t) i-1),(by(refine aC rfl rfl ?_ ?_ ?_ ?_<;>simp(disch:=apply aB;omega)only[go_sem]<;>(try omega));rw[if_neg (by omega)]),⟨⟨by omega,?_⟩,by omega⟩,by omega⟩
  rcases h2 with⟨h2,h3⟩|⟨h2,h3⟩
  ·rw[h3,hb (by omega),if_neg (by omega),←e]
   by_cases hz:need+nxS rs (bI t) i-1=0
   ·rw[if_pos hz];exact .inr ⟨hz,rfl⟩
   ·rw[if_neg hz];exact .inl ⟨by dsimp only;omega,rfl⟩
  ·omega
 ·rcases h2 with⟨h2,h3⟩|⟨h2,h3⟩
  ·omega
  ·rw[h3];simp
 ·exact⟨⟨by omega,.inl ⟨by omega,rfl⟩⟩,by omega⟩
theorem aFN(tk tk':Tk)(rs t:List Int)(a:Int)(hs:eA rs)(ht:∀x∈t,-48≤x)(hl:t.length≤60)(ha:0≤a):FC S 138 [] [] [] [.agg [.sl tk (rs.map (.int .i64))],.sl tk' (t.map (.int .i64)),.int .i64 a] (.int .i64 (d7 rs (bI t) a.toNat)) [] []:=by
 obtain⟨a,rfl⟩:=Int.eq_ofNat_of_zero_le ha
 refine FC.args (args':=[.agg [.sl .any (rs.map (.int .i64))],.sl .any (t.map (.int .i64)),.int .i64 a]) ?_ (by simp only[go_sem])
 refine aP Tryz.func138 rfl (by kernel_rfl) (by simp[Tryz.f138]) λB=>?_
 simp only[Tryz.ntmps138,aS,aZ,Nat.reduceAdd]
 repeat' first|apply aE|apply aJ|refine aI 0 aR4 λK hK=>?_|((first|apply aD|refine aA (aO ?_)|apply aA);simp(disch:=apply aB;omega)only[go_sem,Tryz.results138])|(apply hK.nil;clear hK K;simp only[go_sem])|((first|refine aF rfl ?_ ?_)<;>intro h<;>try simp(disch:=apply aB;omega)only[go_sem] at h)|(refine hK.callB rfl rfl rfl (aT8 7 rs t a hs ht hl) ⟨⟨by simp only[Nat.reduceLT],(by first|(simp;all_goals fail)|(simp[LS.getBox,Lg.look];all_goals fail)),by(simp[Lg.look];all_goals fail),by(simp;all_goals fail),by(simp;all_goals fail)⟩,⟨by(simp[D.ids,D.idsL];all_goals fail),by(simp[D.ids,D.idsL];all_goals fail),by(simp[D.tks,D.tksL];all_goals fail),by(simp[D.tks,D.tksL];all_goals fail),by(simp;all_goals fail)⟩,rfl⟩ ?_;simp(disch:=apply aB;omega)only[go_sem])|fail
 all_goals first|(rw[d7,aAF,h];rfl)
theorem sF(tk tk':Tk)(rs t:List Int)(a:Nat)(hT:XT rs t)(ha:a<t.length):FC S 120 [] [] [] [.agg [.sl tk (rs.map (.int .i64))],.sl tk' (t.map (.int .i64)),.int .i64 a] (.sl .any ((oZ rs t a).map (.int .i64))) [] []:=by
 have he:=fN hT.1 (a:=a) (by rw[eJ];exact ha)
 rw[eJ] at he
 have hl:=hT.len.2
 refine aP Tryz.func120 rfl (by kernel_rfl) (by simp[Tryz.f120]) λB=>?_
 simp only[Tryz.ntmps120,aS,aZ,Nat.reduceAdd]
 refine bZ 1 rfl λhb1=>?_
 simp only[D.bnd,zC] at hb1
 repeat' first|apply aE|refine aI 0 aRz λK hK=>?_|((first|apply aD|refine aA (aO ?_)|apply aA);simp(disch:=apply aB;omega)only[go_sem,Tryz.results120])|(apply hK.nil;clear hK K;simp only[go_sem])|refine hK.c0 rfl rfl rfl (aFN _ _ rs t a hT.1.1 hT.2 hl (by omega)) rfl rfl rfl ?_|(with_reducible refine And.intro (by first|omega|(simp only[lens];omega)) ?_)|fail
 rfl
theorem pG(tk tk':Tk)(rs t:List Int)(a:Nat)(hT:XT rs t)(ha:a<t.length):FC S 121 [] [] [] [.agg [.sl tk (rs.map (.int .i64))],.sl tk' (t.map (.int .i64)),.int .i64 a] (.sl .any ((dD rs (bI t) a).map aGU)) [] []:=by
 have hl:=hT.len.2
 have ha':a<(bI t).length:=by rw[eJ];exact ha
 have hlo:=hT.1.low ha'
 have hg:=hT.get ha
 obtain⟨n,hn⟩:∃n:Nat,arS rs ((bI t).getD a default)=n:=⟨(arS rs ((bI t).getD a default)).toNat,by omega⟩
 have hlt:∀j<n,a<dQ rs (bI t) (a+1) j/\dQ rs (bI t) (a+1) j<(bI t).length:=λj hj=>nJ hT.1 ha' (by omega)
 have hle:∀j≤n,a<dQ rs (bI t) (a+1) j/\dQ rs (bI t) (a+1) j≤(bI t).length:=λj hj=>aBM hT.1 ha' (by omega)
 unfold dD
 have hn2:=hn
 rw[lB t a ha] at hn2
 rw[hn,Int.toNat_natCast]
 have hlen:=eJ t
 refine FC.args (args':=[.agg [.sl .any (rs.map (.int .i64))],.sl .any (t.map (.int .i64)),.int .i64 a]) ?_ (by simp only[go_sem])
 refine aP Tryz.func121 rfl (by kernel_rfl) (by simp[Tryz.f121]) λB=>?_
 simp only[Tryz.ntmps121,aS,aZ,Nat.reduceAdd]
 refine bZ 1 rfl λhb1=>?_
 simp only[D.bnd,zC] at hb1
 repeat' first|apply aE|apply aG|refine aI 0 aDt λK hK=>?_|refine aY aDt (by kernel_rfl) λK hK=>?_|((first|apply aD|apply aK|refine aA (aO ?_)|apply aA);simp(disch:=apply aB;omega)only[go_sem,Tryz.results121])|(apply hK.nil;clear hK K;simp only[go_sem])|refine hK.c0 rfl rfl rfl (aAV _ rs _ hg) rfl rfl rfl ?_|(with_reducible refine And.intro (by first|omega|(simp only[lens];omega)) ?_)|fail
 rw[hn2]
 refine dW 7 26000 3 1 rfl (.inl rfl) rfl ?_
 simp only[go_sem]
 refine bG (ι:=Nat) (λj=>[(9,.int .i64 (n-j:Int)),(8,.int .i64 (dQ rs (bI t) (a+1) j)),(7,.sl (.own 26000 3 1) ((vG rs (bI t) j (a+1)).map aGU))]) (λ_=>[]) (λ_=>[26000]) (λj=>j≤n) (λj=>n-j) 0 (by(refine aC rfl rfl ?_ ?_ ?_ ?_<;>simp(disch:=apply aB;omega)only[go_sem]<;>(try omega));simp[dQ,vG]) (by omega) (λj hj=>?_)
 simp only[go_sem]
 have hb:=eM rs (bI t) j (a+1)
 have h3:=hle j hj
 have h4:=hlt j
 have h5:j<n->((d7 rs (bI t) (dQ rs (bI t) (a+1) j)).toNat:Int)=d7 rs (bI t) (dQ rs (bI t) (a+1) j):=λhj=>by have:=fN hT.1 (h4 hj).2;omega
 repeat' first|apply aE|apply aG|apply aM|apply aJ|refine aI 0 aDt λK hK=>?_|((first|apply aD|apply aK|refine aA (aO ?_)|apply aA);simp(disch:=apply aB;omega)only[go_sem,Tryz.results121])|(apply hK.nil;clear hK K;simp only[go_sem])|((first|refine aF rfl ?_ ?_)<;>intro h<;>try simp(disch:=apply aB;omega)only[go_sem] at h)|refine aT rfl ?_|apply aL|refine hK.c0 rfl rfl rfl (aFN _ _ rs t (dQ rs (bI t) (a+1) j) hT.1.1 hT.2 hl (by omega)) rfl rfl rfl ?_|(with_reducible refine And.intro (by first|omega|(simp only[lens];omega)) ?_)|fail
 ·refine⟨j+1,(by(refine aC rfl rfl ?_ ?_ ?_ ?_<;>simp(disch:=apply aB;omega)only[go_sem]<;>(try omega));have:=h5 (by omega);simp only[dQ,yA,List.map_append,List.map_cons,List.map_nil,aGU];exact⟨trivial,this.symm,by omega⟩),by omega,by omega⟩
 ·rw[show j=n by omega]
end
section
attribute [local irreducible] SW bC bE dE bU FC dO
def bD(x:List Int):D:=if x=[] then .sl .nil [] else .sl .any (x.map (.int .i64))
theorem rF:bD []=.sl .nil []:=rfl
theorem nO{x:List Int}(h:x≠[]):bD x=.sl .any (x.map (.int .i64)):=if_neg h
def uC(rs:List Int)(β:List (List Int)):List D:=.sl .any (rs.map (.int .i64))::β.map bD
def BOK(rs:List Int)(β:List (List Int)):Prop:=β.length=48/\∀x∈β,x=[]∨XT rs x
def vIx(n:Int):Nat:=(-1-n).toNat
def dG(β:List (List Int)):Nat->List Int->Option (List Int)
 | 0,_=>none
 | f+1,t=>if t.getD 0 default<0/\β.getD (vIx (t.getD 0 default)) default≠[] then dG β f (β.getD (vIx (t.getD 0 default)) default) else some t
theorem BOK.get{rs:List Int}{β:List (List Int)}(h:BOK rs β){i:Nat}(hi:β.getD i default≠[]):XT rs (β.getD i default):=by
 by_cases hl:i<β.length
 ·exact(h.2 _ (bA β i hl)).resolve_left hi
 ·exact absurd (by rw[zD,List.getElem?_eq_none (by omega)];rfl) hi
theorem XT.ne{rs t:List Int}(h:XT rs t):t≠[]:=by
 rintro rfl
 have:=h.len
 simp at this
theorem aGA(rs:List Int){β:List (List Int)}(hl:β.length=48){i:Nat}(hi:i<48):(List.drop (1+i) (D.sl .any (rs.map (.int .i64))::β.map bD)).head?=some (bD (β.getD i default)):=by
 rw[Nat.add_comm,List.drop_succ_cons,←List.map_drop,List.head?_map,List.head?_drop,zD,zB (by omega)]
 rfl
theorem aXH(x:List Int):(bD x).ids=[]:=by unfold bD;split<;>rfl
theorem b9(k:IntKind)(ys:List Int):D.tksL (ys.map (D.int k))=[]:=by
 induction ys with
 | nil=>rfl
 | cons y r ih=>simp[D.tksL,D.tks,ih]
theorem aXz(x:List Int):(bD x).tks=[]:=by
 unfold bD;split
 ·rfl
 ·simp[D.tks,b9]
theorem eO(β:List (List Int)):D.idsL (β.map bD)=[]:=by
 induction β with
 | nil=>rfl
 | cons y r ih=>simp[D.idsL,aXH,ih]
theorem dY(β:List (List Int)):D.tksL (β.map bD)=[]:=by
 induction β with
 | nil=>rfl
 | cons y r ih=>simp[D.tksL,aXz,ih]
theorem dB(p:Nat->Bool)(ys:List Int):((ys.map (D.int .i64)).all λd=>d.puOk p)=true:=by
 rw[List.all_map]
 exact List.all_eq_true.2 λ_ _=>rfl
theorem eW(p:Nat->Bool)(β:List (List Int)):((β.map bD).all λd=>d.puOk p)=true:=by
 rw[List.all_map]
 refine List.all_eq_true.2 λx _=>?_
 show (bD x).puOk p=true
 unfold bD;split
 ·rfl
 ·simp[D.puOk,D.pu,D.pu1,D.tks,b9]
theorem c9(ys:List Bool):D.tksL (ys.map D.bool)=[]:=by
 induction ys with
 | nil=>rfl
 | cons y r ih=>simp[D.tksL,D.tks,ih]
theorem dF(ys:List Bool):D.idsL (ys.map D.bool)=[]:=by
 induction ys with
 | nil=>rfl
 | cons y r ih=>simp[D.idsL,D.ids,ih]
theorem dL(p:Nat->Bool)(ys:List Bool):((ys.map D.bool).all λd=>d.puOk p)=true:=by
 rw[List.all_map]
 exact List.all_eq_true.2 λ_ _=>rfl
theorem aQG(k:Nat)(ys:List Bool):D.shTL k (ys.map D.bool)=ys.map D.bool:=by
 induction ys with
 | nil=>rfl
 | cons y r ih=>simp[D.shTL,D.shT,ih]
theorem aXI(k:Nat)(x:List Int):(bD x).shT k=bD x:=by
 unfold bD;split
 ·rfl
 ·rfl
theorem aUw(k:Nat)(β:List (List Int)):D.shTL k (β.map bD)=β.map bD:=by
 induction β with
 | nil=>rfl
 | cons y r ih=>simp[D.shTL,aXI,ih]
attribute [go_sem] aQG aUw eO dY dF c9
attribute [local irreducible] bD
def aB6:List (Nat×List Nat):=[(0,[0,1]),(1,[0,1,20]),(2,[0,1]),(3,[4])]
attribute [go_sem] aB6
theorem eX(id:Nat)(rs:List Int)(β:List (List Int))(hβ:BOK rs β)(f:Nat)(t r:List Int)(hr:dG β f t=some r)(hT:XT rs t):FC S 154 [(id,uC rs β)] [] [] [.box id 0,.sl .any (t.map (.int .i64))] (.sl .any (r.map (.int .i64))) [] []:=by
 have hlb:=hβ.1
 unfold uC
 refine aP Tryz.func154 rfl (by kernel_rfl) (by simp[Tryz.f154]) λB=>?_
 simp only[Tryz.ntmps154,aS,aZ,Nat.reduceAdd]
 repeat' first|apply aE|apply aG|refine aI 0 aB6 λK hK=>?_|((first|apply aD|apply aK|refine aA (aO ?_)|apply aA);simp(disch:=apply aB;omega)only[go_sem,Tryz.results154])|(apply hK.nil;clear hK K;simp only[go_sem])|fail
 refine bB (ι:=Nat×List Int) (λp=>[(1,.sl .any (p.2.map (.int .i64)))]) (λp=>[]) (λp=>dG β p.1 p.2=some r/\XT rs p.2) (λp=>p.1) (f,t) (by(refine aC rfl rfl ?_ ?_ ?_ ?_<;>simp(disch:=apply aB;omega)only[go_sem]<;>(try omega))) ?_ (λp hp=>?_)
 rotate_left
 simp only[go_sem]
 obtain⟨k,u⟩:=p
 obtain⟨h1,h2⟩:=hp
 dsimp only at h1 h2
 rcases k with _|k
 ·cases h1
 have hg:=h2.get (a:=0) (by have:=h2.len;omega)
 have hl:=h2.len
 by_cases hv:u.getD 0 default<0
 ·obtain⟨m,hm,hm8⟩:∃m:Nat,u.getD 0 default=-1-(m:Int)/\m<48:=⟨vIx (u.getD 0 default),by unfold vIx;omega,by unfold vIx;omega⟩
  have hix:vIx (u.getD 0 default)=m:=by unfold vIx;omega
  unfold dG at h1
  rw[hix] at h1
  by_cases hb:β.getD m default=[]
  ·rw[if_neg (by rintro⟨_,h⟩;exact h hb)] at h1
   obtain rfl:=zA h1
   have hrd:=aGA rs hlb (i:=(-1-u.getD 0 default).toNat) (by omega)
   rw[show (-1-u.getD 0 default).toNat=m from hix,hb,rF] at hrd
   rw[←show (-1-u.getD 0 default).toNat=m from hix] at hrd
   repeat' first|((exfalso;omega))|((rw[hrd];simp only[go_sem]))|apply aE|refine aI 0 aB6 λK hK=>?_|refine aY aB6 (by kernel_rfl) λK hK=>?_|((first|apply aD|apply aK|refine aA (aO ?_)|apply aA);simp(disch:=apply aB;omega)only[go_sem,Tryz.results154])|(apply hK.nil;clear hK K;simp only[go_sem])|((first|refine aH rfl rfl rfl rfl rfl ?_ ?_|refine aN rfl rfl rfl rfl rfl ?_ ?_|refine aF rfl ?_ ?_)<;>intro h<;>try simp(disch:=apply aB;omega)only[go_sem] at h)|refine aT rfl ?_|(with_reducible refine And.intro (by first|omega|(simp only[lens];omega)) ?_)|fail
   all_goals trace_state
  ·rw[if_pos ⟨hv,hb⟩] at h1
   have hrd:=aGA rs hlb (i:=(-1-u.getD 0 default).toNat) (by omega)
   rw[show (-1-u.getD 0 default).toNat=m from hix,nO hb] at hrd
   rw[←show (-1-u.getD 0 default).toNat=m from hix] at hrd
   have hb2:(β.getD (-1-u.getD 0 default).toNat default).map (D.int .i64)≠[]:=by rw[show (-1-u.getD 0 default).toNat=m from hix];simpa using hb
   repeat' first|((exfalso;omega))|((rw[hrd];simp only[go_sem]))|((refine⟨hb2,?_⟩))|apply aE|apply aG|apply aM|apply aJ|refine aY aB6 (by kernel_rfl) λK hK=>?_|((first|apply aD|apply aK|refine aA (aO ?_)|apply aA);simp(disch:=apply aB;omega)only[go_sem,Tryz.results154])|(apply hK.nil;clear hK K;simp only[go_sem])|((first|refine aH rfl rfl rfl rfl rfl ?_ ?_|refine aN rfl rfl rfl rfl rfl ?_ ?_|refine aF rfl ?_ ?_)<;>intro h<;>try simp(disch:=apply aB;omega)only[go_sem] at h)|apply aL|(with_reducible refine And.intro (by first|omega|(simp only[lens];omega)) ?_)|fail
   exact⟨(k,β.getD (-1-u.getD 0 default).toNat default),(by(refine aC rfl rfl ?_ ?_ ?_ ?_<;>simp(disch:=apply aB;omega)only[go_sem]<;>(try omega))),⟨by rw[show (-1-u.getD 0 default).toNat=m from hix];exact h1,by rw[show (-1-u.getD 0 default).toNat=m from hix];exact hβ.get hb⟩,by simp⟩
 ·unfold dG at h1
  rw[if_neg (by rintro⟨h,_⟩;exact hv h)] at h1
  obtain rfl:=zA h1
  repeat' first|((exfalso;omega))|apply aE|refine aI 0 aB6 λK hK=>?_|refine aY aB6 (by kernel_rfl) λK hK=>?_|((first|apply aD|apply aK|refine aA (aO ?_)|apply aA);simp(disch:=apply aB;omega)only[go_sem,Tryz.results154])|(apply hK.nil;clear hK K;simp only[go_sem])|((first|refine aH rfl rfl rfl rfl rfl ?_ ?_|refine aN rfl rfl rfl rfl rfl ?_ ?_|refine aF rfl ?_ ?_)<;>intro h<;>try simp(disch:=apply aB;omega)only[go_sem] at h)|refine aT rfl ?_|(with_reducible refine And.intro (by first|omega|(simp only[lens];omega)) ?_)|fail
 ·exact⟨hr,hT⟩
end
section
attribute [local irreducible] SW bC bE dE bU FC dO bD
def aDM(β:List (List Int))(n:Int)(rec:List Int->List Bool->Option (Bool×List Bool)):List Int->List Bool->Option (Bool×List Bool)
 | [],s=>some (false,s)
 | m::r,s =>
  if m=n then some (true,s)
  else if 0≤m∨s.getD (vIx m) default=true then aDM β n rec r s
  else if β.getD (vIx m) default=[] then aDM β n rec r (s.set (vIx m) true)
  else match rec (β.getD (vIx m) default) (s.set (vIx m) true) with
   | none=>none
   | some (true,s')=>some (true,s')
   | some (false,s')=>aDM β n rec r s'
def tX(β:List (List Int))(n:Int):Nat->List Int->List Bool->Option (Bool×List Bool)
 | 0,_,_=>none
 | f+1,t,s=>aDM β n (tX β n f) t s
theorem wH{β:List (List Int)}{n:Int}{rec:List Int->List Bool->Option (Bool×List Bool)}(hrec:∀t s q,rec t s=some q->q.2.length=s.length):∀t s q,aDM β n rec t s=some q->q.2.length=s.length
 | [],s,q,h=>by obtain rfl:=zA h;rfl
 | m::r,s,q,h=>by
  unfold aDM at h
  split at h
  ·obtain rfl:=zA h;rfl
  ·split at h
   ·exact wH hrec r s q h
   ·split at h
    ·rw[wH hrec r _ q h,List.length_set]
    ·split at h
     ·cases h
     ·rename_i s' hq;obtain rfl:=zA h
      have:=hrec _ _ _ hq;rw[List.length_set] at this;exact this
     ·rename_i s' hq
      have:=hrec _ _ _ hq
      rw[wH hrec r _ q h];rw[List.length_set] at this;exact this
theorem aJQ{β:List (List Int)}{n:Int}:∀f t s q,tX β n f t s=some q->q.2.length=s.length
 | 0,_,_,_,h=>by cases h
 | f+1,t,s,q,h=>wH (aJQ f) t s q h
theorem aHH(ys:List Bool)(i:Nat)(x:Bool):(ys.map D.bool).set i (.bool x)=(ys.set i x).map D.bool:=by rw[List.map_set]
attribute [go_sem] aHH
def xC:List (Nat×List Nat):=[(0,[0,1,2,3]),(1,[0,1,3,12,13,14]),(2,[0,1,3,12,13,14,15]),(3,[0,1,3,10,12,13,14]),(4,[0,1,3,10,12,13,14,20]),(5,[8]),(6,[0,1,3,10,12,13,14,30]),(7,[0,1,3,10,12,13,14]),(8,[0,1,3,11,12,13,14]),(9,[0,1,3,12,13,14,51]),(10,[8]),(11,[0,1,3,12,13,14]),(12,[8])]
attribute [go_sem] xC
theorem sP(id:Nat)(rs:List Int)(β:List (List Int))(hβ:BOK rs β)(n:Int):∀(f:Nat) (t:List Int) (s:List Bool) (q:Bool×List Bool),tX β n f t s=some q->XT rs t->s.length=48->FC S 155 [(id+1000,uC rs β)] [(64,s.map .bool)] [] [.box (id+1000) 0,.int .i64 n,.sl .any (t.map (.int .i64)),.box 64 0] (.bool q.1) [(64,q.2.map .bool)] []:=by
 have hlb:=hβ.1
 unfold uC
 intro f
 induction f with
 | zero=>intro t s q h;cases h
 | succ f ih =>
  intro t s q hq hT hs
  have hq:aDM β n (tX β n f) t s=some q:=hq
  have hTl:=hT.len
  refine aP Tryz.func155 rfl (by kernel_rfl) (by simp[Tryz.f155]) λB=>?_
  simp only[Tryz.ntmps155,aS,aZ,Nat.reduceAdd]
  repeat' first|apply aE|apply aG|refine aI 0 xC λK hK=>?_|((first|apply aD|refine aA (aO ?_)|apply aA);simp(disch:=apply aB;omega)only[go_sem,Tryz.results155])|(apply hK.nil;clear hK K;simp only[go_sem])|fail
  refine bB (ι:=Nat×List Bool) (λp=>[(14,.int .i64 p.1)]) (λp=>[(64,p.2.map .bool)]) (λp=>(p.1≤t.length/\p.2.length=48)/\aDM β n (tX β n f) (t.drop p.1) p.2=some q) (λp=>t.length-p.1) (0,s) (by(refine aC rfl rfl ?_ ?_ ?_ ?_<;>simp(disch:=apply aB;omega)only[go_sem]<;>(try omega))) ?_ (λp hp=>?_)
  rotate_left
  simp only[go_sem]
  obtain⟨i,u⟩:=p
  obtain⟨⟨hi,hu⟩,h2⟩:=hp
  dsimp only at hi hu h2
  by_cases hil:i<t.length
  ·rw[List.drop_eq_getElem_cons hil,show t[i]=t.getD i default by simp[zD,hil]] at h2
   have hg:=hT.get hil
   unfold aDM at h2
   by_cases hn:t.getD i default=n
   ·rw[if_pos hn] at h2
    obtain rfl:=zA h2
    repeat' first|((exfalso;omega))|apply aE|apply aG|apply aJ|refine aI 0 xC λK hK=>?_|((first|apply aD|refine aA (aO ?_)|apply aA);simp(disch:=apply aB;omega)only[go_sem,Tryz.results155])|(apply hK.nil;clear hK K;simp only[go_sem])|((first|refine aH rfl rfl rfl rfl rfl ?_ ?_|refine aF rfl ?_ ?_)<;>intro h<;>try simp(disch:=apply aB;omega)only[go_sem] at h)|(with_reducible refine And.intro (by first|omega|(simp only[lens];omega)) ?_)|fail
    all_goals first|rfl|exact⟨rfl,rfl⟩|trace_state
   ·rw[if_neg hn] at h2
    by_cases h0:0≤t.getD i default
    ·rw[if_pos (.inl h0)] at h2
     repeat' first|((exfalso;omega))|apply aE|apply aG|apply aJ|refine aI 0 xC λK hK=>?_|((first|apply aD|refine aA (aO ?_)|apply aA);simp(disch:=apply aB;omega)only[go_sem,Tryz.results155])|(apply hK.nil;clear hK K;simp only[go_sem])|((first|refine aH rfl rfl rfl rfl rfl ?_ ?_|refine aF rfl ?_ ?_)<;>intro h<;>try simp(disch:=apply aB;omega)only[go_sem] at h)|refine aT rfl ?_|apply aL|(with_reducible refine And.intro (by first|omega|(simp only[lens];omega)) ?_)|fail
     all_goals exact⟨(i+1,u),(by(refine aC rfl rfl ?_ ?_ ?_ ?_<;>simp(disch:=apply aB;omega)only[go_sem]<;>(try omega))),⟨⟨by omega,hu⟩,h2⟩,by omega⟩
    ·have hix:vIx (t.getD i default)<48:=by unfold vIx;omega
     by_cases hsn:u.getD (vIx (t.getD i default)) default=true
     ·rw[if_pos (.inr hsn)] at h2
      repeat' first|((exfalso;omega))|((exfalso;have hx:u.getD (-1-t.getD i default).toNat default=false:=(by assumption);exact absurd (hx.symm.trans hsn) (by decide)))|apply aE|apply aG|apply aJ|refine aI 0 xC λK hK=>?_|((first|apply aD|refine aA (aO ?_)|apply aA);simp(disch:=apply aB;omega)only[go_sem,Tryz.results155])|(apply hK.nil;clear hK K;simp only[go_sem])|((first|refine aH rfl rfl rfl rfl rfl ?_ ?_|refine aF rfl ?_ ?_)<;>intro h<;>try simp(disch:=apply aB;omega)only[go_sem] at h)|refine aT rfl ?_|apply aL|(with_reducible refine And.intro (by first|omega|(simp only[lens];omega)) ?_)|fail
      all_goals exact⟨(i+1,u),(by(refine aC rfl rfl ?_ ?_ ?_ ?_<;>simp(disch:=apply aB;omega)only[go_sem]<;>(try omega))),⟨⟨by omega,hu⟩,h2⟩,by omega⟩
     ·rw[if_neg (by rintro (h|h);exact h0 h;exact hsn h)] at h2
      have hrd:=aGA rs hlb (i:=(-1-t.getD i default).toNat) hix
      by_cases hb:β.getD (vIx (t.getD i default)) default=[]
      ·rw[if_pos hb] at h2
       rw[show β.getD (-1-t.getD i default).toNat default=[] from hb,rF] at hrd
       repeat' first|((exfalso;omega))|((exact absurd (by assumption) hsn))|((rw[hrd];simp only[go_sem]))|apply aE|apply aG|apply aM|apply aJ|refine aI 0 xC λK hK=>?_|((first|apply aD|refine aA (aO ?_)|apply aA);simp(disch:=apply aB;omega)only[go_sem,Tryz.results155])|(apply hK.nil;clear hK K;simp only[go_sem])|((first|refine aH rfl rfl rfl rfl rfl ?_ ?_|refine aF rfl ?_ ?_)<;>intro h<;>try simp(disch:=apply aB;omega)only[go_sem] at h)|refine hK.skp rfl rfl ?_|apply aL|(with_reducible refine And.intro (by first|omega|(simp only[lens];omega)) ?_)|fail
       all_goals exact⟨(i+1,u.set (-1-t.getD i default).toNat true),(by(refine aC rfl rfl ?_ ?_ ?_ ?_<;>simp(disch:=apply aB;omega)only[go_sem]<;>(try omega))),⟨⟨by omega,by rw[List.length_set];exact hu⟩,h2⟩,by omega⟩
      ·rw[if_neg hb] at h2
       rw[show bD (β.getD (-1-t.getD i default).toNat default)=_ from nO hb] at hrd
       have hb2:(β.getD (-1-t.getD i default).toNat default).map (D.int .i64)≠[]:=λe=>hb (List.map_eq_nil_iff.1 e)
       have hXb:=hβ.get hb
       obtain⟨q1,hq1⟩:∃q1,tX β n f (β.getD (vIx (t.getD i default)) default) (u.set (vIx (t.getD i default)) true)=some q1:=by
        cases hx:tX β n f (β.getD (vIx (t.getD i default)) default) (u.set (vIx (t.getD i default)) true) with
        | none=>rw[hx] at h2;cases h2
        | some q1=>exact⟨q1,rfl⟩
       have cO:=ih (β.getD (-1-t.getD i default).toNat default) (u.set (-1-t.getD i default).toNat true) _ hq1 hXb (by rw[List.length_set];exact hu)
       rw[hq1] at h2
       have hl1:=aJQ _ _ _ _ hq1
       rw[List.length_set,hu] at hl1
       obtain⟨b1,s1⟩:=q1
       dsimp only at cO hl1
       cases b1
       ·simp only at h2
        repeat' first|((refine hK.callB rfl rfl rfl (cO) (by refine⟨⟨?_,?_,?_,?_,?_⟩,⟨?_,?_,?_,?_,?_⟩,?_⟩<;>simp[-List.map_set,LS.getBox,Lg.look,D.ids,D.idsL,dF,eO,LS.clean,D.puOk,D.pu,D.pu1,D.tks,D.tksL,b9,c9,dY,dB,dL,eW,dK]) ?_;simp(disch:=apply aB;omega)only[go_sem]))|((exfalso;omega))|((exact absurd (by assumption) hsn))|((rw[hrd];simp only[go_sem]))|((refine⟨hb2,?_⟩))|apply aE|apply aG|apply aM|apply aJ|refine aI 0 xC λK hK=>?_|((first|apply aD|refine aA (aO ?_)|apply aA);simp(disch:=apply aB;omega)only[go_sem,Tryz.results155])|(apply hK.nil;clear hK K;simp only[go_sem])|((first|refine aH rfl rfl rfl rfl rfl ?_ ?_|refine aF rfl ?_ ?_)<;>intro h<;>try simp(disch:=apply aB;omega)only[go_sem] at h)|apply aL|(with_reducible refine And.intro (by first|omega|(simp only[lens];omega)) ?_)|fail
        all_goals exact⟨(i+1,s1),(by(refine aC rfl rfl ?_ ?_ ?_ ?_<;>simp(disch:=apply aB;omega)only[go_sem]<;>(try omega))),⟨⟨by omega,hl1⟩,h2⟩,by omega⟩
       ·simp only at h2
        obtain rfl:=zA h2
        repeat' first|((refine hK.callB rfl rfl rfl (cO) (by refine⟨⟨?_,?_,?_,?_,?_⟩,⟨?_,?_,?_,?_,?_⟩,?_⟩<;>simp[-List.map_set,LS.getBox,Lg.look,D.ids,D.idsL,dF,eO,LS.clean,D.puOk,D.pu,D.pu1,D.tks,D.tksL,b9,c9,dY,dB,dL,eW,dK]) ?_;simp(disch:=apply aB;omega)only[go_sem]))|((exfalso;omega))|((exact absurd (by assumption) hsn))|((rw[hrd];simp only[go_sem]))|((refine⟨hb2,?_⟩))|apply aE|apply aG|apply aJ|refine aI 0 xC λK hK=>?_|((first|apply aD|refine aA (aO ?_)|apply aA);simp(disch:=apply aB;omega)only[go_sem,Tryz.results155])|(apply hK.nil;clear hK K;simp only[go_sem])|((first|refine aH rfl rfl rfl rfl rfl ?_ ?_|refine aF rfl ?_ ?_)<;>intro h<;>try simp(disch:=apply aB;omega)only[go_sem] at h)|(with_reducible refine And.intro (by first|omega|(simp only[lens];omega)) ?_)|fail
        all_goals first|rfl|exact⟨rfl,rfl⟩|trace_state
  ·rw[List.drop_of_length_le (by omega)] at h2
   obtain rfl:=zA h2
   repeat' first|((exfalso;omega))|apply aE|refine aI 0 xC λK hK=>?_|((first|apply aD|refine aA (aO ?_)|apply aA);simp(disch:=apply aB;omega)only[go_sem,Tryz.results155])|(apply hK.nil;clear hK K;simp only[go_sem])|((first|refine aH rfl rfl rfl rfl rfl ?_ ?_|refine aF rfl ?_ ?_)<;>intro h<;>try simp(disch:=apply aB;omega)only[go_sem] at h)|refine aT rfl ?_|fail
   all_goals first|rfl|exact⟨rfl,rfl⟩|trace_state
  ·exact⟨⟨by omega,hs⟩,hq⟩
abbrev Bds:=List (List Int)
def hd(t:List Int):Int:=t.getD 0 default
def dS(rs a b:List Int):List (List Int×List Int):=(List.range (dD rs (bI a) 0).length).map λk=>(oZ rs a ((dD rs (bI a) 0).getD k default),oZ rs b ((dD rs (bI b) 0).getD k default))
def eqL(rec:Bds->List Int->List Int->Option (Option Bds)):List (List Int×List Int)->Bds->Option (Option Bds)
 | [],β=>some (some β)
 | p::r,β=>match rec β p.1 p.2 with
  | none=>none
  | some none=>some none
  | some (some β')=>eqL rec r β'
def aFE(g:Nat)(β:Bds)(x y:List Int):Option (Option Bds) :=
 if 0≤hd y then match tX β (hd x) g y (List.replicate 48 false) with
  | none=>none
  | some (true,_)=>some none
  | some (false,_)=>some (some (β.set (vIx (hd x)) y))
 else some (some (β.set (vIx (hd x)) y))
def eqB(rs:List Int)(g:Nat)(rec:Bds->List Int->List Int->Option (Option Bds))(β:Bds)(a b:List Int):Option (Option Bds) :=
 if hd a=hd b/\hd a<0 then some (some β)
 else if hd b<0/\(0≤hd a∨hd b<hd a) then aFE g β b a
 else if hd a<0 then aFE g β a b
 else if hd a≠hd b then some none
 else eqL rec (dS rs a b) β
def eqM(rs:List Int)(g:Nat):Nat->Bds->List Int->List Int->Option (Option Bds)
 | 0,_,_,_=>none
 | f+1,β,a,b=>match dG β g a,dG β g b with
  | some a1,some b1=>eqB rs g (eqM rs g f) β a1 b1
  | _,_=>none
theorem dM{rs:List Int}{β:Bds}(hβ:BOK rs β):∀ {f:Nat} {t r:List Int},dG β f t=some r->XT rs t->XT rs r
 | 0,_,_,h,_=>by cases h
 | f+1,t,r,h,hT=>by
  unfold dG at h
  split at h
  ·rename_i hc
   exact dM hβ h (hβ.get hc.2)
  ·obtain rfl:=zA h;exact hT
theorem BOK.set{rs:List Int}{β:Bds}(h:BOK rs β)(i:Nat){t:List Int}(ht:XT rs t):BOK rs (β.set i t):=⟨by rw[List.length_set];exact h.1,λx hx=>by
 rcases List.mem_or_eq_of_mem_set hx with hx|rfl
 ·exact h.2 x hx
 ·exact .inr ht⟩
theorem aWK(rs:List Int)(β:Bds)(i:Nat){y:List Int}(hy:y≠[]):(D.sl .any (rs.map (.int .i64))::β.map bD).set (1+i) (.sl .any (y.map (.int .i64)))=D.sl .any (rs.map (.int .i64))::(β.set i y).map bD:=by
 rw[Nat.add_comm,List.set_cons_succ,List.map_set,nO hy]
theorem sY(rs:List Int)(β:Bds)(n:Int){y:List Int}(hy:y≠[]):(D.sl .any (rs.map (.int .i64))::β.map bD).set (1+(-1-n).toNat) (.sl .any (y.map (.int .i64)))=D.sl .any (rs.map (.int .i64))::(β.set (vIx n) y).map bD:=aWK rs β _ hy
def fM:List (Nat×List Nat):=[(0,[0,1,2]),(1,[0,1,2,27]),(2,[0,1,2,46]),(3,[0,1,2]),(4,[0,1,2,52]),(5,[0,1,2,66]),(6,[0,1,2]),(7,[]),(8,[0,1,2,84]),(9,[0,1,2]),(10,[0,1,2,6,7]),(11,[0,1,2,6,7,100,101]),(12,[0,1,2,6,7,100,101,102]),(13,[0,1,2,6,7,8,100,101]),(14,[0,1,2,6,7,100,101]),(15,[0,1,2,6,7,100,101])]
attribute [go_sem] fM
theorem aNn(id:Nat)(rs:List Int)(g:Nat)(β:Bds)(hβ:BOK rs β)(a b a1 b1:List Int)(hA:XT rs a)(hB:XT rs b)(h1:dG β g a=some a1)(h2:dG β g b=some b1)(hv:hd a1=hd b1/\hd a1<0):FC S 140 [] [(id+1000,uC rs β)] [] [.box (id+1000) 0,.sl .any (a.map (.int .i64)),.sl .any (b.map (.int .i64))] (.tup []) [(id+1000,uC rs β)] []:=by
 have c1:=eX (id+1000) rs β hβ g a a1 h1 hA
 have c2:=eX (id+1000) rs β hβ g b b1 h2 hB
 have hA1:=dM hβ h1 hA
 have hB1:=dM hβ h2 hB
 have hla:=hA1.len
 have hlb:=hB1.len
 unfold uC at *
 unfold hd at hv
 refine aP Tryz.func140 rfl (by kernel_rfl) (by simp[Tryz.f140]) λB=>?_
 simp only[Tryz.ntmps140,aS,aZ,Nat.reduceAdd]
 repeat' first|((exfalso;omega))|apply aE|refine aI 0 fM λK hK=>?_|refine aY fM (by kernel_rfl) λK hK=>?_|((first|apply aD|apply aK|refine aA (aO ?_)|apply aA);simp(disch:=apply aB;omega)only[go_sem,Tryz.results140])|(apply hK.nil;clear hK K;simp only[go_sem])|((first|refine aH rfl rfl rfl rfl rfl ?_ ?_|refine aN rfl rfl rfl rfl rfl ?_ ?_|refine aF rfl ?_ ?_)<;>intro h<;>try simp(disch:=apply aB;omega)only[go_sem] at h)|refine hK.call rfl rfl rfl (c1) ⟨(by simp[LS.getBox,Lg.look]),rfl,rfl,(by simp only[dC,Nat.reduceLT])⟩ ?_|refine hK.call rfl rfl rfl (c2) ⟨(by simp[LS.getBox,Lg.look]),rfl,rfl,(by simp only[dC,Nat.reduceLT])⟩ ?_|(with_reducible refine And.intro (by first|omega|(simp only[lens];omega)) ?_)|fail
 all_goals first|exact hset|exact⟨rfl,hset⟩|trace_state
theorem aJv(id:Nat)(rs:List Int)(g:Nat)(β:Bds)(hβ:BOK rs β)(a b a1 b1:List Int)(hA:XT rs a)(hB:XT rs b)(h1:dG β g a=some a1)(h2:dG β g b=some b1)(hn1:¬(hd a1=hd b1/\hd a1<0))(hw:¬(hd b1<0/\(0≤hd a1∨hd b1<hd a1)))(hv:hd a1<0)(hy:hd b1<0):FC S 140 [] [(id+1000,uC rs β)] [] [.box (id+1000) 0,.sl .any (a.map (.int .i64)),.sl .any (b.map (.int .i64))] (.tup []) [(id+1000,uC rs (β.set (vIx (hd a1)) b1))] []:=by
 have c1:=eX (id+1000) rs β hβ g a a1 h1 hA
 have c2:=eX (id+1000) rs β hβ g b b1 h2 hB
 have hA1:=dM hβ h1 hA
 have hB1:=dM hβ h2 hB
 have hla:=hA1.len
 have hlb:=hB1.len
 have hga:=hA1.get (a:=0) (by omega)
 have hgb:=hB1.get (a:=0) (by omega)
 have hlβ:=hβ.1
 have hset:=sY rs β (hd a1) hB1.ne
 unfold uC at *
 unfold hd at *
 refine aP Tryz.func140 rfl (by kernel_rfl) (by simp[Tryz.f140]) λB=>?_
 simp only[Tryz.ntmps140,aS,aZ,Nat.reduceAdd]
 repeat' first|((exfalso;omega))|apply aE|apply aJ|refine aI 0 fM λK hK=>?_|refine gK 0 fM 9 (id:=7) (by kernel_rfl) λK hK=>?_|refine λ(K:KT) (hK:KOk S 0 _ _ _ K)=>?_|refine aY fM (by kernel_rfl) λK hK=>?_|((first|apply aD|apply aK|refine aA (aO ?_)|apply aA);simp(disch:=apply aB;omega)only[go_sem,Tryz.results140])|(apply hK.nil;clear hK K;simp only[go_sem])|((first|refine aH rfl rfl rfl rfl rfl ?_ ?_|refine aN rfl rfl rfl rfl rfl ?_ ?_|refine aF rfl ?_ ?_)<;>intro h<;>try simp(disch:=apply aB;omega)only[go_sem] at h)|refine hK.skp rfl rfl ?_|refine hK.call rfl rfl rfl (c1) ⟨(by simp[LS.getBox,Lg.look]),rfl,rfl,(by simp only[dC,Nat.reduceLT])⟩ ?_|refine hK.call rfl rfl rfl (c2) ⟨(by simp[LS.getBox,Lg.look]),rfl,rfl,(by simp only[dC,Nat.reduceLT])⟩ ?_|(with_reducible refine And.intro (by first|omega|(simp only[lens];omega)) ?_)|fail
 all_goals first|exact hset|exact⟨rfl,hset⟩|trace_state
theorem aKx(id:Nat)(rs:List Int)(g:Nat)(β:Bds)(hβ:BOK rs β)(a b a1 b1:List Int)(hA:XT rs a)(hB:XT rs b)(h1:dG β g a=some a1)(h2:dG β g b=some b1)(hn1:¬(hd a1=hd b1/\hd a1<0))(hw:¬(hd b1<0/\(0≤hd a1∨hd b1<hd a1)))(hv:hd a1<0)(hy:0≤hd b1)(s:List Bool)(hq:tX β (hd a1) g b1 (List.replicate 48 false)=some (false,s)):FC S 140 [] [(id+1000,uC rs β)] [] [.box (id+1000) 0,.sl .any (a.map (.int .i64)),.sl .any (b.map (.int .i64))] (.tup []) [(id+1000,uC rs (β.set (vIx (hd a1)) b1))] []:=by
 have c1:=eX (id+1000) rs β hβ g a a1 h1 hA
 have c2:=eX (id+1000) rs β hβ g b b1 h2 hB
 have hA1:=dM hβ h1 hA
 have hB1:=dM hβ h2 hB
 have hla:=hA1.len
 have hlb:=hB1.len
 have hga:=hA1.get (a:=0) (by omega)
 have hgb:=hB1.get (a:=0) (by omega)
 have hlβ:=hβ.1
 have hset:=sY rs β (hd a1) hB1.ne
 have cO:=sP id rs β hβ (hd a1) g b1 (List.replicate 48 false) _ hq hB1 (by simp)
 unfold uC at *
 unfold hd at *
 refine aP Tryz.func140 rfl (by kernel_rfl) (by simp[Tryz.f140]) λB=>?_
 simp only[Tryz.ntmps140,aS,aZ,Nat.reduceAdd]
 repeat' first|((exfalso;omega))|((refine hK.callB rfl rfl rfl (cO) (by refine⟨⟨?_,?_,?_,?_,?_⟩,⟨?_,?_,?_,?_,?_⟩,?_⟩<;>simp[-List.map_set,LS.getBox,Lg.look,D.ids,D.idsL,dF,eO,LS.clean,D.puOk,D.pu,D.pu1,D.tks,D.tksL,b9,c9,dY,dB,dL,eW,dK]) ?_;simp(disch:=apply aB;omega)only[go_sem]))|apply aE|apply aJ|refine aI 0 fM λK hK=>?_|refine gK 0 fM 9 (id:=7) (by kernel_rfl) λK hK=>?_|refine λ(K:KT) (hK:KOk S 0 _ _ _ K)=>?_|refine aY fM (by kernel_rfl) λK hK=>?_|((first|apply aD|apply aK|refine aA (aO ?_)|apply aA);simp(disch:=apply aB;omega)only[go_sem,Tryz.results140])|(apply hK.nil;clear hK K;simp only[go_sem])|((first|refine aH rfl rfl rfl rfl rfl ?_ ?_|refine aN rfl rfl rfl rfl rfl ?_ ?_|refine aF rfl ?_ ?_)<;>intro h<;>try simp(disch:=apply aB;omega)only[go_sem] at h)|refine hK.call rfl rfl rfl (c1) ⟨(by simp[LS.getBox,Lg.look]),rfl,rfl,(by simp only[dC,Nat.reduceLT])⟩ ?_|refine hK.call rfl rfl rfl (c2) ⟨(by simp[LS.getBox,Lg.look]),rfl,rfl,(by simp only[dC,Nat.reduceLT])⟩ ?_|(with_reducible refine And.intro (by first|omega|(simp only[lens];omega)) ?_)|fail
 all_goals first|exact hset|exact⟨rfl,hset⟩|trace_state
theorem aKd(id:Nat)(rs:List Int)(g:Nat)(β:Bds)(hβ:BOK rs β)(a b a1 b1:List Int)(hA:XT rs a)(hB:XT rs b)(h1:dG β g a=some a1)(h2:dG β g b=some b1)(hn1:¬(hd a1=hd b1/\hd a1<0))(hw:¬(hd b1<0/\(0≤hd a1∨hd b1<hd a1)))(hv:hd a1<0)(hy:0≤hd b1)(s:List Bool)(hq:tX β (hd a1) g b1 (List.replicate 48 false)=some (true,s)):FCX S 140 [] [(id+1000,uC rs β)] [] [.box (id+1000) 0,.sl .any (a.map (.int .i64)),.sl .any (b.map (.int .i64))] (chainE 159):=by
 have c1:=eX (id+1000) rs β hβ g a a1 h1 hA
 have c2:=eX (id+1000) rs β hβ g b b1 h2 hB
 have hA1:=dM hβ h1 hA
 have hB1:=dM hβ h2 hB
 have hla:=hA1.len
 have hlb:=hB1.len
 have hga:=hA1.get (a:=0) (by omega)
 have hgb:=hB1.get (a:=0) (by omega)
 have hlβ:=hβ.1
 have hset:=sY rs β (hd a1) hB1.ne
 have cO:=sP id rs β hβ (hd a1) g b1 (List.replicate 48 false) _ hq hB1 (by simp)
 unfold uC at *
 unfold hd at *
 refine w6 Tryz.func140 rfl (by kernel_rfl) (by simp[Tryz.f140]) λB hp hp1=>?_
 simp only[Tryz.ntmps140,aS,List.map_nil,List.map_cons,zC,Nat.zero_add,Nat.reduceAdd]
 repeat' first|((exfalso;omega))|((refine hK.callB rfl rfl rfl (cO) (by refine⟨⟨?_,?_,?_,?_,?_⟩,⟨?_,?_,?_,?_,?_⟩,?_⟩<;>simp[-List.map_set,LS.getBox,Lg.look,D.ids,D.idsL,dF,eO,LS.clean,D.puOk,D.pu,D.pu1,D.tks,D.tksL,b9,c9,dY,dB,dL,eW,dK]) ?_;simp(disch:=apply aB;omega)only[go_sem]))|((refine aLR 0 1 (id:=6) λK hK=>?_))|apply aE|apply aJ|refine aI 0 fM λK hK=>?_|refine aY fM (by kernel_rfl) λK hK=>?_|((first|apply aD|apply aK|refine aA (aO ?_)|apply aA);simp(disch:=apply aB;omega)only[go_sem,Tryz.results140])|(apply hK.nil;clear hK K;simp only[go_sem])|((first|refine aH rfl rfl rfl rfl rfl ?_ ?_|refine aN rfl rfl rfl rfl rfl ?_ ?_|refine aF rfl ?_ ?_)<;>intro h<;>try simp(disch:=apply aB;omega)only[go_sem] at h)|refine hK.call rfl rfl rfl (c1) ⟨(by simp[LS.getBox,Lg.look]),rfl,rfl,(by simp only[dC,Nat.reduceLT])⟩ ?_|refine hK.call rfl rfl rfl (c2) ⟨(by simp[LS.getBox,Lg.look]),rfl,rfl,(by simp only[dC,Nat.reduceLT])⟩ ?_|(with_reducible refine And.intro (by first|omega|(simp only[lens];omega)) ?_)|fail
 all_goals try simp only[List.drop_succ_cons,List.drop_zero]
 all_goals refine gI.cons (aU.mkIface (λv w=>run_makeInterface w _ v (by kernel_rfl)) rfl rfl rfl (by simp only[Nat.reduceLT]) (aU.nil ?_))
 all_goals exact gI.panic rfl hp
theorem aJG(id:Nat)(rs:List Int)(g:Nat)(β:Bds)(hβ:BOK rs β)(a b a1 b1:List Int)(hA:XT rs a)(hB:XT rs b)(h1:dG β g a=some a1)(h2:dG β g b=some b1)(hn1:¬(hd a1=hd b1/\hd a1<0))(hw:hd b1<0/\(0≤hd a1∨hd b1<hd a1))(hy:hd a1<0):FC S 140 [] [(id+1000,uC rs β)] [] [.box (id+1000) 0,.sl .any (a.map (.int .i64)),.sl .any (b.map (.int .i64))] (.tup []) [(id+1000,uC rs (β.set (vIx (hd b1)) a1))] []:=by
 have c1:=eX (id+1000) rs β hβ g a a1 h1 hA
 have c2:=eX (id+1000) rs β hβ g b b1 h2 hB
 have hA1:=dM hβ h1 hA
 have hB1:=dM hβ h2 hB
 have hla:=hA1.len
 have hlb:=hB1.len
 have hga:=hA1.get (a:=0) (by omega)
 have hgb:=hB1.get (a:=0) (by omega)
 have hlβ:=hβ.1
 have hset:=sY rs β (hd b1) hA1.ne
 unfold uC at *
 unfold hd at *
 refine aP Tryz.func140 rfl (by kernel_rfl) (by simp[Tryz.f140]) λB=>?_
 simp only[Tryz.ntmps140,aS,aZ,Nat.reduceAdd]
 repeat' first|((exfalso;omega))|apply aE|apply aJ|refine aI 0 fM λK hK=>?_|refine gK 0 fM 9 (id:=7) (by kernel_rfl) λK hK=>?_|refine λ(K:KT) (hK:KOk S 0 _ _ _ K)=>?_|refine aY fM (by kernel_rfl) λK hK=>?_|((first|apply aD|apply aK|refine aA (aO ?_)|apply aA);simp(disch:=apply aB;omega)only[go_sem,Tryz.results140])|(apply hK.nil;clear hK K;simp only[go_sem])|((first|refine aH rfl rfl rfl rfl rfl ?_ ?_|refine aN rfl rfl rfl rfl rfl ?_ ?_|refine aF rfl ?_ ?_)<;>intro h<;>try simp(disch:=apply aB;omega)only[go_sem] at h)|refine hK.skp rfl rfl ?_|refine hK.call rfl rfl rfl (c1) ⟨(by simp[LS.getBox,Lg.look]),rfl,rfl,(by simp only[dC,Nat.reduceLT])⟩ ?_|refine hK.call rfl rfl rfl (c2) ⟨(by simp[LS.getBox,Lg.look]),rfl,rfl,(by simp only[dC,Nat.reduceLT])⟩ ?_|(with_reducible refine And.intro (by first|omega|(simp only[lens];omega)) ?_)|fail
 all_goals first|exact hset|exact⟨rfl,hset⟩|trace_state
theorem aKD(id:Nat)(rs:List Int)(g:Nat)(β:Bds)(hβ:BOK rs β)(a b a1 b1:List Int)(hA:XT rs a)(hB:XT rs b)(h1:dG β g a=some a1)(h2:dG β g b=some b1)(hn1:¬(hd a1=hd b1/\hd a1<0))(hw:hd b1<0/\(0≤hd a1∨hd b1<hd a1))(hy:0≤hd a1)(s:List Bool)(hq:tX β (hd b1) g a1 (List.replicate 48 false)=some (false,s)):FC S 140 [] [(id+1000,uC rs β)] [] [.box (id+1000) 0,.sl .any (a.map (.int .i64)),.sl .any (b.map (.int .i64))] (.tup []) [(id+1000,uC rs (β.set (vIx (hd b1)) a1))] []:=by
 have c1:=eX (id+1000) rs β hβ g a a1 h1 hA
 have c2:=eX (id+1000) rs β hβ g b b1 h2 hB
 have hA1:=dM hβ h1 hA
 have hB1:=dM hβ h2 hB
 have hla:=hA1.len
 have hlb:=hB1.len
 have hga:=hA1.get (a:=0) (by omega)
 have hgb:=hB1.get (a:=0) (by omega)
 have hlβ:=hβ.1
 have hset:=sY rs β (hd b1) hA1.ne
 have cO:=sP id rs β hβ (hd b1) g a1 (List.replicate 48 false) _ hq hA1 (by simp)
 unfold uC at *
 unfold hd at *
 refine aP Tryz.func140 rfl (by kernel_rfl) (by simp[Tryz.f140]) λB=>?_
 simp only[Tryz.ntmps140,aS,aZ,Nat.reduceAdd]
 repeat' first|((exfalso;omega))|((refine hK.callB rfl rfl rfl (cO) (by refine⟨⟨?_,?_,?_,?_,?_⟩,⟨?_,?_,?_,?_,?_⟩,?_⟩<;>simp[-List.map_set,LS.getBox,Lg.look,D.ids,D.idsL,dF,eO,LS.clean,D.puOk,D.pu,D.pu1,D.tks,D.tksL,b9,c9,dY,dB,dL,eW,dK]) ?_;simp(disch:=apply aB;omega)only[go_sem]))|apply aE|apply aJ|refine aI 0 fM λK hK=>?_|refine gK 0 fM 9 (id:=7) (by kernel_rfl) λK hK=>?_|refine λ(K:KT) (hK:KOk S 0 _ _ _ K)=>?_|refine aY fM (by kernel_rfl) λK hK=>?_|((first|apply aD|apply aK|refine aA (aO ?_)|apply aA);simp(disch:=apply aB;omega)only[go_sem,Tryz.results140])|(apply hK.nil;clear hK K;simp only[go_sem])|((first|refine aH rfl rfl rfl rfl rfl ?_ ?_|refine aN rfl rfl rfl rfl rfl ?_ ?_|refine aF rfl ?_ ?_)<;>intro h<;>try simp(disch:=apply aB;omega)only[go_sem] at h)|refine hK.call rfl rfl rfl (c1) ⟨(by simp[LS.getBox,Lg.look]),rfl,rfl,(by simp only[dC,Nat.reduceLT])⟩ ?_|refine hK.call rfl rfl rfl (c2) ⟨(by simp[LS.getBox,Lg.look]),rfl,rfl,(by simp only[dC,Nat.reduceLT])⟩ ?_|(with_reducible refine And.intro (by first|omega|(simp only[lens];omega)) ?_)|fail
 all_goals first|exact hset|exact⟨rfl,hset⟩|trace_state
theorem aIK(id:Nat)(rs:List Int)(g:Nat)(β:Bds)(hβ:BOK rs β)(a b a1 b1:List Int)(hA:XT rs a)(hB:XT rs b)(h1:dG β g a=some a1)(h2:dG β g b=some b1)(hn1:¬(hd a1=hd b1/\hd a1<0))(hw:hd b1<0/\(0≤hd a1∨hd b1<hd a1))(hy:0≤hd a1)(s:List Bool)(hq:tX β (hd b1) g a1 (List.replicate 48 false)=some (true,s)):FCX S 140 [] [(id+1000,uC rs β)] [] [.box (id+1000) 0,.sl .any (a.map (.int .i64)),.sl .any (b.map (.int .i64))] (chainE 159):=by
 have c1:=eX (id+1000) rs β hβ g a a1 h1 hA
 have c2:=eX (id+1000) rs β hβ g b b1 h2 hB
 have hA1:=dM hβ h1 hA
 have hB1:=dM hβ h2 hB
 have hla:=hA1.len
 have hlb:=hB1.len
 have hga:=hA1.get (a:=0) (by omega)
 have hgb:=hB1.get (a:=0) (by omega)
 have hlβ:=hβ.1
 have hset:=sY rs β (hd b1) hA1.ne
 have cO:=sP id rs β hβ (hd b1) g a1 (List.replicate 48 false) _ hq hA1 (by simp)
 unfold uC at *
 unfold hd at *
 refine w6 Tryz.func140 rfl (by kernel_rfl) (by simp[Tryz.f140]) λB hp hp1=>?_
 simp only[Tryz.ntmps140,aS,List.map_nil,List.map_cons,zC,Nat.zero_add,Nat.reduceAdd]
 repeat' first|((exfalso;omega))|((refine hK.callB rfl rfl rfl (cO) (by refine⟨⟨?_,?_,?_,?_,?_⟩,⟨?_,?_,?_,?_,?_⟩,?_⟩<;>simp[-List.map_set,LS.getBox,Lg.look,D.ids,D.idsL,dF,eO,LS.clean,D.puOk,D.pu,D.pu1,D.tks,D.tksL,b9,c9,dY,dB,dL,eW,dK]) ?_;simp(disch:=apply aB;omega)only[go_sem]))|((refine aLR 0 1 (id:=6) λK hK=>?_))|apply aE|apply aJ|refine aI 0 fM λK hK=>?_|refine aY fM (by kernel_rfl) λK hK=>?_|((first|apply aD|apply aK|refine aA (aO ?_)|apply aA);simp(disch:=apply aB;omega)only[go_sem,Tryz.results140])|(apply hK.nil;clear hK K;simp only[go_sem])|((first|refine aH rfl rfl rfl rfl rfl ?_ ?_|refine aN rfl rfl rfl rfl rfl ?_ ?_|refine aF rfl ?_ ?_)<;>intro h<;>try simp(disch:=apply aB;omega)only[go_sem] at h)|refine hK.call rfl rfl rfl (c1) ⟨(by simp[LS.getBox,Lg.look]),rfl,rfl,(by simp only[dC,Nat.reduceLT])⟩ ?_|refine hK.call rfl rfl rfl (c2) ⟨(by simp[LS.getBox,Lg.look]),rfl,rfl,(by simp only[dC,Nat.reduceLT])⟩ ?_|(with_reducible refine And.intro (by first|omega|(simp only[lens];omega)) ?_)|fail
 all_goals try simp only[List.drop_succ_cons,List.drop_zero]
 all_goals refine gI.cons (aU.mkIface (λv w=>run_makeInterface w _ v (by kernel_rfl)) rfl rfl rfl (by simp only[Nat.reduceLT]) (aU.nil ?_))
 all_goals exact gI.panic rfl hp
theorem aLz(id:Nat)(rs:List Int)(g:Nat)(β:Bds)(hβ:BOK rs β)(a b a1 b1:List Int)(hA:XT rs a)(hB:XT rs b)(h1:dG β g a=some a1)(h2:dG β g b=some b1)(hv:0≤hd a1)(hy:0≤hd b1)(hne:hd a1≠hd b1):FCX S 140 [] [(id+1000,uC rs β)] [] [.box (id+1000) 0,.sl .any (a.map (.int .i64)),.sl .any (b.map (.int .i64))] (chainE 159):=by
 have c1:=eX (id+1000) rs β hβ g a a1 h1 hA
 have c2:=eX (id+1000) rs β hβ g b b1 h2 hB
 have hA1:=dM hβ h1 hA
 have hB1:=dM hβ h2 hB
 have hla:=hA1.len
 have hlb:=hB1.len
 have hga:=hA1.get (a:=0) (by omega)
 have hgb:=hB1.get (a:=0) (by omega)
 have hlβ:=hβ.1
 unfold uC at *
 unfold hd at *
 refine w6 Tryz.func140 rfl (by kernel_rfl) (by simp[Tryz.f140]) λB hp hp1=>?_
 simp only[Tryz.ntmps140,aS,List.map_nil,List.map_cons,zC,Nat.zero_add,Nat.reduceAdd]
 repeat' first|((exfalso;omega))|((refine aLR 0 1 (id:=9) λK hK=>?_))|apply aE|apply aJ|refine aI 0 fM λK hK=>?_|refine aY fM (by kernel_rfl) λK hK=>?_|((first|apply aD|apply aK|refine aA (aO ?_)|apply aA);simp(disch:=apply aB;omega)only[go_sem,Tryz.results140])|(apply hK.nil;clear hK K;simp only[go_sem])|((first|refine aH rfl rfl rfl rfl rfl ?_ ?_|refine aN rfl rfl rfl rfl rfl ?_ ?_|refine aF rfl ?_ ?_)<;>intro h<;>try simp(disch:=apply aB;omega)only[go_sem] at h)|refine hK.call rfl rfl rfl (c1) ⟨(by simp[LS.getBox,Lg.look]),rfl,rfl,(by simp only[dC,Nat.reduceLT])⟩ ?_|refine hK.call rfl rfl rfl (c2) ⟨(by simp[LS.getBox,Lg.look]),rfl,rfl,(by simp only[dC,Nat.reduceLT])⟩ ?_|(with_reducible refine And.intro (by first|omega|(simp only[lens];omega)) ?_)|fail
 all_goals try simp only[List.drop_succ_cons,List.drop_zero]
 all_goals refine gI.cons (aU.mkIface (λv w=>run_makeInterface w _ v (by kernel_rfl)) rfl rfl rfl (by simp only[Nat.reduceLT]) (aU.nil ?_))
 all_goals exact gI.panic rfl hp
end
end Go.Proofs.YtpennhjjnlkbiaaGreat
