/-
  U01, U02, U03, U04, U05, A04p, A20p, A04, U08, one behind the other.
-/
import Derived.Test.YtmfmgoceeedonaaGreatG1
import Derived.Test.YtmfmgoceeedonaaGreatLgK14
import Derived.Test.YtmfmgoceeedonaaGreatLgK12
import Derived.Test.YtmfmgoceeedonaaGreatG0
import Derived.Test.YtmfmgoceeedonaaGreatG2
namespace Go.Proofs.YtmfmgoceeedonaaGreat
open Go Go.Lg
set_option linter.unusedSimpArgs false
set_option linter.unusedVariables false
set_option maxHeartbeats 4000000
section
attribute [local irreducible] SW bA bC dM bZ FC dX
def phi(n:Int):Int:=if n < -24 then n+24 else n
def bL(t:List Int):List Int:=t.map phi
theorem e7(t:List Int):(bL t).length=t.length:=zC _
theorem mS(t:List Int)(i:Nat)(h:i<t.length):(bL t).getD i default=phi (t.getD i default):=by
 simp[bL,zD,h]
theorem aPu(n:Int)(h:-48≤n):phi n<0↔n<0:=by unfold phi;split<;>omega
theorem aDv{n:Int}(h:0≤n):phi n=n:=by unfold phi;rw[if_neg (by omega)]
theorem aW6{n:Int}(h:-48≤n):-24≤phi n:=by unfold phi;split<;>omega
def XT(rs t:List Int):Prop:=aT rs (bL t)/\∀x∈t,-48≤x
theorem XT.len{rs t:List Int}(h:XT rs t):1≤t.length/\t.length≤60:=by have:=h.1.2.1;rwa [e7] at this
theorem XT.get{rs t:List Int}(h:XT rs t){a:Nat}(ha:a<t.length):-48≤t.getD a default/\t.getD a default<rs.length:=by
 have h1:=h.2 _ (aX t a ha);have h2:=(h.1.low (a:=a) (by rw[e7];exact ha)).1;rw[mS t a ha] at h2;refine⟨h1,?_⟩;have:=h2.2;unfold phi at this;split at this<;>omega
def pX(rs t:List Int)(a:Nat):List Int:=(t.take (eJ rs (bL t) a).toNat).drop a
theorem aV3(rs t:List Int)(a:Nat):bL (pX rs t a)=eD rs (bL t) a:=by simp[bL,pX,eD,List.map_drop,List.map_take]
theorem qZ{rs t:List Int}(h:XT rs t){a:Nat}(ha:a<t.length):XT rs (pX rs t a):=by
 refine⟨?_,λx hx=>h.2 x (List.mem_of_mem_take (List.mem_of_mem_drop hx))⟩;rw[aV3];exact oW h.1 (by rw[e7];exact ha)
theorem aCX(tk:Tk)(rs:List Int)(n:Int)(hn:-48≤n/\n<rs.length):FC S 130 [] [] [] [.agg [.sl tk (rs.map (.int .i64))],.int .i64 n] (.int .i64 (arS rs (phi n))) [] []:=by
 refine fcb Tryz.func130 λB=>?_;refine b6 0 0 λhb0_0=>?_;repeat' first|exact h.elim|apply aG|refine aE 0 aUJ λK hK=>?_|refine aB ?_|refine aC ?_|(refine hK.n0 ?_;clear hK K)|refine aA rfl (λh=>?_) λh=>?_|with_reducible refine aH ?_|apply tTT
 ·exact(jZ (by unfold phi;split<;>omega)).symm
 ·rw[aDv (by omega),lJ (by omega)]
theorem aSV(id:Nat)(rs t:List Int)(a:Nat)(hs:eQ rs)(ht:∀x∈t,-48≤x):FC S 155 [] [(id,[.sl .any (rs.map (.int .i64)),.sl .any (t.map (.int .i64)),.int .i64 a])] [] [.box id 0] (.int .i64 (nxS rs (bL t) a)) [(id,[.sl .any (rs.map (.int .i64)),.sl .any (t.map (.int .i64)),.int .i64 ((if nxS rs (bL t) a<0 then a else a+1:Nat):Int)])] []:=by
 have hx:a<t.length->-48≤t.getD a default:=λh=>ht _ (aX t a h);have hp:=mS t a;have hlen:=e7 t;have hneg:=aPu (t.getD a default);have hpos:=@aDv (t.getD a default);refine fcb Tryz.func155 λB=>?_;refine r7 id 1 (if_pos rfl) rfl λhbid_1=>?_;simp only[D.bnd,zC] at hbid_1;repeat' first|exact h.elim|apply aG|refine aE 0 aLk λK hK=>?_|refine aU aLk (by kernel_rfl) λK hK=>?_|refine aB ?_|refine aQ ?_|refine aC ?_|(refine hK.n0 ?_;clear hK K)|refine bH (λh=>?_) λh=>?_|refine aA rfl (λh=>?_) λh=>?_|refine hK.c1 rfl rfl rfl (aCX _ _ _ ⟨by omega,by omega⟩) ?_|with_reducible refine aH ?_|apply tTT
 ·have e:nxS rs (bL t) a=-1:=if_neg (by omega);simp[e]
 ·have e:nxS rs (bL t) a=-1:=by rw[nxS,if_pos (by omega),hp (by omega),hpos (by omega),aFr (by omega) (by omega)]
  simp[e]
 ·have e:nxS rs (bL t) a=arS rs (phi (t.getD a default)):=by rw[nxS,if_pos (by omega),hp (by omega)]
  have h0:0≤arS rs (phi (t.getD a default)):=by
   by_cases hn:t.getD a default<0
   ·rw[jZ (by unfold phi;split<;>omega)];omega
   ·rw[hpos (by omega),lJ (by omega)];exact(hs.2 _ (by omega)).1
  rw[if_neg (by omega)];exact⟨e.symm,by simp⟩
theorem aTu(id:Nat)(rs t:List Int)(a:Nat)(hs:eQ rs)(ht:∀x∈t,-48≤x)(hl:t.length≤60):FC S 143 [] [(id,[.sl .any (rs.map (.int .i64)),.sl .any (t.map (.int .i64)),.int .i64 a])] [] [.box id 0] (.bool (kW rs ((bL t).drop a) 1 a).2) [(id,[.sl .any (rs.map (.int .i64)),.sl .any (t.map (.int .i64)),.int .i64 (kW rs ((bL t).drop a) 1 a).1])] []:=by
 have hlen:=e7 t;refine fcb Tryz.func143 λB=>?_;refine r7 id 1 (if_pos rfl) rfl λhbid_1=>?_;simp only[D.bnd,zC] at hbid_1;repeat' first|apply aG|refine aE 0 aJK λK hK=>?_|refine aB ?_|(refine hK.n0 ?_;clear hK K)|apply tTT
 refine aV (ι:=Nat×Int) (λp=>[(3,.int .i64 p.2)]) (λp=>[(id,[.sl .any (rs.map (.int .i64)),.sl .any (t.map (.int .i64)),.int .i64 p.1])]) (λp=>(a≤p.1/\((1≤p.2/\kW rs ((bL t).drop a) 1 a=kW rs ((bL t).drop p.1) p.2 p.1)∨(p.2=0/\kW rs ((bL t).drop a) 1 a=(p.1,true))))/\p.2≤1+3*p.1) (λp=>t.length-p.1) (a,1) cvA ?_ (λp hp=>?_);rotate_left
 simp only[go_sem];obtain⟨i,need⟩:=p;obtain⟨⟨h1,h2⟩,h4⟩:=hp;dsimp only at h1 h2 h4;have hr:=wJ hs ((bL t).getD i default);have hn:nxS rs (bL t) i≤3:=by unfold nxS;split<;>omega
 have hb:i<(bL t).length->kW rs ((bL t).drop i) need i=_:=aGI rs (bL t) need i;repeat' first|exact h.elim|apply aG|refine aE 0 aJK λK hK=>?_|refine aB ?_|refine aC ?_|(refine hK.n0 ?_;clear hK K)|refine aA rfl (λh=>?_) λh=>?_|refine aJ rfl ?_|apply aF|refine hK.cB rfl rfl rfl (aSV id rs t i hs ht) ?_|apply tTT
 ·have e:i<t.length->nxS rs (bL t) i=arS rs ((bL t).getD i default):=λh=>if_pos (by omega);rcases h2 with⟨h2,h3⟩|⟨h2,h3⟩
  ·rw[h3];by_cases hi:i<t.length
   ·rw[hb (by omega),if_pos (by rw[←e hi];assumption),if_pos (by assumption)];simp
   ·rw[aKB rs (bL t) need i (by omega),if_pos (by assumption)];simp
  ·omega
 ·have hi:i<t.length:=by
   by_cases hi:i<t.length
   ·exact hi
   ·have:nxS rs (bL t) i=-1:=if_neg (by omega);omega
  have e:nxS rs (bL t) i=arS rs ((bL t).getD i default):=if_pos (by omega);refine⟨(i+1,need+nxS rs (bL t) i-1),(by(refine aD rfl rfl ?_ ?_ ?_ ?_<;>simp(disch:=apply aR;omega)only[go_sem]<;>(try omega));rw[if_neg (by omega)]),⟨⟨by omega,?_⟩,by omega⟩,by omega⟩;rcases h2 with⟨h2,h3⟩|⟨h2,h3⟩
  ·rw[h3,hb (by omega),if_neg (by omega),←e];by_cases hz:need+nxS rs (bL t) i-1=0
   ·rw[if_pos hz];exact .inr ⟨hz,rfl⟩
   ·rw[if_neg hz];exact .inl ⟨by dsimp only;omega,rfl⟩
  ·omega
 ·rcases h2 with⟨h2,h3⟩|⟨h2,h3⟩
  ·omega
  ·rw[h3];simp
 ·exact⟨⟨by omega,.inl ⟨by omega,rfl⟩⟩,by omega⟩
theorem aHb(tk tk':Tk)(rs t:List Int)(a:Int)(hs:eQ rs)(ht:∀x∈t,-48≤x)(hl:t.length≤60)(ha:0≤a):FC S 126 [] [] [] [.agg [.sl tk (rs.map (.int .i64))],.sl tk' (t.map (.int .i64)),.int .i64 a] (.int .i64 (eJ rs (bL t) a.toNat)) [] []:=by
 obtain⟨a,rfl⟩:=Int.eq_ofNat_of_zero_le ha;refine FC.args (args':=[.agg [.sl .any (rs.map (.int .i64))],.sl .any (t.map (.int .i64)),.int .i64 a]) ?_ (by simp only[go_sem]);refine fcb Tryz.func126 λB=>?_;repeat' first|exact h.elim|apply aG|refine aE 0 aUm λK hK=>?_|refine aB ?_|refine aC ?_|(refine hK.n0 ?_;clear hK K)|refine aA rfl (λh=>?_) λh=>?_|refine hK.cB rfl rfl rfl (aTu 7 rs t a hs ht hl) ?_|apply tTT
 all_goals first|(rw[eJ,aBB,h];rfl)
theorem vY(tk tk':Tk)(rs t:List Int)(a:Nat)(hT:XT rs t)(ha:a<t.length):FC S 104 [] [] [] [.agg [.sl tk (rs.map (.int .i64))],.sl tk' (t.map (.int .i64)),.int .i64 a] (.sl .any ((pX rs t a).map (.int .i64))) [] []:=by
 have he:=gQ hT.1 (a:=a) (by rw[e7];exact ha);rw[e7] at he;have hl:=hT.len.2;refine fcb Tryz.func104 λB=>?_;refine bM 1 λhb1=>?_;repeat' first|apply aG|refine aE 0 aTk λK hK=>?_|refine aB ?_|refine aC ?_|(refine hK.n0 ?_;clear hK K)|refine hK.c1 rfl rfl rfl (aHb _ _ rs t a hT.1.1 hT.2 hl (by omega)) ?_|with_reducible refine aH ?_|apply tTT
 rfl
theorem rZ(tk tk':Tk)(rs t:List Int)(a:Nat)(hT:XT rs t)(ha:a<t.length):FC S 105 [] [] [] [.agg [.sl tk (rs.map (.int .i64))],.sl tk' (t.map (.int .i64)),.int .i64 a] (.sl .any ((dN rs (bL t) a).map aJD)) [] []:=by
 have hl:=hT.len.2;have ha':a<(bL t).length:=by rw[e7];exact ha
 have hlo:=hT.1.low ha';have hg:=hT.get ha;obtain⟨n,hn⟩:∃n:Nat,arS rs ((bL t).getD a default)=n:=⟨(arS rs ((bL t).getD a default)).toNat,by omega⟩;have hlt:∀j<n,a<d8 rs (bL t) (a+1) j/\d8 rs (bL t) (a+1) j<(bL t).length:=λj hj=>oU hT.1 ha' (by omega);have hle:∀j≤n,a<d8 rs (bL t) (a+1) j/\d8 rs (bL t) (a+1) j≤(bL t).length:=λj hj=>aDD hT.1 ha' (by omega);unfold dN;have hn2:=hn;rw[mS t a ha] at hn2;rw[hn,Int.toNat_natCast];have hlen:=e7 t;refine FC.args (args':=[.agg [.sl .any (rs.map (.int .i64))],.sl .any (t.map (.int .i64)),.int .i64 a]) ?_ (by simp only[go_sem]);refine fcb Tryz.func105 λB=>?_;refine bM 1 λhb1=>?_;repeat' first|apply aG|refine aE 0 aFz λK hK=>?_|refine aU aFz (by kernel_rfl) λK hK=>?_|refine aB ?_|refine aQ ?_|(refine hK.n0 ?_;clear hK K)|refine hK.c1 rfl rfl rfl (aCX _ rs _ hg) ?_|with_reducible refine aH ?_|apply tTT
 rw[hn2];refine eF 7 26000 3 1 rfl (.inl rfl) rfl ?_;simp only[go_sem];refine bG (ι:=Nat) (λj=>[(9,.int .i64 (n-j:Int)),(8,.int .i64 (d8 rs (bL t) (a+1) j)),(7,.sl (.own 26000 3 1) ((yG rs (bL t) j (a+1)).map aJD))]) (λ_=>[]) (λ_=>[26000]) (λj=>j≤n) (λj=>n-j) 0 (by(refine aD rfl rfl ?_ ?_ ?_ ?_<;>simp(disch:=apply aR;omega)only[go_sem]<;>(try omega));simp[d8,yG]) (by omega) (λj hj=>?_);simp only[go_sem];have hb:=fE rs (bL t) j (a+1);have h3:=hle j hj;have h4:=hlt j;have h5:j<n->((eJ rs (bL t) (d8 rs (bL t) (a+1) j)).toNat:Int)=eJ rs (bL t) (d8 rs (bL t) (a+1) j):=λhj=>by have:=gQ hT.1 (h4 hj).2;omega
 repeat' first|exact h.elim|apply aG|refine aE 0 aFz λK hK=>?_|refine aB ?_|refine aC ?_|(refine hK.n0 ?_;clear hK K)|refine aA rfl (λh=>?_) λh=>?_|refine aJ rfl ?_|apply aF|refine hK.c1 rfl rfl rfl (aHb _ _ rs t (d8 rs (bL t) (a+1) j) hT.1.1 hT.2 hl (by omega)) ?_|with_reducible refine aH ?_|apply tTT
 ·refine⟨j+1,(by(refine aD rfl rfl ?_ ?_ ?_ ?_<;>simp(disch:=apply aR;omega)only[go_sem]<;>(try omega));have:=h5 (by omega);simp only[d8,aBo,List.map_append,List.map_cons,List.map_nil,aJD];exact⟨trivial,this.symm,by omega⟩),by omega,by omega⟩
 ·rw[show j=n by omega]
end
section
attribute [local irreducible] SW bA bC dM bZ FC dX
def bD(x:List Int):D:=if x=[] then .sl .nil [] else .sl .any (x.map (.int .i64))
theorem uO:bD []=.sl .nil []:=rfl
theorem o7{x:List Int}(h:x≠[]):bD x=.sl .any (x.map (.int .i64)):=if_neg h
def uC(rs:List Int)(β:List (List Int)):List D:=.sl .any (rs.map (.int .i64))::β.map bD
def BOK(rs:List Int)(β:List (List Int)):Prop:=β.length=48/\∀x∈β,x=[]∨XT rs x
def vIx(n:Int):Nat:=(-1-n).toNat
def dU(β:List (List Int)):Nat->List Int->Option (List Int)
 | 0,_=>none
 | f+1,t=>if t.getD 0 default<0/\β.getD (vIx (t.getD 0 default)) default≠[] then dU β f (β.getD (vIx (t.getD 0 default)) default) else some t
theorem BOK.get{rs:List Int}{β:List (List Int)}(h:BOK rs β){i:Nat}(hi:β.getD i default≠[]):XT rs (β.getD i default):=by
 by_cases hl:i<β.length
 ·exact(h.2 _ (aX β i hl)).resolve_left hi
 ·exact absurd (by rw[zD,List.getElem?_eq_none (by omega)];rfl) hi
theorem XT.ne{rs t:List Int}(h:XT rs t):t≠[]:=by
 rintro rfl;have:=h.len;simp at this
theorem aJj(rs:List Int){β:List (List Int)}(hl:β.length=48){i:Nat}(hi:i<48):(List.drop (1+i) (D.sl .any (rs.map (.int .i64))::β.map bD)).head?=some (bD (β.getD i default)):=by
 rw[Nat.add_comm,List.drop_succ_cons,←List.map_drop,List.head?_map,List.head?_drop,zD,zB (by omega)];rfl
theorem aYx(x:List Int):(bD x).ids=[]:=by unfold bD;split<;>rfl
theorem cU(k:IntKind)(ys:List Int):D.tksL (ys.map (D.int k))=[]:=by
 induction ys with
 | nil=>rfl
 | cons y r ih=>simp[D.tksL,D.tks,ih]
theorem aYK(x:List Int):(bD x).tks=[]:=by
 unfold bD;split
 ·rfl
 ·simp[D.tks,cU]
theorem fF(β:List (List Int)):D.idsL (β.map bD)=[]:=by
 induction β with
 | nil=>rfl
 | cons y r ih=>simp[D.idsL,aYx,ih]
theorem eH(β:List (List Int)):D.tksL (β.map bD)=[]:=by
 induction β with
 | nil=>rfl
 | cons y r ih=>simp[D.tksL,aYK,ih]
theorem dI(p:Nat->Bool)(ys:List Int):((ys.map (D.int .i64)).all λd=>d.puOk p)=true:=by
 rw[List.all_map];exact List.all_eq_true.2 λ_ _=>rfl
theorem fR(p:Nat->Bool)(β:List (List Int)):((β.map bD).all λd=>d.puOk p)=true:=by
 rw[List.all_map];refine List.all_eq_true.2 λx _=>?_;show (bD x).puOk p=true;unfold bD;split
 ·rfl
 ·simp[D.puOk,D.pu,D.pu1,D.tks,cU]
theorem dJ(ys:List Bool):D.tksL (ys.map D.bool)=[]:=by
 induction ys with
 | nil=>rfl
 | cons y r ih=>simp[D.tksL,D.tks,ih]
theorem dQ(ys:List Bool):D.idsL (ys.map D.bool)=[]:=by
 induction ys with
 | nil=>rfl
 | cons y r ih=>simp[D.idsL,D.ids,ih]
theorem dW(p:Nat->Bool)(ys:List Bool):((ys.map D.bool).all λd=>d.puOk p)=true:=by
 rw[List.all_map];exact List.all_eq_true.2 λ_ _=>rfl
theorem aQ0(k:Nat)(ys:List Bool):D.shTL k (ys.map D.bool)=ys.map D.bool:=by
 induction ys with
 | nil=>rfl
 | cons y r ih=>simp[D.shTL,D.shT,ih]
theorem aZv(k:Nat)(x:List Int):(bD x).shT k=bD x:=by
 unfold bD;split
 ·rfl
 ·rfl
theorem aWx(k:Nat)(β:List (List Int)):D.shTL k (β.map bD)=β.map bD:=by
 induction β with
 | nil=>rfl
 | cons y r ih=>simp[D.shTL,aZv,ih]
attribute [go_sem] aQ0 aWx fF eH dQ dJ
attribute [local irreducible] bD
def aE6:List (Nat×List Nat):=[(0,[0,1]),(1,[0,1,20]),(2,[0,1]),(3,[4])]
attribute [go_sem] aE6 Tryz.results144 Tryz.ntmps144
theorem fT(id:Nat)(rs:List Int)(β:List (List Int))(hβ:BOK rs β)(f:Nat)(t r:List Int)(hr:dU β f t=some r)(hT:XT rs t):FC S 144 [(id,uC rs β)] [] [] [.box id 0,.sl .any (t.map (.int .i64))] (.sl .any (r.map (.int .i64))) [] []:=by
 have hlb:=hβ.1;unfold uC;refine fcb Tryz.func144 λB=>?_;repeat' first|apply aG|refine aE 0 aE6 λK hK=>?_|refine aB ?_|(refine hK.n0 ?_;clear hK K)|apply tTT
 refine aV (ι:=Nat×List Int) (λp=>[(1,.sl .any (p.2.map (.int .i64)))]) (λp=>[]) (λp=>dU β p.1 p.2=some r/\XT rs p.2) (λp=>p.1) (f,t) cvA ?_ (λp hp=>?_);rotate_left
 simp only[go_sem];obtain⟨k,u⟩:=p;obtain⟨h1,h2⟩:=hp;dsimp only at h1 h2;rcases k with _|k
 ·cases h1
 have hg:=h2.get (a:=0) (by have:=h2.len;omega);have hl:=h2.len;by_cases hv:u.getD 0 default<0
 ·obtain⟨m,hm,hm8⟩:∃m:Nat,u.getD 0 default=-1-(m:Int)/\m<48:=⟨vIx (u.getD 0 default),by unfold vIx;omega,by unfold vIx;omega⟩;have hix:vIx (u.getD 0 default)=m:=by unfold vIx;omega
  unfold dU at h1;rw[hix] at h1;by_cases hb:β.getD m default=[]
  ·rw[if_neg (by rintro⟨_,h⟩;exact h hb)] at h1;obtain rfl:=zA h1;have hrd:=aJj rs hlb (i:=(-1-u.getD 0 default).toNat) (by omega);rw[show (-1-u.getD 0 default).toNat=m from hix,hb,uO] at hrd;rw[←show (-1-u.getD 0 default).toNat=m from hix] at hrd;repeat' first|exact h.elim|(exfalso;omega)|(rw[hrd];simp only[go_sem])|apply aG|refine aE 0 aE6 λK hK=>?_|refine aU aE6 (by kernel_rfl) λK hK=>?_|refine aB ?_|refine aQ ?_|refine aC ?_|(refine hK.n0 ?_;clear hK K)|refine bH (λh=>?_) λh=>?_|refine aA rfl (λh=>?_) λh=>?_|refine aJ rfl ?_|with_reducible refine aH ?_|apply tTT
   all_goals trace_state
  ·rw[if_pos ⟨hv,hb⟩] at h1;have hrd:=aJj rs hlb (i:=(-1-u.getD 0 default).toNat) (by omega);rw[show (-1-u.getD 0 default).toNat=m from hix,o7 hb] at hrd;rw[←show (-1-u.getD 0 default).toNat=m from hix] at hrd;have hb2:(β.getD (-1-u.getD 0 default).toNat default).map (D.int .i64)≠[]:=by rw[show (-1-u.getD 0 default).toNat=m from hix];simpa using hb
   repeat' first|exact h.elim|(exfalso;omega)|(rw[hrd];simp only[go_sem])|(refine⟨hb2,?_⟩)|apply aG|refine aU aE6 (by kernel_rfl) λK hK=>?_|refine aQ ?_|(refine hK.n0 ?_;clear hK K)|refine bH (λh=>?_) λh=>?_|refine aA rfl (λh=>?_) λh=>?_|apply aF|with_reducible refine aH ?_|apply tTT
   exact⟨(k,β.getD (-1-u.getD 0 default).toNat default),cvA,⟨by rw[show (-1-u.getD 0 default).toNat=m from hix];exact h1,by rw[show (-1-u.getD 0 default).toNat=m from hix];exact hβ.get hb⟩,by simp⟩
 ·unfold dU at h1;rw[if_neg (by rintro⟨h,_⟩;exact hv h)] at h1;obtain rfl:=zA h1;repeat' first|exact h.elim|(exfalso;omega)|apply aG|refine aE 0 aE6 λK hK=>?_|refine aU aE6 (by kernel_rfl) λK hK=>?_|refine aB ?_|refine aQ ?_|refine aC ?_|(refine hK.n0 ?_;clear hK K)|refine bH (λh=>?_) λh=>?_|refine aA rfl (λh=>?_) λh=>?_|refine aJ rfl ?_|with_reducible refine aH ?_|apply tTT
 ·exact⟨hr,hT⟩
end
section
attribute [local irreducible] SW bA bC dM bZ FC dX bD
def aFh(β:List (List Int))(n:Int)(rec:List Int->List Bool->Option (Bool×List Bool)):List Int->List Bool->Option (Bool×List Bool)
 | [],s=>some (false,s)
 | m::r,s =>
  if m=n then some (true,s)
  else if 0≤m∨s.getD (vIx m) default=true then aFh β n rec r s
  else if β.getD (vIx m) default=[] then aFh β n rec r (s.set (vIx m) true)
  else match rec (β.getD (vIx m) default) (s.set (vIx m) true) with
   | none=>none
   | some (true,s')=>some (true,s')
   | some (false,s')=>aFh β n rec r s'
def xC(β:List (List Int))(n:Int):Nat->List Int->List Bool->Option (Bool×List Bool)
 | 0,_,_=>none
 | f+1,t,s=>aFh β n (xC β n f) t s
theorem aA2{β:List (List Int)}{n:Int}{rec:List Int->List Bool->Option (Bool×List Bool)}(hrec:∀t s q,rec t s=some q->q.2.length=s.length):∀t s q,aFh β n rec t s=some q->q.2.length=s.length
 | [],s,q,h=>by obtain rfl:=zA h;rfl
 | m::r,s,q,h=>by
  unfold aFh at h;split at h
  ·obtain rfl:=zA h;rfl
  ·split at h
   ·exact aA2 hrec r s q h
   ·split at h
    ·rw[aA2 hrec r _ q h,List.length_set]
    ·split at h
     ·cases h
     ·rename_i s' hq;obtain rfl:=zA h;have:=hrec _ _ _ hq;rw[List.length_set] at this;exact this
     ·rename_i s' hq;have:=hrec _ _ _ hq;rw[aA2 hrec r _ q h];rw[List.length_set] at this;exact this
theorem aL7{β:List (List Int)}{n:Int}:∀f t s q,xC β n f t s=some q->q.2.length=s.length
 | 0,_,_,_,h=>by cases h
 | f+1,t,s,q,h=>aA2 (aL7 f) t s q h
theorem aIW(ys:List Bool)(i:Nat)(x:Bool):(ys.map D.bool).set i (.bool x)=(ys.set i x).map D.bool:=by rw[List.map_set]
attribute [go_sem] aIW
def aAN:List (Nat×List Nat):=[(0,[0,1,2,3]),(1,[0,1,3,12,13,14]),(2,[0,1,3,12,13,14,15]),(3,[0,1,3,10,12,13,14]),(4,[0,1,3,10,12,13,14,20]),(5,[8]),(6,[0,1,3,10,12,13,14,30]),(7,[0,1,3,10,12,13,14]),(8,[0,1,3,11,12,13,14]),(9,[0,1,3,12,13,14,51]),(10,[8]),(11,[0,1,3,12,13,14]),(12,[8])]
attribute [go_sem] aAN Tryz.results145 Tryz.ntmps145
theorem uZ(id:Nat)(rs:List Int)(β:List (List Int))(hβ:BOK rs β)(n:Int):∀(f:Nat) (t:List Int) (s:List Bool) (q:Bool×List Bool),xC β n f t s=some q->XT rs t->s.length=48->FC S 145 [(id+1000,uC rs β)] [(64,s.map .bool)] [] [.box (id+1000) 0,.int .i64 n,.sl .any (t.map (.int .i64)),.box 64 0] (.bool q.1) [(64,q.2.map .bool)] []:=by
 have hlb:=hβ.1;unfold uC;intro f;induction f with
 | zero=>intro t s q h;cases h
 | succ f ih =>
  intro t s q hq hT hs;have hq:aFh β n (xC β n f) t s=some q:=hq;have hTl:=hT.len;refine fcb Tryz.func145 λB=>?_;repeat' first|apply aG|refine aE 0 aAN λK hK=>?_|refine aB ?_|(refine hK.n0 ?_;clear hK K)|apply tTT
  refine aV (ι:=Nat×List Bool) (λp=>[(14,.int .i64 p.1)]) (λp=>[(64,p.2.map .bool)]) (λp=>(p.1≤t.length/\p.2.length=48)/\aFh β n (xC β n f) (t.drop p.1) p.2=some q) (λp=>t.length-p.1) (0,s) cvA ?_ (λp hp=>?_);rotate_left
  simp only[go_sem];obtain⟨i,u⟩:=p;obtain⟨⟨hi,hu⟩,h2⟩:=hp;dsimp only at hi hu h2;by_cases hil:i<t.length
  ·rw[List.drop_eq_getElem_cons hil,show t[i]=t.getD i default by simp[zD,hil]] at h2;have hg:=hT.get hil;unfold aFh at h2;by_cases hn:t.getD i default=n
   ·rw[if_pos hn] at h2;obtain rfl:=zA h2;repeat' first|exact h.elim|(exfalso;omega)|apply aG|refine aE 0 aAN λK hK=>?_|refine aB ?_|refine aC ?_|(refine hK.n0 ?_;clear hK K)|refine aA rfl (λh=>?_) λh=>?_|with_reducible refine aH ?_|apply tTT
    all_goals first|rfl|exact⟨rfl,rfl⟩|trace_state
   ·rw[if_neg hn] at h2;by_cases h0:0≤t.getD i default
    ·rw[if_pos (.inl h0)] at h2;repeat' first|exact h.elim|(exfalso;omega)|apply aG|refine aE 0 aAN λK hK=>?_|refine aB ?_|(refine hK.n0 ?_;clear hK K)|refine aZ (λh=>?_) λh=>?_|refine aA rfl (λh=>?_) λh=>?_|refine aJ rfl ?_|apply aF|with_reducible refine aH ?_|apply tTT
     all_goals exact⟨(i+1,u),cvA,⟨⟨by omega,hu⟩,h2⟩,by omega⟩
    ·have hix:vIx (t.getD i default)<48:=by unfold vIx;omega
     by_cases hsn:u.getD (vIx (t.getD i default)) default=true
     ·rw[if_pos (.inr hsn)] at h2;repeat' first|exact h.elim|(exfalso;omega)|(exfalso;have hx:u.getD (-1-t.getD i default).toNat default=false:=(by assumption);exact absurd (hx.symm.trans hsn) (by decide))|apply aG|refine aE 0 aAN λK hK=>?_|refine aB ?_|(refine hK.n0 ?_;clear hK K)|refine aZ (λh=>?_) λh=>?_|refine aA rfl (λh=>?_) λh=>?_|refine aJ rfl ?_|apply aF|with_reducible refine aH ?_|apply tTT
      all_goals exact⟨(i+1,u),cvA,⟨⟨by omega,hu⟩,h2⟩,by omega⟩
     ·rw[if_neg (by rintro (h|h);exact h0 h;exact hsn h)] at h2;have hrd:=aJj rs hlb (i:=(-1-t.getD i default).toNat) hix;by_cases hb:β.getD (vIx (t.getD i default)) default=[]
      ·rw[if_pos hb] at h2;rw[show β.getD (-1-t.getD i default).toNat default=[] from hb,uO] at hrd;repeat' first|exact h.elim|(exfalso;omega)|(exact absurd (by assumption) hsn)|(rw[hrd];simp only[go_sem])|apply aG|refine aE 0 aAN λK hK=>?_|refine aB ?_|(refine hK.n0 ?_;clear hK K)|refine aZ (λh=>?_) λh=>?_|refine aA rfl (λh=>?_) λh=>?_|refine hK.skp rfl rfl ?_|apply aF|with_reducible refine aH ?_|apply tTT
       all_goals exact⟨(i+1,u.set (-1-t.getD i default).toNat true),cvA,⟨⟨by omega,by rw[List.length_set];exact hu⟩,h2⟩,by omega⟩
      ·rw[if_neg hb] at h2;rw[show bD (β.getD (-1-t.getD i default).toNat default)=_ from o7 hb] at hrd;have hb2:(β.getD (-1-t.getD i default).toNat default).map (D.int .i64)≠[]:=λe=>hb (List.map_eq_nil_iff.1 e);have hXb:=hβ.get hb;obtain⟨q1,hq1⟩:∃q1,xC β n f (β.getD (vIx (t.getD i default)) default) (u.set (vIx (t.getD i default)) true)=some q1:=by
        cases hx:xC β n f (β.getD (vIx (t.getD i default)) default) (u.set (vIx (t.getD i default)) true) with
        | none=>rw[hx] at h2;cases h2
        | some q1=>exact⟨q1,rfl⟩
       have cO:=ih (β.getD (-1-t.getD i default).toNat default) (u.set (-1-t.getD i default).toNat true) _ hq1 hXb (by rw[List.length_set];exact hu);rw[hq1] at h2;have hl1:=aL7 _ _ _ _ hq1;rw[List.length_set,hu] at hl1;obtain⟨b1,s1⟩:=q1;dsimp only at cO hl1;cases b1
       ·simp only at h2;repeat' first|exact h.elim|(refine hK.callB rfl rfl rfl (cO) (by refine⟨⟨?_,?_,?_,?_,?_⟩,⟨?_,?_,?_,?_,?_⟩,?_⟩<;>simp[-List.map_set,LS.getBox,Lg.look,D.ids,D.idsL,dQ,fF,LS.clean,D.puOk,D.pu,D.pu1,D.tks,D.tksL,cU,dJ,eH,dI,dW,fR,dR]) ?_;simp(disch:=apply aR;omega)only[go_sem])|(exfalso;omega)|(exact absurd (by assumption) hsn)|(rw[hrd];simp only[go_sem])|(refine⟨hb2,?_⟩)|apply aG|refine aE 0 aAN λK hK=>?_|refine aB ?_|(refine hK.n0 ?_;clear hK K)|refine aZ (λh=>?_) λh=>?_|refine aA rfl (λh=>?_) λh=>?_|apply aF|with_reducible refine aH ?_|apply tTT
        all_goals exact⟨(i+1,s1),cvA,⟨⟨by omega,hl1⟩,h2⟩,by omega⟩
       ·simp only at h2;obtain rfl:=zA h2;repeat' first|exact h.elim|(refine hK.callB rfl rfl rfl (cO) (by refine⟨⟨?_,?_,?_,?_,?_⟩,⟨?_,?_,?_,?_,?_⟩,?_⟩<;>simp[-List.map_set,LS.getBox,Lg.look,D.ids,D.idsL,dQ,fF,LS.clean,D.puOk,D.pu,D.pu1,D.tks,D.tksL,cU,dJ,eH,dI,dW,fR,dR]) ?_;simp(disch:=apply aR;omega)only[go_sem])|(exfalso;omega)|(exact absurd (by assumption) hsn)|(rw[hrd];simp only[go_sem])|(refine⟨hb2,?_⟩)|apply aG|refine aE 0 aAN λK hK=>?_|refine aB ?_|refine aC ?_|(refine hK.n0 ?_;clear hK K)|refine aZ (λh=>?_) λh=>?_|refine aA rfl (λh=>?_) λh=>?_|with_reducible refine aH ?_|apply tTT
        all_goals first|rfl|exact⟨rfl,rfl⟩|trace_state
  ·rw[List.drop_of_length_le (by omega)] at h2;obtain rfl:=zA h2;repeat' first|exact h.elim|(exfalso;omega)|apply aG|refine aE 0 aAN λK hK=>?_|refine aB ?_|refine aC ?_|(refine hK.n0 ?_;clear hK K)|refine aA rfl (λh=>?_) λh=>?_|refine aJ rfl ?_|apply tTT
   all_goals first|rfl|exact⟨rfl,rfl⟩|trace_state
  ·exact⟨⟨by omega,hs⟩,hq⟩
abbrev Bds:=List (List Int)
def hd(t:List Int):Int:=t.getD 0 default
def eC(rs a b:List Int):List (List Int×List Int):=(List.range (dN rs (bL a) 0).length).map λk=>(pX rs a ((dN rs (bL a) 0).getD k default),pX rs b ((dN rs (bL b) 0).getD k default))
def eqL(rec:Bds->List Int->List Int->Option (Option Bds)):List (List Int×List Int)->Bds->Option (Option Bds)
 | [],β=>some (some β)
 | p::r,β=>match rec β p.1 p.2 with
  | none=>none
  | some none=>some none
  | some (some β')=>eqL rec r β'
def aG4(g:Nat)(β:Bds)(x y:List Int):Option (Option Bds) :=
 if 0≤hd y then match xC β (hd x) g y (List.replicate 48 false) with
  | none=>none
  | some (true,_)=>some none
  | some (false,_)=>some (some (β.set (vIx (hd x)) y))
 else some (some (β.set (vIx (hd x)) y))
def eqB(rs:List Int)(g:Nat)(rec:Bds->List Int->List Int->Option (Option Bds))(β:Bds)(a b:List Int):Option (Option Bds) :=
 if hd a=hd b/\hd a<0 then some (some β)
 else if hd b<0/\(0≤hd a∨hd b<hd a) then aG4 g β b a
 else if hd a<0 then aG4 g β a b
 else if hd a≠hd b then some none
 else eqL rec (eC rs a b) β
def eqM(rs:List Int)(g:Nat):Nat->Bds->List Int->List Int->Option (Option Bds)
 | 0,_,_,_=>none
 | f+1,β,a,b=>match dU β g a,dU β g b with
  | some a1,some b1=>eqB rs g (eqM rs g f) β a1 b1
  | _,_=>none
theorem dY{rs:List Int}{β:Bds}(hβ:BOK rs β):∀ {f:Nat} {t r:List Int},dU β f t=some r->XT rs t->XT rs r
 | 0,_,_,h,_=>by cases h
 | f+1,t,r,h,hT=>by
  unfold dU at h;split at h
  ·rename_i hc;exact dY hβ h (hβ.get hc.2)
  ·obtain rfl:=zA h;exact hT
theorem BOK.set{rs:List Int}{β:Bds}(h:BOK rs β)(i:Nat){t:List Int}(ht:XT rs t):BOK rs (β.set i t):=⟨by rw[List.length_set];exact h.1,λx hx=>by
 rcases List.mem_or_eq_of_mem_set hx with hx|rfl
 ·exact h.2 x hx
 ·exact .inr ht⟩
theorem aYH(rs:List Int)(β:Bds)(i:Nat){y:List Int}(hy:y≠[]):(D.sl .any (rs.map (.int .i64))::β.map bD).set (1+i) (.sl .any (y.map (.int .i64)))=D.sl .any (rs.map (.int .i64))::(β.set i y).map bD:=by
 rw[Nat.add_comm,List.set_cons_succ,List.map_set,o7 hy]
theorem v6(rs:List Int)(β:Bds)(n:Int){y:List Int}(hy:y≠[]):(D.sl .any (rs.map (.int .i64))::β.map bD).set (1+(-1-n).toNat) (.sl .any (y.map (.int .i64)))=D.sl .any (rs.map (.int .i64))::(β.set (vIx n) y).map bD:=aYH rs β _ hy
def gJ:List (Nat×List Nat):=[(0,[0,1,2]),(1,[0,1,2,27]),(2,[0,1,2,46]),(3,[0,1,2]),(4,[0,1,2,52]),(5,[0,1,2,66]),(6,[0,1,2]),(7,[]),(8,[0,1,2,84]),(9,[0,1,2]),(10,[0,1,2,6,7]),(11,[0,1,2,6,7,100,101]),(12,[0,1,2,6,7,100,101,102]),(13,[0,1,2,6,7,8,100,101]),(14,[0,1,2,6,7,100,101]),(15,[0,1,2,6,7,100,101])]
attribute [go_sem] gJ Tryz.results128 Tryz.ntmps128
theorem aMT(id:Nat)(rs:List Int)(g:Nat)(β:Bds)(hβ:BOK rs β)(a b a1 b1:List Int)(hA:XT rs a)(hB:XT rs b)(h1:dU β g a=some a1)(h2:dU β g b=some b1)(hv:hd a1=hd b1/\hd a1<0):FC S 128 [] [(id+1000,uC rs β)] [] [.box (id+1000) 0,.sl .any (a.map (.int .i64)),.sl .any (b.map (.int .i64))] (.tup []) [(id+1000,uC rs β)] []:=by
 have c1:=fT (id+1000) rs β hβ g a a1 h1 hA;have c2:=fT (id+1000) rs β hβ g b b1 h2 hB;have hA1:=dY hβ h1 hA;have hB1:=dY hβ h2 hB;have hla:=hA1.len;have hlb:=hB1.len;unfold uC at *;unfold hd at hv;refine fcb Tryz.func128 λB=>?_;repeat' first|exact h.elim|(exfalso;omega)|apply aG|refine aE 0 gJ λK hK=>?_|refine aU gJ (by kernel_rfl) λK hK=>?_|refine aB ?_|refine aQ ?_|refine aC ?_|(refine hK.n0 ?_;clear hK K)|refine bH (λh=>?_) λh=>?_|refine aA rfl (λh=>?_) λh=>?_|refine hK.cR rfl rfl rfl (c1) ?_|refine hK.cR rfl rfl rfl (c2) ?_|with_reducible refine aH ?_|apply tTT
 all_goals first|exact hset|exact⟨rfl,hset⟩|trace_state
theorem aLX(id:Nat)(rs:List Int)(g:Nat)(β:Bds)(hβ:BOK rs β)(a b a1 b1:List Int)(hA:XT rs a)(hB:XT rs b)(h1:dU β g a=some a1)(h2:dU β g b=some b1)(hn1:¬(hd a1=hd b1/\hd a1<0))(hw:¬(hd b1<0/\(0≤hd a1∨hd b1<hd a1)))(hv:hd a1<0)(hy:hd b1<0):FC S 128 [] [(id+1000,uC rs β)] [] [.box (id+1000) 0,.sl .any (a.map (.int .i64)),.sl .any (b.map (.int .i64))] (.tup []) [(id+1000,uC rs (β.set (vIx (hd a1)) b1))] []:=by
 have c1:=fT (id+1000) rs β hβ g a a1 h1 hA;have c2:=fT (id+1000) rs β hβ g b b1 h2 hB;have hA1:=dY hβ h1 hA;have hB1:=dY hβ h2 hB;have hla:=hA1.len;have hlb:=hB1.len;have hga:=hA1.get (a:=0) (by omega);have hgb:=hB1.get (a:=0) (by omega);have hlβ:=hβ.1;have hset:=v6 rs β (hd a1) hB1.ne;unfold uC at *;unfold hd at *;refine fcb Tryz.func128 λB=>?_;repeat' first|exact h.elim|(exfalso;omega)|apply aG|refine aE 0 gJ λK hK=>?_|refine iG 0 gJ 9 (id:=7) (by kernel_rfl) λK hK=>?_|refine λ(K:KT) (hK:KOk S 0 _ _ _ K)=>?_|refine aU gJ (by kernel_rfl) λK hK=>?_|refine aB ?_|refine aQ ?_|refine aC ?_|(refine hK.n0 ?_;clear hK K)|refine aZ (λh=>?_) λh=>?_|refine bH (λh=>?_) λh=>?_|refine aA rfl (λh=>?_) λh=>?_|refine hK.skp rfl rfl ?_|refine hK.cR rfl rfl rfl (c1) ?_|refine hK.cR rfl rfl rfl (c2) ?_|with_reducible refine aH ?_|apply tTT
 all_goals first|exact hset|exact⟨rfl,hset⟩|trace_state
theorem aJ0(id:Nat)(rs:List Int)(g:Nat)(β:Bds)(hβ:BOK rs β)(a b a1 b1:List Int)(hA:XT rs a)(hB:XT rs b)(h1:dU β g a=some a1)(h2:dU β g b=some b1)(hn1:¬(hd a1=hd b1/\hd a1<0))(hw:¬(hd b1<0/\(0≤hd a1∨hd b1<hd a1)))(hv:hd a1<0)(hy:0≤hd b1)(s:List Bool)(hq:xC β (hd a1) g b1 (List.replicate 48 false)=some (false,s)):FC S 128 [] [(id+1000,uC rs β)] [] [.box (id+1000) 0,.sl .any (a.map (.int .i64)),.sl .any (b.map (.int .i64))] (.tup []) [(id+1000,uC rs (β.set (vIx (hd a1)) b1))] []:=by
 have c1:=fT (id+1000) rs β hβ g a a1 h1 hA;have c2:=fT (id+1000) rs β hβ g b b1 h2 hB;have hA1:=dY hβ h1 hA;have hB1:=dY hβ h2 hB;have hla:=hA1.len;have hlb:=hB1.len;have hga:=hA1.get (a:=0) (by omega);have hgb:=hB1.get (a:=0) (by omega);have hlβ:=hβ.1;have hset:=v6 rs β (hd a1) hB1.ne;have cO:=uZ id rs β hβ (hd a1) g b1 (List.replicate 48 false) _ hq hB1 (by simp);unfold uC at *;unfold hd at *;refine fcb Tryz.func128 λB=>?_;repeat' first|exact h.elim|(exfalso;omega)|(refine hK.callB rfl rfl rfl (cO) (by refine⟨⟨?_,?_,?_,?_,?_⟩,⟨?_,?_,?_,?_,?_⟩,?_⟩<;>simp[-List.map_set,LS.getBox,Lg.look,D.ids,D.idsL,dQ,fF,LS.clean,D.puOk,D.pu,D.pu1,D.tks,D.tksL,cU,dJ,eH,dI,dW,fR,dR]) ?_;simp(disch:=apply aR;omega)only[go_sem])|apply aG|refine aE 0 gJ λK hK=>?_|refine iG 0 gJ 9 (id:=7) (by kernel_rfl) λK hK=>?_|refine λ(K:KT) (hK:KOk S 0 _ _ _ K)=>?_|refine aU gJ (by kernel_rfl) λK hK=>?_|refine aB ?_|refine aQ ?_|refine aC ?_|(refine hK.n0 ?_;clear hK K)|refine aZ (λh=>?_) λh=>?_|refine bH (λh=>?_) λh=>?_|refine aA rfl (λh=>?_) λh=>?_|refine hK.cR rfl rfl rfl (c1) ?_|refine hK.cR rfl rfl rfl (c2) ?_|with_reducible refine aH ?_|apply tTT
 all_goals first|exact hset|exact⟨rfl,hset⟩|trace_state
theorem aK6(id:Nat)(rs:List Int)(g:Nat)(β:Bds)(hβ:BOK rs β)(a b a1 b1:List Int)(hA:XT rs a)(hB:XT rs b)(h1:dU β g a=some a1)(h2:dU β g b=some b1)(hn1:¬(hd a1=hd b1/\hd a1<0))(hw:¬(hd b1<0/\(0≤hd a1∨hd b1<hd a1)))(hv:hd a1<0)(hy:0≤hd b1)(s:List Bool)(hq:xC β (hd a1) g b1 (List.replicate 48 false)=some (true,s)):FCX S 128 [] [(id+1000,uC rs β)] [] [.box (id+1000) 0,.sl .any (a.map (.int .i64)),.sl .any (b.map (.int .i64))] (chainE 154):=by
 have c1:=fT (id+1000) rs β hβ g a a1 h1 hA;have c2:=fT (id+1000) rs β hβ g b b1 h2 hB;have hA1:=dY hβ h1 hA;have hB1:=dY hβ h2 hB;have hla:=hA1.len;have hlb:=hB1.len;have hga:=hA1.get (a:=0) (by omega);have hgb:=hB1.get (a:=0) (by omega);have hlβ:=hβ.1;have hset:=v6 rs β (hd a1) hB1.ne;have cO:=uZ id rs β hβ (hd a1) g b1 (List.replicate 48 false) _ hq hB1 (by simp);unfold uC at *;unfold hd at *;refine aAn Tryz.func128 rfl (by kernel_rfl) (by simp[Tryz.f128]) λB hp hp1=>?_;simp only[Tryz.ntmps128,eY,List.map_nil,List.map_cons,zC,Nat.zero_add,Nat.reduceAdd];repeat' first|exact h.elim|(exfalso;omega)|(refine hK.callB rfl rfl rfl (cO) (by refine⟨⟨?_,?_,?_,?_,?_⟩,⟨?_,?_,?_,?_,?_⟩,?_⟩<;>simp[-List.map_set,LS.getBox,Lg.look,D.ids,D.idsL,dQ,fF,LS.clean,D.puOk,D.pu,D.pu1,D.tks,D.tksL,cU,dJ,eH,dI,dW,fR,dR]) ?_;simp(disch:=apply aR;omega)only[go_sem])|(refine aN2 0 1 (id:=6) λK hK=>?_)|apply aG|refine aE 0 gJ λK hK=>?_|refine aU gJ (by kernel_rfl) λK hK=>?_|refine aB ?_|refine aQ ?_|(refine hK.n0 ?_;clear hK K)|refine aZ (λh=>?_) λh=>?_|refine bH (λh=>?_) λh=>?_|refine aA rfl (λh=>?_) λh=>?_|refine hK.cR rfl rfl rfl (c1) ?_|refine hK.cR rfl rfl rfl (c2) ?_|with_reducible refine aH ?_|apply tTT
 all_goals try simp only[List.drop_succ_cons,List.drop_zero]
 all_goals refine iJ.cons (aK.mkIface (λv w=>run_makeInterface w _ v (by kernel_rfl)) rfl rfl rfl (by simp only[Nat.reduceLT]) (aK.nil ?_))
 all_goals exact iJ.panic rfl hp
theorem aMa(id:Nat)(rs:List Int)(g:Nat)(β:Bds)(hβ:BOK rs β)(a b a1 b1:List Int)(hA:XT rs a)(hB:XT rs b)(h1:dU β g a=some a1)(h2:dU β g b=some b1)(hn1:¬(hd a1=hd b1/\hd a1<0))(hw:hd b1<0/\(0≤hd a1∨hd b1<hd a1))(hy:hd a1<0):FC S 128 [] [(id+1000,uC rs β)] [] [.box (id+1000) 0,.sl .any (a.map (.int .i64)),.sl .any (b.map (.int .i64))] (.tup []) [(id+1000,uC rs (β.set (vIx (hd b1)) a1))] []:=by
 have c1:=fT (id+1000) rs β hβ g a a1 h1 hA;have c2:=fT (id+1000) rs β hβ g b b1 h2 hB;have hA1:=dY hβ h1 hA;have hB1:=dY hβ h2 hB;have hla:=hA1.len;have hlb:=hB1.len;have hga:=hA1.get (a:=0) (by omega);have hgb:=hB1.get (a:=0) (by omega);have hlβ:=hβ.1;have hset:=v6 rs β (hd b1) hA1.ne;unfold uC at *;unfold hd at *;refine fcb Tryz.func128 λB=>?_;repeat' first|exact h.elim|(exfalso;omega)|apply aG|refine aE 0 gJ λK hK=>?_|refine iG 0 gJ 9 (id:=7) (by kernel_rfl) λK hK=>?_|refine λ(K:KT) (hK:KOk S 0 _ _ _ K)=>?_|refine aU gJ (by kernel_rfl) λK hK=>?_|refine aB ?_|refine aQ ?_|refine aC ?_|(refine hK.n0 ?_;clear hK K)|refine aZ (λh=>?_) λh=>?_|refine bH (λh=>?_) λh=>?_|refine aA rfl (λh=>?_) λh=>?_|refine hK.skp rfl rfl ?_|refine hK.cR rfl rfl rfl (c1) ?_|refine hK.cR rfl rfl rfl (c2) ?_|with_reducible refine aH ?_|apply tTT
 all_goals first|exact hset|exact⟨rfl,hset⟩|trace_state
theorem aLR(id:Nat)(rs:List Int)(g:Nat)(β:Bds)(hβ:BOK rs β)(a b a1 b1:List Int)(hA:XT rs a)(hB:XT rs b)(h1:dU β g a=some a1)(h2:dU β g b=some b1)(hn1:¬(hd a1=hd b1/\hd a1<0))(hw:hd b1<0/\(0≤hd a1∨hd b1<hd a1))(hy:0≤hd a1)(s:List Bool)(hq:xC β (hd b1) g a1 (List.replicate 48 false)=some (false,s)):FC S 128 [] [(id+1000,uC rs β)] [] [.box (id+1000) 0,.sl .any (a.map (.int .i64)),.sl .any (b.map (.int .i64))] (.tup []) [(id+1000,uC rs (β.set (vIx (hd b1)) a1))] []:=by
 have c1:=fT (id+1000) rs β hβ g a a1 h1 hA;have c2:=fT (id+1000) rs β hβ g b b1 h2 hB;have hA1:=dY hβ h1 hA;have hB1:=dY hβ h2 hB;have hla:=hA1.len;have hlb:=hB1.len;have hga:=hA1.get (a:=0) (by omega);have hgb:=hB1.get (a:=0) (by omega);have hlβ:=hβ.1;have hset:=v6 rs β (hd b1) hA1.ne;have cO:=uZ id rs β hβ (hd b1) g a1 (List.replicate 48 false) _ hq hA1 (by simp);unfold uC at *;unfold hd at *;refine fcb Tryz.func128 λB=>?_;repeat' first|exact h.elim|(exfalso;omega)|(refine hK.callB rfl rfl rfl (cO) (by refine⟨⟨?_,?_,?_,?_,?_⟩,⟨?_,?_,?_,?_,?_⟩,?_⟩<;>simp[-List.map_set,LS.getBox,Lg.look,D.ids,D.idsL,dQ,fF,LS.clean,D.puOk,D.pu,D.pu1,D.tks,D.tksL,cU,dJ,eH,dI,dW,fR,dR]) ?_;simp(disch:=apply aR;omega)only[go_sem])|apply aG|refine aE 0 gJ λK hK=>?_|refine iG 0 gJ 9 (id:=7) (by kernel_rfl) λK hK=>?_|refine λ(K:KT) (hK:KOk S 0 _ _ _ K)=>?_|refine aU gJ (by kernel_rfl) λK hK=>?_|refine aB ?_|refine aQ ?_|refine aC ?_|(refine hK.n0 ?_;clear hK K)|refine aZ (λh=>?_) λh=>?_|refine bH (λh=>?_) λh=>?_|refine aA rfl (λh=>?_) λh=>?_|refine hK.cR rfl rfl rfl (c1) ?_|refine hK.cR rfl rfl rfl (c2) ?_|with_reducible refine aH ?_|apply tTT
 all_goals first|exact hset|exact⟨rfl,hset⟩|trace_state
theorem aLz(id:Nat)(rs:List Int)(g:Nat)(β:Bds)(hβ:BOK rs β)(a b a1 b1:List Int)(hA:XT rs a)(hB:XT rs b)(h1:dU β g a=some a1)(h2:dU β g b=some b1)(hn1:¬(hd a1=hd b1/\hd a1<0))(hw:hd b1<0/\(0≤hd a1∨hd b1<hd a1))(hy:0≤hd a1)(s:List Bool)(hq:xC β (hd b1) g a1 (List.replicate 48 false)=some (true,s)):FCX S 128 [] [(id+1000,uC rs β)] [] [.box (id+1000) 0,.sl .any (a.map (.int .i64)),.sl .any (b.map (.int .i64))] (chainE 154):=by
 have c1:=fT (id+1000) rs β hβ g a a1 h1 hA;have c2:=fT (id+1000) rs β hβ g b b1 h2 hB;have hA1:=dY hβ h1 hA;have hB1:=dY hβ h2 hB;have hla:=hA1.len;have hlb:=hB1.len;have hga:=hA1.get (a:=0) (by omega);have hgb:=hB1.get (a:=0) (by omega);have hlβ:=hβ.1;have hset:=v6 rs β (hd b1) hA1.ne;have cO:=uZ id rs β hβ (hd b1) g a1 (List.replicate 48 false) _ hq hA1 (by simp);unfold uC at *;unfold hd at *;refine aAn Tryz.func128 rfl (by kernel_rfl) (by simp[Tryz.f128]) λB hp hp1=>?_;simp only[Tryz.ntmps128,eY,List.map_nil,List.map_cons,zC,Nat.zero_add,Nat.reduceAdd];repeat' first|exact h.elim|(exfalso;omega)|(refine hK.callB rfl rfl rfl (cO) (by refine⟨⟨?_,?_,?_,?_,?_⟩,⟨?_,?_,?_,?_,?_⟩,?_⟩<;>simp[-List.map_set,LS.getBox,Lg.look,D.ids,D.idsL,dQ,fF,LS.clean,D.puOk,D.pu,D.pu1,D.tks,D.tksL,cU,dJ,eH,dI,dW,fR,dR]) ?_;simp(disch:=apply aR;omega)only[go_sem])|(refine aN2 0 1 (id:=6) λK hK=>?_)|apply aG|refine aE 0 gJ λK hK=>?_|refine aU gJ (by kernel_rfl) λK hK=>?_|refine aB ?_|refine aQ ?_|(refine hK.n0 ?_;clear hK K)|refine aZ (λh=>?_) λh=>?_|refine bH (λh=>?_) λh=>?_|refine aA rfl (λh=>?_) λh=>?_|refine hK.cR rfl rfl rfl (c1) ?_|refine hK.cR rfl rfl rfl (c2) ?_|with_reducible refine aH ?_|apply tTT
 all_goals try simp only[List.drop_succ_cons,List.drop_zero]
 all_goals refine iJ.cons (aK.mkIface (λv w=>run_makeInterface w _ v (by kernel_rfl)) rfl rfl rfl (by simp only[Nat.reduceLT]) (aK.nil ?_))
 all_goals exact iJ.panic rfl hp
theorem aNO(id:Nat)(rs:List Int)(g:Nat)(β:Bds)(hβ:BOK rs β)(a b a1 b1:List Int)(hA:XT rs a)(hB:XT rs b)(h1:dU β g a=some a1)(h2:dU β g b=some b1)(hv:0≤hd a1)(hy:0≤hd b1)(hne:hd a1≠hd b1):FCX S 128 [] [(id+1000,uC rs β)] [] [.box (id+1000) 0,.sl .any (a.map (.int .i64)),.sl .any (b.map (.int .i64))] (chainE 154):=by
 have c1:=fT (id+1000) rs β hβ g a a1 h1 hA;have c2:=fT (id+1000) rs β hβ g b b1 h2 hB;have hA1:=dY hβ h1 hA;have hB1:=dY hβ h2 hB;have hla:=hA1.len;have hlb:=hB1.len;have hga:=hA1.get (a:=0) (by omega);have hgb:=hB1.get (a:=0) (by omega);have hlβ:=hβ.1;unfold uC at *;unfold hd at *;refine aAn Tryz.func128 rfl (by kernel_rfl) (by simp[Tryz.f128]) λB hp hp1=>?_;simp only[Tryz.ntmps128,eY,List.map_nil,List.map_cons,zC,Nat.zero_add,Nat.reduceAdd];repeat' first|exact h.elim|(exfalso;omega)|(refine aN2 0 1 (id:=9) λK hK=>?_)|apply aG|refine aE 0 gJ λK hK=>?_|refine aU gJ (by kernel_rfl) λK hK=>?_|refine aB ?_|refine aQ ?_|(refine hK.n0 ?_;clear hK K)|refine bH (λh=>?_) λh=>?_|refine aA rfl (λh=>?_) λh=>?_|refine hK.cR rfl rfl rfl (c1) ?_|refine hK.cR rfl rfl rfl (c2) ?_|with_reducible refine aH ?_|apply tTT
 all_goals try simp only[List.drop_succ_cons,List.drop_zero]
 all_goals refine iJ.cons (aK.mkIface (λv w=>run_makeInterface w _ v (by kernel_rfl)) rfl rfl rfl (by simp only[Nat.reduceLT]) (aK.nil ?_))
 all_goals exact iJ.panic rfl hp
theorem aJL(ys:List Nat):D.tksL (ys.map aJD)=[]:=by
 induction ys with
 | nil=>rfl
 | cons y r ih=>simp[D.tksL,D.tks,aJD,ih]
def aWO(rs:List Int)(rec:Bds->List Int->List Int->Option (Option Bds))(id:Nat):Prop:=∀(β:Bds) (a b:List Int),BOK rs β->XT rs a->XT rs b →
 (∀β',rec β a b=some (some β')->BOK rs β'/\FC S 128 [] [(id+1000,uC rs β)] [] [.box (id+1000) 0,.sl .any (a.map (.int .i64)),.sl .any (b.map (.int .i64))] (.tup []) [(id+1000,uC rs β')] []) ∧
 (rec β a b=some none->FCX S 128 [] [(id+1000,uC rs β)] [] [.box (id+1000) 0,.sl .any (a.map (.int .i64)),.sl .any (b.map (.int .i64))] (chainE 154))
theorem x4(rs a b:List Int):(eC rs a b).length=(dN rs (bL a) 0).length:=by simp[eC]
theorem aCH(rs a b:List Int){i:Nat}(h:i<(dN rs (bL a) 0).length):(eC rs a b).drop i=(pX rs a ((dN rs (bL a) 0).getD i default),pX rs b ((dN rs (bL b) 0).getD i default))::(eC rs a b).drop (i+1):=by
 rw[List.drop_eq_getElem_cons (by rw[x4];exact h)];simp[eC]
theorem wB{rs a b:List Int}(hA:XT rs a)(hB:XT rs b)(he:hd a=hd b):(dN rs (bL b) 0).length=(dN rs (bL a) 0).length:=by
 have h1:=hA.len;have h2:=hB.len;unfold dN;rw[fE,fE,mS b 0 (by omega),mS a 0 (by omega)];unfold hd at he;rw[he]
theorem jP{rs a:List Int}(hA:XT rs a){i:Nat}(hi:i<(dN rs (bL a) 0).length):(dN rs (bL a) 0).getD i default<a.length:=by
 have h1:=hA.len;have:=(aDW hA.1 (a:=0) (by rw[e7];omega) _ (aX _ i hi)).2;rwa [e7] at this
theorem w9{rs a b:List Int}(hA:XT rs a)(hB:XT rs b)(he:hd a=hd b):∀p∈eC rs a b,XT rs p.1/\XT rs p.2:=λp hp=>by
 obtain⟨k,hk,rfl⟩:=zJ.1 hp;have hk:=List.mem_range.1 hk;exact⟨qZ hA (jP hA hk),qZ hB (jP hB (by rw[wB hA hB he];exact hk))⟩
theorem aVA{rs:List Int}{rec:Bds->List Int->List Int->Option (Option Bds)}{id:Nat}(hr:aWO rs rec id):∀ {ps:List (List Int×List Int)} {β β':Bds},(∀p∈ps,XT rs p.1/\XT rs p.2)->BOK rs β->eqL rec ps β=some (some β')->BOK rs β'
 | [],β,β',_,hβ,h=>by obtain rfl:=zA (zA h);exact hβ
 | p::r,β,β',hp,hβ,h=>by
  unfold eqL at h;split at h
  ·cases h
  ·cases h
  ·rename_i δ hx;have h0:=hp p (zH ..);exact aVA hr (λq hq=>hp q (zG _ hq)) ((hr β _ _ hβ h0.1 h0.2).1 δ hx).1 h
theorem aMC(id:Nat)(rs:List Int)(g:Nat)(β:Bds)(hβ:BOK rs β)(a b a1 b1:List Int)(hA:XT rs a)(hB:XT rs b)(h1:dU β g a=some a1)(h2:dU β g b=some b1)(rec:Bds->List Int->List Int->Option (Option Bds))(hr:aWO rs rec id)(β':Bds)(hl:eqL rec (eC rs a1 b1) β=some (some β'))(he:hd a1=hd b1)(h0:0≤hd a1):FC S 128 [] [(id+1000,uC rs β)] [] [.box (id+1000) 0,.sl .any (a.map (.int .i64)),.sl .any (b.map (.int .i64))] (.tup []) [(id+1000,uC rs β')] []:=by
 have c1:=fT (id+1000) rs β hβ g a a1 h1 hA;have c2:=fT (id+1000) rs β hβ g b b1 h2 hB;have hA1:=dY hβ h1 hA;have hB1:=dY hβ h2 hB;have hla:=hA1.len;have hlb:=hB1.len;have hga:=hA1.get (a:=0) (by omega);have hgb:=hB1.get (a:=0) (by omega);have hlβ:=hβ.1;have hlen:=wB hA1 hB1 he;have hn8:(dN rs (bL a1) 0).length≤60:=by
  unfold dN;rw[fE];have:=wJ hA1.1.1 ((bL a1).getD 0 default);omega
 have cP:=rZ .any .any rs a1 0 hA1 (by omega);have cQ:=rZ .any .any rs b1 0 hB1 (by omega);unfold uC at *;unfold hd at *;refine fcb Tryz.func128 λB=>?_;repeat' first|exact h.elim|(exfalso;omega)|apply aG|refine aE 0 gJ λK hK=>?_|refine aU gJ (by kernel_rfl) λK hK=>?_|refine aB ?_|refine aQ ?_|(refine hK.n0 ?_;clear hK K)|refine bH (λh=>?_) λh=>?_|refine aA rfl (λh=>?_) λh=>?_|refine hK.cR rfl rfl rfl (c1) ?_|refine hK.cR rfl rfl rfl (c2) ?_|refine hK.c1 rfl rfl rfl (cP) ?_|refine hK.c1 rfl rfl rfl (cQ) ?_|with_reducible refine aH ?_|apply tTT
 refine aV (ι:=Nat×Bds) (λp=>[(101,.int .i64 p.1)]) (λp=>[(id+1000,D.sl .any (rs.map (.int .i64))::p.2.map bD)]) (λp=>(p.1≤(dN rs (bL a1) 0).length/\BOK rs p.2)/\eqL rec ((eC rs a1 b1).drop p.1) p.2=some (some β')) (λp=>(dN rs (bL a1) 0).length-p.1) (0,β) cvA ?_ (λp hp=>?_);rotate_left
 simp only[go_sem];obtain⟨i,γ⟩:=p;obtain⟨⟨hi,hγ⟩,h3⟩:=hp;dsimp only at hi hγ h3;by_cases hil:i<(dN rs (bL a1) 0).length
 ·rw[aCH rs a1 b1 hil] at h3;have hXa:=qZ hA1 (jP hA1 hil);have hXb:=qZ hB1 (jP hB1 (i:=i) (by omega));have cS:=vY .any .any rs a1 _ hA1 (jP hA1 hil);have cT:=vY .any .any rs b1 _ hB1 (jP hB1 (i:=i) (by omega));unfold eqL at h3;dsimp only at h3;obtain⟨δ,hδ⟩:∃δ,rec γ (pX rs a1 ((dN rs (bL a1) 0).getD i default)) (pX rs b1 ((dN rs (bL b1) 0).getD i default))=some (some δ):=by
   split at h3
   ·cases h3
   ·cases h3
   ·rename_i δ hx;exact⟨δ,hx⟩
  rw[hδ] at h3;dsimp only at h3;obtain⟨hδB,cE⟩:=(hr γ _ _ hγ hXa hXb).1 δ hδ;unfold uC at cE;repeat' first|exact h.elim|(exfalso;omega)|(refine hK.callB rfl rfl rfl (cE) (by refine⟨⟨?_,?_,?_,?_,?_⟩,⟨?_,?_,?_,?_,?_⟩,?_⟩<;>simp[-List.map_set,LS.getBox,Lg.look,D.ids,D.idsL,dQ,fF,LS.clean,D.puOk,D.pu,D.pu1,D.tks,D.tksL,cU,dJ,eH,dI,dW,fR,dR]) ?_;simp(disch:=apply aR;omega)only[go_sem])|apply aG|refine aE 0 gJ λK hK=>?_|refine iG 0 gJ 21 (id:=14) (by kernel_rfl) λK hK=>?_|refine λ(K:KT) (hK:KOk S 0 _ _ _ K)=>?_|refine aB ?_|refine aQ ?_|(refine hK.n0 ?_;clear hK K)|refine aA rfl (λh=>?_) λh=>?_|apply aF|refine hK.c1 rfl rfl rfl (cS) ?_|refine hK.c1 rfl rfl rfl (cT) ?_|with_reducible refine aH ?_|apply tTT
  all_goals exact⟨(i+1,δ),cvA,⟨⟨by omega,hδB⟩,h3⟩,by omega⟩
 ·rw[List.drop_of_length_le (by rw[x4];omega)] at h3;obtain rfl:=zA (zA h3);repeat' first|exact h.elim|(exfalso;omega)|apply aG|refine aE 0 gJ λK hK=>?_|refine aB ?_|(refine hK.n0 ?_;clear hK K)|refine aA rfl (λh=>?_) λh=>?_|refine aJ rfl ?_|apply tTT
  refine aYW ?_;simp only[go_sem,Tryz.results128];all_goals trace_state
 ·exact⟨⟨by omega,hβ⟩,hl⟩
theorem aOy(id:Nat)(rs:List Int)(g:Nat)(β:Bds)(hβ:BOK rs β)(a b a1 b1:List Int)(hA:XT rs a)(hB:XT rs b)(h1:dU β g a=some a1)(h2:dU β g b=some b1)(rec:Bds->List Int->List Int->Option (Option Bds))(hr:aWO rs rec id)(hl:eqL rec (eC rs a1 b1) β=some none)(he:hd a1=hd b1)(h0:0≤hd a1):FCX S 128 [] [(id+1000,uC rs β)] [] [.box (id+1000) 0,.sl .any (a.map (.int .i64)),.sl .any (b.map (.int .i64))] (chainE 154):=by
 have c1:=fT (id+1000) rs β hβ g a a1 h1 hA;have c2:=fT (id+1000) rs β hβ g b b1 h2 hB;have hA1:=dY hβ h1 hA;have hB1:=dY hβ h2 hB;have hla:=hA1.len;have hlb:=hB1.len;have hga:=hA1.get (a:=0) (by omega);have hgb:=hB1.get (a:=0) (by omega);have hlβ:=hβ.1;have hlen:=wB hA1 hB1 he;have hn8:(dN rs (bL a1) 0).length≤60:=by
  unfold dN;rw[fE];have:=wJ hA1.1.1 ((bL a1).getD 0 default);omega
 have cP:=rZ .any .any rs a1 0 hA1 (by omega);have cQ:=rZ .any .any rs b1 0 hB1 (by omega);unfold uC at *;unfold hd at *;refine aAn Tryz.func128 rfl (by kernel_rfl) (by simp[Tryz.f128]) λB hp hp1=>?_;simp only[Tryz.ntmps128,eY,List.map_nil,List.map_cons,zC,Nat.zero_add,Nat.reduceAdd];repeat' first|exact h.elim|(exfalso;omega)|apply aG|refine aE 0 gJ λK hK=>?_|refine aU gJ (by kernel_rfl) λK hK=>?_|refine aB ?_|refine aQ ?_|(refine hK.n0 ?_;clear hK K)|refine bH (λh=>?_) λh=>?_|refine aA rfl (λh=>?_) λh=>?_|refine hK.cR rfl rfl rfl (c1) ?_|refine hK.cR rfl rfl rfl (c2) ?_|refine hK.c1 rfl rfl rfl (cP) ?_|refine hK.c1 rfl rfl rfl (cQ) ?_|with_reducible refine aH ?_|apply tTT
 refine aV (ι:=Nat×Bds) (λp=>[(101,.int .i64 p.1)]) (λp=>[(id+1000,D.sl .any (rs.map (.int .i64))::p.2.map bD)]) (λp=>(p.1≤(dN rs (bL a1) 0).length/\BOK rs p.2)/\eqL rec ((eC rs a1 b1).drop p.1) p.2=some none) (λp=>(dN rs (bL a1) 0).length-p.1) (0,β) cvA ?_ (λp hp=>?_);rotate_left
 simp only[go_sem];obtain⟨i,γ⟩:=p;obtain⟨⟨hi,hγ⟩,h3⟩:=hp;dsimp only at hi hγ h3;by_cases hil:i<(dN rs (bL a1) 0).length
 ·rw[aCH rs a1 b1 hil] at h3;have hXa:=qZ hA1 (jP hA1 hil);have hXb:=qZ hB1 (jP hB1 (i:=i) (by omega));have cS:=vY .any .any rs a1 _ hA1 (jP hA1 hil);have cT:=vY .any .any rs b1 _ hB1 (jP hB1 (i:=i) (by omega));unfold eqL at h3;dsimp only at h3;have hR:=hr γ _ _ hγ hXa hXb;cases hx:rec γ (pX rs a1 ((dN rs (bL a1) 0).getD i default)) (pX rs b1 ((dN rs (bL b1) 0).getD i default)) with
  | none=>rw[hx] at h3;cases h3
  | some o =>
   rw[hx] at h3;cases o with
   | none =>
    have cE:=hR.2 hx;unfold uC at cE;repeat' first|exact h.elim|(exfalso;omega)|(refine aWz 21 (id:=14) (by kernel_rfl) λK hK=>?_)|apply aG|refine aE 0 gJ λK hK=>?_|refine aB ?_|refine aQ ?_|(refine hK.n0 ?_;clear hK K)|refine aA rfl (λh=>?_) λh=>?_|refine hK.c1 rfl rfl rfl (cS) ?_|refine hK.c1 rfl rfl rfl (cT) ?_|with_reducible refine aH ?_|apply tTT
    try simp only[List.drop_succ_cons,List.drop_zero]
    refine iJ.call rfl rfl rfl cE hp ⟨by simp,by simp[Lg.look],by simp⟩ 1000000 (by simp[-List.map_set,LS.clean,D.tks,D.tksL,cU,dJ,eH,aJL,dR])
   | some δ =>
    dsimp only at h3;obtain⟨hδB,cE⟩:=hR.1 δ hx;unfold uC at cE;repeat' first|exact h.elim|(exfalso;omega)|(refine hK.callB rfl rfl rfl (cE) (by refine⟨⟨?_,?_,?_,?_,?_⟩,⟨?_,?_,?_,?_,?_⟩,?_⟩<;>simp[-List.map_set,LS.getBox,Lg.look,D.ids,D.idsL,dQ,fF,LS.clean,D.puOk,D.pu,D.pu1,D.tks,D.tksL,cU,dJ,eH,dI,dW,fR,dR]) ?_;simp(disch:=apply aR;omega)only[go_sem])|apply aG|refine aE 0 gJ λK hK=>?_|refine iG 0 gJ 21 (id:=14) (by kernel_rfl) λK hK=>?_|refine λ(K:KT) (hK:KOk S 0 _ _ _ K)=>?_|refine aB ?_|refine aQ ?_|(refine hK.n0 ?_;clear hK K)|refine aA rfl (λh=>?_) λh=>?_|apply aF|refine hK.c1 rfl rfl rfl (cS) ?_|refine hK.c1 rfl rfl rfl (cT) ?_|with_reducible refine aH ?_|apply tTT
    all_goals exact⟨(i+1,δ),cvA,⟨⟨by omega,hδB⟩,h3⟩,by omega⟩
 ·rw[List.drop_of_length_le (by rw[x4];omega)] at h3;cases h3
 ·exact⟨⟨by omega,hβ⟩,hl⟩
theorem aB4(rs:List Int)(g id:Nat):∀f,aWO rs (eqM rs g f) id
 | 0=>λβ a b _ _ _=>⟨λ_ h=>(by cases h),λh=>(by cases h)⟩
 | f+1=>λβ a b hβ hA hB=>by
  have ih:=aB4 rs g id f;cases h1:dU β g a with
  | none=>exact⟨λ_ h=>(by simp[eqM,h1] at h),λh=>(by simp[eqM,h1] at h)⟩
  | some a1 =>
   cases h2:dU β g b with
   | none=>exact⟨λ_ h=>(by simp[eqM,h1,h2] at h),λh=>(by simp[eqM,h1,h2] at h)⟩
   | some b1 =>
    have hA1:=dY hβ h1 hA;have hB1:=dY hβ h2 hB;have e:eqM rs g (f+1) β a b=eqB rs g (eqM rs g f) β a1 b1:=by simp[eqM,h1,h2]
    rw[e];unfold eqB;by_cases k1:hd a1=hd b1/\hd a1<0
    ·rw[if_pos k1];exact⟨λβ' h=>(by obtain rfl:=zA (zA h);exact⟨hβ,aMT id rs g β hβ a b a1 b1 hA hB h1 h2 k1⟩),λh=>(by cases h)⟩
    rw[if_neg k1];by_cases k2:hd b1<0/\(0≤hd a1∨hd b1<hd a1)
    ·rw[if_pos k2];unfold aG4;by_cases k3:0≤hd a1
     ·rw[if_pos k3];cases hq:xC β (hd b1) g a1 (List.replicate 48 false) with
      | none=>exact⟨λ_ h=>(by cases h),λh=>(by cases h)⟩
      | some q =>
       obtain⟨o,s⟩:=q;cases o with
       | true=>exact⟨λ_ h=>(by cases h),λ_=>aLz id rs g β hβ a b a1 b1 hA hB h1 h2 k1 k2 k3 s hq⟩
       | false=>exact⟨λβ' h=>(by obtain rfl:=zA (zA h);exact⟨hβ.set _ hA1,aLR id rs g β hβ a b a1 b1 hA hB h1 h2 k1 k2 k3 s hq⟩),λh=>(by cases h)⟩
     ·rw[if_neg k3];exact⟨λβ' h=>(by obtain rfl:=zA (zA h);exact⟨hβ.set _ hA1,aMa id rs g β hβ a b a1 b1 hA hB h1 h2 k1 k2 (by omega)⟩),λh=>(by cases h)⟩
    rw[if_neg k2];by_cases k4:hd a1<0
    ·rw[if_pos k4];unfold aG4;by_cases k3:0≤hd b1
     ·rw[if_pos k3];cases hq:xC β (hd a1) g b1 (List.replicate 48 false) with
      | none=>exact⟨λ_ h=>(by cases h),λh=>(by cases h)⟩
      | some q =>
       obtain⟨o,s⟩:=q;cases o with
       | true=>exact⟨λ_ h=>(by cases h),λ_=>aK6 id rs g β hβ a b a1 b1 hA hB h1 h2 k1 k2 k4 k3 s hq⟩
       | false=>exact⟨λβ' h=>(by obtain rfl:=zA (zA h);exact⟨hβ.set _ hB1,aJ0 id rs g β hβ a b a1 b1 hA hB h1 h2 k1 k2 k4 k3 s hq⟩),λh=>(by cases h)⟩
     ·rw[if_neg k3];exact⟨λβ' h=>(by obtain rfl:=zA (zA h);exact⟨hβ.set _ hB1,aLX id rs g β hβ a b a1 b1 hA hB h1 h2 k1 k2 k4 (by omega)⟩),λh=>(by cases h)⟩
    rw[if_neg k4];have k5:0≤hd b1:=by omega
    by_cases k6:hd a1=hd b1
    ·rw[if_neg (by simpa using k6)];exact⟨λβ' h=>⟨aVA ih (λp hp=>w9 hA1 hB1 k6 p hp) hβ h,aMC id rs g β hβ a b a1 b1 hA hB h1 h2 _ ih β' h k6 (by omega)⟩,λh=>aOy id rs g β hβ a b a1 b1 hA hB h1 h2 _ ih h k6 (by omega)⟩
    ·rw[if_pos k6];exact⟨λ_ h=>(by cases h),λ_=>aNO id rs g β hβ a b a1 b1 hA hB h1 h2 (by omega) k5 k6⟩
end
section
abbrev Bnd:=List (List Int)
def G0:Bnd:=List.replicate 24 []
end
section
attribute [local irreducible] SW bA bC dM bZ FC dX
def tkN(u:List Int):Tk:=if u=[] then .nil else .any
def sZ(u:List Int):D:=.sl (tkN u) (u.map (.int .i64))
attribute [go_sem] sZ
theorem aBR(rs t:List Int)(a:Nat):(dN rs t a).length=(arS rs (t.getD a default)).toNat:=fE _ _ _ _
theorem aBz(rs t:List Int)(a j:Nat)(h:j<(arS rs (t.getD a default)).toNat):(dN rs t a).getD j default=d8 rs t (a+1) j:=aBa _ _ _ _ _ h
end
section
set_option maxHeartbeats 1000000
theorem wX{x y:Int}(hx:x<0)(hy:y<0)(h:vIx x=vIx y):x=y:=by unfold vIx at h;omega
theorem aRk{rs t:List Int}(h:XT rs t){a:Nat}(ha:a<t.length):t.drop a=pX rs t a++t.drop (eJ rs (bL t) a).toNat:=by
 have he:=gQ h.1 (a:=a) (by rw[e7];exact ha);rw[e7] at he;unfold pX;conv=>lhs;rw[←List.take_append_drop (eJ rs (bL t) a).toNat t]
 rw[List.drop_append_of_le_length (by simp;omega)]
theorem aSQ{rs t:List Int}(h:XT rs t):∀j≤(dN rs (bL t) 0).length,t.drop 1=((List.range j).map λk=>pX rs t ((dN rs (bL t) 0).getD k default)).flatten++t.drop (d8 rs (bL t) 1 j):=by
 intro j;induction j with
 | zero=>intro _;simp[d8]
 | succ j ih =>
  intro hj;have hl:=h.len;have hn:j<(arS rs ((bL t).getD 0 default)).toNat:=by rw[aBR] at hj;omega
  have hlt:=oU h.1 (a:=0) (by rw[e7];omega) hn;rw[Nat.zero_add,e7] at hlt;rw[List.range_succ,List.map_append,List.flatten_append,ih (by omega),List.append_assoc];congr 1
  simp only[List.map_cons,List.map_nil,List.flatten_cons,List.flatten_nil,List.append_nil];rw[aBz rs (bL t) 0 j hn,Nat.zero_add];exact aRk h hlt.2
theorem aVI(rs a b:List Int):(eC rs a b).map (·.1)=(List.range (dN rs (bL a) 0).length).map λk=>pX rs a ((dN rs (bL a) 0).getD k default):=by simp[eC]
theorem aV0(rs a b:List Int):(eC rs a b).map (·.2)=(List.range (dN rs (bL a) 0).length).map λk=>pX rs b ((dN rs (bL b) 0).getD k default):=by simp[eC]
end
end Go.Proofs.YtmfmgoceeedonaaGreat
