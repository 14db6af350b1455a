/-
  K1p, A15s, A15t, A29, one behind the other.
-/
import Derived.Test.YtpennhjjnlkbiaaGreatG1
import Derived.Test.YtpennhjjnlkbiaaGreatLgK13
import Derived.Test.YtpennhjjnlkbiaaGreatLgK10
import Derived.Test.YtpennhjjnlkbiaaGreatLgK12
import Derived.Test.YtpennhjjnlkbiaaGreatSet
import Derived.Test.YtpennhjjnlkbiaaGreatG0
namespace Go.Proofs.YtpennhjjnlkbiaaGreat
open Go Go.Lg
set_option linter.unusedSimpArgs false
set_option linter.unusedVariables false
set_option maxHeartbeats 4000000
section
def j5:List (Int×Int)->List Int->List Int×Bool
 | b::bs,x::xs=>if (j5 bs xs).2=true then (x::(j5 bs xs).1,true) else if x<b.2 then ((x+1)::(j5 bs xs).1,true) else (b.1::(j5 bs xs).1,false)
 | _,_=>([],false)
def aDV(A:List (List Int))(v:Int):Nat->List (List Int)
 | 0=>A.map (v::·)
 | n+1=>A.map (v::·)++aDV A (v+1) n
def gL:List (Int×Int)->List (List Int)
 | []=>[[]]
 | b::bs=>aDV (gL bs) b.1 (b.2-b.1).toNat
def jX(bs:List (Int×Int)):List Int:=bs.map (·.1)
def nS:List (Int×Int)->List Int->Prop
 | [],[]=>True
 | b::bs,x::xs=>(b.1≤x/\x≤b.2)/\nS bs xs
 | _,_=>False
def wU(bs:List (Int×Int)):List (List Int)->Prop
 | []=>True
 | [x]=>j5 bs x=(jX bs,false)
 | x::y::r=>j5 bs x=(y,true)/\wU bs (y::r)
theorem kP(b:Int×Int)(bs:List (Int×Int))(x:Int)(xs:List Int):j5 (b::bs) (x::xs)=if (j5 bs xs).2=true then (x::(j5 bs xs).1,true) else if x<b.2 then ((x+1)::(j5 bs xs).1,true) else (b.1::(j5 bs xs).1,false):=rfl
theorem jB:∀ {bs:List (Int×Int)} {xs:List Int},nS bs xs->xs.length=bs.length
 | [],[],_=>rfl
 | _::_,_::_,h=>by simp[jB h.2]
 | [],_::_,h=>h.elim
 | _::_,[],h=>h.elim
theorem aHl:∀ {bs:List (Int×Int)} {xs:List Int},nS bs xs->∀i<bs.length,(bs.getD i default).1≤xs.getD i default/\xs.getD i default≤(bs.getD i default).2
 | [],[],_,i,hi=>absurd hi (Nat.not_lt_zero _)
 | _::_,_::_,h,0,_=>h.1
 | _::bs,_::_,h,i+1,hi=>aHl (bs:=bs) h.2 i (by simpa using hi)
 | [],_::_,h,_,_=>h.elim
 | _::_,[],h,_,_=>h.elim
theorem aS2{A:List (List Int)}(hA:A≠[])(v:Int):∀n,∃r,aDV A v n=(v::A.head hA)::r
 | 0=>by
  cases A with
  | nil=>exact absurd rfl hA
  | cons a r=>exact⟨r.map (v::·),rfl⟩
 | n+1=>by
  cases A with
  | nil=>exact absurd rfl hA
  | cons a r=>exact⟨r.map (v::·)++aDV (a::r) (v+1) n,rfl⟩
theorem aG0{b:Int×Int}{bs:List (Int×Int)}(v:Int){R:List (List Int)}(hR:wU (b::bs) R)(h:(R=[]/\v=b.2)∨(v<b.2/\∃r,R=((v+1)::jX bs)::r)):∀ {A:List (List Int)},A≠[]->wU bs A->wU (b::bs) (A.map (v::·)++R)
 | [],hA,_=>absurd rfl hA
 | [x],_,hs=>by
  have hs:j5 bs x=(jX bs,false):=hs
  rcases h with⟨rfl,hv⟩|⟨hv,r,rfl⟩
  ·show j5 (b::bs) (v::x)=_
   rw[kP,hs,if_neg (by simp),if_neg (by omega)];rfl
  ·refine⟨?_,hR⟩
   rw[kP,hs,if_neg (by simp),if_pos hv]
 | x::y::r,_,hs=>by
  refine⟨?_,aG0 v hR h (A:=y::r) (by simp) hs.2⟩
  rw[kP,hs.1,if_pos rfl]
theorem aIs{b:Int×Int}{bs:List (Int×Int)}{A:List (List Int)}(hA:A≠[])(hs:wU bs A)(hl:A.head hA=jX bs):∀(n:Nat) (v:Int),v+n=b.2->wU (b::bs) (aDV A v n)
 | 0,v,h=>by
  have:=aG0 (b:=b) v (R:=[]) trivial (.inl ⟨rfl,by omega⟩) hA hs
  rwa [List.append_nil] at this
 | n+1,v,h=>by
  have ih:=aIs (b:=b) hA hs hl n (v+1) (by omega)
  obtain⟨r,hr⟩:=aS2 hA (v+1) n
  exact aG0 (b:=b) v ih (.inr ⟨by omega,r,by rw[hr,hl]⟩) hA hs
theorem oS:∀ {bs:List (Int×Int)},(∀b∈bs,b.1≤b.2)->wU bs (gL bs)/\∃r,gL bs=jX bs::r
 | [],_=>⟨rfl,[],rfl⟩
 | b::bs,h=>by
  obtain⟨ih,r,hr⟩:=oS (bs:=bs) λc hc=>h c (zG _ hc)
  have hb:=h b zH
  have hA:gL bs≠[]:=by rw[hr];simp
  have hl:(gL bs).head hA=jX bs:=by simp[hr]
  refine⟨aIs hA ih hl _ _ (by omega),?_⟩
  obtain⟨r',hr'⟩:=aS2 hA b.1 (b.2-b.1).toNat
  exact⟨r',by rw[gL,hr',hl];rfl⟩
theorem aN3{b:Int×Int}{bs:List (Int×Int)}{A:List (List Int)}(hA:∀x∈A,nS bs x):∀(n:Nat) (v:Int),b.1≤v->v+n≤b.2->∀x∈aDV A v n,nS (b::bs) x
 | 0,v,h1,h2,x,hx=>by
  obtain⟨y,hy,rfl⟩:=zJ.1 hx
  exact⟨⟨h1,by omega⟩,hA y hy⟩
 | n+1,v,h1,h2,x,hx=>by
  rcases zP.1 hx with hx|hx
  ·obtain⟨y,hy,rfl⟩:=zJ.1 hx
   exact⟨⟨h1,by omega⟩,hA y hy⟩
  ·exact aN3 hA n (v+1) (by omega) (by omega) x hx
theorem j1:∀ {bs:List (Int×Int)},(∀b∈bs,b.1≤b.2)->∀x∈gL bs,nS bs x
 | [],_,x,hx=>by rw[zN.1 hx];trivial
 | b::bs,h,x,hx=>by
  have hb:=h b zH
  exact aN3 (j1 λc hc=>h c (zG _ hc)) _ _ (by omega) (by omega) x hx
theorem wX(bs:List (Int×Int)):(jX bs).length=bs.length:=by simp[jX]
theorem n5:∀ {bs:List (Int×Int)} {xs:List Int},xs.length=bs.length->(j5 bs xs).1.length=bs.length/\((j5 bs xs).2=false->(j5 bs xs).1=jX bs)
 | [],[],_=>⟨rfl,λ_=>rfl⟩
 | b::bs,x::xs,h=>by
  have ih:=n5 (bs:=bs) (xs:=xs) (by simpa using h)
  rw[kP]
  split
  ·exact⟨by simp[ih.1],λh=>by cases h⟩
  ·rename_i h1
   have h1:(j5 bs xs).2=false:=by simpa using h1
   split
   ·exact⟨by simp[ih.1],λh=>by cases h⟩
   ·exact⟨by simp[ih.1],λ_=>by simp[jX,ih.2 h1]⟩
 | [],_::_,h=>by simp at h
 | _::_,[],h=>by simp at h
def stD(bs:List (Int×Int))(xs:List Int)(p:Nat):List Int:=xs.take p++jX (bs.drop p)
def rA(bs:List (Int×Int))(xs:List Int)(p:Nat):Prop:=(j5 (bs.drop p) (xs.drop p)).2=false
theorem aF1{bs:List (Int×Int)}{xs:List Int}(h:xs.length=bs.length){p:Nat}(hp:p≤xs.length):(stD bs xs p).length=xs.length:=by simp[stD,jX];omega
theorem aHg{bs:List (Int×Int)}{xs:List Int}(h:xs.length=bs.length):stD bs xs xs.length=xs:=by
 unfold stD
 rw[List.take_length,h,List.drop_length]
 simp[jX]
theorem aCC{bs:List (Int×Int)}{xs:List Int}(h:xs.length=bs.length):rA bs xs xs.length:=by
 unfold rA
 rw[List.drop_length,h,List.drop_length];rfl
theorem aWb:∀ {k:Nat} {bs:List (Int×Int)} {xs:List Int} {r:List Int},xs.length=bs.length->k≤xs.length->j5 (bs.drop k) (xs.drop k)=(r,true)->j5 bs xs=(xs.take k++r,true)
 | 0,bs,xs,r,_,_,h=>by simpa using h
 | k+1,b::bs,x::xs,r,h,hk,hn=>by
  have ih:=aWb (k:=k) (bs:=bs) (xs:=xs) (r:=r) (by simpa using h) (by simpa using hk) (by simpa using hn)
  rw[kP,ih,if_pos rfl];simp
 | _+1,_,[],_,_,hk,_=>by simp at hk
 | _+1,[],_::_,_,h,_,_=>by simp at h
theorem oJ{α:Type} [Inhabited α] (xs:List α)(k:Nat)(h:k<xs.length):xs.drop k=xs.getD k default::xs.drop (k+1):=by
 rw[List.drop_eq_getElem_cons h];simp[List.getD,zB h]
theorem aOP{α:Type} [Inhabited α] (xs:List α)(k:Nat)(h:k<xs.length):xs.take (k+1)=xs.take k++[xs.getD k default]:=by
 rw[List.take_succ_eq_append_getElem h];simp[List.getD,zB h]
theorem aFC{bs:List (Int×Int)}{xs:List Int}(h:xs.length=bs.length){k:Nat}(hk:k<xs.length):stD bs xs (k+1)=xs.take k++xs.getD k default::jX (bs.drop (k+1)):=by
 unfold stD;rw[aOP xs k hk,List.append_assoc];rfl
theorem aG4{bs:List (Int×Int)}{xs:List Int}(h:xs.length=bs.length){k:Nat}(hk:k<xs.length):(stD bs xs (k+1)).getD k default=xs.getD k default:=by
 rw[aFC h hk]
 have:(xs.take k).length=k:=by simp;omega
 simp[List.getD,List.getElem?_append,this]
theorem aNJ{bs:List (Int×Int)}{xs:List Int}(h:xs.length=bs.length){k:Nat}(hk:k<xs.length)(v:Int):(stD bs xs (k+1)).set k v=xs.take k++v::jX (bs.drop (k+1)):=by
 rw[aFC h hk]
 have:(xs.take k).length=k:=by simp;omega
 rw[List.set_append_right _ _ (by omega),this,Nat.sub_self,List.set_cons_zero]
theorem aNm{bs:List (Int×Int)}{xs:List Int}(h:xs.length=bs.length){k:Nat}(hk:k<xs.length)(hn:rA bs xs (k+1))(hx:xs.getD k default<(bs.getD k default).2):j5 bs xs=((stD bs xs (k+1)).set k (xs.getD k default+1),true):=by
 have hl:(xs.drop (k+1)).length=(bs.drop (k+1)).length:=by simp;omega
 have he:=(n5 hl).2 hn
 rw[aNJ h hk]
 refine aWb h (by omega) ?_
 rw[oJ xs k hk,oJ bs k (by omega),kP,if_neg (by rw[hn];simp),if_pos hx,he]
theorem aNw{bs:List (Int×Int)}{xs:List Int}(h:xs.length=bs.length){k:Nat}(hk:k<xs.length)(hn:rA bs xs (k+1))(hx:¬xs.getD k default<(bs.getD k default).2):rA bs xs k/\(stD bs xs (k+1)).set k (bs.getD k default).1=stD bs xs k:=by
 refine⟨?_,?_⟩
 ·unfold rA
  rw[oJ xs k hk,oJ bs k (by omega),kP,if_neg (by rw[hn];simp),if_neg hx]
 ·rw[aNJ h hk]
  unfold stD
  rw[oJ bs k (by omega)];rfl
theorem aLF{bs:List (Int×Int)}{xs:List Int}(h:xs.length=bs.length)(hn:rA bs xs 0):j5 bs xs=(stD bs xs 0,false):=by
 have hn:(j5 bs xs).2=false:=by simpa[rA] using hn
 have he:=(n5 h).2 hn
 refine Prod.ext ?_ hn
 rw[he];simp[stD]
open Classical in
noncomputable def fK(Q:List Int->Prop):List (List Int)->Option (List Int)
 | []=>none
 | x::r=>if Q x then some x else fK Q r
theorem iU{Q:List Int->Prop}{x:List Int}{r:List (List Int)}(h:Q x):fK Q (x::r)=some x:=if_pos h
theorem iN{Q:List Int->Prop}{x:List Int}{r:List (List Int)}(h:¬Q x):fK Q (x::r)=fK Q r:=if_neg h
theorem aFB(Q:List Int->Prop):∀A B:List (List Int),fK Q (A++B)=(fK Q A).or (fK Q B)
 | [],B=>by simp[fK]
 | x::r,B=>by
  by_cases h:Q x
  ·rw[List.cons_append,iU h,iU h];rfl
  ·rw[List.cons_append,iN h,iN h,aFB Q r B]
theorem aCj{Q:List Int->Prop}:∀ {A:List (List Int)},(∀x∈A,¬Q x)->fK Q A=none
 | [],_=>rfl
 | x::r,h=>by rw[iN (h x zH)];exact aCj λy hy=>h y (zG _ hy)
theorem aFb{Q P:List Int->Prop}(a:List Int):∀C:List (List Int),(∀c∈C,(Q (a++c)↔P c))->fK Q (C.map (a++·))=(fK P C).map (a++·)
 | [],_=>rfl
 | c::r,h=>by
  have ih:=aFb a r λd hd=>h d (zG _ hd)
  have hc:=h c zH
  by_cases hp:P c
  ·rw[List.map_cons,iU (hc.2 hp),iU hp];rfl
  ·rw[List.map_cons,iN λe=>hp (hc.1 e),iN hp,ih]
theorem lW{Q:List Int->Prop}:∀ {A:List (List Int)} {x:List Int},fK Q A=some x->x∈A/\Q x
 | y::r,x,h=>by
  by_cases hy:Q y
  ·rw[iU hy] at h
   obtain rfl:=zA h
   exact⟨zH,hy⟩
  ·rw[iN hy] at h
   exact⟨zG _ (lW h).1,(lW h).2⟩
noncomputable def qZ(F:List Int->Option (List Int)):List (List Int)->Option (List Int)
 | []=>none
 | a::r=>(F a).or (qZ F r)
theorem aC1(Q:List Int->Prop)(C:List (List Int))(F:List Int->Option (List Int)):∀A:List (List Int),(∀a∈A,fK Q (C.map (a++·))=F a)->fK Q (A.flatMap λa=>C.map (a++·))=qZ F A
 | [],_=>rfl
 | a::r,h=>by
  rw[List.flatMap_cons,aFB,h a zH,aC1 Q C F r λb hb=>h b (zG _ hb)];rfl
theorem aJA(C:List (List Int))(A:List (List Int)):∀(n:Nat) (v:Int),(aDV A v n).flatMap (λa=>C.map (a++·))=aDV (A.flatMap λa=>C.map (a++·)) v n
 | 0,v=>by
  simp[aDV,List.flatMap_map,List.map_flatMap]
  rfl
 | n+1,v=>by
  have ih:=aJA C A n (v+1)
  simp only[aDV,List.flatMap_append,ih]
  simp[List.flatMap_map,List.map_flatMap]
  rfl
theorem aJN:∀(bs cs:List (Int×Int)),gL (bs++cs)=(gL bs).flatMap λa=>(gL cs).map (a++·)
 | [],cs=>by simp[gL]
 | b::bs,cs=>by
  rw[List.cons_append,gL,aJN bs cs,gL,aJA]
def atN(rs:List Int):Nat->Nat
 | 0=>0
 | f+1=>atN rs f+(rs.getD f default).toNat+1
def aAa(rs xs:List Int):Nat->List PolyT
 | 0=>[]
 | f+1=>aAa rs xs f++[⟨xs.getD (atN rs f) default,(xs.drop (atN rs f+1)).take (rs.getD f default).toNat⟩]
def gB(rs xs:List Int):List PolyT:=aAa rs xs rs.length
theorem mO(rs xs:List Int):∀n,(aAa rs xs n).length=n
 | 0=>rfl
 | n+1=>by simp[aAa,mO rs xs n]
theorem aDx(rs xs:List Int):∀n f,f<n->(aAa rs xs n).getD f default=⟨xs.getD (atN rs f) default,(xs.drop (atN rs f+1)).take (rs.getD f default).toNat⟩
 | n+1,f,h=>by
  rcases Nat.lt_or_ge f n with h1|h1
  ·rw[aAa,zD,zL (by rw[mO];exact h1),←zD]
   exact aDx rs xs n f h1
  ·obtain rfl:f=n:=by omega
   rw[aAa,zD,zM (by rw[mO];omega),mO,Nat.sub_self];rfl
theorem oW(rs:List Int){i j:Nat}(h:i≤j):atN rs i≤atN rs j:=by
 induction j with
 | zero=>rw[show i=0 by omega];exact zQ _
 | succ j ih =>
  rcases Nat.lt_or_ge i (j+1) with h1|h1
  ·have:=ih (by omega)
   show atN rs i≤atN rs j+_+1
   omega
  ·rw[show i=j+1 by omega];exact zQ _
theorem qM{rs:List Int}(h:eA rs):∀n≤rs.length,atN rs n≤4*n
 | 0,_=>zQ _
 | n+1,hn=>by
  have ih:=qM h n (by omega)
  have:=h.2 n (by omega)
  show atN rs n+_+1≤_
  omega
theorem aTn{rs xs:List Int}(hs:eA rs)(hl:atN rs rs.length≤xs.length)(hx:∀x∈xs,0≤x/\x≤9):dI rs (gB rs xs):=by
 refine⟨⟨hs,mO _ _ _⟩,λf hf=>?_⟩
 have hf:f<rs.length:=by simpa[gB,mO] using hf
 rw[show (gB rs xs).getD f default=_ from aDx rs xs _ f hf]
 have hr:=hs.2 f hf
 have hm:atN rs (f+1)≤atN rs rs.length:=oW rs hf
 have hm:atN rs f+(rs.getD f default).toNat+1≤atN rs rs.length:=hm
 refine⟨⟨?_,hx _ (bA xs _ (by omega))⟩,λx h=>hx x (List.mem_of_mem_drop (List.mem_of_mem_take h))⟩
 simp only[List.length_take,List.length_drop]
 omega
theorem aG7{rs:List Int}{a c:List Int}(h:a.length=atN rs rs.length):gB rs (a++c)=gB rs a:=by
 have key:∀n,atN rs n≤a.length->aAa rs (a++c) n=aAa rs a n:=λn=>by
  induction n with
  | zero=>intro _;rfl
  | succ n ih =>
   intro hn
   have hn:atN rs n+(rs.getD n default).toNat+1≤a.length:=hn
   simp only[aAa]
   rw[ih (by omega),zD,zL (by omega),←zD,List.drop_append_of_le_length (by omega),List.take_append_of_le_length (by rw[List.length_drop];omega)]
 exact key _ (by omega)
theorem aAd{rs:List Int}{a c:List PolyT}(h1:dI rs a)(h2:dI rs c):e7 rs (a++c)/\(a++c).take rs.length=a:=by
 have e1:(a++c).take rs.length=a:=by rw[←h1.1.2,List.take_left]
 have e2:(a++c).drop rs.length=c:=by rw[←h1.1.2,List.drop_left]
 refine⟨⟨by rw[zK,h1.1.2,h2.1.2];omega,by rw[e1];exact h1,by rw[e2];exact h2⟩,e1⟩
end
section
attribute [local irreducible] SW bC bE dE bU FC dO toF dP fV
def aTH:List (Nat×List Nat):=[(0,[1,2]),(1,[2,16]),(2,[4]),(3,[2,5]),(4,[2,5,21]),(6,[2,5,30]),(7,[4]),(5,[2,5]),(8,[4])]
attribute [go_sem] aTH
theorem aM1(p:PolyT)(n:Int):FC S 100 [] [] [] [bS p,.int .i64 n] (.bool (tst (fU n p))) [] []:=by
 refine aP Tryz.func100 rfl (by kernel_rfl) (by simp[Tryz.f100]) λB=>?_
 simp only[Tryz.ntmps100,aS,aZ,Nat.reduceAdd]
 refine bX 0 1 rfl rfl λhb0_1=>?_
 simp only[D.bnd,zC] at hb0_1
 repeat' first|apply aE|apply aG|apply aJ|refine aI 0 aTH λK hK=>?_|((first|apply aD|refine aA (aO ?_)|apply aA);simp(disch:=apply aB;omega)only[go_sem,Tryz.results100])|(apply hK.nil;clear hK K;simp only[go_sem])|((first|refine aH rfl rfl rfl rfl rfl ?_ ?_|refine aF rfl ?_ ?_)<;>intro h<;>try simp(disch:=apply aB;omega)only[go_sem] at h)|refine hK.c0 rfl rfl rfl (nN _ _ _) rfl rfl rfl ?_|fail
 ·exact λh=>absurd h.1 (by omega)
 ·exact λh=>absurd h.1 (by omega)
 refine bB (ι:=Nat) (λi=>[(5,.int .i64 i)]) (λ_=>[]) (λi=>i≤p.coef.length/\(∀j<i,0≤p.coef.getD j default/\p.coef.getD j default≤9)) (λi=>p.coef.length-i) 0 (by(refine aC rfl rfl ?_ ?_ ?_ ?_<;>simp(disch:=apply aB;omega)only[go_sem]<;>(try omega))) ⟨by omega,?_⟩ (λi ⟨hi,hj⟩=>?_)
 rotate_left
 simp only[go_sem]
 repeat' first|apply aE|apply aG|apply aM|apply aJ|refine aI 0 aTH λK hK=>?_|((first|apply aD|refine aA (aO ?_)|apply aA);simp(disch:=apply aB;omega)only[go_sem,Tryz.results100])|(apply hK.nil;clear hK K;simp only[go_sem])|((first|refine aH rfl rfl rfl rfl rfl ?_ ?_|refine aF rfl ?_ ?_)<;>intro h<;>try simp(disch:=apply aB;omega)only[go_sem] at h)|refine aT rfl ?_|apply aL|refine hK.c0 rfl rfl rfl (nN _ _ _) rfl rfl rfl ?_|(with_reducible refine And.intro (by first|omega|(simp only[lens];omega)) ?_)|fail
 ·exact λhp=>h (hp.2 _ (bA _ i (by omega)))
 ·exact⟨i+1,by(refine aC rfl rfl ?_ ?_ ?_ ?_<;>simp(disch:=apply aB;omega)only[go_sem]<;>(try omega)),⟨by omega,bJ hj h⟩,by omega⟩
 ·exact⟨⟨by assumption,by assumption⟩,oU (P:=λx=>0≤x/\x≤9) λj hj'=>hj j (by omega)⟩
 ·intro j hj';omega
def aU0:List (Nat×List Nat):=[(0,[1,2]),(1,[1,2,16]),(2,[4]),(3,[1,2,5]),(4,[1,2,5,20]),(6,[1,2,5,33]),(7,[4]),(5,[1,2,5]),(8,[4])]
attribute [go_sem] aU0
theorem iP(tk:Tk)(rs:List Int)(ps:List PolyT):FC S 69 [] [] [] [.agg [.sl .any (rs.map (.int .i64))],.sl tk (ps.map bS)] (.bool (tst (dI rs ps))) [] []:=by
 refine aP Tryz.func69 rfl (by kernel_rfl) (by simp[Tryz.f69]) λB=>?_
 simp only[Tryz.ntmps69,aS,aZ,Nat.reduceAdd]
 refine bZ 1 rfl λhb1=>?_
 simp only[D.bnd,zC] at hb1
 repeat' first|apply aE|apply aG|apply aJ|refine aI 0 aU0 λK hK=>?_|((first|apply aD|apply aK|refine aA (aO ?_)|apply aA);simp(disch:=apply aB;omega)only[go_sem,Tryz.results69])|(apply hK.nil;clear hK K;simp only[go_sem])|((first|refine aH rfl rfl rfl rfl rfl ?_ ?_|refine aN rfl rfl rfl rfl rfl ?_ ?_|refine aF rfl ?_ ?_)<;>intro h<;>try simp(disch:=apply aB;omega)only[go_sem] at h)|refine hK.c0 rfl rfl rfl (lS _ _) rfl rfl rfl ?_|fail
 ·exact λh=>absurd h.1.1 (by assumption)
 ·exact λh=>absurd h.1.2 (by omega)
 refine bB (ι:=Nat) (λi=>[(5,.int .i64 i)]) (λ_=>[]) (λi=>i≤ps.length/\(∀j<i,fU (rs.getD j default) (ps.getD j default))) (λi=>ps.length-i) 0 (by(refine aC rfl rfl ?_ ?_ ?_ ?_<;>simp(disch:=apply aB;omega)only[go_sem]<;>(try omega))) ⟨by omega,?_⟩ (λi ⟨hi,hj⟩=>?_)
 rotate_left
 simp only[go_sem]
 repeat' first|apply aE|apply aG|apply aM|apply aJ|refine aI 0 aU0 λK hK=>?_|refine aY aU0 (by kernel_rfl) λK hK=>?_|((first|apply aD|apply aK|refine aA (aO ?_)|apply aA);simp(disch:=apply aB;omega)only[go_sem,Tryz.results69])|(apply hK.nil;clear hK K;simp only[go_sem])|((first|refine aH rfl rfl rfl rfl rfl ?_ ?_|refine aN rfl rfl rfl rfl rfl ?_ ?_|refine aF rfl ?_ ?_)<;>intro h<;>try simp(disch:=apply aB;omega)only[go_sem] at h)|refine aT rfl ?_|apply aL|refine hK.c0 rfl rfl rfl (aM1 (ps.getD i default) (rs.getD i default)) rfl rfl rfl ?_|(with_reducible refine And.intro (by first|omega|(simp only[lens];omega)) ?_)|fail
 ·exact λhp=>h (hp.2 i (by omega))
 ·exact⟨i+1,by(refine aC rfl rfl ?_ ?_ ?_ ?_<;>simp(disch:=apply aB;omega)only[go_sem]<;>(try omega)),⟨by omega,bJ hj h⟩,by omega⟩
 ·exact⟨⟨by assumption,by assumption⟩,λj hj'=>hj j (by omega)⟩
 ·intro j hj';omega
def aOc:List (Nat×List Nat):=[(0,[2,3]),(1,[2,3,5]),(2,[2,3,5,10]),(4,[2,3,5,38]),(5,[4]),(3,[2,3,5]),(6,[4])]
attribute [go_sem] aOc
theorem vB(a b:PolyT)(ha:∀x∈a.coef,0≤x)(hb:∀x∈b.coef,0≤x):FC S 102 [] [] [] [bS a,bS b] (.bool (tst (uF a b))) [] []:=by
 refine aP Tryz.func102 rfl (by kernel_rfl) (by simp[Tryz.f102]) λB=>?_
 simp only[Tryz.ntmps102,aS,aZ,Nat.reduceAdd]
 refine bX 0 1 rfl rfl λhb0_1=>?_
 simp only[D.bnd,zC] at hb0_1
 refine bX 1 1 rfl rfl λhb1_1=>?_
 simp only[D.bnd,zC] at hb1_1
 repeat' first|apply aE|apply aG|refine aI 0 aOc λK hK=>?_|((first|apply aD|apply aK|refine aA (aO ?_)|apply aA);simp(disch:=apply aB;omega)only[go_sem,Tryz.results102])|(apply hK.nil;clear hK K;simp only[go_sem])|fail
 refine bB (ι:=Nat) (λi=>[(5,.int .i64 i)]) (λ_=>[]) (λi=>i≤a.coef.length/\(∀j<i,a.coef.getD j default≤b.coef.getD j default)) (λi=>a.coef.length-i) 0 (by(refine aC rfl rfl ?_ ?_ ?_ ?_<;>simp(disch:=apply aB;omega)only[go_sem]<;>(try omega))) ⟨by omega,?_⟩ (λi ⟨hi,hj⟩=>?_)
 rotate_left
 simp only[go_sem]
 have h1:=jI (P:=λx=>0≤x) (Int.le_refl _) ha i
 have h2:=jI (P:=λx=>0≤x) (Int.le_refl _) hb i
 have h3:b.coef.length≤i->b.coef.getD i default=0:=λh=>aEI a.coef b.coef 0 h
 repeat' first|apply aE|apply aG|apply aM|apply aJ|refine aI 0 aOc λK hK=>?_|refine aY aOc (by kernel_rfl) λK hK=>?_|((first|apply aD|apply aK|refine aA (aO ?_)|apply aA);simp(disch:=apply aB;omega)only[go_sem,Tryz.results102])|(apply hK.nil;clear hK K;simp only[go_sem])|((first|refine aH rfl rfl rfl rfl rfl ?_ ?_|refine aN rfl rfl rfl rfl rfl ?_ ?_|refine aF rfl ?_ ?_)<;>intro h<;>try simp(disch:=apply aB;omega)only[go_sem] at h)|refine aT rfl ?_|apply aL|(with_reducible refine And.intro (by first|omega|(simp only[lens];omega)) ?_)|fail
 ·exact λhp=>absurd (hp i (by omega)) (by have:=h3 (by omega);omega)
 ·exact λhp=>absurd (hp i (by omega)) (by omega)
 ·exact⟨i+1,by(refine aC rfl rfl ?_ ?_ ?_ ?_<;>simp(disch:=apply aB;omega)only[go_sem]<;>(try omega)),⟨by omega,bJ hj (by omega)⟩,by omega⟩
 ·exact⟨i+1,by(refine aC rfl rfl ?_ ?_ ?_ ?_<;>simp(disch:=apply aB;omega)only[go_sem]<;>(try omega)),⟨by omega,bJ hj (by omega)⟩,by omega⟩
 ·exact λj hj'=>hj j (by omega)
 ·intro j hj';omega
theorem aHR{rs t:List Int}{a i:Nat}{need m:Int}(hi:i<t.length)(h3:1≤need)(h4:d7 rs t a=scan rs (t.drop i) need i)(h0:0≤arS rs (t.getD i default))(hm:m=need+arS rs (t.getD i default)-1):(m=0/\d7 rs t a=((i+1:Nat):Int))∨(1≤m/\d7 rs t a=scan rs (t.drop (i+1)) m (i+1)):=by
 have hb:=aAi rs t need i hi
 rw[if_neg (by omega)] at hb
 subst hm
 by_cases h:need+arS rs (t.getD i default)-1=0
 ·rw[if_pos h] at hb
  exact .inl ⟨h,by rw[h4,hb];omega⟩
 ·rw[if_neg h] at hb
  exact .inr ⟨by omega,by rw[h4,hb]⟩
def aL3:List (Nat×List Nat):=[(0,[1,2,3]),(1,[1,2,3,7]),(2,[1,2,3,7,9]),(3,[1,2,3,7,14]),(4,[1,2,3,7]),(5,[1,2,3,7]),(6,[1,2,3,7]),(7,[6])]
attribute [go_sem] aL3
theorem oR(rs t:List Int)(a:Nat)(hT:aX rs t)(ha:a<t.length):FC S 98 [] [] [] [.agg [.sl .any (rs.map (.int .i64))],.sl .any (t.map (.int .i64)),.int .i64 a] (.int .i64 (d7 rs t a)) [] []:=by
 have he:=fN hT ha
 have hl:=hT.2.1.2
 refine aP Tryz.func98 rfl (by kernel_rfl) (by simp[Tryz.f98]) λB=>?_
 simp only[Tryz.ntmps98,aS,aZ,Nat.reduceAdd]
 refine bZ 1 rfl λhb1=>?_
 simp only[D.bnd,zC] at hb1
 repeat' first|apply aE|apply aG|refine aI 0 aL3 λK hK=>?_|((first|apply aD|apply aK|refine aA (aO ?_)|apply aA);simp(disch:=apply aB;omega)only[go_sem,Tryz.results98])|(apply hK.nil;clear hK K;simp only[go_sem])|fail
 refine bB (ι:=Nat×Int) (λp=>[(2,.int .i64 p.1),(7,.int .i64 p.2)]) (λp=>[]) (λp=>(p.1≤t.length/\0≤p.2/\p.2≤1+3*p.1)/\((p.2=0/\d7 rs t a=p.1)∨(1≤p.2/\d7 rs t a=scan rs (t.drop p.1) p.2 p.1))) (λp=>t.length-p.1) (a,1) (by(refine aC rfl rfl ?_ ?_ ?_ ?_<;>simp(disch:=apply aB;omega)only[go_sem]<;>(try omega))) ?_ (λp hp=>?_)
 rotate_left
 simp only[go_sem]
 obtain⟨i,need⟩:=p
 obtain⟨⟨h1,h2,h2'⟩,h3⟩:=hp
 dsimp only at h1 h2 h2' h3
 have hlt:1≤need->i<t.length:=λh=>Classical.byContradiction λhn=>by
  have hx:=aCm rs t need i (by omega)
  omega
 have hlow:i<t.length->_:=λh=>hT.low h
 have hv:i<t.length->t.getD i default<0->arS rs (t.getD i default)=0:=λhi h=>iX (by have:=hlow hi;omega)
 have hsy:0≤t.getD i default->t.getD i default<rs.length->arS rs (t.getD i default)=rs.getD (t.getD i default).toNat default:=λh h'=>jZ (by omega)
 repeat' first|apply aE|apply aG|apply aM|apply aJ|refine aI 0 aL3 λK hK=>?_|refine aY aL3 (by kernel_rfl) λK hK=>?_|((first|apply aD|apply aK|refine aA (aO ?_)|apply aA);simp(disch:=apply aB;omega)only[go_sem,Tryz.results98])|(apply hK.nil;clear hK K;simp only[go_sem])|((first|refine aF rfl ?_ ?_)<;>intro h<;>try simp(disch:=apply aB;omega)only[go_sem] at h)|refine aT rfl ?_|apply aL|(with_reducible refine And.intro (by first|omega|(simp only[lens];omega)) ?_)|fail
 ·have hi:=hlt (by omega)
  have e:=hsy (by omega) (hlow hi).1.2
  have hl0:=(hlow hi).2
  exact⟨(i+1,need+rs.getD (t.getD i default).toNat default-1),by(refine aC rfl rfl ?_ ?_ ?_ ?_<;>simp(disch:=apply aB;omega)only[go_sem]<;>(try omega)),⟨⟨by omega,by omega,by omega⟩,aHR (need:=need) (m:=need+rs.getD (t.getD i default).toNat default-1) hi (by omega) (by omega) hl0.1 (by rw[e])⟩,by omega⟩
 ·have hi:=hlt (by omega)
  have e:=hv hi (by omega)
  exact⟨(i+1,need-1),by(refine aC rfl rfl ?_ ?_ ?_ ?_<;>simp(disch:=apply aB;omega)only[go_sem]<;>(try omega)),⟨⟨by omega,by omega,by omega⟩,aHR (need:=need) (m:=need-1) hi (by omega) (by omega) (by omega) (by rw[e];omega)⟩,by omega⟩
 ·omega
 ·exact .inr ⟨by simp,rfl⟩
def qR:List (Nat×List Nat):=[(0,[1,2]),(1,[1,2,5]),(2,[1,2,5,13]),(3,[4]),(4,[1,2,5,6]),(5,[1,2,5,6,7]),(6,[1,2,5,6,7,23]),(8,[1,2,5,6,7,8]),(9,[1,2,5,7,8]),(10,[1,2,5,6,7]),(7,[1,2,5,6,7]),(11,[4])]
attribute [go_sem] qR
theorem rP(rs t:List Int)(hT:aX rs t):FC S 136 [] [] [] [.agg [.sl .any (rs.map (.int .i64))],.sl .any (t.map (.int .i64))] (.sl .any ((mY rs t (arS rs (t.getD 0 default)).toNat).map b6)) [] []:=by
 have hl:=hT.2.1
 have hlo:=hT.low (show 0<t.length by omega)
 have hv:t.getD 0 default<0->arS rs (t.getD 0 default)=0:=λh=>iX (by omega)
 have hsy:0≤t.getD 0 default->t.getD 0 default<rs.length->arS rs (t.getD 0 default)=rs.getD (t.getD 0 default).toNat default:=λh h'=>jZ (by omega)
 have hlt:∀j<(arS rs (t.getD 0 default)).toNat,0<dQ rs t 1 j/\dQ rs t 1 j<t.length:=λj hj=>nJ hT (by omega) (by omega)
 have hle:∀j≤(arS rs (t.getD 0 default)).toNat,0<dQ rs t 1 j/\dQ rs t 1 j≤t.length:=λj hj=>aBM hT (by omega) (by omega)
 generalize hk:(arS rs (t.getD 0 default)).toNat=k at *
 refine aP Tryz.func136 rfl (by kernel_rfl) (by simp[Tryz.f136]) λB=>?_
 simp only[Tryz.ntmps136,aS,aZ,Nat.reduceAdd]
 refine bZ 1 rfl λhb1=>?_
 simp only[D.bnd,zC] at hb1
 repeat' first|apply aE|apply aG|apply aJ|refine aI 0 qR λK hK=>?_|((first|apply aD|apply aK|refine aA (aO ?_)|apply aA);simp(disch:=apply aB;omega)only[go_sem,Tryz.results136])|(apply hK.nil;clear hK K;simp only[go_sem])|((first|refine aF rfl ?_ ?_)<;>intro h<;>try simp(disch:=apply aB;omega)only[go_sem] at h)|(with_reducible refine And.intro (by first|omega|(simp only[lens];omega)) ?_)|fail
 ·rw[show k=0 by omega];rfl
 refine dW 5 37000 22 1 rfl (.inr rfl) rfl ?_
 simp only[go_sem]
 refine bG (ι:=Nat) (λj=>[(7,.int .i64 j),(6,.int .i64 (dQ rs t 1 j)),(5,.sl (.own 37000 22 1) ((mY rs t j).map b6))]) (λ_=>[]) (λ_=>[37000]) (λj=>j≤k) (λj=>k-j) 0 (by(refine aC rfl rfl ?_ ?_ ?_ ?_<;>simp(disch:=apply aB;omega)only[go_sem]<;>(try omega));all_goals exact⟨rfl,rfl,rfl⟩) (by omega) (λj hj=>?_)
 simp only[go_sem]
 have h3:=hle j hj
 have h4:=hlt j
 have h5:j<k->dQ rs t 1 j<d7 rs t (dQ rs t 1 j)/\d7 rs t (dQ rs t 1 j)≤t.length:=λh=>fN hT (h4 h).2
 have h6:j<k->((d7 rs t (dQ rs t 1 j)).toNat:Int)=d7 rs t (dQ rs t 1 j):=λh=>by have:=h5 h;omega
 have h7:=iG rs t j
 have h8:=aJ2 rs t j
 have e:=hsy (by omega) (by omega)
 by_cases hjk:j<k
 ·repeat' first|((exfalso;omega))|apply aE|apply aG|apply aM|apply aJ|refine aI 0 qR λK hK=>?_|refine aY qR (by kernel_rfl) λK hK=>?_|((first|apply aD|apply aK|refine aA (aO ?_)|apply aA);simp(disch:=apply aB;omega)only[go_sem,Tryz.results136])|(apply hK.nil;clear hK K;simp only[go_sem])|((first|refine aF rfl ?_ ?_)<;>intro h<;>try simp(disch:=apply aB;omega)only[go_sem] at h)|apply aL|refine hK.c0 rfl rfl rfl (oR rs t (dQ rs t 1 j) hT (h4 hjk).2) rfl rfl rfl ?_|(with_reducible refine And.intro (by first|omega|(simp only[lens];omega)) ?_)|fail
  exact⟨j+1,(by(refine aC rfl rfl ?_ ?_ ?_ ?_<;>simp(disch:=apply aB;omega)only[go_sem]<;>(try omega));rw[h8,List.map_append];exact⟨rfl,(h6 hjk).symm,by omega⟩),by omega,by omega⟩
 ·repeat' first|((exfalso;omega))|apply aE|refine aI 0 qR λK hK=>?_|refine aY qR (by kernel_rfl) λK hK=>?_|((first|apply aD|apply aK|refine aA (aO ?_)|apply aA);simp(disch:=apply aB;omega)only[go_sem,Tryz.results136])|(apply hK.nil;clear hK K;simp only[go_sem])|((first|refine aF rfl ?_ ?_)<;>intro h<;>try simp(disch:=apply aB;omega)only[go_sem] at h)|refine aT rfl ?_|(with_reducible refine And.intro (by first|omega|(simp only[lens];omega)) ?_)|fail
  rw[show j=k by omega]
attribute [local irreducible] fD mG j7
def qJ:List (Nat×List Nat):=[(0,[2,3,4,6]),(1,[2,4,6,8]),(2,[2,4,6,8,9]),(3,[2,4,6,8,9,27]),(5,[2,4,6,8,9,34]),(6,[2,4,6,8,9]),(7,[2,4,6,8,9]),(4,[2,4,6,8,9]),(8,[6,8,10]),(9,[6,8,10,61]),(11,[6,8,10,69]),(12,[6,7]),(10,[6,8,10]),(13,[6,7])]
attribute [go_sem] qJ
theorem aLb(a b:PolyT)(c:Int)(ha:gE (100*MF) a)(hb:gE MF b)(hc:0≤c/\c≤9):FC S 160 [] [] [] [.agg [.int .i64 a.const,.sl (.lab [1]) (a.coef.map (.int .i64))],.agg [.int .i64 b.const,.sl (.lab [1]) (b.coef.map (.int .i64))],.int .i64 c] (.tup [bS (aGb a b c).1,.bool (aGb a b c).2]) [] []:=by
 have hla:=ha.2.2
 have hlb:=hb.2.2
 have hcc:0≤c*b.const/\c*b.const≤9*MF:=⟨Int.mul_nonneg hc.1 hb.1.1,Int.mul_le_mul hc.2 hb.1.2 hb.1.1 (by omega)⟩
 have hac:=ha.1
 simp only[MF] at hcc hac
 refine aHV Tryz.func160 rfl (by kernel_rfl) (by simp[Tryz.f160]) λB N hOff=>?_
 simp only[Tryz.ntmps160,aS,aZ,Nat.reduceAdd]
 repeat' first|((refine aVT 0 qJ 13 [11] (id:=1) (by kernel_rfl) (by kernel_rfl) ?_))|apply aE|refine aI 0 qJ λK hK=>?_|((first|apply aD|apply aK|refine aA (aO ?_)|apply aA);simp(disch:=apply aB;omega)only[go_sem,Tryz.results160])|(apply hK.nil;clear hK K;simp only[go_sem])|fail
 refine dZ.part 10 λK hK=>?_
 repeat' first|((first|apply aD|apply aK|refine aA (aO ?_)|apply aA);simp(disch:=apply aB;omega)only[go_sem,Tryz.results160])|(apply hK.nil;clear hK K;simp only[go_sem])|fail
 refine dZ.app 22000 rfl rfl rfl rfl rfl ⟨by decide,(λx hx=>by obtain⟨y,_,rfl⟩:=zJ.1 hx;rfl),by simp;omega,by simp;omega⟩ ⟨by simp only[Nat.reduceLT],rfl⟩ ?_
 refine dZ.go λK hK=>?_
 repeat' first|((refine hK.alloc rfl rfl ⟨(by simp only[Nat.reduceLT]),rfl⟩ ?_;simp only[go_sem]))|((refine iS 0 ?_;refine λ(K:List Oper->LS->Prop) (hK:KOk S 0 _ _ _ K)=>?_;simp only[go_sem]))|apply aE|apply aG|refine aI 0 qJ λK hK=>?_|((first|apply aD|apply aK|refine aA (aO ?_)|apply aA);simp(disch:=apply aB;omega)only[go_sem,Tryz.results160])|(apply hK.nil;clear hK K;simp only[go_sem])|fail
 refine bG (ι:=Nat) (λi=>[(9,.int .i64 i)]) (λi=>[(8,[.int .i64 (a.const+c*b.const),.sl (.own 22000 2 1) ((mG a.coef b.coef c i).map (.int .i64))])]) (λ_=>[22000]) (λi=>i≤b.coef.length) (λi=>b.coef.length-i) 0 (by rw[aLY];(refine aC rfl rfl ?_ ?_ ?_ ?_<;>simp(disch:=apply aB;omega)only[go_sem]<;>(try omega))) (by omega) (λi hi=>?_)
 simp only[go_sem]
 have l1:=aPg a.coef b.coef c hi
 have hbi:=jI (P:=λx=>0≤x/\x≤MF) ⟨Int.le_refl _,by decide⟩ hb.2.1 i
 have hai:=jI (P:=λx=>0≤x/\x≤100*MF) ⟨Int.le_refl _,by decide⟩ ha.2.1 i
 have hm:0≤c*b.coef.getD i default/\c*b.coef.getD i default≤9*MF:=⟨Int.mul_nonneg hc.1 hbi.1,Int.mul_le_mul hc.2 hbi.2 hbi.1 (by omega)⟩
 have hLi:(j7 a.coef b.coef c i).getD i default=a.coef.getD i default:=by rw[aFt,oE _ _ _ _ hi,if_neg (by omega),Int.add_zero]
 simp only[MF] at hai hm
 repeat' first|((refine jJ 39000 22000 rfl rfl ?_;simp only[go_sem]))|((refine aBE (id:=7) ?_))|apply aE|apply aG|apply aJ|refine aI 0 qJ λK hK=>?_|((first|apply aD|apply aK|refine aA (aO ?_)|apply aA);simp(disch:=apply aB;omega)only[go_sem,Tryz.results160])|(apply hK.nil;clear hK K;simp only[go_sem])|((first|refine aF rfl ?_ ?_)<;>intro h<;>try simp(disch:=apply aB;omega)only[go_sem] at h)|refine aT rfl ?_|(with_reducible refine And.intro (by first|omega|(simp only[lens];omega)) ?_)|fail
 ·refine HoldP.go ?_
  rw[aPe _ _ _ (by omega) (by omega)]
  have l2:=aFu a.coef b.coef c (i:=i) (by omega)
  repeat' first|((refine aHA qJ 16 (id:=7) (by kernel_rfl) λK hK=>?_))|((first|apply aD|apply aK|refine aA (aO ?_)|apply aA);simp(disch:=apply aB;omega)only[go_sem,Tryz.results160])|(apply hK.nil;clear hK K;simp only[go_sem])|(with_reducible refine And.intro (by first|omega|(simp only[lens];omega)) ?_)|fail
  refine aU.storeOwnL [(2,.int .i64 c),(4,.box 4 0),(6,.box 6 0),(8,.box 8 0),(9,.int .i64 i)] [(3,[.int .i64 a.const,.sl (.lab [1]) (a.coef.map (.int .i64))]),(4,[.int .i64 b.const,.sl (.lab [1]) (b.coef.map (.int .i64))]),(6,[.int .i64 0,.sl .nil []]),(8,[.int .i64 (a.const+c*b.const),.sl (.own 22000 2 1) (((j7 a.coef b.coef c i).set i ((j7 a.coef b.coef c i).getD i default+c*b.coef.getD i default)).map (.int .i64))])] hOff.1 rfl rfl rfl rfl rfl rfl rfl (λ_=>rfl) (by simp) ⟨by omega,by omega⟩ (by simp only[Nat.reduceLT]) ⟨⟨by decide,_,rfl,bO rfl⟩,⟨by decide,_,rfl,bO rfl⟩,⟨by decide,_,rfl,bO rfl⟩,⟨by decide,_,rfl,bO rfl⟩,⟨by decide,_,rfl,bO rfl⟩,trivial⟩ ⟨⟨_,rfl,bO rfl,pN _ _ _,trivial⟩,⟨_,rfl,bO rfl,pN _ _ _,trivial⟩,⟨_,rfl,bO rfl,bO rfl,trivial⟩,⟨_,rfl,bO rfl,aGT,trivial⟩,trivial⟩ ?_
  refine aU.nil ?_
  rw[aES]
  simp only[go_sem]
  repeat' first|apply aM|refine aI 0 qJ λK hK=>?_|((first|apply aD|apply aK|refine aA (aO ?_)|apply aA);simp(disch:=apply aB;omega)only[go_sem,Tryz.results160])|(apply hK.nil;clear hK K;simp only[go_sem])|apply aL|fail
  exact⟨i+1,(by(refine aC rfl rfl ?_ ?_ ?_ ?_<;>simp(disch:=apply aB;omega)only[go_sem]<;>(try omega))),by omega,by omega⟩
 ·refine HoldP.go ?_
  rw[aMV _ _ _ (by omega)]
  have l2:=aFu a.coef b.coef c (i:=i) (by omega)
  repeat' first|((refine aHA qJ 16 (id:=7) (by kernel_rfl) λK hK=>?_))|((first|apply aD|apply aK|refine aA (aO ?_)|apply aA);simp(disch:=apply aB;omega)only[go_sem,Tryz.results160])|(apply hK.nil;clear hK K;simp only[go_sem])|(with_reducible refine And.intro (by first|omega|(simp only[lens];omega)) ?_)|fail
  refine aU.storeOwnL [(2,.int .i64 c),(4,.box 4 0),(6,.box 6 0),(8,.box 8 0),(9,.int .i64 i)] [(3,[.int .i64 a.const,.sl (.lab [1]) (a.coef.map (.int .i64))]),(4,[.int .i64 b.const,.sl (.lab [1]) (b.coef.map (.int .i64))]),(6,[.int .i64 0,.sl .nil []]),(8,[.int .i64 (a.const+c*b.const),.sl (.own 22000 2 1) (((j7 a.coef b.coef c i).set i ((j7 a.coef b.coef c i).getD i default+c*b.coef.getD i default)).map (.int .i64))])] hOff.1 rfl rfl rfl rfl rfl rfl rfl (λ_=>rfl) (by simp) ⟨by omega,by omega⟩ (by simp only[Nat.reduceLT]) ⟨⟨by decide,_,rfl,bO rfl⟩,⟨by decide,_,rfl,bO rfl⟩,⟨by decide,_,rfl,bO rfl⟩,⟨by decide,_,rfl,bO rfl⟩,⟨by decide,_,rfl,bO rfl⟩,trivial⟩ ⟨⟨_,rfl,bO rfl,pN _ _ _,trivial⟩,⟨_,rfl,bO rfl,pN _ _ _,trivial⟩,⟨_,rfl,bO rfl,bO rfl,trivial⟩,⟨_,rfl,bO rfl,aGT,trivial⟩,trivial⟩ ?_
  refine aU.nil ?_
  rw[aES]
  simp only[go_sem]
  repeat' first|apply aM|refine aI 0 qJ λK hK=>?_|((first|apply aD|apply aK|refine aA (aO ?_)|apply aA);simp(disch:=apply aB;omega)only[go_sem,Tryz.results160])|(apply hK.nil;clear hK K;simp only[go_sem])|apply aL|fail
  exact⟨i+1,(by(refine aC rfl rfl ?_ ?_ ?_ ?_<;>simp(disch:=apply aB;omega)only[go_sem]<;>(try omega))),by omega,by omega⟩
 ·rw[show i=b.coef.length by omega,aPI]
  have hlz:(fD a.coef b.coef c b.coef.length).length≤24:=by rw[iL];omega
  have hcoef:(nC a b c).coef=fD a.coef b.coef c b.coef.length:=rfl
  have hconst:(nC a b c).const=a.const+c*b.const:=rfl
  generalize hz:fD a.coef b.coef c b.coef.length=zs at *
  refine bG (ι:=Nat) (λi=>[(10,.int .i64 i)]) (λ_=>[]) (λ_=>[22000]) (λi=>i≤zs.length/\∀j<i,zs.getD j default≤MF) (λi=>zs.length-i) 0 (by(refine aC rfl rfl ?_ ?_ ?_ ?_<;>simp(disch:=apply aB;omega)only[go_sem]<;>(try omega))) ⟨by omega,λj hj=>absurd hj (by omega)⟩ (λi hi=>?_)
  obtain⟨hi,hj⟩:=hi
  simp only[go_sem]
  repeat' first|((refine aBE (id:=13) ?_))|apply aE|apply aG|apply aM|apply aJ|refine aI 0 qJ λK hK=>?_|((first|apply aD|apply aK|refine aA (aO ?_)|apply aA);simp(disch:=apply aB;omega)only[go_sem,Tryz.results160])|(apply hK.nil;clear hK K;simp only[go_sem])|((first|refine aF rfl ?_ ?_)<;>intro h<;>try simp(disch:=apply aB;omega)only[go_sem] at h)|refine aT rfl ?_|apply aL|(with_reducible refine And.intro (by first|omega|(simp only[lens];omega)) ?_)|fail
  ·have hn:¬ ∀x∈(nC a b c).coef,x≤MF:=λhall=>absurd (hall _ (by rw[hcoef];exact bA zs i (by omega))) (by simp only[MF];omega)
   rw[aNz hn]
   exact⟨⟨rfl,rfl⟩,rfl⟩
  ·exact⟨i+1,(by(refine aC rfl rfl ?_ ?_ ?_ ?_<;>simp(disch:=apply aB;omega)only[go_sem]<;>(try omega))),⟨by omega,bJ hj (by simp only[MF];omega)⟩,by omega⟩
  ·refine HoldP.go ?_
   refine aAM (id:=13) qJ [(false,[]),(false,[]),(false,[1]),(false,[2]),(false,[0,0]),(false,[3,4,0,1,2,3,4])] ⟨75,[(6,.box 6 0),(7,.bool (decide (a.const+c*b.const≤1000000000000)))],[(6,[.int .i64 (a.const+c*b.const),.sl (.own 22000 2 1) (zs.map (.int .i64))])],[],[22000],[]⟩ (by kernel_rfl) ?_ ?_;simp only[List.length_cons,List.length_nil,Nat.reduceAdd]
   repeat' first|((refine oL ?_;simp only[tH,tF,aFw,aE1,aEA,aFJ,y2,aAy,aAf,yH,tA,sW,sI,y8,aAv,true_and,and_true,Bool.not_false,Bool.not_true,Bool.and_true,Bool.and_false,Bool.true_and,Bool.false_and,Bool.or_false,Bool.false_or,Bool.true_or,Bool.or_true,Nat.reduceBEq,Nat.reduceAdd]))|((refine hK.nil (tO ?_);clear hK K))|((refine n9 ?_ ?_))|((refine iS 0 ?_;refine λ(K:List Oper->LS->Prop) (hK:KOk S 0 _ _ _ K)=>?_;simp(disch:=apply aB;omega)only[go_sem]))|((refine oC ?_;simp(disch:=apply aB;omega)only[go_sem];(refine aC rfl rfl ?_ ?_ ?_ ?_<;>simp(disch:=apply aB;omega)only[go_sem]<;>(try omega));done))|((first|apply aD|apply aK|refine aA (aO ?_)|apply aA);simp(disch:=apply aB;omega)only[go_sem,Tryz.results160])|fail
   have hy:∀x∈(nC a b c).coef,x≤MF:=by rw[hcoef];exact oU (P:=λx=>x≤MF) λj hj'=>hj j (by omega)
   rw[aDy hy]
   refine⟨⟨hconst.symm,hcoef.symm⟩,?_⟩
   rw[hconst]
   by_cases h1:a.const+c*b.const≤MF
   ·rw[bQ h1];simpa[MF] using h1
   ·rw[bH h1];simpa[MF] using h1
theorem aOI(a b:PolyT)(c:Int)(ha:gE (100*MF) a)(hb:gE MF b)(hc:0≤c/\c≤9):FC S 160 [] [] [] [bS a,bS b,.int .i64 c] (.tup [bS (aGb a b c).1,.bool (aGb a b c).2]) [] []:=by
 refine aSk [1] (by simp) ?_ ?_ ?_
 ·simp[bS,D.okLb,D.okLbL,iV (f:=λx=>D.int .i64 x) λ_=>rfl]
 ·simp[bS,D.noLb,D.noLbL,yW (f:=λx=>D.int .i64 x) λ_=>rfl]
 ·simp only[bS,D.lbL,D.lb,lH]
  exact aLb a b c ha hb hc
end
section
attribute [local irreducible] SW bC bE dE bU FC dO toF dP fV fD mG j7 bR
theorem aCR(n:Nat)(k:IntKind)(m:Int):(List.replicate n [D.int k m]).flatten=(List.replicate n m).map (.int k):=by rw[gR,List.map_replicate]
theorem aB5(k:IntKind)(xs:List Int):D.idsL (xs.map (.int k))=[]:=by
 induction xs with
 | nil=>rfl
 | cons x r ih=>simp[D.idsL,D.ids,ih]
attribute [local go_sem] aCR aB5
theorem aSi{a b:PolyT}{c:Int}(h:(aGb a b c).2=true):(aGb a b c).1=nC a b c:=by
 have h1:=(aNH.1 h).1
 rw[aDy h1]
def aFg:List (Nat×List Nat):=[(0,[1,3,4,6,8]),(1,[1,3,4,6,8,10]),(2,[1,3,4,6,8,10,11]),(3,[1,3,4,6,8,10,11,22]),(5,[1,3,4,6,8,10,11,12,13]),(6,[1,3,4,6,8,10,11,12,36]),(7,[8,9]),(8,[1,3,4,6,8,10,11,14,15]),(9,[1,3,4,6,8,10,11,14,50]),(10,[8,9]),(11,[1,3,4,6,8,10,11]),(4,[1,3,4,6,8,10,11]),(12,[8,9])]
attribute [go_sem] aFg
theorem aFo(rs:List Int)(ps:List PolyT)(p:PolyT)(parts:List (List Int))(F:Nat->PolyT×Bool)(hp:fU parts.length p)(hn:parts.length≤3)(hF:∀j<parts.length,gE MF (F j).1)(hform:∀j<parts.length,FC S 127 [] [] [] [.agg [.sl .any (rs.map (.int .i64))],.sl .any (ps.map bS),.sl .any ((parts.getD j default).map (.int .i64))] (.tup [bS (F j).1,.bool (F j).2]) [] []):FC S 147 [] [] [] [.agg [.sl .any (rs.map (.int .i64))],.sl .any (ps.map bS),bS p,.sl .any (parts.map b6)] (.tup [bS (jG F p parts.length).1,.bool (jG F p parts.length).2]) [] []:=by
 have hpl:=hp.1
 refine aP Tryz.func147 rfl (by kernel_rfl) (by simp[Tryz.f147]) λB=>?_
 simp only[Tryz.ntmps147,aS,aZ,Nat.reduceAdd]
 repeat' first|apply aE|apply aG|refine aI 0 aFg λK hK=>?_|((first|apply aD|apply aK|refine aA (aO ?_)|apply aA);simp(disch:=apply aB;omega)only[go_sem,Tryz.results147])|(apply hK.nil;clear hK K;simp only[go_sem])|fail
 refine aJj 10 [.int .i64 p.const,.sl .any (([]:List Int).map (.int .i64))] rfl rfl (aW0 (.refl _) .any) ?_
 simp only[go_sem]
 refine bG (ι:=Nat) (λi=>[(11,.int .i64 i)]) (λi=>[(10,[.int .i64 (sumF F p i).const,.sl .any ((sumF F p i).coef.map (.int .i64))])]) (λ_=>[]) (λi=>i≤parts.length/\(∀j<i,(F j).2=true)/\okF (sumF F p i)) (λi=>parts.length-i) 0 (by(refine aC rfl rfl ?_ ?_ ?_ ?_<;>simp(disch:=apply aB;omega)only[go_sem]<;>(try omega));all_goals first|rfl|exact⟨rfl,rfl⟩) ⟨by omega,(λj hj=>absurd hj (by omega)),aTS hp⟩ (λi hi=>?_)
 obtain⟨hi,hj,hok⟩:=hi
 simp only[go_sem]
 have hs1:sumF F p (i+1)=nC (sumF F p i) (F i).1 (p.coef.getD i default):=rfl
 have hci:=vW hp i
 by_cases hil:i<parts.length
 ·have cF:=hform i hil
  have hg:=hF i hil
  have hgs:=aHB (rV hp i λj hj=>hF j (by omega)) (show (9+9*MF*(i:Int))≤100*MF by simp only[MF];omega)
  have cA:=aOI (sumF F p i) (F i).1 (p.coef.getD i default) hgs hg hci
  have hok1:=aNH (a:=sumF F p i) (b:=(F i).1) (c:=p.coef.getD i default)
  rw[←hs1] at hok1
  repeat' first|((exfalso;omega))|apply aE|apply aG|apply aM|apply aJ|refine aI 0 aFg λK hK=>?_|refine aCW 0 aFg 13 (id:=5) (by kernel_rfl) λK hK=>?_|refine aCW 0 aFg 14 (id:=8) (by kernel_rfl) λK hK=>?_|(refine hK.alloc rfl rfl ⟨(by simp only[Nat.reduceLT]),rfl⟩ ?_;simp(disch:=apply aB;omega)only[go_sem])|(refine hK.store rfl rfl rfl ⟨⟨(by simp only[go_sem]),(by simp only[go_sem])⟩,(by simp only[go_sem]),(by simp only[go_sem]),(by simp only[go_sem])⟩ ?_;simp(disch:=apply aB;omega)only[go_sem])|refine λ(K:KT) (hK:KOk S 0 _ _ _ K)=>?_|((first|apply aD|apply aK|refine aA (aO ?_)|apply aA);simp(disch:=apply aB;omega)only[go_sem,Tryz.results147])|(apply hK.nil;clear hK K;simp only[go_sem])|((first|refine aF rfl ?_ ?_)<;>intro h<;>try simp(disch:=apply aB;omega)only[go_sem] at h)|apply aL|refine hK.c0 rfl rfl rfl (cF) rfl rfl rfl ?_|refine hK.c0 rfl rfl rfl (cA) rfl rfl rfl ?_|(with_reducible refine And.intro (by first|omega|(simp only[lens];omega)) ?_)|fail
  ·rw[oO λe=>by have:=e.1 i hil;rw[this] at h;cases h]
   exact⟨⟨rfl,rfl⟩,rfl⟩
  ·rw[oO λe=>by have:=hok1.2 (aXl hp hF e.2 (i+1) hil);rw[this] at h;cases h]
   exact⟨⟨rfl,rfl⟩,rfl⟩
  ·have e1:=aSi h
   rw[e1,←hs1]
   exact⟨i+1,(by(refine aC rfl rfl ?_ ?_ ?_ ?_<;>simp(disch:=apply aB;omega)only[go_sem]<;>(try omega))),⟨by omega,bJ hj (by assumption),hok1.1 h⟩,by omega⟩
 ·repeat' first|((exfalso;omega))|apply aE|refine aI 0 aFg λK hK=>?_|((first|apply aD|apply aK|refine aA (aO ?_)|apply aA);simp(disch:=apply aB;omega)only[go_sem,Tryz.results147])|(apply hK.nil;clear hK K;simp only[go_sem])|((first|refine aF rfl ?_ ?_)<;>intro h<;>try simp(disch:=apply aB;omega)only[go_sem] at h)|refine aT rfl ?_|fail
  obtain rfl:i=parts.length:=by omega
  rw[sE ⟨hj,hok⟩]
  exact⟨⟨rfl,rfl⟩,rfl⟩
def aFe:List (Nat×List Nat):=[(0,[1,2,3,6]),(1,[1,2,3,6,12]),(2,[2,6,8]),(3,[6,8]),(4,[6,7]),(5,[6,7])]
attribute [go_sem] aFe
theorem uP(rs:List Int)(ps:List PolyT)(hP:dI rs ps):∀f t,aX rs t->t.length≤f->FC S 127 [] [] [] [.agg [.sl .any (rs.map (.int .i64))],.sl .any (ps.map bS),.sl .any (t.map (.int .i64))] (.tup [bS (bR rs ps f t).1,.bool (bR rs ps f t).2]) [] []:=by
 intro f
 induction f with
 | zero=>intro t ht hl;have:=ht.2.1.1;omega
 | succ f ih =>
  intro t ht hl
  have hl2:=ht.2.1
  have hlo:=ht.low (show 0<t.length by omega)
  by_cases h0:t.getD 0 default<0
  ·rw[kR h0]
   refine aP Tryz.func127 rfl (by kernel_rfl) (by simp[Tryz.f127]) λB=>?_
   simp only[Tryz.ntmps127,aS,aZ,Nat.reduceAdd]
   refine bZ 2 rfl λhb2=>?_
   simp only[D.bnd,zC] at hb2
   repeat' first|((exfalso;omega))|((refine⟨by rw[List.length_replicate];omega,?_⟩))|((refine aBE (id:=4) ?_))|apply aE|refine aI 0 aFe λK hK=>?_|refine gK 0 aFe 7 (id:=3) (by kernel_rfl) λK hK=>?_|refine λ(K:KT) (hK:KOk S 0 _ _ _ K)=>?_|((first|apply aD|apply aK|refine aA (aO ?_)|apply aA);simp(disch:=apply aB;omega)only[go_sem,Tryz.results127])|(apply hK.nil;clear hK K;simp only[go_sem])|((first|refine aF rfl ?_ ?_)<;>intro h<;>try simp(disch:=apply aB;omega)only[go_sem] at h)|(with_reducible refine And.intro (by first|omega|(simp only[lens];omega)) ?_)|fail
   refine HoldP.go ?_
   refine aG8 8 1 1 .any ((xE (t.getD 0 default)).coef.map (.int .i64)) rfl rfl rfl (by decide) (by rw[cB];unfold xE;rw[Int.zero_sub]) (by simp[xE]) (λx hx=>by obtain⟨y,_,rfl⟩:=zJ.1 hx;rfl) (λd hd=>by obtain⟨y,_,rfl⟩:=zJ.1 hd;rfl) (.inl rfl) ?_
   simp only[go_sem]
   repeat' first|refine aI 0 aFe λK hK=>?_|((first|apply aD|apply aK|refine aA (aO ?_)|apply aA);simp(disch:=apply aB;omega)only[go_sem,Tryz.results127])|(apply hK.nil;clear hK K;simp only[go_sem])|fail
   rfl
  ·have hpp:=aHc hP (n:=t.getD 0 default) (by omega) hlo.1.2
   have hk:(((arS rs (t.getD 0 default)).toNat:Nat):Int)=arS rs (t.getD 0 default):=by omega
   have hlen:=iG rs t (arS rs (t.getD 0 default)).toNat
   rw[←hk,←hlen] at hpp
   have cS:=aFo rs ps (ps.getD (t.getD 0 default).toNat default) (mY rs t (arS rs (t.getD 0 default)).toNat) (λj=>bR rs ps f (jV rs t j)) hpp (by omega) (λj hj=>tC hP f _ (i7 ht (by omega)).1) (λj hj=>by
    rw[uN rs t (by omega)]
    have h1:=i7 ht (j:=j) (by omega)
    exact ih _ h1.1 (by omega))
   have cP:=rP rs t ht
   have hpl:(t.getD 0 default).toNat<ps.length:=by have:=hP.1.2;omega
   rw[lZ h0]
   rw[hlen] at cS
   refine aP Tryz.func127 rfl (by kernel_rfl) (by simp[Tryz.f127]) λB=>?_
   simp only[Tryz.ntmps127,aS,aZ,Nat.reduceAdd]
   refine bZ 2 rfl λhb2=>?_
   simp only[D.bnd,zC] at hb2
   repeat' first|((exfalso;omega))|apply aE|apply aJ|refine aI 0 aFe λK hK=>?_|refine gK 0 aFe 14 (id:=5) (by kernel_rfl) λK hK=>?_|refine λ(K:KT) (hK:KOk S 0 _ _ _ K)=>?_|((first|apply aD|apply aK|refine aA (aO ?_)|apply aA);simp(disch:=apply aB;omega)only[go_sem,Tryz.results127])|(apply hK.nil;clear hK K;simp only[go_sem])|((first|refine aF rfl ?_ ?_)<;>intro h<;>try simp(disch:=apply aB;omega)only[go_sem] at h)|refine hK.c0 rfl rfl rfl (cP) rfl rfl rfl ?_|refine hK.c0 rfl rfl rfl (cS) rfl rfl rfl ?_|(with_reducible refine And.intro (by first|omega|(simp only[lens];omega)) ?_)|fail
open Classical in
noncomputable def aBW(rs:List Int)(ps:List PolyT)(t:List Int):PolyT×Bool:=if dI rs ps/\aX rs t then bR rs ps 60 t else (t9,false)
theorem tN{rs:List Int}{ps:List PolyT}{t:List Int}(h:dI rs ps/\aX rs t):aBW rs ps t=bR rs ps 60 t:=if_pos h
theorem aIY{rs:List Int}{ps:List PolyT}{t:List Int}(h:¬(dI rs ps/\aX rs t)):aBW rs ps t=(t9,false):=if_neg h
theorem aCt(rs:List Int)(ps:List PolyT)(t:List Int):gE MF (aBW rs ps t).1:=by
 rcases Classical.em (dI rs ps/\aX rs t) with h|h
 ·rw[tN h];exact tC h.1 60 t h.2
 ·rw[aIY h];exact sR
def aS6:List (Nat×List Nat):=[(0,[1,2,3,6]),(1,[1,2,3,6,17]),(2,[6,7]),(3,[6,7])]
attribute [go_sem] aS6
theorem t0(rs:List Int)(ps:List PolyT)(t:List Int):FC S 101 [] [] [] [.agg [.sl .any (rs.map (.int .i64))],.sl .any (ps.map bS),.sl .any (t.map (.int .i64))] (.tup [bS (aBW rs ps t).1,.bool (aBW rs ps t).2]) [] []:=by
 rcases Classical.em (dI rs ps/\aX rs t) with⟨h1,h2⟩|hn
 ·rw[tN ⟨h1,h2⟩]
  refine aP Tryz.func101 rfl (by kernel_rfl) (by simp[Tryz.f101]) λB=>?_
  simp only[Tryz.ntmps101,aS,aZ,Nat.reduceAdd]
  repeat' first|apply aE|apply aJ|refine aI 0 aS6 λK hK=>?_|((first|apply aD|refine aA (aO ?_)|apply aA);simp(disch:=apply aB;omega)only[go_sem,Tryz.results101])|(apply hK.nil;clear hK K;simp only[go_sem])|((first|refine aH rfl rfl rfl rfl rfl ?_ ?_|refine aF rfl ?_ ?_)<;>intro h<;>try simp(disch:=apply aB;omega)only[go_sem] at h)|refine hK.skp rfl rfl ?_|refine hK.c0 rfl rfl rfl (iP _ _ _) rfl rfl rfl ?_|refine hK.c0 rfl rfl rfl (fY _ _ _ _) rfl rfl rfl ?_|refine hK.c0 rfl rfl rfl (uP rs ps h1 60 t h2 h2.2.1.2) rfl rfl rfl ?_|fail
  all_goals first|exact absurd h1 (by assumption)|exact absurd h2 (by assumption)
 ·rw[aIY hn]
  refine aP Tryz.func101 rfl (by kernel_rfl) (by simp[Tryz.f101]) λB=>?_
  simp only[Tryz.ntmps101,aS,aZ,Nat.reduceAdd]
  repeat' first|((exact absurd ⟨(by assumption),(by assumption)⟩ hn))|apply aE|refine aI 0 aS6 λK hK=>?_|((first|apply aD|refine aA (aO ?_)|apply aA);simp(disch:=apply aB;omega)only[go_sem,Tryz.results101])|(apply hK.nil;clear hK K;simp only[go_sem])|((first|refine aH rfl rfl rfl rfl rfl ?_ ?_|refine aF rfl ?_ ?_)<;>intro h<;>try simp(disch:=apply aB;omega)only[go_sem] at h)|refine hK.skp rfl rfl ?_|refine hK.c0 rfl rfl rfl (iP _ _ _) rfl rfl rfl ?_|refine hK.c0 rfl rfl rfl (fY _ _ _ _) rfl rfl rfl ?_|fail
  all_goals exact⟨rfl,rfl⟩
end
section
attribute [local irreducible] SW bC bE dE bU FC dO
def aNx:List (Nat×List Nat):=[(0,[0,1]),(1,[0,1,10]),(2,[4]),(3,[0,1,5]),(4,[0,1,5,14]),(6,[0,1,5,25]),(7,[4]),(5,[0,1,5]),(8,[4])]
attribute [go_sem] aNx
theorem p9(tk tk':Tk)(xs ys:List Int):FC S 114 [] [] [] [.sl tk (xs.map (.int .i64)),.sl tk' (ys.map (.int .i64))] (.bool (tst (xs=ys))) [] []:=by
 refine aP Tryz.func114 rfl (by kernel_rfl) (by simp[Tryz.f114]) λB=>?_
 simp only[Tryz.ntmps114,aS,aZ,Nat.reduceAdd]
 refine bZ 0 rfl λhb0=>?_
 simp only[D.bnd,zC] at hb0
 refine bZ 1 rfl λhb1=>?_
 simp only[D.bnd,zC] at hb1
 repeat' first|apply aE|apply aG|apply aJ|refine aI 0 aNx λK hK=>?_|((first|apply aD|apply aK|refine aA (aO ?_)|apply aA);simp(disch:=apply aB;omega)only[go_sem,Tryz.results114])|(apply hK.nil;clear hK K;simp only[go_sem])|((first|refine aF rfl ?_ ?_)<;>intro h<;>try simp(disch:=apply aB;omega)only[go_sem] at h)|fail
 ·intro e;exact h (by rw[e])
 refine bB (ι:=Nat) (λi=>[(5,.int .i64 i)]) (λ_=>[]) (λi=>i≤xs.length/\(∀j<i,xs.getD j default=ys.getD j default)) (λi=>xs.length-i) 0 (by(refine aC rfl rfl ?_ ?_ ?_ ?_<;>simp(disch:=apply aB;omega)only[go_sem]<;>(try omega))) ⟨by omega,?_⟩ (λi ⟨hi,hj⟩=>?_)
 rotate_left
 simp only[go_sem]
 repeat' first|apply aE|apply aG|apply aM|apply aJ|refine aI 0 aNx λK hK=>?_|refine aY aNx (by kernel_rfl) λK hK=>?_|((first|apply aD|apply aK|refine aA (aO ?_)|apply aA);simp(disch:=apply aB;omega)only[go_sem,Tryz.results114])|(apply hK.nil;clear hK K;simp only[go_sem])|((first|refine aF rfl ?_ ?_)<;>intro h<;>try simp(disch:=apply aB;omega)only[go_sem] at h)|refine aT rfl ?_|apply aL|(with_reducible refine And.intro (by first|omega|(simp only[lens];omega)) ?_)|fail
 ·intro e;exact h (by rw[e])
 ·exact⟨i+1,by(refine aC rfl rfl ?_ ?_ ?_ ?_<;>simp(disch:=apply aB;omega)only[go_sem]<;>(try omega)),⟨by omega,bJ hj (by assumption)⟩,by omega⟩
 ·exact xP (by assumption) λj hj'=>hj j (by omega)
 ·intro j hj';omega
end
end Go.Proofs.YtpennhjjnlkbiaaGreat
