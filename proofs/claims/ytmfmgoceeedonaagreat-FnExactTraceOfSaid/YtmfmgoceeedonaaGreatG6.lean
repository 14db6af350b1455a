/-
  A17j, A23c, A23f, A23g, P23, U17, U18, U19, U21, one behind the other.
-/
import Derived.Test.YtmfmgoceeedonaaGreatG3
import Derived.Test.YtmfmgoceeedonaaGreatSet
import Derived.Test.YtmfmgoceeedonaaGreatG1
import Derived.Test.YtmfmgoceeedonaaGreatG5
import Derived.Test.YtmfmgoceeedonaaGreatG2
import Derived.Test.YtmfmgoceeedonaaGreatLgK13
import Derived.Test.YtmfmgoceeedonaaGreatLgK10
import Derived.Test.YtmfmgoceeedonaaGreatLgK12
import Derived.Test.YtmfmgoceeedonaaGreatLgK17
import Derived.Test.YtmfmgoceeedonaaGreatLgK7
namespace Go.Proofs.YtmfmgoceeedonaaGreat
open Go Go.Lg
set_option linter.unusedSimpArgs false
set_option linter.unusedVariables false
set_option maxHeartbeats 4000000
section
attribute [local irreducible] SW bA bC dM bZ FC dX toF d7 iC fZ sumF b5
def aRE:List (Nat×List Nat):=[(0,[1]),(1,[1,4]),(2,[1,4,11,12,13]),(3,[1,4,11,12,13,14]),(4,[1,4,5,6,11,12,13]),(5,[1,4,5,11,12,13,20,21]),(6,[1,4,5,11,12,13,20,21,22]),(7,[1,4,5,7,11,12,13,20,21]),(8,[1,4,5,8,9,11,12,13,20,21]),(9,[1,4,5,8,11,12,13,20,21,31]),(10,[1,4,5,11,12,13,20,21]),(11,[1,4,5,11,12,13,20,21]),(12,[1,4,11,12,13]),(13,[4,40]),(14,[2,3]),(15,[2,3])]
attribute [go_sem] aRE Tryz.results56 Tryz.ntmps56
theorem aVM(x:SystemT)(hx:b9 x):FC S 56 [] [] [] [bR x] (.tup [.sl .any ((mY x).1.map bN),.bool (mY x).2]) [] []:=by
 have h12:=hx.1.2;have hA:(prA x x.rules.length).length≤64->mY x=(bI x,true):=λh=>fW ⟨hx,h⟩;have hB:¬(prA x x.rules.length).length≤64->mY x=([],false):=λh=>jG λe=>h e.2;refine fcb Tryz.func56 λB=>?_;repeat' first|apply aG|refine aE 0 aRE λK hK=>?_|refine aB ?_|(refine hK.n0 ?_;clear hK K)|apply tTT
 refine eF 4 36000 78 4 rfl (.inl rfl) rfl ?_;simp only[go_sem];refine bG (ι:=Nat) (λr=>[(13,.int .i64 r),(4,.sl (.own 36000 78 4) ((prA x r).map bN))]) (λ_=>[]) (λ_=>[36000]) (λr=>r≤x.rules.length) (λr=>x.rules.length-r) 0 cvB (by omega) (λr hr=>?_);simp only[go_sem];have hl1:=aJx hx r hr;by_cases hrl:r<x.rules.length
 ·have hT:=(hx.2 r hrl).1.2.1;have hTl:=hT.2.1;repeat' first|exact h.elim|(exfalso;omega)|apply aG|refine aE 0 aRE λK hK=>?_|refine aB ?_|(refine hK.n0 ?_;clear hK K)|refine aA rfl (λh=>?_) λh=>?_|with_reducible refine aH ?_|apply tTT
  refine bG (ι:=Nat) (λa=>[(21,.int .i64 a),(4,.sl (.own 36000 78 4) ((prA x r++prR x r a).map bN))]) (λ_=>[]) (λ_=>[36000]) (λa=>a≤(x.rules.getD r default).r.length) (λa=>(x.rules.getD r default).r.length-a) 0 (by(refine aD rfl rfl ?_ ?_ ?_ ?_<;>simp(disch:=apply aR;omega)only[go_sem]<;>(try omega));all_goals first|rfl|(rw[show prR x r 0=[] from rfl,List.append_nil];exact⟨rfl,rfl⟩)|(rw[show prR x r 0=[] from rfl,List.append_nil])) (by omega) (λa ha=>?_);simp only[go_sem];have hl2:=aDw x r a;have hl3:(prA x r++prR x r a).length≤60*r+a:=by rw[zK];omega
  by_cases hal:a<(x.rules.getD r default).r.length
  ·have hst:=@aUC x r a;repeat' first|exact h.elim|(exfalso;omega)|apply aG|refine aE 0 aRE λK hK=>?_|refine aB ?_|(refine hK.n0 ?_;clear hK K)|refine aA rfl (λh=>?_) λh=>?_|apply aF|refine hK.c1 rfl rfl rfl (aRZ x hx r a hrl hal) ?_|with_reducible refine aH ?_|((with_reducible refine And.intro ?_ ?_);· first|(intro x hx;subst hx;rfl)|(intro x;refine And.intro ?_ ?_<;>(intros;subst_vars;rfl)))|apply tTT
   ·exact⟨a+1,(by(refine aD rfl rfl ?_ ?_ ?_ ?_<;>simp(disch:=apply aR;omega)only[go_sem]<;>(try omega));rw[hst.1 h,←List.append_assoc,List.map_append (l₁:=prA x r++prR x r a),List.map_append (l₁:=prA x r)];exact⟨rfl,by omega⟩),by omega,by omega⟩
   ·exact⟨a+1,(by(refine aD rfl rfl ?_ ?_ ?_ ?_<;>simp(disch:=apply aR;omega)only[go_sem]<;>(try omega));rw[hst.2 h];exact⟨rfl,by omega⟩),by omega,by omega⟩
  ·repeat' first|exact h.elim|(exfalso;omega)|apply aG|refine aE 0 aRE λK hK=>?_|refine aB ?_|(refine hK.n0 ?_;clear hK K)|refine aA rfl (λh=>?_) λh=>?_|refine aJ rfl ?_|apply aF|apply tTT
   exact⟨r+1,(by(refine aD rfl rfl ?_ ?_ ?_ ?_<;>simp(disch:=apply aR;omega)only[go_sem]<;>(try omega));rw[show prA x (r+1)=prA x r++prR x r (x.rules.getD r default).r.length from rfl,show a=(x.rules.getD r default).r.length by omega];exact⟨rfl,by omega⟩),by omega,by omega⟩
 ·obtain rfl:r=x.rules.length:=by omega
  repeat' first|exact h.elim|(exfalso;omega)|apply aG|refine aE 0 aRE λK hK=>?_|refine aB ?_|refine aC ?_|(refine hK.n0 ?_;clear hK K)|refine aA rfl (λh=>?_) λh=>?_|refine aJ rfl ?_|apply tTT
  ·rw[hB (by omega)];exact⟨rfl,rfl⟩
  ·rw[hA (by omega)];exact⟨rfl,rfl⟩
def aZk:List (Nat×List Nat):=[(0,[1]),(1,[1,6]),(2,[2,3]),(3,[2,3])]
attribute [go_sem] aZk Tryz.results23 Tryz.ntmps23
theorem aEO(x:SystemT):FC S 23 [] [] [] [bR x] (.tup [.sl .any ((mY x).1.map bN),.bool (mY x).2]) [] []:=by
 rcases Classical.em (b9 x) with hx|hx
 ·skip
  refine fcb Tryz.func23 λB=>?_;repeat' first|exact h.elim|(exact absurd hx (by assumption))|apply aG|refine aE 0 aZk λK hK=>?_|refine aB ?_|refine aC ?_|(refine hK.n0 ?_;clear hK K)|refine aA rfl (λh=>?_) λh=>?_|refine hK.c1 rfl rfl rfl (sS _) ?_|refine hK.c1 rfl rfl rfl (aVM x hx) ?_|apply tTT
 ·rw[jG λh=>hx h.1];refine fcb Tryz.func23 λB=>?_;repeat' first|exact h.elim|(exact absurd (by assumption) hx)|apply aG|refine aE 0 aZk λK hK=>?_|refine aB ?_|refine aC ?_|(refine hK.n0 ?_;clear hK K)|refine aA rfl (λh=>?_) λh=>?_|refine hK.c1 rfl rfl rfl (sS _) ?_|apply tTT
  all_goals exact⟨rfl,rfl⟩
end
section
attribute [local irreducible] SW bA bC dM bZ FC dX
end
section
theorem aHJ(n:Int):∀xs:List Int,(eX xs n).length≤xs.length+1
 | []=>by simp[eX]
 | x::r=>by
  have ih:=aHJ n r;unfold eX;split
  ·simp only[List.length_cons];omega
  ·split<;>simp only[List.length_cons]<;>omega
end
section
attribute [local irreducible] SW bA bC dM bZ FC dX toF d7
def aAx(t:List Int)(i:Nat):List Int:=(t.take i).foldl (λs x=>if x<0 then eX s (-1-x) else s) []
theorem aHa(t:List Int)(i:Nat)(h:i<t.length):aAx t (i+1)=if t.getD i default<0 then eX (aAx t i) (-1-t.getD i default) else aAx t i:=by
 unfold aAx;rw[List.take_succ_eq_append_getElem h,List.foldl_append];simp[List.getD,h]
theorem aMm(t:List Int):∀i≤t.length,(aAx t i).length≤i
 | 0,_=>by simp[aAx]
 | i+1,hi=>by
  have ih:=aMm t i (by omega);rw[aHa t i (by omega)];split
  ·have:=aHJ (-1-t.getD i default) (aAx t i);omega
  ·omega
def aUR:List (Nat×List Nat):=[(0,[0]),(1,[0,3]),(2,[0,3,4]),(3,[0,3,4,9]),(5,[0,3,4,16]),(6,[0,3,4]),(4,[0,3,4]),(7,[2])]
attribute [go_sem] aUR Tryz.results114 Tryz.ntmps114
end
section
attribute [local irreducible] SW bA bC dM bZ FC dX aF5
def fvs(s l:List Int):List Int:=l.foldl (λs x=>if x<0 then eX s (-1-x) else s) s
theorem aSZ(n:Nat):eX (upTo n) n=upTo (n+1):=aAG (yC n _ (aCg n)) (aCg _) λx=>by rw[mE,aEY,aEY];omega
theorem aPV{x:SystemT}{t:List Int}{a:Nat}(h:¬mkO x t a=2):0≤t.getD a default:=by
 unfold mkO at h;split at h
 ·exact absurd rfl h
 ·omega
theorem aEd(x:SystemT)(t:List Int):∀f a n,fvs (upTo n) (eR x t f a n).1=upTo (eR x t f a n).2
 | 0,a,n=>by unfold eR;rfl
 | f+1,a,n=>by
  unfold eR;split
  ·split
   ·show fvs (if -((n:Int)+1)<0 then eX (upTo n) (-1 - -((n:Int)+1)) else upTo n) _=_;rw[if_pos (by omega),show (-1 - -((n:Int)+1))=(n:Int) by omega,aSZ];exact aEd x t f _ _
   ·rename_i h;have:=aPV h;show fvs (if t.getD a default<0 then _ else upTo n) _=_;rw[if_neg (by omega)];exact aEd x t f _ _
  ·rfl
theorem aT9(t:List Int):aAx t t.length=fvs [] t:=by unfold aAx fvs;rw[List.take_length]
theorem aXF(x:SystemT)(t:List Int):(aAx (eR x t 60 0 0).1 (eR x t 60 0 0).1.length).length=(eR x t 60 0 0).2:=by
 rw[aT9];have:=aEd x t 60 0 0;rw[show upTo 0=[] from rfl] at this;rw[this];simp[upTo]
theorem vQ(x:SystemT)(t:List Int):∀f a n,(eR x t f a n).1.length≤f/\n≤(eR x t f a n).2/\(eR x t f a n).2≤n+f
 | 0,a,n=>by unfold eR;simp
 | f+1,a,n=>by
  unfold eR;split
  ·split
   ·have:=vQ x t f (eJ x.sig t a).toNat (n+1);simp only[List.length_cons];omega
   ·have:=vQ x t f (a+1) n;simp only[List.length_cons];omega
  ·simp
theorem aMQ(x:SystemT)(t:List Int):∀f a n,∀y∈(eR x t f a n).1,-((eR x t f a n).2:Int)≤y
 | 0,a,n=>by unfold eR;simp
 | f+1,a,n=>by
  unfold eR;split
  ·split
   ·have h1:=vQ x t f (eJ x.sig t a).toNat (n+1);have h2:=aMQ x t f (eJ x.sig t a).toNat (n+1);intro y hy;rcases zO.1 hy with rfl|hy
    ·dsimp only;omega
    ·exact h2 y hy
   ·rename_i h;have h0:=aPV h;have h2:=aMQ x t f (a+1) n;intro y hy;rcases zO.1 hy with rfl|hy
    ·dsimp only;omega
    ·exact h2 y hy
  ·simp
theorem aN9{x:SystemT}{t:List Int}(hT:aT x.sig t):∀f a n k,a≤t.length->t.length≤a+f->(eR x t f a n).2≤24->Fl x.sig k (t.drop a)->Fl x.sig k (eR x t f a n).1
 | 0,a,n,k,h1,h2,_,h=>by
  rw[List.drop_of_length_le (by omega)] at h;unfold eR;exact h
 | f+1,a,n,k,h1,h2,hc,h=>by
  have hl:=vQ x t f;unfold eR at hc ⊢;split
  ·rename_i ha;rw[if_pos ha] at hc;obtain⟨q,rfl⟩:∃q,k=q+1:=by
    rw[List.drop_eq_getElem_cons ha] at h;cases h;exact⟨_,rfl⟩
   split
   ·rename_i hm;rw[if_pos hm] at hc;obtain⟨l1,l2,e,f1,f2⟩:=Fl.split (t.drop a) 1 q (by rw[Nat.add_comm];exact h);have ht:t=t.take a++(l1++l2):=by rw[←e,List.take_append_drop]
    have hta:(t.take a).length=a:=by rw[List.length_take];omega
    have he:=uA (p:=t.take a) (r:=l2) f1;rw[←ht,hta] at he;have hd:t.drop (eJ x.sig t a).toNat=l2:=by
     rw[he,show ((a:Int)+(l1.length:Int)).toNat=a+l1.length by omega,←List.drop_drop,e,List.drop_left]
    have hle:(eJ x.sig t a).toNat≤t.length:=by have:=(gQ hT ha).2;omega
    have hgt:=(gQ hT ha).1;have ih:=aN9 hT f (eJ x.sig t a).toNat (n+1) q hle (by omega) hc (by rw[hd];exact f2);have:=(hl (eJ x.sig t a).toNat (n+1)).2.1;dsimp only at hc;have har:arS x.sig (-((n:Int)+1))=0:=jZ (by omega);exact .cons (by omega) (by rw[har];exact ih)
   ·rename_i hm;rw[if_neg hm] at hc;rw[List.drop_eq_getElem_cons ha] at h;have hg:t[a]=t.getD a default:=by rw[zD,zB ha];rfl
    rw[hg] at h;cases h with
    | cons h0 hr=>exact .cons h0 (aN9 hT f (a+1) n _ (by omega) (by omega) hc hr)
  ·rw[List.drop_of_length_le (by omega)] at h;exact h
theorem aUS{x:SystemT}{t:List Int}(hT:aT x.sig t)(hc:(eR x t 60 0 0).2≤24):aT x.sig (eR x t 60 0 0).1 :=
 aGZ hT.1 (aN9 hT 60 0 0 1 (by omega) (by have:=hT.2.1.2;omega) hc (vN hT)) (vQ x t 60 0 0).1
theorem aVh{x:SystemT}{t:List Int}(h:0≤t.getD 0 default)(hl:0<t.length):eR x t 60 0 0=(t.getD 0 default::(eR x t 59 1 0).1,(eR x t 59 1 0).2):=by
 have hm:mkO x t 0=0:=by unfold mkO;rw[if_neg (by omega),if_pos rfl]
 show (if 0<t.length then _ else _)=_;rw[if_pos hl,if_neg (by rw[hm];decide)]
theorem aXJ{x:SystemT}{t:List Int}{a:Nat}(ha:1≤a):mkO x t a=2↔(t.getD a default<0∨aF5 x (t.getD a default)):=by
 unfold mkO;by_cases h1:t.getD a default<0
 ·rw[if_pos h1];exact⟨λ_=>.inl h1,λ_=>rfl⟩
 ·rw[if_neg h1,if_neg (by omega)];by_cases h2:aF5 x (t.getD a default)
  ·rw[b8 h2,if_pos rfl];exact⟨λ_=>.inr h2,λ_=>rfl⟩
  ·rw[bV h2,if_neg (by decide)];exact⟨λh=>absurd h (by decide),λh=>h.elim (λh=>absurd h h1) λh=>absurd h h2⟩
attribute [local irreducible] mkO
def aHm:List (Nat×List Nat):=[(0,[1,2]),(1,[1,2,12]),(2,[4]),(3,[1,2,5]),(4,[1,2,5,6]),(5,[1,2,5,6,7]),(6,[1,2,5,6,7,8]),(7,[1,2,5,6,7,8,23]),(8,[1,2,5,6,7,8,36]),(9,[1,2,5,6,7,8]),(10,[1,2,5,6,7,8]),(11,[1,2,5,6,7,8]),(12,[1,2,5,6,7,8]),(13,[1,2,5,6,7,8]),(14,[4])]
attribute [go_sem] aHm Tryz.results113 Tryz.ntmps113
theorem aJh(x:SystemT)(t:List Int)(hT:aT x.sig t)(h0:0≤t.getD 0 default)(hx:b9 x):FC S 113 [] [] [] [bR x,.sl .any (t.map (.int .i64))] (.sl .any ((eR x t 60 0 0).1.map (.int .i64))) [] []:=by
 have h12:=hx.1.2;have hd0:∀j<x.rules.length,1≤(x.rules.getD j default).l.length:=λj hj=>(hx.2 j hj).1.1.2.1.1;have hl:=hT.2.1;have hH:=aVh (x:=x) h0 hl.1;generalize hR:eR x t 60 0 0=R at *;have hm2:∀a,1≤a->(mkO x t a=2↔(t.getD a default<0∨t.getD a default∈yF x.rules x.rules.length)):=λa ha=>by rw[aXJ ha,aD4]
 generalize hdl:yF x.rules x.rules.length=dl at *;have cD:=sD x (by omega) hd0;rw[hdl] at cD;refine fcb Tryz.func113 λB=>?_;repeat' first|exact h.elim|(exfalso;omega)|(refine aFm (id:=4) 0 aHm 3 55000 rfl λK hK=>?_)|(refine⟨_,_,_,rfl,rfl,rfl,⟨⟨by simp only[Nat.reduceLT],by decide,by decide,by decide⟩,rfl,by simp[D.strip,jW,D.cells,D.memOk,TyI.size]⟩,rfl,by simp only[Nat.reduceLT],?_⟩;simp only[go_sem])|apply aG|refine aE 0 aHm λK hK=>?_|refine aB ?_|(refine hK.n0 ?_;clear hK K)|refine aA rfl (λh=>?_) λh=>?_|refine hK.c1 rfl rfl rfl (cD) ?_|with_reducible refine aH ?_|apply tTT
 refine bG (ι:=Nat×Nat×Nat×List Int) (λq=>[(1,.sl .any (t.map (.int .i64))),(2,.box 2 0),(5,.sl .any (dl.map (.int .i64))),(8,.int .i64 q.2.1),(7,.int .i64 (-((q.2.2.1:Int)+1))),(6,.sl (.own 55000 2 1) (q.2.2.2.map (.int .i64)))]) (λ_=>[]) (λ_=>[55000]) (λq=>(1≤q.2.1/\q.2.1≤t.length/\q.2.2.1≤q.2.1/\q.2.2.2.length≤q.2.1/\t.length≤q.2.1+q.1)/\q.2.2.2++(eR x t q.1 q.2.1 q.2.2.1).1=R.1) (λq=>t.length-q.2.1) (59,1,0,[t.getD 0 default]) cvA ⟨⟨by simp,by dsimp only;omega,by simp,by simp,by dsimp only;omega⟩,by rw[hH];rfl⟩ (λq hq=>?_);obtain⟨f,a,n,out⟩:=q;obtain⟨⟨h1,h2,h3,h4,h5⟩,h6⟩:=hq;dsimp only at h1 h2 h3 h4 h5 h6;simp only[go_sem];by_cases hal:a<t.length
 ·obtain⟨f,rfl⟩:∃g,f=g+1:=⟨f-1,by omega⟩;have he:=gQ hT hal;have cE:=qF x.sig t a hT hal;have hh:=iI .any dl (t.getD a default);unfold eR at h6;rw[if_pos hal] at h6;by_cases e:mkO x t a=2
  ·rw[if_pos e] at h6;have e2:=(hm2 a h1).1 e;have e3:¬t.getD a default<0->t.getD a default∈dl:=λh=>e2.resolve_left h;repeat' first|exact h.elim|(refine kL 41000 55000 rfl rfl ?_;simp only[go_sem])|(exfalso;omega)|(exfalso;exact absurd (e3 (by omega)) (by assumption))|apply aG|refine aE 0 aHm λK hK=>?_|refine aB ?_|(refine hK.n0 ?_;clear hK K)|refine aZ (λh=>?_) λh=>?_|refine aA rfl (λh=>?_) λh=>?_|refine hK.skp rfl rfl ?_|apply aF|refine hK.c1 rfl rfl rfl (cE) ?_|refine hK.c1 rfl rfl rfl (hh) ?_|with_reducible refine aH ?_|apply tTT
   all_goals exact⟨(f,(eJ x.sig t a).toNat,n+1,out++[-((n:Int)+1)]),(by(refine aD rfl rfl ?_ ?_ ?_ ?_<;>simp(disch:=apply aR;omega)only[go_sem]<;>(try omega));all_goals first|exact⟨by omega,by omega⟩|trace_state),⟨⟨by dsimp only;omega,by dsimp only;omega,by dsimp only;omega,by dsimp only;rw[zK,List.length_singleton];omega,by dsimp only;omega⟩,by dsimp only;rw[List.append_assoc];exact h6⟩,by dsimp only;omega⟩
  ·rw[if_neg e] at h6;have e2:=mt (hm2 a h1).2 e;repeat' first|exact h.elim|(exfalso;exact e2 (.inl (by omega)))|(exfalso;exact e2 (.inr (by assumption)))|apply aG|refine aE 0 aHm λK hK=>?_|refine aB ?_|(refine hK.n0 ?_;clear hK K)|refine aZ (λh=>?_) λh=>?_|refine aA rfl (λh=>?_) λh=>?_|apply aF|refine hK.c1 rfl rfl rfl (hh) ?_|with_reducible refine aH ?_|apply tTT
   all_goals exact⟨(f,a+1,n,out++[t.getD a default]),cvA,⟨⟨by dsimp only;omega,by dsimp only;omega,by dsimp only;omega,by dsimp only;rw[zK,List.length_singleton];omega,by dsimp only;omega⟩,by dsimp only;rw[List.append_assoc];exact h6⟩,by dsimp only;omega⟩
 ·have hz:(eR x t f a n).1=[]:=by
   cases f with
   | zero=>rfl
   | succ f=>unfold eR;rw[if_neg hal]
  rw[hz,List.append_nil] at h6;repeat' first|exact h.elim|(exfalso;omega)|apply aG|refine aE 0 aHm λK hK=>?_|refine aB ?_|refine aC ?_|(refine hK.n0 ?_;clear hK K)|refine aA rfl (λh=>?_) λh=>?_|refine aJ rfl ?_|apply tTT
  all_goals first|rfl|rw[h6]|exact h6
theorem aNq(t:List Int)(ht:t.length≤1000)(hlo:∀x∈t,-1000≤x):FC S 114 [] [] [] [.sl .any (t.map (.int .i64))] (.sl .any ((aAx t t.length).map (.int .i64))) [] []:=by
 refine fcb Tryz.func114 λB=>?_;refine bM 0 λhb0=>?_;repeat' first|apply aG|refine aE 0 aUR λK hK=>?_|refine aB ?_|(refine hK.n0 ?_;clear hK K)|apply tTT
 refine aV (ι:=Nat) (λp=>[(4,.int .i64 p),(3,.sl .any ((aAx t p).map (.int .i64)))]) (λp=>[]) (λp=>p≤t.length) (λp=>t.length-p) 0 cvB ?_ (λp hp=>?_);rotate_left
 simp only[go_sem];have hl:=aMm t p hp;have hs:=aHa t p;have hg:p<t.length->-1000≤t.getD p default:=λh=>hlo _ (aX t p h);repeat' first|exact h.elim|apply aG|refine aE 0 aUR λK hK=>?_|refine aB ?_|refine aC ?_|(refine hK.n0 ?_;clear hK K)|refine aA rfl (λh=>?_) λh=>?_|refine aJ rfl ?_|apply aF|refine hK.c1 rfl rfl rfl (pQ _ (aAx t p) (-1-t.getD p default) (by omega)) ?_|with_reducible refine aH ?_|apply tTT
 ·exact⟨p+1,(by rw[hs (by omega),if_pos (by omega)];(refine aD rfl rfl ?_ ?_ ?_ ?_<;>simp(disch:=apply aR;omega)only[go_sem]<;>(try omega));all_goals exact⟨rfl,by omega⟩),by omega,by omega⟩
 ·exact⟨p+1,(by rw[hs (by omega),if_neg (by omega)];(refine aD rfl rfl ?_ ?_ ?_ ?_<;>simp(disch:=apply aR;omega)only[go_sem]<;>(try omega));all_goals exact⟨rfl,by omega⟩),by omega,by omega⟩
 ·rw[show p=t.length by omega]
 ·omega
def aYI:List (Nat×List Nat):=[(0,[1,2]),(1,[1,2,16]),(2,[4,5]),(3,[6]),(4,[6,24]),(5,[4,5]),(6,[4,5])]
attribute [go_sem] aYI Tryz.results79 Tryz.ntmps79
theorem aLw(x:SystemT)(t:List Int)(hT:aT x.sig t)(h0:0≤t.getD 0 default)(hx:b9 x):FC S 79 [] [] [] [bR x,.sl .any (t.map (.int .i64))] (.tup [.sl .any ((if (eR x t 60 0 0).2≤24 then (eR x t 60 0 0).1 else []).map (.int .i64)),.bool (tst ((eR x t 60 0 0).2≤24))]) [] []:=by
 have cC:=aJh x t hT h0 hx;have hn:=aXF x t;have hl:=vQ x t 60 0 0;have hg:=aMQ x t 60 0 0;have cV:=aNq (eR x t 60 0 0).1 (by omega) (λy hy=>by have:=hg y hy;omega);generalize eR x t 60 0 0=R at *;generalize aAx R.1 R.1.length=V at *;by_cases hc:R.2≤24
 ·rw[if_pos hc,b8 hc];refine fcb Tryz.func79 λB=>?_;repeat' first|exact h.elim|(exact absurd hx (by assumption))|(exact absurd hT (by assumption))|(exfalso;omega)|apply aG|refine aE 0 aYI λK hK=>?_|refine aB ?_|refine aC ?_|(refine hK.n0 ?_;clear hK K)|refine aZ (λh=>?_) λh=>?_|refine aA rfl (λh=>?_) λh=>?_|refine hK.c1 rfl rfl rfl (jC _) ?_|refine hK.c1 rfl rfl rfl (g8 _ _ _ _) ?_|refine hK.c1 rfl rfl rfl (cC) ?_|refine hK.c1 rfl rfl rfl (cV) ?_|apply tTT
 ·rw[if_neg hc,bV hc];refine fcb Tryz.func79 λB=>?_;repeat' first|exact h.elim|(exact absurd hx (by assumption))|(exact absurd hT (by assumption))|(exfalso;omega)|apply aG|refine aE 0 aYI λK hK=>?_|refine aB ?_|refine aC ?_|(refine hK.n0 ?_;clear hK K)|refine aZ (λh=>?_) λh=>?_|refine aA rfl (λh=>?_) λh=>?_|refine hK.c1 rfl rfl rfl (jC _) ?_|refine hK.c1 rfl rfl rfl (g8 _ _ _ _) ?_|refine hK.c1 rfl rfl rfl (cC) ?_|refine hK.c1 rfl rfl rfl (cV) ?_|apply tTT
end
section
attribute [local irreducible] SW bA bC dM bZ FC dX bD
theorem aGm{rs t:List Int}{a i:Nat}{need m:Int}(hi:i<t.length)(h3:1≤need)(h4:eJ rs t a=scan rs (t.drop i) need i)(h0:0≤arS rs (t.getD i default))(hm:m=need+arS rs (t.getD i default)-1):(m=0/\eJ rs t a=((i+1:Nat):Int))∨(1≤m/\eJ rs t a=scan rs (t.drop (i+1)) m (i+1)):=by
 have hb:=aBd rs t need i hi;rw[if_neg (by omega)] at hb;subst hm;by_cases h:need+arS rs (t.getD i default)-1=0
 ·rw[if_pos h] at hb;exact .inl ⟨h,by rw[h4,hb];omega⟩
 ·rw[if_neg h] at hb;exact .inr ⟨by omega,by rw[h4,hb]⟩
theorem aYO{rs t:List Int}(hT:XT rs t){i:Nat}(hi:i<t.length)(h:t.getD i default<0):arS rs (phi (t.getD i default))=0:=by
 have hg:=hT.get hi;exact jZ ⟨aW6 hg.1,by have:=(aPu _ hg.1).2 h;omega⟩
theorem aVO{rs t:List Int}(hT:XT rs t){i:Nat}(hi:i<t.length)(h:0≤t.getD i default):arS rs (phi (t.getD i default))=rs.getD (t.getD i default).toNat default:=by
 have hg:=hT.get hi;rw[aDv h];exact lJ (by omega)
theorem aMu(rs t:List Int)(a:Nat)(hT:XT rs t)(ha:a<t.length):FC S 77 [] [] [] [.agg [.sl .any (rs.map (.int .i64))],.sl .any (t.map (.int .i64)),.int .i64 a] (.int .i64 (eJ rs (bL t) a)) [] []:=by
 have hlen:=e7 t;have he:=gQ hT.1 (a:=a) (by omega);have hl:=hT.len;refine fcb Tryz.func77 λB=>?_;refine bM 1 λhb1=>?_;repeat' first|apply aG|refine aE 0 aNd λK hK=>?_|refine aB ?_|(refine hK.n0 ?_;clear hK K)|apply tTT
 refine aV (ι:=Nat×Int) (λp=>[(2,.int .i64 p.1),(7,.int .i64 p.2)]) (λp=>[]) (λp=>(p.1≤t.length/\0≤p.2/\p.2≤1+3*p.1)/\((p.2=0/\eJ rs (bL t) a=p.1)∨(1≤p.2/\eJ rs (bL t) a=scan rs ((bL t).drop p.1) p.2 p.1))) (λp=>t.length-p.1) (a,1) cvA ?_ (λp hp=>?_);rotate_left
 simp only[go_sem];obtain⟨i,need⟩:=p;obtain⟨⟨h1,h2,h2'⟩,h3⟩:=hp;dsimp only at h1 h2 h2' h3;have hlt:1≤need->i<t.length:=λh=>Classical.byContradiction λhn=>by
  have hx:=aEI rs (bL t) need i (by omega);omega
 have hlow:i<t.length->_:=λh=>hT.1.low (a:=i) (by omega);have hgt:i<t.length->_:=λh=>hT.get h;have hv:i<t.length->t.getD i default<0->_:=λhi h=>aYO hT hi h;have hsy:i<t.length->0≤t.getD i default->_:=λhi h=>aVO hT hi h;have hph:i<t.length->_:=λh=>mS t i h;repeat' first|exact h.elim|apply aG|refine aE 0 aNd λK hK=>?_|refine aU aNd (by kernel_rfl) λK hK=>?_|refine aB ?_|refine aQ ?_|refine aC ?_|(refine hK.n0 ?_;clear hK K)|refine aA rfl (λh=>?_) λh=>?_|refine aJ rfl ?_|apply aF|with_reducible refine aH ?_|apply tTT
 ·have hi:=hlt (by omega);have e:=hsy hi (by omega);have hl0:=(hlow hi).2;rw[hph hi] at hl0;exact⟨(i+1,need+rs.getD (t.getD i default).toNat default-1),by(refine aD rfl rfl ?_ ?_ ?_ ?_<;>simp(disch:=apply aR;omega)only[go_sem]<;>(try omega)),⟨⟨by omega,by omega,by omega⟩,aGm (t:=bL t) (need:=need) (m:=need+rs.getD (t.getD i default).toNat default-1) (by omega) (by omega) (by omega) (by rw[hph hi];exact hl0.1) (by rw[hph hi,e])⟩,by omega⟩
 ·have hi:=hlt (by omega);have e:=hv hi (by omega);exact⟨(i+1,need-1),by(refine aD rfl rfl ?_ ?_ ?_ ?_<;>simp(disch:=apply aR;omega)only[go_sem]<;>(try omega)),⟨⟨by omega,by omega,by omega⟩,aGm (t:=bL t) (need:=need) (m:=need-1) (by omega) (by omega) (by omega) (by rw[hph hi,e];omega) (by rw[hph hi,e];omega)⟩,by omega⟩
 ·omega
 ·exact .inr ⟨by simp,rfl⟩
def aDJ:List (Nat×List Nat):=[(0,[0,1]),(1,[0,1,22]),(2,[0,1]),(3,[4])]
attribute [go_sem] aDJ Tryz.results115 Tryz.ntmps115
theorem aFi(rs:List Int)(β:List (List Int))(hβ:BOK rs β)(f:Nat)(t r:List Int)(hr:dU β f t=some r)(hT:XT rs t):FC S 115 [(1030,[.ms 1028 48]),(1028,β.map bD)] [] [] [.box 1030 0,.sl .any (t.map (.int .i64))] (.sl .any (r.map (.int .i64))) [] []:=by
 have hlb:=hβ.1;refine fcb Tryz.func115 λB=>?_;repeat' first|apply aG|refine aE 0 aDJ λK hK=>?_|refine aB ?_|(refine hK.n0 ?_;clear hK K)|apply tTT
 refine aV (ι:=Nat×List Int) (λp=>[(1,.sl .any (p.2.map (.int .i64)))]) (λp=>[]) (λp=>dU β p.1 p.2=some r/\XT rs p.2) (λp=>p.1) (f,t) cvA ?_ (λp hp=>?_);rotate_left
 simp only[go_sem];obtain⟨k,u⟩:=p;obtain⟨h1,h2⟩:=hp;dsimp only at h1 h2;rcases k with _|k
 ·cases h1
 have hg:=h2.get (a:=0) (by have:=h2.len;omega);have hl:=h2.len;by_cases hv:u.getD 0 default<0
 ·have h48:vIx (u.getD 0 default)<48:=by unfold vIx;omega
  unfold dU at h1;by_cases hb:β.getD (vIx (u.getD 0 default)) default=[]
  ·rw[if_neg (by rintro⟨_,h⟩;exact h hb)] at h1;obtain rfl:=zA h1;have hrd:bD (β.getD (-1-u.getD 0 default).toNat default)=.sl .nil []:=by rw[show β.getD (-1-u.getD 0 default).toNat default=[] from hb];exact uO
   repeat' first|exact h.elim|(exfalso;omega)|(rw[hrd];simp only[go_sem])|apply aG|refine aE 0 aDJ λK hK=>?_|refine aU aDJ (by kernel_rfl) λK hK=>?_|refine aB ?_|refine aQ ?_|refine aC ?_|(refine hK.n0 ?_;clear hK K)|refine bH (λh=>?_) λh=>?_|refine aA rfl (λh=>?_) λh=>?_|refine aJ rfl ?_|with_reducible refine aH ?_|apply tTT
   all_goals trace_state
  ·rw[if_pos ⟨hv,hb⟩] at h1;have hrd:bD (β.getD (-1-u.getD 0 default).toNat default)=.sl .any ((β.getD (-1-u.getD 0 default).toNat default).map (.int .i64)):=o7 hb;have hb2:(β.getD (-1-u.getD 0 default).toNat default).map (D.int .i64)≠[]:=λe=>hb (List.map_eq_nil_iff.1 e);have hb3:0<(β.getD (-1-u.getD 0 default).toNat default).length:=List.length_pos_iff.2 hb;repeat' first|exact h.elim|(exfalso;omega)|(rw[hrd];simp only[go_sem])|apply aG|refine aU aDJ (by kernel_rfl) λK hK=>?_|refine aQ ?_|(refine hK.n0 ?_;clear hK K)|refine bH (λh=>?_) λh=>?_|refine aA rfl (λh=>?_) λh=>?_|apply aF|with_reducible refine aH ?_|apply tTT
   all_goals exact⟨(k,β.getD (-1-u.getD 0 default).toNat default),(by(refine aD rfl rfl ?_ ?_ ?_ ?_<;>simp(disch:=apply aR;omega)only[go_sem]<;>(try omega));rw[hrd];simp only[go_sem]),⟨h1,hβ.get hb⟩,by simp⟩
 ·unfold dU at h1;rw[if_neg (by rintro⟨h,_⟩;exact hv h)] at h1;obtain rfl:=zA h1;repeat' first|exact h.elim|(exfalso;omega)|apply aG|refine aE 0 aDJ λK hK=>?_|refine aU aDJ (by kernel_rfl) λK hK=>?_|refine aB ?_|refine aQ ?_|refine aC ?_|(refine hK.n0 ?_;clear hK K)|refine bH (λh=>?_) λh=>?_|refine aA rfl (λh=>?_) λh=>?_|refine aJ rfl ?_|with_reducible refine aH ?_|apply tTT
  all_goals trace_state
 ·exact⟨hr,hT⟩
def t9(rs t:List Int)(j:Nat):List (List Int):=(List.range j).map λi=>pX rs t (d8 rs (bL t) 1 i)
theorem aOU(rs t:List Int)(j:Nat):(t9 rs t j).length=j:=by simp[t9]
theorem aKX(rs t:List Int)(j:Nat):t9 rs t (j+1)=t9 rs t j++[pX rs t (d8 rs (bL t) 1 j)]:=by simp[t9,List.range_succ]
theorem aNx(rs t:List Int):t9 rs t (arS rs ((bL t).getD 0 default)).toNat=iA rs t:=by
 unfold t9 iA;rw[show dN rs (bL t) 0=yG rs (bL t) (arS rs ((bL t).getD 0 default)).toNat 1 from rfl,fE];exact List.map_congr_left λi hi=>by rw[aBa _ _ _ _ _ (List.mem_range.1 hi)]
theorem yU(rs t:List Int)(hT:XT rs t)(h0:0≤hd t):FC S 117 [] [] [] [.agg [.sl .any (rs.map (.int .i64))],.sl .any (t.map (.int .i64))] (.sl .any ((iA rs t).map dT)) [] []:=by
 rw[←aNx];have hl:=hT.len;have hlen:=e7 t;have hlo:=hT.1.low (a:=0) (by omega);have hph:=mS t 0 (by omega);have hsy:=aVO hT (i:=0) (by omega) h0;have hg:=hT.get (a:=0) (by omega);have hhd:0≤t.getD 0 default:=h0;have hlt:∀j<(arS rs ((bL t).getD 0 default)).toNat,0<d8 rs (bL t) 1 j/\d8 rs (bL t) 1 j<(bL t).length:=λj hj=>oU hT.1 (by omega) (by omega);have hle:∀j≤(arS rs ((bL t).getD 0 default)).toNat,0<d8 rs (bL t) 1 j/\d8 rs (bL t) 1 j≤(bL t).length:=λj hj=>aDD hT.1 (by omega) (by omega);have hlow:=hlo.2;rw[hph,hsy] at hlow hlt hle ⊢;generalize hk:(rs.getD (t.getD 0 default).toNat default).toNat=k at *;refine fcb Tryz.func117 λB=>?_;refine bM 1 λhb1=>?_;repeat' first|exact h.elim|apply aG|refine aE 0 tB λK hK=>?_|refine aB ?_|refine aC ?_|(refine hK.n0 ?_;clear hK K)|refine aA rfl (λh=>?_) λh=>?_|with_reducible refine aH ?_|apply tTT
 ·exfalso;omega
 refine eF 5 37000 22 1 rfl (.inr rfl) rfl ?_;simp only[go_sem];refine bG (ι:=Nat) (λj=>[(7,.int .i64 j),(6,.int .i64 (d8 rs (bL t) 1 j)),(5,.sl (.own 37000 22 1) ((t9 rs t j).map dT))]) (λ_=>[]) (λ_=>[37000]) (λj=>j≤k) (λj=>k-j) 0 cvB (by omega) (λj hj=>?_);simp only[go_sem];have h3:=hle j hj;have h4:=hlt j;have h5:j<k->d8 rs (bL t) 1 j<eJ rs (bL t) (d8 rs (bL t) 1 j)/\eJ rs (bL t) (d8 rs (bL t) 1 j)≤(bL t).length:=λh=>gQ hT.1 (h4 h).2;have h6:j<k->((eJ rs (bL t) (d8 rs (bL t) 1 j)).toNat:Int)=eJ rs (bL t) (d8 rs (bL t) 1 j):=λh=>by have:=h5 h;omega
 have h7:=aOU rs t j;have h8:=aKX rs t j;by_cases hjk:j<k
 ·repeat' first|exact h.elim|(exfalso;omega)|apply aG|refine aE 0 tB λK hK=>?_|refine aU tB (by kernel_rfl) λK hK=>?_|refine aB ?_|refine aQ ?_|(refine hK.n0 ?_;clear hK K)|refine aA rfl (λh=>?_) λh=>?_|apply aF|refine hK.c1 rfl rfl rfl (aMu rs t (d8 rs (bL t) 1 j) hT (by have:=(h4 hjk).2;omega)) ?_|with_reducible refine aH ?_|apply tTT
  exact⟨j+1,(by(refine aD rfl rfl ?_ ?_ ?_ ?_<;>simp(disch:=apply aR;omega)only[go_sem]<;>(try omega));rw[h8,List.map_append];exact⟨rfl,(h6 hjk).symm,by omega⟩),by omega,by omega⟩
 ·repeat' first|exact h.elim|(exfalso;omega)|apply aG|refine aE 0 tB λK hK=>?_|refine aU tB (by kernel_rfl) λK hK=>?_|refine aB ?_|refine aQ ?_|refine aC ?_|(refine hK.n0 ?_;clear hK K)|refine aA rfl (λh=>?_) λh=>?_|refine aJ rfl ?_|with_reducible refine aH ?_|apply tTT
  rw[show j=k by omega]
end
section
def PrU(β:Bds)(x:Int)(s:List Bool)(u:List Int):Prop:=∀z∈u,z≠x/\(z<0->Sn s (vIx z)∨β.getD (vIx z) default=[])
def unS(s:List Bool):Nat:=s.count false
theorem aId:∀(s:List Bool) (i:Nat),i<s.length->s.getD i default=false->unS (s.set i true)+1=unS s
 | [],_,h,_=>by cases h
 | b::s,0,_,h=>by
  have:b=false:=by simpa using h
  subst this;simp[unS]
 | b::s,i+1,h,h0=>by
  have ih:=aId s i (by simpa using h) (by simpa using h0);unfold unS at ih ⊢;rw[List.set_cons_succ,List.count_cons,List.count_cons];omega
theorem PrU.mono{β:Bds}{x:Int}{s:List Bool}{i:Nat}(hi:i<s.length){u:List Int}(h:PrU β x s u):PrU β x (s.set i true) u:=λz hz=>⟨(h z hz).1,λh0=>((h z hz).2 h0).imp (λh=>(aJu hi).2 (.inr h)) id⟩
theorem PrU.nil(β:Bds)(x:Int)(s:List Bool):PrU β x s []:=λz hz=>by cases hz
theorem PrU.snoc{β:Bds}{x:Int}{s:List Bool}{u:List Int}{i:Nat}(hi:i<u.length)(h:PrU β x s (u.take i))(hne:u.getD i default≠x)(h0:u.getD i default<0->Sn s (vIx (u.getD i default))∨β.getD (vIx (u.getD i default)) default=[]):PrU β x s (u.take (i+1)):=λz hz=>by
 have e:u.take (i+1)=u.take i++[u.getD i default]:=by
  rw[List.take_add_one,zB hi,zD,zB hi];rfl
 rw[e] at hz;rcases zP.1 hz with hz|hz
 ·exact h z hz
 ·rw[zN.1 hz];exact⟨hne,h0⟩
structure OccI (β:Bds) (x:Int) (t:List Int) (us:List (List Int)) (s:List Bool):Prop where
 len:s.length=48
 size:us.length+unS s≤49
 sound:∀u∈us,mQ β x u->mQ β x t
 top:PrU β x s t∨t∈us
 seen:∀i,Sn s i->PrU β x s (β.getD i default)∨β.getD i default∈us
theorem OccI.start(β:Bds)(x:Int)(t:List Int):OccI β x t [t] (List.replicate 48 false) where
 len:=List.length_replicate
 size:=by simp[unS]
 sound:=λu hu h=>by rw[zN.1 hu] at h;exact h
 top:=.inr (zN.2 rfl)
 seen:=λi h=>by
  unfold Sn at h;rw[zD,List.getElem?_replicate] at h;split at h<;>cases h
theorem OccI.done{β:Bds}{x:Int}(hx:x<0){t:List Int}{s:List Bool}(h:OccI β x t [] s):¬mQ β x t:=by
 have key:∀i j,Rch β i j->j=vIx x->i≠vIx x->(Sn s i∨β.getD i default=[])->False:=by
  intro i j hr;induction hr with
  | refl=>intro e h1 _;exact h1 e
  | step he _ ih =>
   intro e h1 h2;obtain⟨y,hy,hy0,hyj⟩:=he;rcases h2 with h2|h2
   ·have hp:=(h.seen _ h2).resolve_right (by simp);have:=hp y hy;exact ih e (λe'=>this.1 (wX hy0 hx (hyj.trans e'))) (hyj ▸ this.2 hy0)
   ·rw[h2] at hy;cases hy
 rintro⟨z,hz,hz0,hr⟩;have hp:=(h.top.resolve_right (by simp)) z hz;exact key _ _ hr rfl (λe=>hp.1 (wX hz0 hx e)) (hp.2 hz0)
theorem OccI.found{β:Bds}{x:Int}(hx:x<0){t u:List Int}{us:List (List Int)}{s:List Bool}(h:OccI β x t (u::us) s)(hm:x∈u):mQ β x t :=
 h.sound u (zH ..) ⟨x,hm,hx,.refl _⟩
theorem OccI.drop{β:Bds}{x:Int}{t u:List Int}{us:List (List Int)}{s:List Bool}(h:OccI β x t (u::us) s)(hp:PrU β x s u):OccI β x t us s where
 len:=h.len
 size:=by have:=h.size;rw[List.length_cons] at this;omega
 sound:=λv hv=>h.sound v (zG _ hv)
 top:=h.top.elim .inl λh1=>(zO.1 h1).elim (λe=>.inl (e ▸ hp)) .inr
 seen:=λi hi=>(h.seen i hi).elim .inl λh1=>(zO.1 h1).elim (λe=>.inl (e ▸ hp)) .inr
theorem OccI.perm{β:Bds}{x:Int}{t:List Int}{us vs:List (List Int)}{s:List Bool}(h:OccI β x t us s)(hl:vs.length=us.length)(hm:∀v,v∈vs↔v∈us):OccI β x t vs s where
 len:=h.len
 size:=by rw[hl];exact h.size
 sound:=λv hv=>h.sound v ((hm v).1 hv)
 top:=h.top.imp id (hm _).2
 seen:=λi hi=>(h.seen i hi).imp id (hm _).2
theorem OccI.push{β:Bds}{x:Int}{t u:List Int}{us:List (List Int)}{s:List Bool}(h:OccI β x t (u::us) s){z:Int}(hz:z∈u)(hz0:z<0)(h8:vIx z<48)(hns:s.getD (vIx z) default=false):OccI β x t (u::(us++[β.getD (vIx z) default])) (s.set (vIx z) true) where
 len:=by rw[List.length_set];exact h.len
 size:=by
  have:=h.size;have:=aId s (vIx z) (by rw[h.len];exact h8) hns;simp only[List.length_cons,zK,List.length_nil] at *;omega
 sound:=λv hv ho=>by
  rcases zO.1 hv with rfl|hv
  ·exact h.sound _ (zH ..) ho
  ·rcases zP.1 hv with hv|hv
   ·exact h.sound v (zG _ hv) ho
   ·rw[zN.1 hv] at ho;obtain⟨y,hy,hy0,hr⟩:=ho;exact h.sound u (zH ..) ⟨z,hz,hz0,.step ⟨y,hy,hy0,rfl⟩ hr⟩
 top:=h.top.imp (λh1=>h1.mono (by rw[h.len];exact h8)) λh1=>(zO.1 h1).elim (λe=>zO.2 (.inl e)) λh1=>zG _ (List.mem_append_left _ h1)
 seen:=λi hi=>by
  rcases (aJu (by rw[h.len];exact h8)).1 hi with rfl|hi
  ·exact .inr (zG _ (List.mem_append_right _ (zN.2 rfl)))
  ·exact(h.seen i hi).imp (λh1=>h1.mono (by rw[h.len];exact h8)) λh1=>(zO.1 h1).elim (λe=>zO.2 (.inl e)) λh1=>zG _ (List.mem_append_left _ h1)
end
section
attribute [local irreducible] SW bA bC dM bZ FC dX bD PrU mQ
theorem aPX(f:Nat->Bool)(β:List (List Int)):(β.map bD).map (D.pu1 f)=β.map bD:=by
 rw[List.map_map];exact List.map_congr_left λx _=>by
  show D.pu1 f (bD x)=bD x;by_cases h:x=[]
  ·rw[h,uO];rfl
  ·rw[o7 h];rfl
theorem aR9(f:Nat->Bool)(ys:List Bool):(ys.map D.bool).map (D.pu1 f)=ys.map D.bool:=by
 rw[List.map_map];exact List.map_congr_left λx _=>rfl
attribute [go_sem] aPX aR9
theorem aMP(us:List (List Int))(m:Nat):((us.map λy=>(Tk.any,y)).take m).map oY=(us.take m).map dT:=by rw[←List.map_take,List.map_map];rfl
theorem i9(k:Nat)(tk:List Nat)(u:List Int):(dT u).safe k tk=true:=aCi u .i64
theorem aH4(k:Nat)(tk:List Nat)(u:List Int):(bD u).safe k tk=true:=by
 by_cases h:u=[]
 ·rw[h,uO];rfl
 ·rw[o7 h];exact aCi u .i64
def lM:List (Nat×List Nat):=[(0,[0,1,2]),(1,[0,1,2,7]),(2,[0,1,7,8]),(3,[0,1,7,8,21]),(4,[0,1,7,8,9]),(5,[0,1,7,8,9]),(6,[0,1,7,8,9,10]),(7,[0,1,7,8,9,10,36]),(9,[0,1,7,8,9,10,44]),(10,[6]),(11,[0,1,7,8,9,10,75]),(12,[0,1,7,8,9,10]),(13,[0,1,7,8,9,10]),(8,[0,1,7,8,9,10]),(14,[6])]
attribute [go_sem] lM Tryz.results116 Tryz.ntmps116
theorem aAd(rs:List Int)(β:List (List Int))(hβ:BOK rs β)(x:Int)(hx:x<0)(t:List Int)(hT:XT rs t):FC S 116 [] [(1030,[.ms 1028 48]),(1028,β.map bD)] [] [.box 1030 0,.int .i64 x,.sl .any (t.map (.int .i64))] (.bool (tst (mQ β x t))) [(1030,[.ms 1028 48]),(1028,β.map bD)] []:=by
 have hlb:=hβ.1;refine aZ9 Tryz.func116 λB hP=>?_;repeat' first|(refine aFm (id:=2) 0 lM 1 97000 rfl λK hK=>?_)|(refine⟨_,_,_,rfl,rfl,rfl,⟨⟨by simp only[Nat.reduceLT],by decide,by decide,by decide⟩,rfl,by simp[D.strip,jW,D.cells,D.memOk,TyI.size]⟩,(by simp[-List.map_set,LS.clean,D.tks,D.tksL,cU,eH]),by simp only[Nat.reduceLT],?_⟩;simp only[go_sem])|apply aG|refine aE 0 lM λK hK=>?_|refine aB ?_|(refine hK.n0 ?_;clear hK K)|with_reducible refine aH ?_|apply tTT
 refine bG (ι:=List (List Int)×List Bool) (λp=>[(0,.box 1030 0),(1,.int .i64 x),(7,.ms 16 48),(8,.sl (.own 97000 22 1) (p.1.map dT))]) (λp=>[(1030,[.ms 1028 48]),(1028,β.map bD),(16,p.2.map .bool)]) (λ_=>[97000]) (λp=>OccI β x t p.1 p.2/\∀u∈p.1,XT rs u) (λp=>2*unS p.2+p.1.length) ([t],List.replicate 48 false) cvB ⟨OccI.start β x t,λu hu=>by rw[zN.1 hu];exact hT⟩ (λp hp=>?_);obtain⟨us,s⟩:=p;obtain⟨hI,hX⟩:=hp;dsimp only at hI hX;have hsz:=hI.size;have hsl:=hI.len;simp only[go_sem];by_cases hn:us=[]
 ·subst hn;repeat' first|exact h.elim|(exfalso;omega)|apply aG|refine aE 0 lM λK hK=>?_|refine aB ?_|refine aC ?_|(refine hK.n0 ?_;clear hK K)|refine aA rfl (λh=>?_) λh=>?_|refine aJ rfl ?_|apply tTT
  exact hI.done hx
 ·have hup:0<us.length:=List.length_pos_iff.2 hn;repeat' first|exact h.elim|(exfalso;omega)|(refine sJ (id:=5) 0 lM 4 rfl λK hK=>?_)|apply aG|refine aE 0 lM λK hK=>?_|refine aB ?_|(refine hK.n0 ?_;clear hK K)|refine aA rfl (λh=>?_) λh=>?_|with_reducible refine aH ?_|apply tTT
  refine aK.popOwn hP (k:=97000) (by simp) (kd:=.i64) (m:=us.length-1) (ps:=us.map λy=>(.any,y)) (by simp only[go_sem];rw[List.map_map];rfl) (by simp only[go_sem]) rfl rfl ⟨by omega,by rw[zC];omega⟩ (λp hp=>by obtain⟨y,_,rfl⟩:=zJ.1 hp;rfl) [(0,.box 1030 0),(1,.int .i64 x),(7,.ms 16 48),(9,dT (us.getD (us.length-1) default))] [(1030,[.ms 1028 48]),(1028,β.map bD),(16,s.map .bool)] ?_ ?_ (by simp only[Nat.reduceLT]) (aK.nil ?_)
  ·intro p hp;simp only[zO,List.not_mem_nil,or_false] at hp;rcases hp with rfl|rfl|rfl|rfl
   ·exact⟨rfl,rfl⟩
   ·exact⟨rfl,rfl⟩
   ·exact⟨rfl,rfl⟩
   ·exact⟨rfl,i9 _ _ _⟩
  ·intro p hp;simp only[zO,List.not_mem_nil,or_false] at hp;rcases hp with rfl|rfl|rfl
   ·exact⟨rfl,λd hd=>by rw[zN.1 hd];rfl⟩
   ·exact⟨rfl,λd hd=>by obtain⟨y,_,rfl⟩:=zJ.1 hd;exact aH4 _ _ _⟩
   ·exact⟨rfl,λd hd=>by obtain⟨y,_,rfl⟩:=zJ.1 hd;rfl⟩
  simp only[aMP,go_sem];refine λ(K:List Oper->LS->Prop) (hK:KOk S 0 _ _ _ K)=>?_;have hdec:us=us.take (us.length-1)++[us.getD (us.length-1) default]:=by
   conv=>lhs;rw[←List.take_append_drop (us.length-1) us]
   congr 1
   rw[List.drop_eq_getElem_cons (by omega),List.drop_of_length_le (by omega),zD,zB (by omega)];rfl
  have hXu:XT rs (us.getD (us.length-1) default):=hX _ (by rw[hdec];simp);have hXr:∀v∈us.take (us.length-1),XT rs v:=λv hv=>hX v (List.mem_of_mem_take hv);have hIu:OccI β x t (us.getD (us.length-1) default::us.take (us.length-1)) s:=hI.perm (by rw[List.length_cons,List.length_take];omega) λv=>by
   conv=>rhs;rw[hdec]
   simp[or_comm]
  have hrl:(us.take (us.length-1)).length+1=us.length:=by rw[List.length_take];omega
  generalize us.getD (us.length-1) default=u at *;generalize us.take (us.length-1)=ur at *;repeat' first|apply aG|refine aE 0 lM λK hK=>?_|refine aB ?_|(refine hK.n0 ?_;clear hK K)|apply tTT
  refine bG (ι:=Nat×List (List Int)×List Bool) (λq=>[(0,.box 1030 0),(1,.int .i64 x),(7,.ms 16 48),(8,.sl (.own 97000 22 1) (q.2.1.map dT)),(9,.sl .any (u.map (.int .i64))),(10,.int .i64 q.1)]) (λq=>[(1030,[.ms 1028 48]),(1028,β.map bD),(16,q.2.2.map .bool)]) (λ_=>[97000]) (λq=>(q.1≤u.length/\2*unS q.2.2+q.2.1.length≤2*unS s+ur.length)/\OccI β x t (u::q.2.1) q.2.2/\(∀v∈q.2.1,XT rs v)/\PrU β x q.2.2 (u.take q.1)) (λq=>u.length-q.1) (0,ur,s) cvA ⟨⟨Nat.zero_le _,zQ _⟩,hIu,hXr,by rw[List.take_zero];exact PrU.nil β x s⟩ (λq hq=>?_);obtain⟨i,vs,s'⟩:=q;obtain⟨⟨hi,hm⟩,hI',hX',hP'⟩:=hq;dsimp only at hi hm hI' hX' hP';have hsz':=hI'.size;have hsl':=hI'.len;rw[List.length_cons] at hsz';have hlu:=hXu.len;simp only[go_sem];by_cases hil:i<u.length
  ·have hg:=hXu.get hil;have hmi:u.getD i default∈u:=aX _ _ hil;by_cases hz:u.getD i default=x
   ·have hf:mQ β x t:=hI'.found hx (hz ▸ hmi);repeat' first|exact h.elim|(exfalso;omega)|apply aG|refine aE 0 lM λK hK=>?_|refine aB ?_|refine aC ?_|(refine hK.n0 ?_;clear hK K)|refine aA rfl (λh=>?_) λh=>?_|with_reducible refine aH ?_|apply tTT
    all_goals first|exact hf|exact b8 hf|trace_state
   ·by_cases h0:0≤u.getD i default
    ·repeat' first|exact h.elim|(exfalso;omega)|apply aG|refine aE 0 lM λK hK=>?_|refine aU lM (by kernel_rfl) λK hK=>?_|refine aB ?_|refine aQ ?_|(refine hK.n0 ?_;clear hK K)|refine bH (λh=>?_) λh=>?_|refine aA rfl (λh=>?_) λh=>?_|apply aF|with_reducible refine aH ?_|apply tTT
     all_goals exact⟨(i+1,vs,s'),cvA,⟨⟨by omega,hm⟩,hI',hX',hP'.snoc hil hz λh=>absurd h (by omega)⟩,by omega⟩
    ·have h48:vIx (u.getD i default)<48:=by unfold vIx;omega
     by_cases hsn:s'.getD (vIx (u.getD i default)) default=true
     ·repeat' first|exact h.elim|(exfalso;omega)|(exfalso;have hx:s'.getD (-1-u.getD i default).toNat default=false:=(by assumption);exact absurd (hx.symm.trans hsn) (by decide))|apply aG|refine aE 0 lM λK hK=>?_|refine aU lM (by kernel_rfl) λK hK=>?_|refine aB ?_|refine aQ ?_|(refine hK.n0 ?_;clear hK K)|refine bH (λh=>?_) λh=>?_|refine aA rfl (λh=>?_) λh=>?_|apply aF|with_reducible refine aH ?_|apply tTT
      all_goals exact⟨(i+1,vs,s'),cvA,⟨⟨by omega,hm⟩,hI',hX',hP'.snoc hil hz λ_=>.inl hsn⟩,by omega⟩
     ·have hsf:s'.getD (vIx (u.getD i default)) default=false:=by simpa using hsn
      by_cases hb:β.getD (vIx (u.getD i default)) default=[]
      ·have hrd:bD (β.getD (-1-u.getD i default).toNat default)=.sl .nil []:=by rw[show β.getD (-1-u.getD i default).toNat default=[] from hb];exact uO
       repeat' first|exact h.elim|(exfalso;omega)|(exact absurd (by assumption) hsn)|(rw[hrd];simp only[go_sem])|apply aG|refine aE 0 lM λK hK=>?_|refine aU lM (by kernel_rfl) λK hK=>?_|refine aB ?_|refine aQ ?_|(refine hK.n0 ?_;clear hK K)|refine bH (λh=>?_) λh=>?_|refine aA rfl (λh=>?_) λh=>?_|apply aF|with_reducible refine aH ?_|apply tTT
       all_goals exact⟨(i+1,vs,s'),cvA,⟨⟨by omega,hm⟩,hI',hX',hP'.snoc hil hz λ_=>.inr hb⟩,by omega⟩
      ·have hrd:bD (β.getD (-1-u.getD i default).toNat default)=.sl .any ((β.getD (-1-u.getD i default).toNat default).map (.int .i64)):=o7 hb;have hb3:0<(β.getD (-1-u.getD i default).toNat default).length:=List.length_pos_iff.2 hb;have hpu:=hI'.push hmi (by omega) h48 hsf;have hun:=aId s' _ (by omega) hsf;have hset:=hP'.mono (i:=vIx (u.getD i default)) (by omega);repeat' first|exact h.elim|(exfalso;omega)|(exact absurd (by assumption) hsn)|(rw[hrd];simp only[go_sem])|apply aG|refine aE 0 lM λK hK=>?_|refine iG 0 lM 13 (id:=13) (by kernel_rfl) λK hK=>?_|refine λ(K:KT) (hK:KOk S 0 _ _ _ K)=>?_|refine aU lM (by kernel_rfl) λK hK=>?_|refine aB ?_|refine aQ ?_|(refine hK.n0 ?_;clear hK K)|refine bH (λh=>?_) λh=>?_|refine aA rfl (λh=>?_) λh=>?_|apply aF|with_reducible refine aH ?_|apply tTT
       exact⟨(i+1,vs++[β.getD (vIx (u.getD i default)) default],s'.set (vIx (u.getD i default)) true),(by(refine aD rfl rfl ?_ ?_ ?_ ?_<;>simp(disch:=apply aR;omega)only[go_sem]<;>(try omega));all_goals first|rfl|(rw[List.map_append];exact⟨rfl,by omega⟩)),⟨⟨by omega,by dsimp only;rw[zK,List.length_singleton];omega⟩,hpu,(λv hv=>(zP.1 hv).elim (hX' v) λh=>by rw[zN.1 h];exact hβ.get hb),hset.snoc hil hz λ_=>.inl ((aJu (by omega)).2 (.inl rfl))⟩,by dsimp only;omega⟩
  ·have hfin:PrU β x s' u:=by
    rw[List.take_of_length_le (by omega)] at hP';exact hP'
   repeat' first|exact h.elim|(exfalso;omega)|apply aG|refine aE 0 lM λK hK=>?_|refine aB ?_|(refine hK.n0 ?_;clear hK K)|refine aA rfl (λh=>?_) λh=>?_|refine aJ rfl ?_|apply aF|apply tTT
   exact⟨(vs,s'),cvA,⟨hI'.drop hfin,hX'⟩,by dsimp only;omega⟩
end
section
attribute [local irreducible] SW bA bC dM bZ FC dX bD mQ
theorem aUl(β:Bds)(i:Nat){y:List Int}(hy:y≠[]):(β.map bD).set i (.sl .any (y.map (.int .i64)))=(β.set i y).map bD:=by rw[List.map_set,o7 hy]
def oG:List (Nat×List Nat):=[(0,[1,2,3,4]),(1,[1,3,4,9]),(2,[1,4,9,10]),(3,[1,4,9,10,19]),(4,[1,4,9,10,11]),(5,[1,4,9,10,11,12]),(6,[1,4,9,10,11,12]),(7,[1,4,9,10,11,12]),(10,[1,4,9,10,11,12,56]),(11,[1,4,9,10,11,12,70]),(12,[1,4,9,10,11,12,80]),(13,[8]),(14,[1,4,9,10]),(15,[1,4,9,10,11,12,91]),(16,[1,4,9,10,11,12,101]),(17,[8]),(18,[1,4,9,10]),(19,[1,4,9,10,11,12,112]),(20,[8]),(8,[1,4,9,10,12]),(9,[1,4,9,10]),(21,[8])]
attribute [go_sem] oG Tryz.results80 Tryz.ntmps80
theorem aOO(rs:List Int)(β:List (List Int))(hβ:BOK rs β)(hA:Acy β)(n:Nat)(a b:List Int)(ha:XT rs a)(hb:XT rs b)(r:Bool)(hr:uB rs n β [(a,b)]=some r):FC S 80 [] [(1030,[.ms 1028 48]),(1028,β.map bD)] [] [.agg [.sl .any (rs.map (.int .i64))],.box 1030 0,.sl .any (a.map (.int .i64)),.sl .any (b.map (.int .i64))] (.bool r) [] []:=by
 have hlb:=hβ.1;refine aZ9 Tryz.func80 λB hP=>?_;refine bM 1 λhb1=>?_;repeat' first|(refine aFm (id:=1) 0 oG 1 51000 rfl λK hK=>?_)|(refine aFm (id:=2) 0 oG 1 56000 rfl λK hK=>?_)|(refine⟨_,_,_,rfl,rfl,rfl,⟨⟨by simp only[Nat.reduceLT],by decide,by decide,by decide⟩,rfl,by simp[D.strip,jW,D.cells,D.memOk,TyI.size]⟩,(by simp[-List.map_set,LS.clean,D.tks,D.tksL,cU,eH]),by simp only[Nat.reduceLT],?_⟩;simp only[go_sem])|apply aG|refine aE 0 oG λK hK=>?_|refine aB ?_|(refine hK.n0 ?_;clear hK K)|apply tTT
 refine bG (ι:=Nat×Bds×List (List Int×List Int)) (λp=>[(1,.box 1030 0),(4,.box 4 0),(9,.sl (.own 51000 22 1) ((p.2.2.map Prod.fst).map dT)),(10,.sl (.own 56000 22 1) ((p.2.2.map Prod.snd).map dT))]) (λp=>[(1030,[.ms 1028 48]),(1028,p.2.1.map bD),(4,[.sl .any (rs.map (.int .i64))])]) (λ_=>[51000,56000]) (λp=>uB rs p.1 p.2.1 p.2.2=some r/\BOK rs p.2.1/\Acy p.2.1/\∀q∈p.2.2,XT rs q.1/\XT rs q.2) (λp=>p.1) (n,β,[(a,b)]) cvA ⟨hr,hβ,hA,λq hq=>by rw[zN] at hq;subst hq;exact⟨ha,hb⟩⟩ (λp hp=>?_);obtain⟨k,γ,ps⟩:=p;obtain⟨h1,hγ,hAγ,hX⟩:=hp;dsimp only at h1 hγ hAγ hX;have hlg:=hγ.1;rcases k with _|k
 ·cases h1
 unfold uB at h1;have hlen:ps.length≤400000:=by
  by_cases h:400000<ps.length
  ·rw[if_pos h] at h1;cases h1
  ·omega
 rw[if_neg (by omega)] at h1;rcases List.eq_nil_or_concat ps with rfl|⟨qs,p,rfl⟩
 ·obtain rfl:=zA h1;simp only[go_sem];repeat' first|exact h.elim|(exfalso;omega)|apply aG|refine aE 0 oG λK hK=>?_|refine aB ?_|refine aC ?_|(refine hK.n0 ?_;clear hK K)|refine aA rfl (λh=>?_) λh=>?_|refine aJ rfl ?_|apply tTT
 ·rw[List.concat_eq_append] at h1 hX hlen ⊢;obtain⟨hp1,hp2⟩:=hX p (by simp);have hq:∀p∈qs,XT rs p.1/\XT rs p.2:=λp hp'=>hX p (by simp[hp']);obtain⟨u,u1,u2,u3,u4⟩:=qB hγ hAγ hp1;obtain⟨v,v1,v2,v3,v4⟩:=qB hγ hAγ hp2;simp only[List.getLast?_append,List.getLast?_singleton,Option.some_or,u1,v1,List.dropLast_concat] at h1;rw[zK,List.length_singleton] at hlen;obtain⟨us,hus⟩:∃us,us=(qs++[p]).map Prod.fst:=⟨_,rfl⟩;obtain⟨vs,hvs⟩:∃vs,vs=(qs++[p]).map Prod.snd:=⟨_,rfl⟩;have hul:us.length=qs.length+1:=by rw[hus];simp
  have hvl:vs.length=qs.length+1:=by rw[hvs];simp
  have hu0:us.getD (us.length-1) default=p.1:=by rw[hul,hus];simp
  have hv0:vs.getD (vs.length-1) default=p.2:=by rw[hvl,hvs];simp
  have hut:us.take (us.length-1)=qs.map Prod.fst:=by rw[hul,hus];simp
  have hvt:vs.take (vs.length-1)=qs.map Prod.snd:=by rw[hvl,hvs];simp
  dsimp only;rw[←hus,←hvs];simp only[go_sem];have cH1:=aFi rs γ hγ 60 (us.getD (us.length-1) default) u (by rw[hu0];exact u1) (by rw[hu0];exact hp1);have cH2:=aFi rs γ hγ 60 (vs.getD (vs.length-1) default) v (by rw[hv0];exact v1) (by rw[hv0];exact hp2);repeat' first|exact h.elim|(refine hK.callB rfl rfl rfl (cH1) (by refine⟨⟨?_,?_,?_,?_,?_⟩,⟨?_,?_,?_,?_,?_⟩,?_⟩<;>simp[-List.map_set,LS.getBox,Lg.look,D.ids,D.idsL,dQ,fF,LS.clean,D.puOk,D.pu,D.pu1,D.tks,D.tksL,cU,dJ,eH,dI,dW,fR,dR]) ?_;simp(disch:=apply aR;omega)only[go_sem])|(refine hK.callB rfl rfl rfl (cH2) (by refine⟨⟨?_,?_,?_,?_,?_⟩,⟨?_,?_,?_,?_,?_⟩,?_⟩<;>simp[-List.map_set,LS.getBox,Lg.look,D.ids,D.idsL,dQ,fF,LS.clean,D.puOk,D.pu,D.pu1,D.tks,D.tksL,cU,dJ,eH,dI,dW,fR,dR]) ?_;simp(disch:=apply aR;omega)only[go_sem])|(exfalso;omega)|(refine sJ (id:=6) 0 oG 4 rfl λK hK=>?_)|apply aG|refine aE 0 oG λK hK=>?_|refine aB ?_|(refine hK.n0 ?_;clear hK K)|refine aA rfl (λh=>?_) λh=>?_|with_reducible refine aH ?_|apply tTT
  refine aK.popOwn hP (k:=51000) (by simp) (kd:=.i64) (m:=us.length-1) (ps:=us.map λy=>(.any,y)) (by simp only[go_sem];rw[List.map_map];rfl) (by simp only[go_sem]) rfl rfl ⟨by omega,by rw[zC];omega⟩ (λp hp=>by obtain⟨y,_,rfl⟩:=zJ.1 hp;rfl) [(1,.box 1030 0),(4,.box 4 0),(10,.sl (.own 56000 22 1) (vs.map dT)),(11,.sl .any (u.map (.int .i64))),(12,.sl .any (v.map (.int .i64)))] [(1030,[.ms 1028 48]),(1028,γ.map bD),(4,[.sl .any (rs.map (.int .i64))])] ?_ ?_ (by simp only[Nat.reduceLT]) (aK.nil ?_)
  ·intro p hp;simp only[zO,List.not_mem_nil,or_false] at hp;rcases hp with rfl|rfl|rfl|rfl|rfl
   ·exact⟨rfl,rfl⟩
   ·exact⟨rfl,rfl⟩
   ·exact⟨rfl,by simp only[D.safe,List.contains_cons];exact Bool.and_eq_true_iff.2 ⟨rfl,aEJ λd hd=>by obtain⟨y,_,rfl⟩:=zJ.1 hd;exact i9 _ _ _⟩⟩
   ·exact⟨rfl,i9 _ _ _⟩
   ·exact⟨rfl,i9 _ _ _⟩
  ·intro p hp;simp only[zO,List.not_mem_nil,or_false] at hp;rcases hp with rfl|rfl|rfl
   ·exact⟨rfl,λd hd=>by rw[zN.1 hd];rfl⟩
   ·exact⟨rfl,λd hd=>by obtain⟨y,_,rfl⟩:=zJ.1 hd;exact aH4 _ _ _⟩
   ·exact⟨rfl,λd hd=>by rw[zN.1 hd];exact i9 _ _ rs⟩
  simp only[aMP,go_sem];refine λ(K:List Oper->LS->Prop) (hK:KOk S 0 _ _ _ K)=>?_;repeat' first|(refine sJ (id:=7) 0 oG 4 rfl λK hK=>?_)|apply aG|refine aB ?_|(refine hK.n0 ?_;clear hK K)|apply tTT
  refine aK.popOwn hP (k:=56000) (by simp) (kd:=.i64) (m:=vs.length-1) (ps:=vs.map λy=>(.any,y)) (by simp only[go_sem];rw[List.map_map];rfl) (by simp only[go_sem]) rfl rfl ⟨by omega,by rw[zC];omega⟩ (λp hp=>by obtain⟨y,_,rfl⟩:=zJ.1 hp;rfl) [(1,.box 1030 0),(4,.box 4 0),(9,.sl (.own 51000 22 1) ((us.take (us.length-1)).map dT)),(11,.sl .any (u.map (.int .i64))),(12,.sl .any (v.map (.int .i64)))] [(1030,[.ms 1028 48]),(1028,γ.map bD),(4,[.sl .any (rs.map (.int .i64))])] ?_ ?_ (by simp only[Nat.reduceLT]) (aK.nil ?_)
  ·intro p hp;simp only[zO,List.not_mem_nil,or_false] at hp;rcases hp with rfl|rfl|rfl|rfl|rfl
   ·exact⟨rfl,rfl⟩
   ·exact⟨rfl,rfl⟩
   ·exact⟨rfl,by simp only[D.safe,List.contains_cons];exact Bool.and_eq_true_iff.2 ⟨rfl,aEJ λd hd=>by obtain⟨y,_,rfl⟩:=zJ.1 hd;exact i9 _ _ _⟩⟩
   ·exact⟨rfl,i9 _ _ _⟩
   ·exact⟨rfl,i9 _ _ _⟩
  ·intro p hp;simp only[zO,List.not_mem_nil,or_false] at hp;rcases hp with rfl|rfl|rfl
   ·exact⟨rfl,λd hd=>by rw[zN.1 hd];rfl⟩
   ·exact⟨rfl,λd hd=>by obtain⟨y,_,rfl⟩:=zJ.1 hd;exact aH4 _ _ _⟩
   ·exact⟨rfl,λd hd=>by rw[zN.1 hd];exact i9 _ _ rs⟩
  simp only[aMP,go_sem];refine λ(K:List Oper->LS->Prop) (hK:KOk S 0 _ _ _ K)=>?_;rw[hut,hvt];have hgu:=u2.get (a:=0) (by have:=u2.len;omega);have hgv:=v2.get (a:=0) (by have:=v2.len;omega);have hlu:=u2.len;have hlv:=v2.len;have hiu:u.getD 0 default<0->vIx (u.getD 0 default)<48:=λh=>aFk hgu.1 h;have hiv:v.getD 0 default<0->vIx (v.getD 0 default)<48:=λh=>aFk hgv.1 h;have eu:hd u=u.getD 0 default:=rfl;have ev:hd v=v.getD 0 default:=rfl;rw[eu,ev] at h1;rw[eu] at u3;rw[ev] at v3;clear u1 v1 u4 v4 hu0 hv0 cH1 cH2 hX hus hvs hul hvl hut hvt eu ev;by_cases c1:u.getD 0 default=v.getD 0 default/\u.getD 0 default<0
  ·rw[if_pos c1] at h1;obtain⟨c5,c6⟩:=c1;repeat' first|exact h.elim|(exfalso;omega)|apply aG|refine aU oG (by kernel_rfl) λK hK=>?_|refine aQ ?_|(refine hK.n0 ?_;clear hK K)|refine bH (λh=>?_) λh=>?_|refine aA rfl (λh=>?_) λh=>?_|refine aJ rfl ?_|apply aF|with_reducible refine aH ?_|apply tTT
   all_goals exact⟨(k,γ,qs),(by(refine aD rfl rfl ?_ ?_ ?_ ?_<;>simp(disch:=apply aR;omega)only[go_sem]<;>(try omega));all_goals simp),⟨h1,hγ,hAγ,hq⟩,by simp⟩
  rw[if_neg c1] at h1;by_cases c2:u.getD 0 default<0
  ·rw[if_pos c2] at h1;have c7:¬u.getD 0 default=v.getD 0 default:=λe=>c1 ⟨e,c2⟩;have cO:=aAd rs γ hγ (u.getD 0 default) c2 v v2;have hi:=hiu c2;by_cases ho:mQ γ (u.getD 0 default) v
   ·rw[if_pos (b8 ho)] at h1;obtain rfl:=zA h1;rw[b8 ho] at cO;repeat' first|exact h.elim|(refine hK.callB rfl rfl rfl (cO) (by refine⟨⟨?_,?_,?_,?_,?_⟩,⟨?_,?_,?_,?_,?_⟩,?_⟩<;>simp[-List.map_set,LS.getBox,Lg.look,D.ids,D.idsL,dQ,fF,LS.clean,D.puOk,D.pu,D.pu1,D.tks,D.tksL,cU,dJ,eH,dI,dW,fR,dR]) ?_;simp(disch:=apply aR;omega)only[go_sem])|(exfalso;omega)|apply aG|refine aE 0 oG λK hK=>?_|refine aU oG (by kernel_rfl) λK hK=>?_|refine aB ?_|refine aQ ?_|refine aC ?_|(refine hK.n0 ?_;clear hK K)|refine bH (λh=>?_) λh=>?_|refine aA rfl (λh=>?_) λh=>?_|with_reducible refine aH ?_|apply tTT
   ·rw[if_neg (by rw[bV ho];simp)] at h1;rw[bV ho] at cO;obtain⟨b1,b2,b3,_⟩:=nD hγ hAγ u2 v2 c2 (u3 c2) ho λ_=>True;repeat' first|exact h.elim|(refine hK.callB rfl rfl rfl (cO) (by refine⟨⟨?_,?_,?_,?_,?_⟩,⟨?_,?_,?_,?_,?_⟩,?_⟩<;>simp[-List.map_set,LS.getBox,Lg.look,D.ids,D.idsL,dQ,fF,LS.clean,D.puOk,D.pu,D.pu1,D.tks,D.tksL,cU,dJ,eH,dI,dW,fR,dR]) ?_;simp(disch:=apply aR;omega)only[go_sem])|(exfalso;omega)|apply aG|refine aE 0 oG λK hK=>?_|refine iG 0 oG 10 (id:=14) (by kernel_rfl) λK hK=>?_|refine λ(K:KT) (hK:KOk S 0 _ _ _ K)=>?_|refine aU oG (by kernel_rfl) λK hK=>?_|refine aB ?_|refine aQ ?_|(refine hK.n0 ?_;clear hK K)|refine bH (λh=>?_) λh=>?_|refine aA rfl (λh=>?_) λh=>?_|apply aF|with_reducible refine aH ?_|apply tTT
    exact⟨(k,γ.set (vIx (u.getD 0 default)) v,qs),(by(refine aD rfl rfl ?_ ?_ ?_ ?_<;>simp(disch:=apply aR;omega)only[go_sem]<;>(try omega));all_goals first|exact aUl γ _ v2.ne|(simp;done)|trace_state),⟨h1,b1,b2,hq⟩,by simp⟩
  rw[if_neg c2] at h1;by_cases c3:v.getD 0 default<0
  ·rw[if_pos c3] at h1;have c7:¬u.getD 0 default=v.getD 0 default:=λe=>c2 (e ▸ c3);have cO:=aAd rs γ hγ (v.getD 0 default) c3 u u2;have hi:=hiv c3;by_cases ho:mQ γ (v.getD 0 default) u
   ·rw[if_pos (b8 ho)] at h1;obtain rfl:=zA h1;rw[b8 ho] at cO;repeat' first|exact h.elim|(refine hK.callB rfl rfl rfl (cO) (by refine⟨⟨?_,?_,?_,?_,?_⟩,⟨?_,?_,?_,?_,?_⟩,?_⟩<;>simp[-List.map_set,LS.getBox,Lg.look,D.ids,D.idsL,dQ,fF,LS.clean,D.puOk,D.pu,D.pu1,D.tks,D.tksL,cU,dJ,eH,dI,dW,fR,dR]) ?_;simp(disch:=apply aR;omega)only[go_sem])|(exfalso;omega)|apply aG|refine aE 0 oG λK hK=>?_|refine aU oG (by kernel_rfl) λK hK=>?_|refine aB ?_|refine aQ ?_|refine aC ?_|(refine hK.n0 ?_;clear hK K)|refine bH (λh=>?_) λh=>?_|refine aA rfl (λh=>?_) λh=>?_|with_reducible refine aH ?_|apply tTT
   ·rw[if_neg (by rw[bV ho];simp)] at h1;rw[bV ho] at cO;obtain⟨b1,b2,b3,_⟩:=nD hγ hAγ v2 u2 c3 (v3 c3) ho λ_=>True;repeat' first|exact h.elim|(refine hK.callB rfl rfl rfl (cO) (by refine⟨⟨?_,?_,?_,?_,?_⟩,⟨?_,?_,?_,?_,?_⟩,?_⟩<;>simp[-List.map_set,LS.getBox,Lg.look,D.ids,D.idsL,dQ,fF,LS.clean,D.puOk,D.pu,D.pu1,D.tks,D.tksL,cU,dJ,eH,dI,dW,fR,dR]) ?_;simp(disch:=apply aR;omega)only[go_sem])|(exfalso;omega)|apply aG|refine aE 0 oG λK hK=>?_|refine iG 0 oG 10 (id:=18) (by kernel_rfl) λK hK=>?_|refine λ(K:KT) (hK:KOk S 0 _ _ _ K)=>?_|refine aU oG (by kernel_rfl) λK hK=>?_|refine aB ?_|refine aQ ?_|(refine hK.n0 ?_;clear hK K)|refine bH (λh=>?_) λh=>?_|refine aA rfl (λh=>?_) λh=>?_|apply aF|with_reducible refine aH ?_|apply tTT
    exact⟨(k,γ.set (vIx (v.getD 0 default)) u,qs),(by(refine aD rfl rfl ?_ ?_ ?_ ?_<;>simp(disch:=apply aR;omega)only[go_sem]<;>(try omega));all_goals first|exact aUl γ _ u2.ne|(simp;done)|trace_state),⟨h1,b1,b2,hq⟩,by simp⟩
  rw[if_neg c3] at h1;by_cases c4:u.getD 0 default=v.getD 0 default
  ·rw[if_neg (by simpa using c4)] at h1;have cP1:=yU rs u u2 (by show 0≤u.getD 0 default;omega);have cP2:=yU rs v v2 (by show 0≤v.getD 0 default;omega);have e1:=nJ rs u v;have e2:=vC u2 v2 c4;have e3:(qs++eC rs u v).map Prod.fst=qs.map Prod.fst++iA rs u:=by rw[List.map_append];exact congrArg _ e1
   have e4:(qs++eC rs u v).map Prod.snd=qs.map Prod.snd++iA rs v:=by rw[List.map_append];exact congrArg _ e2
   have hl3:=aC3 (v:=v) u2;have hl4:(iA rs u).length≤3:=by rw[←e1,zC];exact hl3
   have hl5:(iA rs v).length≤3:=by rw[←e2,zC];exact hl3
   repeat' first|exact h.elim|(refine hK.callB rfl rfl rfl (cP1) (by refine⟨⟨?_,?_,?_,?_,?_⟩,⟨?_,?_,?_,?_,?_⟩,?_⟩<;>simp[-List.map_set,LS.getBox,Lg.look,D.ids,D.idsL,dQ,fF,LS.clean,D.puOk,D.pu,D.pu1,D.tks,D.tksL,cU,dJ,eH,dI,dW,fR,dR]) ?_;simp(disch:=apply aR;omega)only[go_sem])|(refine hK.callB rfl rfl rfl (cP2) (by refine⟨⟨?_,?_,?_,?_,?_⟩,⟨?_,?_,?_,?_,?_⟩,?_⟩<;>simp[-List.map_set,LS.getBox,Lg.look,D.ids,D.idsL,dQ,fF,LS.clean,D.puOk,D.pu,D.pu1,D.tks,D.tksL,cU,dJ,eH,dI,dW,fR,dR]) ?_;simp(disch:=apply aR;omega)only[go_sem])|(exfalso;omega)|(refine⟨List.mem_filter.2 ⟨by simp,by simp⟩,by omega,by omega,?_⟩)|apply aG|refine aE 0 oG λK hK=>?_|refine aU oG (by kernel_rfl) λK hK=>?_|refine aB ?_|refine aQ ?_|(refine hK.n0 ?_;clear hK K)|refine bH (λh=>?_) λh=>?_|refine aA rfl (λh=>?_) λh=>?_|apply aF|with_reducible refine aH ?_|apply tTT
   refine⟨(k,γ,qs++eC rs u v),?_,⟨h1,hγ,hAγ,λq hq'=>(zP.1 hq').elim (hq q) λh=>w9 u2 v2 c4 q h⟩,by simp⟩;dsimp only;rw[e3,e4]
   (refine aD rfl rfl ?_ ?_ ?_ ?_<;>simp(disch:=apply aR;omega)only[go_sem]<;>(try omega))
   all_goals first|(simp;done)|trace_state
  ·rw[if_pos c4] at h1;obtain rfl:=zA h1;repeat' first|exact h.elim|(exfalso;omega)|apply aG|refine aE 0 oG λK hK=>?_|refine aU oG (by kernel_rfl) λK hK=>?_|refine aB ?_|refine aQ ?_|refine aC ?_|(refine hK.n0 ?_;clear hK K)|refine bH (λh=>?_) λh=>?_|refine aA rfl (λh=>?_) λh=>?_|with_reducible refine aH ?_|apply tTT
end
end Go.Proofs.YtmfmgoceeedonaaGreat
