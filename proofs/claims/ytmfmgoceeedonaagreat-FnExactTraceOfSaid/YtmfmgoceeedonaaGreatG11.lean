/-
  K10, A06d, Q3, Q4, K12, K15p, one behind the other.
-/
import Derived.Test.YtmfmgoceeedonaaGreatG10
import Derived.Test.YtmfmgoceeedonaaGreatG1
import Derived.Test.YtmfmgoceeedonaaGreatG7
import Derived.Test.YtmfmgoceeedonaaGreatG3
import Derived.Test.YtmfmgoceeedonaaGreatLgK18
import Derived.Test.YtmfmgoceeedonaaGreatG8
namespace Go.Proofs.YtmfmgoceeedonaaGreat
open Go Go.Lg
set_option linter.unusedSimpArgs false
set_option linter.unusedVariables false
set_option maxHeartbeats 4000000
section
attribute [local irreducible] SW bA bC dM bZ FC dX toF d7 iC fZ sumF b5
theorem aCk(x:SystemT)(set:List Int):FC S 49 [] [] [] [bR x,.sl .any (set.map (.int .i64))] (.tup [.sl .any ((yI x set).1.map (.int .i64)),.bool (yI x set).2]) [] []:=by
 refine aI6 [1] (by simp) ?_ ?_ ?_
 ·simp[D.okLbL,tZ,D.okLb,lV]
 ·have h1:D.noLL [1] ((yI x set).1.map (.int .i64))=true:=aAT (λ_=>rfl) _;simp only[D.noL,D.noLL,h1,Bool.and_self]
 ·simp only[D.lbL,aBu,D.lb,mP];exact yV x set
attribute [local go_sem] nG aGN PL
def aGj:List (Nat×List Nat):=[(0,[1,2,3]),(1,[1,2,3,8,9]),(2,[1,2,3,8,9,27,28,29]),(3,[1,2,3,8,9,27,28,29,30]),(4,[1,2,3,8,9,10,11,27,28,29]),(5,[1,2,3,8,9,10,27,28,29,34]),(6,[1,2,3,8,9,10,27,28,29]),(7,[1,2,3,8,9,10,27,28,29]),(8,[1,2,3,8,9,27,28,29,55]),(9,[6,7]),(10,[1,2,3,8,9,27,28,29]),(11,[1,2,3,8,9,12]),(12,[1,2,3,8,9,12,13]),(13,[1,2,3,8,9,12,59]),(15,[1,2,3,8,9,12,14,15]),(16,[1,2,3,8,9,12,77]),(17,[6,7]),(14,[1,2,3,8,9,12,13]),(18,[6,7])]
attribute [go_sem] aGj Tryz.results27 Tryz.ntmps27
theorem aGi(a0:Nat)(r0:List Nat)(rs:List Int)(P:List DepPairT)(set:List Int)(hsg:eQ rs)(hP:∀p∈P,kS rs p)(hS:gA set P.length)(h64:P.length≤64):FCO S [a0+1] 27 [.agg [.sl (.lab [a0+1]) (rs.map (.int .i64))],.sl (.lab [a0+1]) (P.map (rL [a0+1])),.sl (.lab [a0+1]) (set.map (.int .i64))] (.tup [dL (a0::r0) (xV (g9 rs P set)).1,.bool (xV (g9 rs P set)).2]) []:=by
 have hs8:=hsg.1.2;have hs1:=hsg.1.1;have cH:=(aLd rs P set hs8 hP hS h64).args (args:=[.agg [.sl (.lab [a0+1]) (rs.map (.int .i64))],.sl (.lab [a0+1]) (P.map (rL [a0+1])),.sl (.lab [a0+1]) (set.map (.int .i64))]) ⟨aAh _ _,y7 _ _,.any,trivial⟩;have hbg:=λf=>@aGM P set rs.length set.length f;have hbl:=aBW P set rs.length set.length;generalize mZ P set rs.length set.length=hB at *;have hfb:=@xZ rs P set;have hfo:=@aBV rs P set;generalize g9 rs P set=o at *;generalize hH:gB P set set.length=H at *;have cR:=aHV (-1) rs.length (by omega) (by omega);refine aVi Tryz.func27 λB hOld=>?_;repeat' first|(refine aB0 (id:=1) aGj [(true,[]),(false,[0]),(false,[1]),(false,[2]),(true,[]),(false,[4]),(false,[5]),(false,[6,3]),(false,[3,7,0,1,2,3]),(false,[7,8,0,1,2,3,4,5,6,7,8])] ⟨79,[(1,.sl (.lab [a0+1]) (P.map (rL [a0+1]))),(2,.sl (.lab [a0+1]) (set.map (.int .i64))),(3,.box 3 0),(8,.ms 19 rs.length),(9,.ms 23 rs.length)],[(3,[.sl (.lab [a0+1]) (rs.map (.int .i64))]),(19,(List.replicate rs.length (-1)).map (.int .i64)),(23,(List.replicate rs.length (-1)).map (.int .i64))],[],[],[]⟩ (by kernel_rfl) ?_ ?_;simp only[List.length_cons,List.length_nil,Nat.reduceAdd])|(refine pU ?_;simp only[vX,uY,aGQ,aGF,aG1,aG3,aBk,aBr,aB5,aCs,vL,wG,wU,aBp,aCv,true_and,and_true,Bool.not_false,Bool.not_true,Bool.and_true,Bool.and_false,Bool.true_and,Bool.false_and,Bool.or_false,Bool.false_or,Bool.true_or,Bool.or_true,Nat.reduceBEq,Nat.reduceAdd])|(refine aPh (by simp only[Nat.reduceLT]) rfl rfl rfl rfl (by decide) (by simp only[go_sem];exact rfl) ?_)|(refine hK.nil (vB ?_);clear hK K)|(refine qK ?_ ?_)|(refine j6 0 ?_;refine λ(K:List Oper->LS->Prop) (hK:KOk S 0 _ _ _ K)=>?_;simp(disch:=apply aR;omega)only[go_sem])|(refine qJ ?_;simp(disch:=apply aR;omega)only[go_sem];(refine aD rfl rfl ?_ ?_ ?_ ?_<;>simp(disch:=apply aR;omega)only[go_sem]<;>(try omega));done)|apply aG|refine aE 0 aGj λK hK=>?_|refine aB ?_|(refine hK.n0 ?_;clear hK K)|refine hK.cM rfl rfl rfl (cR) ?_|refine hK.c1 rfl rfl rfl (cH) ?_|apply tTT
 refine aV (ι:=Nat) (λp=>[(29,.int .i64 p)]) (λp=>[(19,(kH rs H (·.1) p).map (.int .i64)),(23,(kH rs H (·.2) p).map (.int .i64))]) (λp=>p≤rs.length/\¬aKP rs H p) (λp=>rs.length-p) 0 (by(refine aD rfl rfl ?_ ?_ ?_ ?_<;>simp(disch:=apply aR;omega)only[go_sem]<;>(try omega));(rw[aEZ,aEZ];exact⟨rfl,rfl⟩)) ?_ (λp hp=>?_);rotate_left
 simp only[go_sem]
 ·obtain⟨hp,hnb⟩:=hp;have hl1:=wE rs H (·.1) p;have hl2:=wE rs H (·.2) p;by_cases hpl:p<rs.length
  ·have har:=hsg.2 p hpl;have hbf:=hbg p hpl;have hg1:=@vZ rs H (·.1) p p hpl;have hg2:=@vZ rs H (·.2) p p hpl;rw[if_neg (Nat.lt_irrefl _)] at hg1 hg2;have hs1:=@aHD rs H (·.1) p;have hs2:=@aHD rs H (·.2) p;by_cases hHp:H p
   ·rw[b8 hHp] at hbf;rw[pY hHp] at hs1 hs2;dsimp only at hs1 hs2;have hl3:=wE rs H (·.1) (p+1);have hl4:=wE rs H (·.2) (p+1);have hv1:=@vZ rs H (·.1) (p+1) p hpl;have hv2:=@vZ rs H (·.2) (p+1) p hpl;rw[if_pos (Nat.lt_succ_self p),pY hHp] at hv1 hv2;dsimp only at hv1 hv2;repeat' first|exact h.elim|(simp only[hbf];simp only[go_sem])|(exfalso;omega)|(simp only[hs1,hs2];simp(disch:=apply aR;omega)only[go_sem])|apply aG|refine aE 0 aGj λK hK=>?_|refine aU aGj (by kernel_rfl) λK hK=>?_|refine aB ?_|refine aC ?_|(refine hK.n0 ?_;clear hK K)|refine aA rfl (λh=>?_) λh=>?_|apply aF|with_reducible refine aH ?_|apply tTT
    ·rw[hfb ⟨p,hpl,hHp,by omega⟩];first|exact⟨rfl,rfl⟩|(refine⟨?_,rfl⟩;simp[xV,le0])
    ·exact⟨p+1,(by(refine aD rfl rfl ?_ ?_ ?_ ?_<;>simp(disch:=apply aR;omega)only[go_sem]<;>(try omega));all_goals first|rfl|exact⟨rfl,rfl⟩|omega),⟨by omega,λ⟨i,hi,h1,h2⟩=>by
      rcases Nat.lt_or_ge i p with h3|h3
      ·exact hnb ⟨i,h3,h1,h2⟩
      ·obtain rfl:i=p:=by omega
       omega⟩,by omega⟩
   ·rw[bV hHp] at hbf;have ht1:=@aFo rs H (·.1) p hHp rfl;have ht2:=@aFo rs H (·.2) p hHp rfl;repeat' first|exact h.elim|(simp only[hbf];simp only[go_sem])|(exfalso;omega)|apply aG|refine aE 0 aGj λK hK=>?_|refine aU aGj (by kernel_rfl) λK hK=>?_|refine aB ?_|refine aQ ?_|(refine hK.n0 ?_;clear hK K)|refine aA rfl (λh=>?_) λh=>?_|apply aF|with_reducible refine aH ?_|apply tTT
    exact⟨p+1,(by(refine aD rfl rfl ?_ ?_ ?_ ?_<;>simp(disch:=apply aR;omega)only[go_sem]<;>(try omega));rw[←ht1,←ht2];all_goals first|rfl|exact⟨rfl,rfl⟩|exact⟨by omega,rfl,rfl⟩|omega),⟨by omega,λ⟨i,hi,h1,h2⟩=>by
      rcases Nat.lt_or_ge i p with h3|h3
      ·exact hnb ⟨i,h3,h1,h2⟩
      ·obtain rfl:i=p:=by omega
       exact hHp h1⟩,by omega⟩
  ·obtain rfl:p=rs.length:=by omega
   have ho:=hfo hnb;rw[aHF,aHF];have hok:=aNw hsg hnb;have hseq:=pP hok;have hdig:=kE hok;have hbl2:=aDx rs H;obtain⟨Lw,hLw⟩:∃Lw,(bsP rs H).map (·.1)=Lw:=⟨_,rfl⟩;have hLw':lF (bsP rs H)=Lw:=hLw;have hLl:Lw.length=rs.length:=by rw[←hLw',aAo,hbl2]
   obtain⟨Hw,hHw⟩:∃Hw,(bsP rs H).map (·.2)=Hw:=⟨_,rfl⟩;have hHl:Hw.length=rs.length:=by rw[←hHw,zC,hbl2]
   have hne0:Lw≠[]:=by
    intro e;rw[e] at hLl;simp only[List.length_nil] at hLl;omega
   rw[hLw,hHw];have hst:Lw=(iO (bsP rs H)).headD Lw/\true=!(iO (bsP rs H)).isEmpty:=by
    obtain⟨r1,hr1⟩:=hseq.2;rw[hr1,List.headD_cons,hLw'];exact⟨rfl,rfl⟩
   repeat' first|exact h.elim|(exfalso;omega)|(refine rV 8 1 [a0+3] (id:=19) (n:=rs.length) (cs:=Lw.map (.int .i64)) (Lw.map (.int .i64)) rfl rfl (dA _).symm (by simp[hLl]) (fI λ_=>rfl) (fJ _) (by simp) (by simp) ?_;simp only[go_sem])|(refine rV 9 1 [a0+5] (id:=23) (n:=rs.length) (cs:=Hw.map (.int .i64)) (Hw.map (.int .i64)) rfl rfl (dA _).symm (by simp[hHl]) (fI λ_=>rfl) (fJ _) (by simp) (by simp) ?_;simp only[go_sem])|(refine rB (a0::r0) (by simp) 12 58 (ys:=Lw) rfl rfl rfl hne0 (by simp) ?_;simp only[go_sem])|apply aG|refine aE 0 aGj λK hK=>?_|refine aB ?_|(refine hK.n0 ?_;clear hK K)|refine aA rfl (λh=>?_) λh=>?_|refine aJ rfl ?_|refine hK.cT rfl rfl rfl (sG _ Lw (by omega)) ?_|apply tTT
   refine aV (ι:=List (List Int)) (λp=>[(12,PL (a0::r0) (p.headD Lw)),(13,.bool (!p.isEmpty))]) (λp=>[]) (λp=>(aA4 (bsP rs H) p/\∀c∈p,pB (bsP rs H) c)/\gI (QJ rs P set) p=o) (λp=>p.length) (iO (bsP rs H)) (by(refine aD rfl rfl ?_ ?_ ?_ ?_<;>simp(disch:=apply aR;omega)only[go_sem]<;>(try omega));(rw[←hst.1];exact⟨eB _,hst.2⟩)) ?_ (λp hp=>?_);rotate_left
   simp only[go_sem]
   ·obtain⟨⟨hq1,hq2⟩,hq3⟩:=hp;cases p with
    | nil =>
     obtain rfl:none=o:=hq3;simp only[List.isEmpty_nil,Bool.not_true];repeat' first|exact h.elim|apply aG|refine aE 0 aGj λK hK=>?_|refine aB ?_|refine aC ?_|(refine hK.n0 ?_;clear hK K)|refine aA rfl (λh=>?_) λh=>?_|refine aJ rfl ?_|apply tTT
     first|exact⟨rfl,rfl⟩|(refine⟨?_,rfl⟩;simp[xV,le0])
    | cons a r =>
     have ha:=hq2 a zH;have hal:a.length=(bsP rs H).length:=kG ha;have hal2:a.length=rs.length:=by rw[hal,hbl2]
     have hab:=aUZ hsg ha;obtain⟨hn1,hn2⟩:=tH hq1;rw[hLw'] at hn1;have hpj:=vV hsg ha;have hne:a≠[]:=by
      intro e;rw[e] at hal2;simp only[List.length_nil] at hal2;omega
     have hnl:(r.headD Lw).length=a.length:=by
      have:=(pZ (bs:=bsP rs H) (xs:=a) hal).1;rw[hn1] at this;rw[this,hal]
     have hnn:r.headD Lw≠[]:=by intro e;rw[e] at hnl;simp only[List.length_nil] at hnl;omega
     simp only[List.headD_cons,List.isEmpty_cons,Bool.not_false];have cJ:=(aDY [a0+4] (by simp) rs P set a hpj hP hS h64).args (args:=[.agg [.sl (.lab [a0+1]) (rs.map (.int .i64))],.sl (.lab [a0+1]) (P.map (rL [a0+1])),.sl (.lab [a0+1]) (set.map (.int .i64)),PL (a0::r0) a]) ⟨aAh _ _,y7 _ _,.any,aPS,trivial⟩;have cC:=aFD 500 (bsP rs H) a hal hne (by omega) hab;rw[hn1,hLw',hHw] at cC;have cC:=cC.args (args:=[.ms 500 a.length,.sl (.lab [a0+3]) (Lw.map (.int .i64)),.sl (.lab [a0+5]) (Hw.map (.int .i64))]) ⟨.refl _,.any,.any,trivial⟩;have hnx:¬QJ rs P set a->gI (QJ rs P set) r=o:=λh=>by rw[←hq3,jK h]
     have hyx:QJ rs P set a->o=some a:=λh=>by rw[←hq3,j7 h]
     have hs1:∀tk,(D.sl (.lab [a0+1]) (P.map (rL [a0+1]))).safeP (a0::r0) tk=true:=λtk=>by simp[D.safeP,lT (aL8 (q:=a0::r0) (l:=[a0+1]) (tk:=tk) (by simp))]
     have hs2:∀tk,(D.sl (.lab [a0+1]) (set.map (.int .i64))).safeP (a0::r0) tk=true:=λtk=>by simp only[D.safeP,gG];simp
     have hs3:∀tk,(D.sl (.lab [a0+3]) (Lw.map (.int .i64))).safeP (a0::r0) tk=true:=λtk=>by simp only[D.safeP,gG];simp
     have hs5:∀tk,(D.sl (.lab [a0+5]) (Hw.map (.int .i64))).safeP (a0::r0) tk=true:=λtk=>by simp only[D.safeP,gG];simp
     have hs4:∀tk,D.safePL (a0::r0) tk [.sl (.lab [a0+1]) (rs.map (.int .i64))]=true:=λtk=>by simp only[D.safePL,D.safeP,gG];simp
     repeat' first|exact h.elim|(refine aPQ 6 (d:=PL (a0::r0) a) rfl aZC ?_;simp only[go_sem])|(refine hK.callB rfl rfl rfl (cC) (by refine⟨⟨?_,?_,?_,?_,?_⟩,⟨?_,?_,?_,?_,?_⟩,?_⟩<;>simp[LS.getBox,Lg.look,D.ids,D.idsL,nG,LS.clean,D.puOk,D.pu,D.pu1,D.tks,D.tksL,dR,aBY,aBn]) ?_;simp(disch:=apply aR;omega)only[go_sem])|(refine rB (a0::r0) (by simp) 12 500 (n:=a.length) (ys:=r.headD Lw) rfl rfl hnl.symm hnn (by simp) ?_;simp only[go_sem])|(refine vT 14 [a0+1] (a0::r0) hOld (by simp) (by simp) 12 500 rfl hne (by simp) [(1,.sl (.lab [a0+1]) (P.map (rL [a0+1]))),(2,.sl (.lab [a0+1]) (set.map (.int .i64))),(3,.box 3 0),(8,.sl (.lab [a0+3]) (Lw.map (.int .i64))),(9,.sl (.lab [a0+5]) (Hw.map (.int .i64)))] [(3,[.sl (.lab [a0+1]) (rs.map (.int .i64))])] (List.forall_mem_cons.2 ⟨⟨rfl,hs1 _,by simp[D.ids]⟩,List.forall_mem_cons.2 ⟨⟨rfl,hs2 _,by simp[D.ids]⟩,List.forall_mem_cons.2 ⟨⟨rfl,rfl,by simp[D.ids]⟩,List.forall_mem_cons.2 ⟨⟨rfl,hs3 _,by simp[D.ids]⟩,List.forall_mem_cons.2 ⟨⟨rfl,hs5 _,by simp[D.ids]⟩,λq hq=>by cases hq⟩⟩⟩⟩⟩) (List.forall_mem_cons.2 ⟨⟨by simp,rfl,hs4 _,by simp[D.idsL,D.ids]⟩,λq hq=>by cases hq⟩) ?_;simp only[go_sem])|apply aG|refine aE 0 aGj λK hK=>?_|refine aB ?_|refine aC ?_|(refine hK.n0 ?_;clear hK K)|refine aZ (λh=>?_) λh=>?_|refine aA rfl (λh=>?_) λh=>?_|apply aF|refine hK.c1 rfl rfl rfl (cJ) ?_|apply tTT
     ·rw[hyx ⟨by assumption,by assumption⟩];exact⟨rfl,rfl⟩
     ·have hQ:¬QJ rs P set a:=λe=>by have:=e.2;omega
      exact⟨r,(by(refine aD rfl rfl ?_ ?_ ?_ ?_<;>simp(disch:=apply aR;omega)only[go_sem]<;>(try omega));all_goals exact eB _),⟨⟨hn2,λd hd=>hq2 d (zG _ hd)⟩,hnx hQ⟩,by simp⟩
     ·have hQ:¬QJ rs P set a:=λe=>by
       have h1:=e.1;have h2:(jR rs P set a).2=false:=by assumption
       rw[h1] at h2;cases h2
      exact⟨r,(by(refine aD rfl rfl ?_ ?_ ?_ ?_<;>simp(disch:=apply aR;omega)only[go_sem]<;>(try omega));all_goals exact eB _),⟨⟨hn2,λd hd=>hq2 d (zG _ hd)⟩,hnx hQ⟩,by simp⟩
   ·exact⟨⟨hseq.1,hdig⟩,ho.symm⟩
 ·exact⟨Nat.zero_le _,λ⟨i,hi,_⟩=>absurd hi (Nat.not_lt_zero _)⟩
theorem aSI(rs:List Int):(D.agg [.sl .any (rs.map (.int .i64))]).okLb=true:=by simp[D.okLb,D.okLbL,lV]
theorem aHW(p:List Nat)(hp:p≠[])(rs:List Int)(P:List DepPairT)(set:List Int)(hsg:eQ rs)(hP:∀p∈P,kS rs p)(hS:gA set P.length)(h64:P.length≤64):FC S 27 [] [] [] [.agg [.sl .any (rs.map (.int .i64))],.sl .any (P.map bN),.sl .any (set.map (.int .i64))] (.tup [dL p (xV (g9 rs P set)).1,.bool (xV (g9 rs P set)).2]) [] []:=by
 obtain⟨a0,r0,rfl⟩:∃a r,p=a::r:=by
  cases p with
  | nil=>exact absurd rfl hp
  | cons a r=>exact⟨a,r,rfl⟩
 refine aI6 [a0+1] (by simp) ?_ ?_ ?_
 ·simp[D.okLbL,aSI,D.okLb,jY aFF,lV]
 ·have h1:D.noLL [a0+1] ((xV (g9 rs P set)).1.map (.int .i64))=true:=aAT (λ_=>rfl) _;have h2:((a0::r0) != [a0+1])=true:=by simp
  simp only[dL,D.noL,D.noLL,h1,h2,Bool.and_self]
 ·simp only[D.lbL,D.lb,pL,aOi,mP];exact aGi a0 r0 rs P set hsg hP hS h64
end
section
attribute [local irreducible] SW bA bC dM bZ FC dX
theorem aXh(a b:List Int)(v:Int)(h:b≠[]):(a++b).set a.length v=a++v::b.drop 1:=by
 induction a with
 | nil=>cases b with
  | nil=>exact absurd rfl h
  | cons c b=>rfl
 | cons c a ih=>simp[ih]
def aCy(n i:Nat):List Int:=upTo i++List.replicate (n-i) 0
theorem mO(n:Nat):(upTo n).length=n:=by simp[upTo]
theorem aSb(n i:Nat)(h:i≤n):(aCy n i).length=n:=by simp[aCy,mO];omega
theorem aR3(n i:Nat)(h:i<n):(aCy n i).set i (i:Int)=aCy n (i+1):=by
 have:=aXh (upTo i) (List.replicate (n-i) 0) (i:Int) (by intro e;have:=congrArg List.length e;simp at this;omega);rw[mO] at this;unfold aCy;rw[this,aHN,List.append_assoc,List.drop_replicate,show n-i-1=n-(i+1) by omega];rfl
def aYR:List (Nat×List Nat):=[(0,[0]),(1,[3]),(2,[3,8,9]),(3,[3,8,9,10]),(4,[3,4,8,9]),(5,[3,8,9]),(6,[3,8,9]),(7,[2])]
attribute [go_sem] aYR Tryz.results59 Tryz.ntmps59
theorem aJt(n:Nat)(hn:n≤1000):FC S 59 [] [] [] [.int .i64 n] (.ms 6 n) [(6,(upTo n).map (.int .i64))] []:=by
 refine fcb Tryz.func59 λB=>?_;repeat' first|apply aG|refine aE 0 aYR λK hK=>?_|refine aB ?_|(refine hK.n0 ?_;clear hK K)|with_reducible refine aH ?_|apply tTT
 refine aV (ι:=Nat) (λp=>[(9,.int .i64 p)]) (λp=>[(6,(aCy n p).map (.int .i64))]) (λp=>p≤n) (λp=>n-p) 0 (by(refine aD rfl rfl ?_ ?_ ?_ ?_<;>simp(disch:=apply aR;omega)only[go_sem]<;>(try omega));all_goals first|(rw[iQ,aCy,upTo];simp;done)|(simp;done)) ?_ (λp hp=>?_);rotate_left
 simp only[go_sem];have hl:=aSb n p hp;have hs:=aR3 n p;repeat' first|exact h.elim|apply aG|refine aE 0 aYR λK hK=>?_|refine aB ?_|refine aC ?_|(refine hK.n0 ?_;clear hK K)|refine aA rfl (λh=>?_) λh=>?_|refine aJ rfl ?_|apply aF|with_reducible refine aH ?_|apply tTT
 ·exact⟨p+1,(by(refine aD rfl rfl ?_ ?_ ?_ ?_<;>simp(disch:=apply aR;omega)only[go_sem]<;>(try omega));all_goals first|rw[hs (by omega)]|skip),by omega,by omega⟩
 ·rw[show p=n by omega];simp[aCy]
 ·omega
end
section
attribute [local irreducible] SW bA bC dM bZ FC dX toF d7 iC
def aWU:List (Nat×List Nat):=[(0,[0,1]),(1,[0,1,5]),(2,[0,1,5,6]),(3,[0,1,5,6,11]),(5,[0,1,5,6,20]),(6,[0,1,5,6]),(4,[0,1,5,6]),(7,[4])]
attribute [go_sem] aWU Tryz.results20 Tryz.ntmps20
theorem aOI(set gone:List Int)(hl:set.length≤1000):FC S 20 [] [] [] [.sl .any (set.map (.int .i64)),.sl .any (gone.map (.int .i64))] (.sl .any ((gR set gone).map (.int .i64))) [] []:=by
 refine fcb Tryz.func20 λB=>?_;repeat' first|apply aG|refine aE 0 aWU λK hK=>?_|refine aB ?_|(refine hK.n0 ?_;clear hK K)|apply tTT
 refine eF 5 28000 2 1 rfl (.inr rfl) rfl ?_;simp only[go_sem];refine bG (ι:=Nat) (λi=>[(6,.int .i64 i),(5,.sl (.own 28000 2 1) ((gR (set.take i) gone).map (.int .i64)))]) (λ_=>[]) (λ_=>[28000]) (λi=>i≤set.length) (λi=>set.length-i) 0 cvB (by omega) (λi hi=>?_);simp only[go_sem];have hwl:=pT (set.take i) gone;rw[List.length_take] at hwl;by_cases hil:i<set.length
 ·repeat' first|exact h.elim|(exfalso;omega)|apply aG|refine aE 0 aWU λK hK=>?_|refine aB ?_|(refine hK.n0 ?_;clear hK K)|refine aA rfl (λh=>?_) λh=>?_|apply aF|refine hK.c1 rfl rfl rfl (iI _ _ _) ?_|with_reducible refine aH ?_|apply tTT
  all_goals first|exact⟨i+1,(by(refine aD rfl rfl ?_ ?_ ?_ ?_<;>simp(disch:=apply aR;omega)only[go_sem]<;>(try omega));rw[aKV hil (by assumption)];exact⟨rfl,by omega⟩),by omega,by omega⟩|exact⟨i+1,(by(refine aD rfl rfl ?_ ?_ ?_ ?_<;>simp(disch:=apply aR;omega)only[go_sem]<;>(try omega));rw[aP4 hil (λh=>absurd (by assumption) h)];exact⟨rfl,by omega⟩),by omega,by omega⟩
 ·repeat' first|exact h.elim|(exfalso;omega)|apply aG|refine aE 0 aWU λK hK=>?_|refine aB ?_|refine aC ?_|(refine hK.n0 ?_;clear hK K)|refine aA rfl (λh=>?_) λh=>?_|refine aJ rfl ?_|apply tTT
  rw[List.take_of_length_le (by omega)]
def aVl:List (Nat×List Nat):=[(0,[0,1]),(1,[0,1,5]),(2,[1,5,8,9,10]),(3,[1,5,8,9,10,11]),(4,[1,5,7,8,9,10]),(5,[1,5,7,8,9,10,17]),(6,[1,5,8,9,10]),(7,[1,5,8,9,10]),(8,[4])]
attribute [go_sem] aVl Tryz.results31 Tryz.ntmps31
theorem aFj(set gone:List Int)(hl:set.length≤1000):FC S 31 [] [] [] [.sl .any (set.map (.int .i64)),.sl .any (gone.map (.int .i64))] (.sl .any ((gR set gone).map (.int .i64))) [] []:=by
 refine fcb Tryz.func31 λB=>?_;repeat' first|apply aG|refine aE 0 aVl λK hK=>?_|refine aB ?_|(refine hK.n0 ?_;clear hK K)|apply tTT
 refine eF 5 22000 2 1 rfl (.inl rfl) rfl ?_;simp only[go_sem];repeat' first|exact h.elim|apply aG|refine aE 0 aVl λK hK=>?_|refine λ(K:KT) (hK:KOk S 0 _ _ _ K)=>?_|refine aB ?_|refine aC ?_|refine gL ?_|(refine hK.n0 ?_;clear hK K)|refine aA rfl (λh=>?_) λh=>?_|refine aJ rfl ?_|apply aF|with_reducible refine aH ?_|((with_reducible refine And.intro ?_ ?_);· first|(intro x hx;subst hx;rfl)|(intro x;refine And.intro ?_ ?_<;>(intros;subst_vars;rfl)))|apply tTT
 refine bG (ι:=Nat) (λi=>[(10,.int .i64 i),(5,.sl (.own 22000 2 1) ((gR (set.take i) gone).map (.int .i64)))]) (λ_=>[]) (λ_=>[22000]) (λi=>i≤set.length) (λi=>set.length-i) 0 cvB (by omega) (λi hi=>?_);simp only[go_sem];have hwl:=pT (set.take i) gone;rw[List.length_take] at hwl;by_cases hil:i<set.length
 ·repeat' first|exact h.elim|(exfalso;omega)|apply aG|refine aE 0 aVl λK hK=>?_|refine aB ?_|(refine hK.n0 ?_;clear hK K)|refine aA rfl (λh=>?_) λh=>?_|apply aF|refine hK.c1 rfl rfl rfl (tJ _ _ _) ?_|with_reducible refine aH ?_|apply tTT
  all_goals first|exact⟨i+1,(by(refine aD rfl rfl ?_ ?_ ?_ ?_<;>simp(disch:=apply aR;omega)only[go_sem]<;>(try omega));rw[aKV hil (by assumption)];exact⟨rfl,by omega⟩),by omega,by omega⟩|exact⟨i+1,(by(refine aD rfl rfl ?_ ?_ ?_ ?_<;>simp(disch:=apply aR;omega)only[go_sem]<;>(try omega));rw[aP4 hil (λh=>absurd (by assumption) h)];exact⟨rfl,by omega⟩),by omega,by omega⟩
 ·repeat' first|exact h.elim|(exfalso;omega)|apply aG|refine aE 0 aVl λK hK=>?_|refine aB ?_|refine aC ?_|(refine hK.n0 ?_;clear hK K)|refine aA rfl (λh=>?_) λh=>?_|refine aJ rfl ?_|apply tTT
  rw[List.take_of_length_le (by omega)]
def aXx:List (Nat×List Nat):=[(0,[0]),(1,[0,3]),(2,[0,3,4]),(3,[0,3,4,8]),(5,[0,3,4]),(4,[0,3,4]),(6,[2])]
attribute [go_sem] aXx Tryz.results48 Tryz.ntmps48
theorem aJQ(n:Nat)(hn:n≤1000):FC S 48 [] [] [] [.int .i64 n] (.sl .any ((upTo n).map (.int .i64))) [] []:=by
 refine fcb Tryz.func48 λB=>?_;repeat' first|apply aG|refine aE 0 aXx λK hK=>?_|refine aB ?_|(refine hK.n0 ?_;clear hK K)|apply tTT
 refine eF 3 15000 2 1 rfl (.inr rfl) rfl ?_;simp only[go_sem];refine bG (ι:=Nat) (λi=>[(4,.int .i64 i),(3,.sl (.own 15000 2 1) ((upTo i).map (.int .i64)))]) (λ_=>[]) (λ_=>[15000]) (λi=>i≤n) (λi=>n-i) 0 cvB (by omega) (λi hi=>?_);simp only[go_sem];have hwl:=mO i;by_cases hil:i<n
 ·repeat' first|exact h.elim|(exfalso;omega)|apply aG|refine aE 0 aXx λK hK=>?_|refine aB ?_|(refine hK.n0 ?_;clear hK K)|refine aA rfl (λh=>?_) λh=>?_|apply aF|with_reducible refine aH ?_|apply tTT
  all_goals exact⟨i+1,(by(refine aD rfl rfl ?_ ?_ ?_ ?_<;>simp(disch:=apply aR;omega)only[go_sem]<;>(try omega));rw[aHN];exact⟨rfl,by omega⟩),by omega,by omega⟩
 ·repeat' first|exact h.elim|(exfalso;omega)|apply aG|refine aE 0 aXx λK hK=>?_|refine aB ?_|refine aC ?_|(refine hK.n0 ?_;clear hK K)|refine aA rfl (λh=>?_) λh=>?_|refine aJ rfl ?_|apply tTT
  rw[show n=i by omega]
def aZJ:List (Nat×List Nat):=[(0,[0]),(1,[2])]
attribute [go_sem] aZJ Tryz.results18 Tryz.ntmps18
theorem aQS(P:List DepPairT)(hn:P.length≤1000):FC S 18 [] [] [] [.sl .any (P.map bN)] (.sl .any ((upTo P.length).map (.int .i64))) [] []:=by
 refine fcb Tryz.func18 λB=>?_;repeat' first|apply aG|refine aE 0 aZJ λK hK=>?_|refine aB ?_|refine aC ?_|(refine hK.n0 ?_;clear hK K)|refine hK.c1 rfl rfl rfl (aJQ P.length hn) ?_|apply tTT
def bAr:List (Nat×List Nat):=[(0,[0]),(1,[2])]
attribute [go_sem] bAr Tryz.results26 Tryz.ntmps26
theorem aTR(P:List DepPairT)(hn:P.length≤1000):FC S 26 [] [] [] [.sl .any (P.map bN)] (.sl .any ((upTo P.length).map (.int .i64))) [] []:=by
 have hul:=mO P.length;refine fcb Tryz.func26 λB=>?_;repeat' first|(refine l6 2 1 .any ((upTo P.length).map (.int .i64)) (id:=5) (n:=P.length) (cs:=(upTo P.length).map (.int .i64)) rfl (by simp[Lg.look]) (dA _).symm (by simp[mO]) (fI λ_=>rfl) (fJ _) (.inl rfl) ?_;simp only[go_sem])|apply aG|refine aE 0 bAr λK hK=>?_|refine aB ?_|refine aC ?_|(refine hK.n0 ?_;clear hK K)|refine hK.cM rfl rfl rfl (aJt P.length hn) ?_|apply tTT
end
section
attribute [local irreducible] SW bA bC dM bZ FC dX aDj CM okC prS
theorem aI5(edges:List (List Int))(set:List Int)(hn:edges.length≤1000)(hin:∀q∈set,0≤q/\q<edges.length)(hEl:∀i<edges.length,(edges.getD i default).length≤1000)(hs:m6 set)(hsl:set.length≤64):FC S 17 [] [] [] [.sl .any (edges.map dT),.sl .any (set.map (.int .i64))] (.sl (.own 0 22 1) ((eK edges set).map dT)) [] [0]:=by
 have hp0:∀q∈set,0≤q:=λq hq=>(hin q hq).1;have hC:eK edges set=cmp (CM edges set) set set.length:=by unfold CM;rfl
 rw[hC];obtain⟨A,hA⟩:∃A,A=set.map (aDj edges set):=⟨_,rfl⟩;have hAl:A.length=set.length:=by rw[hA,zC]
 have hAg:∀i<set.length,A.getD i default=aDj edges set (set.getD i default):=λi hi=>by
  rw[hA,zD,zI,zB hi,zD,zB hi];rfl
 refine aQz Tryz.func17 λB=>?_;repeat' first|apply aG|refine aE 0 yT λK hK=>?_|refine aB ?_|(refine hK.n0 ?_;clear hK K)|apply tTT
 refine eF 5 29000 22 1 rfl (.inr rfl) rfl ?_;simp only[go_sem];refine bG (ι:=Nat) (λi=>[(0,.sl .any (edges.map dT)),(1,.sl .any (set.map (.int .i64))),(6,.int .i64 i),(5,.sl (.own 29000 22 1) ((A.take i).map dT))]) (λ_=>[]) (λ_=>[29000]) (λi=>i≤set.length) (λi=>set.length-i) 0 cvB (by omega) (λi hi=>?_);simp only[go_sem];have htl:(A.take i).length≤64:=by rw[List.length_take];omega
 by_cases hil:i<set.length
 ·have cA:=aKb edges set (set.getD i default) hn hin (hin _ (aX set i hil)) hEl hs (by omega);rw[←hAg i hil] at cA;repeat' first|exact h.elim|(exfalso;omega)|apply aG|refine aE 0 yT λK hK=>?_|refine aB ?_|(refine hK.n0 ?_;clear hK K)|refine aA rfl (λh=>?_) λh=>?_|apply aF|refine hK.c1 rfl rfl rfl (cA) ?_|with_reducible refine aH ?_|apply tTT
  all_goals exact⟨i+1,(by(refine aD rfl rfl ?_ ?_ ?_ ?_<;>simp(disch:=apply aR;omega)only[go_sem]<;>(try omega));all_goals first|(refine⟨by omega,?_⟩;rw[List.take_add_one,zB (by omega),List.map_append,zD,zB (by omega)];rfl)|(refine⟨?_,by omega⟩;rw[List.take_add_one,zB (by omega),List.map_append,zD,zB (by omega)];rfl)|trace_state),by omega,by omega⟩
 ·have e:A.take i=A:=List.take_of_length_le (by omega);rw[e];repeat' first|exact h.elim|(exfalso;omega)|(refine eF 7 100000 22 1 rfl (.inr rfl) rfl ?_;simp only[go_sem])|(refine eF 8 96000 2 1 rfl (.inr rfl) rfl ?_;simp only[go_sem])|apply aG|refine aE 0 yT λK hK=>?_|refine aB ?_|(refine hK.n0 ?_;clear hK K)|refine aA rfl (λh=>?_) λh=>?_|refine aJ rfl ?_|apply tTT
  refine bG (ι:=Nat×List Int) (λq=>[(1,.sl .any (set.map (.int .i64))),(5,.sl (.own 29000 22 1) (A.map dT)),(7,.sl (.own 100000 22 1) ((cmp (CM edges set) set q.1).map dT)),(8,.sl (.own 96000 2 1) (q.2.map (.int .i64))),(9,.int .i64 q.1)]) (λ_=>[]) (λ_=>[29000,100000,96000]) (λq=>q.1≤set.length/\sR edges set q.1 q.2/\q.2.length≤64*q.1) (λq=>set.length-q.1) (0,[]) cvB ⟨by simp,sR.start,by simp⟩ (λq hq=>?_);obtain⟨k,done⟩:=q;obtain⟨h1,h2,h3⟩:=hq;dsimp only at h1 h2 h3;simp only[go_sem];have hcl:=aDy (CM edges set) set k;by_cases hkl:k<set.length
  ·have hok:=h2.ok hkl;rw[←hAg k hkl] at hok;have c1:=iI .any (A.getD k default) (set.getD k default);have c2:=iI (.own 96000 2 1) done (set.getD k default);by_cases ho:okC (CM edges set) set k
   ·obtain⟨o1,o2⟩:=hok.1 ho;repeat' first|exact h.elim|(exfalso;omega)|(exact absurd o1 (by assumption))|(exact absurd (by assumption) o2)|(refine eF 10 89000 2 1 rfl (.inr rfl) rfl ?_;simp only[go_sem])|apply aG|refine aE 0 yT λK hK=>?_|refine aU yT (by kernel_rfl) λK hK=>?_|refine aB ?_|refine aQ ?_|(refine hK.n0 ?_;clear hK K)|refine bH (λh=>?_) λh=>?_|refine aA rfl (λh=>?_) λh=>?_|refine hK.c1 rfl rfl rfl (c1) ?_|refine hK.c1 rfl rfl rfl (c2) ?_|with_reducible refine aH ?_|apply tTT
    refine bG (ι:=Nat) (λj=>[(1,.sl .any (set.map (.int .i64))),(5,.sl (.own 29000 22 1) (A.map dT)),(7,.sl (.own 100000 22 1) ((cmp (CM edges set) set k).map dT)),(8,.sl (.own 96000 2 1) ((done++prS edges set k j).map (.int .i64))),(9,.int .i64 k),(10,.sl (.own 89000 2 1) ((prS edges set k j).map (.int .i64))),(11,.int .i64 j)]) (λ_=>[]) (λ_=>[29000,100000,96000,89000]) (λj=>j≤set.length) (λj=>set.length-j) 0 (by(refine aD rfl rfl ?_ ?_ ?_ ?_<;>simp(disch:=apply aR;omega)only[go_sem]<;>(try omega));all_goals first|exact⟨by rw[aJZ,List.append_nil],by rw[aJZ];rfl,rfl⟩|trace_state) (by omega) (λj hj=>?_);simp only[go_sem];have hpl:=aWP (edges:=edges) (set:=set) k j;have hdl:(done++prS edges set k j).length≤64*k+64:=by rw[zK];omega
    by_cases hjl:j<set.length
    ·have hb:fC (CM edges set) (set.getD k default).toNat (set.getD j default).toNat=true↔(set.getD j default∈A.getD k default/\set.getD k default∈A.getD j default):=by
      rw[aAz,hAg k hkl,hAg j hjl,aNH (aX set k hkl) (aX set j hjl),aNH (aX set j hjl) (aX set k hkl)]
     have d1:=iI .any (A.getD k default) (set.getD j default);have d2:=iI .any (A.getD j default) (set.getD k default);by_cases hbb:fC (CM edges set) (set.getD k default).toNat (set.getD j default).toNat=true
     ·obtain⟨b1,b2⟩:=hb.1 hbb;have e:=aXd hjl hbb;repeat' first|exact h.elim|(exfalso;omega)|(exact absurd b1 (by assumption))|(exact absurd b2 (by assumption))|(refine⟨List.mem_filter.2 ⟨by simp,by simp⟩,λx=>⟨λy _ ee=>?_,λy _ ee=>?_⟩,?_,?_,?_⟩;(· subst ee;rfl);(· subst ee;rfl);(· omega);(· omega))|apply aG|refine aE 0 yT λK hK=>?_|refine aU yT (by kernel_rfl) λK hK=>?_|refine aB ?_|refine aQ ?_|(refine hK.n0 ?_;clear hK K)|refine bH (λh=>?_) λh=>?_|refine aA rfl (λh=>?_) λh=>?_|apply aF|refine hK.c1 rfl rfl rfl (d1) ?_|refine hK.c1 rfl rfl rfl (d2) ?_|with_reducible refine aH ?_|apply tTT
      all_goals exact⟨j+1,(by rw[e,←List.append_assoc];(refine aD rfl rfl ?_ ?_ ?_ ?_<;>simp(disch:=apply aR;omega)only[go_sem]<;>(try omega));all_goals first|exact⟨rfl,rfl,by omega⟩|(simp;done)|trace_state),by omega,by omega⟩
     ·have e:=aY8 hjl hbb;repeat' first|exact h.elim|(exfalso;omega)|(exact absurd (hb.2 ⟨by assumption,by assumption⟩) hbb)|apply aG|refine aE 0 yT λK hK=>?_|refine aU yT (by kernel_rfl) λK hK=>?_|refine aB ?_|refine aQ ?_|(refine hK.n0 ?_;clear hK K)|refine bH (λh=>?_) λh=>?_|refine aA rfl (λh=>?_) λh=>?_|refine hK.skp rfl rfl ?_|apply aF|refine hK.c1 rfl rfl rfl (d1) ?_|refine hK.c1 rfl rfl rfl (d2) ?_|with_reducible refine aH ?_|apply tTT
      all_goals exact⟨j+1,(by rw[e];(refine aD rfl rfl ?_ ?_ ?_ ?_<;>simp(disch:=apply aR;omega)only[go_sem]<;>(try omega));all_goals first|exact⟨rfl,rfl,by omega⟩|(simp;done)|trace_state),by omega,by omega⟩
    ·have hpe:=aYP hkl ho (k:=j) (by omega);have hcy:=aDs ho;have hdy:=h2.yes ho (k:=j) (by omega);repeat' first|exact h.elim|(exfalso;omega)|apply aG|refine aE 0 yT λK hK=>?_|refine aB ?_|(refine hK.n0 ?_;clear hK K)|refine aA rfl (λh=>?_) λh=>?_|refine aJ rfl ?_|apply aF|with_reducible refine aH ?_|apply tTT
     all_goals exact⟨(k+1,done++prS edges set k j),(by rw[hcy,←hpe];(refine aD rfl rfl ?_ ?_ ?_ ?_<;>simp(disch:=apply aR;omega)only[go_sem]<;>(try omega));all_goals first|(refine⟨?_,?_⟩;(· rw[List.map_append];rfl);(· omega))|exact⟨rfl,rfl,by omega⟩|(simp;done)|trace_state),⟨by dsimp only;omega,hdy,by dsimp only;omega⟩,by dsimp only;omega⟩
   ·have hcn:=aD5 ho;have hdn:=h2.no ho;repeat' first|exact h.elim|(exfalso;omega)|(exact absurd (hok.2 ⟨by assumption,by assumption⟩) ho)|apply aG|refine aE 0 yT λK hK=>?_|refine aU yT (by kernel_rfl) λK hK=>?_|refine aB ?_|refine aQ ?_|(refine hK.n0 ?_;clear hK K)|refine bH (λh=>?_) λh=>?_|refine aA rfl (λh=>?_) λh=>?_|refine hK.skp rfl rfl ?_|refine aJ rfl ?_|apply aF|refine hK.c1 rfl rfl rfl (c1) ?_|refine hK.c1 rfl rfl rfl (c2) ?_|with_reducible refine aH ?_|apply tTT
    all_goals exact⟨(k+1,done),(by rw[hcn];(refine aD rfl rfl ?_ ?_ ?_ ?_<;>simp(disch:=apply aR;omega)only[go_sem]<;>(try omega))),⟨by dsimp only;omega,hdn,by dsimp only;omega⟩,by dsimp only;omega⟩
  ·repeat' first|exact h.elim|(exfalso;omega)|apply aG|refine aE 0 yT λK hK=>?_|refine aB ?_|refine gL ?_|(refine hK.n0 ?_;clear hK K)|refine aA rfl (λh=>?_) λh=>?_|refine aJ rfl ?_|apply tTT
   all_goals (rw[show set.length=k by omega];exact n7 rfl (by simp))
end
section
attribute [local irreducible] SW bA bC dM bZ FC dX toF d7 iC
theorem aJo{x:SystemT}{q pr:List Int}(hx:gK x)(h:g9 x.sig (bI x) q=some pr):sV x.sig pr:=by
 obtain⟨_,hb,hm⟩:=aMb h;exact vV hx.1.1.1 (kE (aNw hx.1.1.1 hb) pr hm)
theorem aGu{x:SystemT}{q l:List Int}(hx:gK x)(h:iN x (bI x) q=some l):fU x.sig (lH x.sig l)/\mD x ((lH x.sig l).take x.sig.length):=by
 obtain⟨⟨hA,_⟩,hm⟩:=aEC h;have hd:=kE (yM (tU _ _)) l hm;obtain⟨h1,h2⟩:=aI1 hx.1.1.1 hd;obtain⟨h3,h4⟩:=aCj h1 h2;exact⟨h3,by unfold lH;rw[h4];exact hA⟩
def aWy:List (Nat×List Nat):=[(0,[1,2,4]),(1,[1,2,4,6,7]),(2,[1,2,4,6,20]),(3,[1,4,6,8]),(4,[4,5]),(5,[1,2,4,10,11]),(6,[1,2,4,10,38]),(7,[1,4,10,12]),(8,[4,5]),(9,[4,5])]
attribute [go_sem] aWy Tryz.results19 Tryz.ntmps19
theorem aOc(x:SystemT)(hx:gK x)(q:List Int)(hS:gA q (bI x).length):FC S 19 [] [] [] [bR x,.sl .any (q.map (.int .i64))] (.tup [fB (jM x q).1,.bool (jM x q).2]) [] []:=by
 have hM:oD x q:=⟨hx,hS⟩;have c1:=aCk x q;have c3:=yK x q;rw[aEP hM] at c1;rw[aHq hM] at c3;cases hj:g9 x.sig (bI x) q with
 | some pr =>
  have hpj:=aJo hx hj;have c2:=nS x q pr;rw[aBe ⟨hM,hpj⟩] at c2;rw[rQ hj];rw[hj] at c1;generalize jR x.sig (bI x) q pr=J at *;obtain⟨g,ok⟩:=J;dsimp only[xV] at c1 c2 ⊢;refine fcb Tryz.func19 λB=>?_;repeat' first|exact h.elim|apply aG|refine aE 0 aWy λK hK=>?_|refine aB ?_|refine aC ?_|(refine hK.n0 ?_;clear hK K)|refine aA rfl (λh=>?_) λh=>?_|refine hK.c1 rfl rfl rfl (c1) ?_|refine hK.c1 rfl rfl rfl (c2) ?_|apply tTT
 | none =>
  rw[hj] at c1;cases hm:iN x (bI x) q with
  | some l =>
   obtain⟨h1,h2⟩:=aGu hx hm;have c4:=aBt x q (lH x.sig l);rw[aEG ⟨⟨hM,h1⟩,h2⟩] at c4;rw[rX hj hm];rw[hm] at c3;generalize wR x.sig (bI x) q (lH x.sig l)=J at *;obtain⟨g,ok⟩:=J;dsimp only[aDk,xV] at c1 c3 c4 ⊢;generalize lH x.sig l=ps at *;refine fcb Tryz.func19 λB=>?_;repeat' first|exact h.elim|apply aG|refine aE 0 aWy λK hK=>?_|refine aB ?_|refine aC ?_|(refine hK.n0 ?_;clear hK K)|refine aA rfl (λh=>?_) λh=>?_|refine hK.c1 rfl rfl rfl (c1) ?_|refine hK.c1 rfl rfl rfl (c3) ?_|refine hK.c1 rfl rfl rfl (c4) ?_|apply tTT
  | none =>
   rw[aAM hj hm];rw[hm] at c3;dsimp only[aDk,xV] at c1 c3 ⊢;refine fcb Tryz.func19 λB=>?_;repeat' first|exact h.elim|apply aG|refine aE 0 aWy λK hK=>?_|refine aB ?_|refine aC ?_|(refine hK.n0 ?_;clear hK K)|refine aA rfl (λh=>?_) λh=>?_|refine hK.c1 rfl rfl rfl (c1) ?_|refine hK.c1 rfl rfl rfl (c3) ?_|apply tTT
def kp5:List (Nat×List Nat):=[(0,[1]),(1,[1,4,5]),(2,[1,4,17]),(3,[2,3]),(4,[1,4,6]),(5,[1,6,7]),(6,[1,6,7,8]),(7,[1,6,7,8,29]),(8,[1,6,7,8,9,10]),(9,[1,6,7,8,9,39]),(10,[2,3]),(11,[1,6,7,8,9]),(12,[1,6,7,8]),(13,[2,3])]
attribute [go_sem] kp5 Tryz.results5 Tryz.ntmps5
theorem aDV(x:SystemT):FC S 5 [] [] [] [bR x] (.tup [.sl .any ((uK x).1.map fB),.bool (uK x).2]) [] []:=by
 have cP:=jO x;rcases Classical.em (gK x) with hx|hx
 ·rw[fW hx] at cP;have h64:(bI x).length≤64:=hx.2;obtain⟨g1,g2,g3⟩:=aLS hx;have cG:=aKJ x hx.1 (bI x) (mG hx) h64;have cA:=aQS (bI x) (by omega);rw[x5 hx];generalize eG x (bI x) (bI x).length=gr at *;have cT:∀set,gA set (bI x).length->FC S 17 [] [] [] [.sl .any (gr.map dT),.sl .any (set.map (.int .i64))] (.sl (.own 0 22 1) ((eK gr set).map dT)) [] [0]:=λset hS=>aI5 gr set (by omega) (by rw[g1];exact tX hS) (λi hi=>by have:=g2 i hi;omega) (sL hS) (by have:=l5 hS;omega);have hul:=mO (bI x).length;have hT0:=aNT (gr:=gr) h64;have cT0:=cT _ (x8 _);have hto:=@v5 gr (upTo (bI x).length);generalize hans:trF x gr 65 (eK gr (upTo (bI x).length)) []=ans;refine fcb Tryz.func5 λB=>?_;repeat' first|exact h.elim|apply aG|refine aE 0 kp5 λK hK=>?_|refine aB ?_|(refine hK.n0 ?_;clear hK K)|refine aA rfl (λh=>?_) λh=>?_|refine hK.c1 rfl rfl rfl (cP) ?_|refine hK.c1 rfl rfl rfl (cG) ?_|refine hK.c1 rfl rfl rfl (cA) ?_|refine hK.cB rfl rfl rfl (cT0) ?_|apply tTT
  refine eF 8 45000 53 4 rfl (.inr rfl) rfl ?_;simp only[go_sem];refine bG (ι:=Nat×List (List Int)×List PairStepT) (λq=>[(7,.sl .any (q.2.1.map dT)),(8,.sl (.own 45000 53 4) (q.2.2.map fB))]) (λ_=>[]) (λ_=>[45000]) (λq=>(aCx (bI x).length q.2.2.length q.2.1/\tA q.2.1+q.2.2.length≤64)/\tA q.2.1<q.1/\trF x gr q.1 q.2.1 q.2.2=ans) (λq=>q.1) (65,eK gr (upTo (bI x).length),[]) cvB ⟨⟨hT0,by simp;omega⟩,by dsimp only;omega,hans⟩ (λq hq=>?_);obtain⟨f,T,out⟩:=q;obtain⟨⟨hO,ht1⟩,ht2,hf⟩:=hq;dsimp only at hO ht1 ht2 hf;simp only[go_sem];have hTl:=hO.2;obtain⟨f,rfl⟩:∃g,f=g+1:=⟨f-1,by omega⟩;cases T with
  | nil =>
   rw[aO8] at hf;subst hf;repeat' first|exact h.elim|(exfalso;omega)|apply aG|refine aE 0 kp5 λK hK=>?_|refine aB ?_|refine aC ?_|(refine hK.n0 ?_;clear hK K)|refine aA rfl (λh=>?_) λh=>?_|refine aJ rfl ?_|apply tTT
  | cons q r =>
   have hq:=hO.1 q zH;have hql:=l5 hq;have hrl:r.length≤5000:=by rw[List.length_cons] at hTl;omega
   have hdr:List.drop (Int.toNat 1) (D.sl Tk.any (List.map (D.int IntKind.i64) q)::List.map dT r)=List.map dT r:=rfl;have hr1:∀x∈List.map dT r,x.cells.length=1:=λx hx=>by obtain⟨y,_,rfl⟩:=zJ.1 hx;rfl
   have cS:=aOc x hx q hq;have hy:=@aIP x gr f q r out;have hn:=@aOo x gr f q r out;have htl:=@aEo x gr q r;generalize jM x q=J at *;obtain⟨s,ok⟩:=J;dsimp only at cS hy hn htl;have hp1:=@qN gr (gR q s.gone);have hp2:=pT q s.gone;have cW:=aOI q s.gone (by omega);have cL:=cT _ (aA9 (gone:=s.gone) hq);cases ok with
   | false =>
    rw[hn rfl] at hf;subst hf;repeat' first|exact h.elim|(exfalso;omega)|(refine aB0 (id:=8) kp5 [(false,[]),(true,[]),(false,[1]),(false,[2]),(false,[0,3]),(true,[4]),(false,[5]),(false,[5]),(false,[]),(false,[8,6,4,0,1,2,3,4,5,6,8]),(false,[7,9,0,1,2,3,4,5,6,7,8,9])] ⟨57,[(1,.box 1 0),(6,.sl .any (gr.map dT)),(7,.sl .any ((q::r).map dT)),(8,.sl (.own 45000 53 4) (out.map fB)),(9,.box 9 0),(10,.bool false)],[(1,[.sl .any (x.sig.map (.int .i64)),.sl .any (x.rules.map fO)]),(9,(fB s).cells)],[],[45000],[]⟩ (by kernel_rfl) ?_ ?_;simp only[List.length_cons,List.length_nil,Nat.reduceAdd])|(refine pU ?_;simp only[vX,uY,aGQ,aGF,aG1,aG3,aBk,aBr,aB5,aCs,vL,wG,wU,aBp,aCv,true_and,and_true,Bool.not_false,Bool.not_true,Bool.and_true,Bool.and_false,Bool.true_and,Bool.false_and,Bool.or_false,Bool.false_or,Bool.true_or,Bool.or_true,Nat.reduceBEq,Nat.reduceAdd])|(refine vJ (by simp only[Nat.reduceLT]) rfl (by simp only[go_sem];exact rfl) ?_)|(refine hK.nil (vB ?_);clear hK K)|(refine qK ?_ ?_)|(refine j6 0 ?_;refine λ(K:List Oper->LS->Prop) (hK:KOk S 0 _ _ _ K)=>?_;simp(disch:=apply aR;omega)only[go_sem])|(refine qJ ?_;simp(disch:=apply aR;omega)only[go_sem];(refine aD rfl rfl ?_ ?_ ?_ ?_<;>simp(disch:=apply aR;omega)only[go_sem]<;>(try omega));done)|apply aG|refine aE 0 kp5 λK hK=>?_|refine aB ?_|refine aC ?_|(refine hK.n0 ?_;clear hK K)|refine aA rfl (λh=>?_) λh=>?_|refine hK.c1 rfl rfl rfl (cS) ?_|with_reducible refine aH ?_|apply tTT
   | true =>
    rw[hy rfl] at hf;have htl:=htl rfl;repeat' first|exact h.elim|(exfalso;omega)|(refine aB0 (id:=8) kp5 [(false,[]),(true,[]),(false,[1]),(false,[2]),(false,[0,3]),(true,[4]),(false,[5]),(false,[5]),(false,[]),(false,[8,6,4,0,1,2,3,4,5,6,8]),(false,[7,9,0,1,2,3,4,5,6,7,8,9])] ⟨57,[(1,.box 1 0),(6,.sl .any (gr.map dT)),(7,.sl .any ((q::r).map dT)),(8,.sl (.own 45000 53 4) (out.map fB)),(9,.box 9 0),(10,.bool true)],[(1,[.sl .any (x.sig.map (.int .i64)),.sl .any (x.rules.map fO)]),(9,(fB s).cells)],[],[45000],[]⟩ (by kernel_rfl) ?_ ?_;simp only[List.length_cons,List.length_nil,Nat.reduceAdd])|(rw[hdr];refine⟨hr1,?_,?_,?_⟩;(· simp only[zC];omega);(· simp only[zC];omega))|(refine pU ?_;simp only[vX,uY,aGQ,aGF,aG1,aG3,aBk,aBr,aB5,aCs,vL,wG,wU,aBp,aCv,true_and,and_true,Bool.not_false,Bool.not_true,Bool.and_true,Bool.and_false,Bool.true_and,Bool.false_and,Bool.or_false,Bool.false_or,Bool.true_or,Bool.or_true,Nat.reduceBEq,Nat.reduceAdd])|(refine vJ (by simp only[Nat.reduceLT]) rfl (by simp only[go_sem];exact rfl) ?_)|(refine hK.nil (vB ?_);clear hK K)|(refine qK ?_ ?_)|(refine j6 0 ?_;refine λ(K:List Oper->LS->Prop) (hK:KOk S 0 _ _ _ K)=>?_;simp(disch:=apply aR;omega)only[go_sem])|(refine qJ ?_;simp(disch:=apply aR;omega)only[go_sem];(refine aD rfl rfl ?_ ?_ ?_ ?_<;>simp(disch:=apply aR;omega)only[go_sem]<;>(try omega));done)|apply aG|refine aE 0 kp5 λK hK=>?_|refine aEt 0 kp5 10 (id:=12) (by kernel_rfl) λK hK=>?_|refine λ(K:KT) (hK:KOk S 0 _ _ _ K)=>?_|refine aB ?_|refine aQ ?_|(refine hK.n0 ?_;clear hK K)|refine aA rfl (λh=>?_) λh=>?_|apply aF|refine hK.c1 rfl rfl rfl (cS) ?_|refine hK.c1 rfl rfl rfl (cW) ?_|refine hK.cO 777 rfl rfl rfl (cL) ?_|with_reducible refine aH ?_|apply tTT
    exact⟨(f,eK gr (gR q s.gone)++r,out++[s]),(by(refine aD rfl rfl ?_ ?_ ?_ ?_<;>simp(disch:=apply aR;omega)only[go_sem]<;>(try omega));all_goals first|rfl|exact⟨rfl,rfl⟩|(simp;rfl)|simp),⟨⟨by rw[zK];exact aIJ h64 hO,by simp only[zK,List.length_cons,List.length_nil];omega⟩,by dsimp only;omega,hf⟩,by dsimp only;omega⟩
 ·rw[jG hx] at cP;rw[aBQ hx];refine fcb Tryz.func5 λB=>?_;repeat' first|exact h.elim|apply aG|refine aE 0 kp5 λK hK=>?_|refine aB ?_|refine aC ?_|(refine hK.n0 ?_;clear hK K)|refine aA rfl (λh=>?_) λh=>?_|refine hK.c1 rfl rfl rfl (cP) ?_|apply tTT
  all_goals exact⟨rfl,rfl⟩
end
section
attribute [local irreducible] SW bA bC dM bZ FC dX toF d7
def tL(q:List Nat×List Int):D:=.sl (.lab q.1) (q.2.map (.int .i64))
theorem aZQ(l:List Nat)(q:List Int):tL (l,q)=.sl (.lab l) (q.map (.int .i64)):=rfl
def oL(N k:Nat)(q:List Nat×PairStepT):D:=.agg [.sl (.lab q.1) (q.2.part.map (.int .i64)),.sl (.lab [N,1,k,1]) (q.2.proj.map (.int .i64)),kB [N,1,k,2] q.2.polys,.sl (.lab [N,1,k,3]) (q.2.gone.map (.int .i64))]
def lbP(c:List Nat)(xs:List (List Int)):List (List Nat×List Int):=(List.range xs.length).map λi=>(c++[i]++[0],xs.getD i default)
theorem aYT(c:List Nat)(xs:List (List Int)):gU (λi y=>dL (c++[i]++[0]) y) xs=(lbP c xs).map tL:=by
 simp only[gU,lbP,List.map_map];rfl
theorem aH8(c:List Nat)(xs:List (List Int)):(lbP c xs).map (·.2)=xs:=by
 refine List.ext_getElem (by simp[lbP]) λj h1 h2=>?_;simp[lbP,zB h2]
theorem aDB(c:List Nat)(xs:List (List Int)):(lbP c xs).length=xs.length:=by simp[lbP]
def aRO(N:Nat)(T:List (List Nat×List Int))(o:List (List Nat×PairStepT)):Prop:=(o.map (·.1)++T.map (·.1)).Nodup/\∀l∈o.map (·.1)++T.map (·.1),∃c i,l=[N,0,c,i,0]/\c≤o.length
theorem aP6(N c:Nat)(xs:List (List Int)):(lbP [N,0,c] xs).map (·.1)=(List.range xs.length).map λi=>[N,0,c,i,0]:=by
 simp only[lbP,List.map_map];rfl
theorem aVu(N c:Nat)(xs:List (List Int)):((lbP [N,0,c] xs).map (·.1)).Nodup:=by
 rw[aP6];exact List.Pairwise.map _ (λa b hab e=>hab (by simpa using e)) (List.nodup_range (n:=xs.length))
theorem aIF{N c:Nat}{xs:List (List Int)}{l:List Nat}(h:l∈(lbP [N,0,c] xs).map (·.1)):∃i,l=[N,0,c,i,0]:=by
 rw[aP6] at h;obtain⟨i,_,rfl⟩:=zJ.1 h;exact⟨i,rfl⟩
theorem aYC(N:Nat)(xs:List (List Int)):aRO N (lbP [N,0,0] xs) []:=by
 refine⟨aVu _ _ _,λl h=>?_⟩;obtain⟨i,rfl⟩:=aIF h;exact⟨0,i,rfl,zQ _⟩
theorem aYL{N:Nat}{l:List Nat}{q:List Int}{r:List (List Nat×List Int)}{o:List (List Nat×PairStepT)}(s:PairStepT)(h:aRO N ((l,q)::r) o)(xs:List (List Int)):aRO N (lbP [N,0,o.length+1] xs++r) (o++[(l,s)]):=by
 obtain⟨h1,h2⟩:=h;have hp:List.Perm ((o++[(l,s)]).map (·.1)++(lbP [N,0,o.length+1] xs++r).map (·.1)) ((o.map (·.1)++((l,q)::r).map (·.1))++(lbP [N,0,o.length+1] xs).map (·.1)):=by
  simp only[List.map_append,List.map_cons,List.map_nil,List.append_assoc,List.cons_append,List.nil_append];exact .append_left _ (.cons _ List.perm_append_comm)
 refine⟨hp.nodup_iff.2 (List.nodup_append.2 ⟨h1,aVu _ _ _,λa ha b hb e=>?_⟩),λm hm=>?_⟩
 ·obtain⟨c,i,e1,e2⟩:=h2 a ha;obtain⟨j,e3⟩:=aIF hb;rw[e1,e3] at e;simp only[List.cons.injEq,true_and] at e;omega
 ·rw[zK,List.length_singleton];rcases zP.1 (hp.mem_iff.1 hm) with hm|hm
  ·obtain⟨c,i,e1,e2⟩:=h2 m hm;exact⟨c,i,e1,by omega⟩
  ·obtain⟨i,e⟩:=aIF hm;exact⟨_,i,e,zQ _⟩
def aM0(l:List Nat):List (List Nat)->Nat
 | []=>0
 | x::r=>if x=l then 0 else aM0 l r+1
theorem aO5:∀(ls:List (List Nat)),ls.Nodup->∀(j:Nat) (h:j<ls.length),aM0 ls[j] ls=j
 | x::r,hn,0,_=>by simp[aM0]
 | x::r,hn,j+1,h=>by
  have h1:=List.nodup_cons.1 hn;have hj:j<r.length:=by simpa using h
  have hne:x≠r[j]:=λe=>h1.1 (e ▸ List.getElem_mem hj);simp only[List.getElem_cons_succ,aM0,if_neg hne];rw[aO5 r h1.2 j hj]
def aAR(N:Nat)(p:List Nat)(ls:List (List Nat)):List Nat->List Nat
 | a::b::r=>if a=N then (if b=0 then p++[aM0 (a::b::r) ls]++[0] else p++r) else a::b::r
 | l=>l
theorem aWv{N:Nat}{p:List Nat}(hp:p≠[]){ls:List (List Nat)}:∀l,l≠[]->aAR N p ls l≠[]
 | [],h=>absurd rfl h
 | [a],h=>h
 | a::b::r,h=>by
  show (if a=N then (if b=0 then p++[aM0 (a::b::r) ls]++[0] else p++r) else a::b::r)≠[];by_cases h1:a=N
  ·rw[if_pos h1];by_cases h2:b=0
   ·rw[if_pos h2];simp
   ·rw[if_neg h2];exact λe=>hp (List.append_eq_nil_iff.1 e).1
  ·rw[if_neg h1];exact h
theorem aVd{N:Nat}{p:List Nat}{ls:List (List Nat)}:∀l,(∀r,l≠N::r)->aAR N p ls l=l
 | [],_=>rfl
 | [a],_=>rfl
 | a::b::r,h=>if_neg λe=>h (b::r) (by rw[e])
theorem aZE{N:Nat}{p:List Nat}{ls:List (List Nat)}{r:List Nat}:aAR N p ls (N::0::r)=p++[aM0 (N::0::r) ls]++[0]:=(if_pos rfl).trans (if_pos rfl)
theorem aH0{N:Nat}{p:List Nat}{ls:List (List Nat)}{r:List Nat}:aAR N p ls (N::1::r)=p++r:=(if_pos rfl).trans (if_neg (by decide))
theorem vU(f:List Nat->List Nat)(xs:List Int):D.rlL f (xs.map (.int .i64))=xs.map (.int .i64):=by
 rw[iV,List.map_map];rfl
theorem aUV{α:Type} [Inhabited α] {f:List Nat->List Nat}{g g':Nat->α->D}(h:∀i x,(g i x).rl f=g' i x)(xs:List α):D.rlL f (gU g xs)=gU g' xs:=by
 rw[iV];simp only[gU,List.map_map];exact List.map_congr_left λi _=>h i _
theorem bAq{N:Nat}{p:List Nat}{o:List (List Nat×PairStepT)}(h:aRO N [] o){k:Nat}(hk:k<o.length):(oL N k o[k]).rl (aAR N p (o.map (·.1)))=j3 (p++[k]) o[k].2:=by
 obtain⟨h1,h2⟩:=h;simp only[List.map_nil,List.append_nil] at h1 h2;have hpos:=aO5 _ h1 k (by simpa using hk);simp only[List.getElem_map] at hpos;obtain⟨c,i,e,_⟩:=h2 o[k].1 (zJ.2 ⟨_,List.getElem_mem hk,rfl⟩);have e0:aAR N p (o.map (·.1)) o[k].1=p++[k]++[0]:=by
  rw[e] at hpos ⊢;rw[aZE,hpos]
 have eP:(kB [N,1,k,2] o[k].2.polys).rl (aAR N p (o.map (·.1)))=kB (p++[k]++[2]) o[k].2.polys:=by
  show D.sl (.lab (aAR N p _ _)) (D.rlL _ _)=D.sl (.lab _) _;rw[aH0,aUV (g':=λi y=>lN (p++[k]++[2]++[i]) y) λi y=>?_]
  ·simp
  ·show D.agg [.int .i64 _,.sl (.lab (aAR N p _ (N::1::_))) (D.rlL _ _)]=D.agg [.int .i64 _,.sl (.lab _) _];rw[aH0,vU];simp
 show D.agg [.sl (.lab (aAR N p _ o[k].1)) (D.rlL _ _),.sl (.lab (aAR N p _ _)) (D.rlL _ _),D.rl _ (kB _ _),.sl (.lab (aAR N p _ _)) (D.rlL _ _)]=_;rw[e0,eP,aH0,aH0,vU,vU,vU];simp[j3,dL]
theorem aW1{N:Nat}{p:List Nat}{o:List (List Nat×PairStepT)}(h:aRO N [] o):D.rlL (aAR N p (o.map (·.1))) (gU (oL N) o)=gU (λi y=>j3 (p++[i]) y) (o.map (·.2)):=by
 rw[iV];simp only[gU,List.map_map,zC];refine List.map_congr_left λk hk=>?_;have hk:=List.mem_range.1 hk;have:=bAq (p:=p) h hk;simpa[zD,zB hk] using this
theorem aYt{N k:Nat}{q:List Nat×PairStepT}:(oL N k q).noP=true:=by
 have hi:∀xs:List Int,D.noPL (xs.map (.int .i64))=true:=λxs=>aJm λd hd=>by obtain⟨y,_,rfl⟩:=zJ.1 hd;rfl
 have hP:∀l ps,(kB l ps).noP=true:=λl ps=>aJm λd hd=>by
  obtain⟨j,_,rfl⟩:=zJ.1 hd;show D.noPL [_,.sl _ _]=true;simp only[D.noPL,D.noP,hi,Bool.and_self]
 show D.noPL [.sl _ _,.sl _ _,_,.sl _ _]=true;simp only[D.noPL,D.noP,hi,hP,Bool.and_self]
theorem aWm(N:Nat)(o:List (List Nat×PairStepT)):D.noPL (gU (oL N) o)=true:=aJm λd hd=>by
 obtain⟨j,_,rfl⟩:=zJ.1 hd;exact aYt
theorem aM6{α:Type} [Inhabited α] (g:Nat->α->D)(xs:List α)(x:α):gU g (xs++[x])=gU g xs++[g xs.length x]:=by
 unfold gU;rw[zK,List.length_singleton,List.range_succ,List.map_append];congr 1
 ·refine List.map_congr_left λj hj=>?_;have hj:=List.mem_range.1 hj;simp[List.getD,zL hj]
 ·simp[List.getD]
def aIv(s:PairStepT):Prop:=(s.part.length≤64/\s.proj.length≤8)/\m9 s.polys≤64/\s.gone.length≤64
theorem aZr{ps:List PolyT}(h:∀y∈ps,y.coef.length≤3):m9 ps≤4*ps.length:=by
 induction ps with
 | nil=>exact zQ _
 | cons y r ih =>
  have h1:=h y zH;have h2:=ih λz hz=>h z (zG _ hz);have e:m9 (y::r)=(y.coef.length+0+1)+m9 r:=by simp only[m9,List.map_cons,List.sum_cons];rfl
  rw[e,List.length_cons];omega
theorem aEb{rs:List Int}{ps:List PolyT}(h:dO rs ps):∀y∈ps,y.coef.length≤3:=λy hy=>by
 obtain⟨i,hi,rfl⟩:=List.getElem_of_mem hy;have h1:=(h.2 i hi).1.1;have h2:=(h.1.1.2 i (by rw[←h.1.2];exact hi)).2;rw[zD,zB hi,Option.getD_some] at h1;omega
theorem aUW{x:SystemT}{q:List Int}(hx:gK x)(hq:gA q (bI x).length):aIv (jM x q).1:=by
 have h64:(bI x).length≤64:=hx.2;have hql:=l5 hq;have hsg:=hx.1.1.1;have hs8:=hsg.1.2;cases hj:g9 x.sig (bI x) q with
 | some pr =>
  rw[rQ hj];have hpr:=(aJo hx hj).1.2;refine⟨⟨by dsimp only;omega,by dsimp only;omega⟩,Nat.zero_le _,?_⟩;have:=aJw x.sig (bI x) q pr q.length;dsimp only;by_cases hA:aU0 x.sig (bI x) q pr
  ·rw[aH6 hA];dsimp only;omega
  ·rw[aP5 hA];exact Nat.zero_le _
 | none =>
  cases hm:iN x (bI x) q with
  | some l =>
   rw[rX hj hm];obtain⟨⟨_,hA,hne⟩,hm2⟩:=aEC hm;obtain⟨hA1,hB1⟩:=aI1 hsg (kE (yM (tU _ _)) l hm2);refine⟨⟨by dsimp only;omega,by simp⟩,?_,?_⟩
   ·have h2:m9 (lH x.sig l)≤4*(lH x.sig l).length:=aZr λy hy=>by
     rcases zP.1 hy with hy|hy
     ·exact aEb hA1 y hy
     ·exact aEb hB1 y hy
    have h3:(lH x.sig l).length=x.sig.length+x.sig.length:=by rw[lH,zK,hA1.1.2,hB1.1.2]
    dsimp only;omega
   ·rw[aDQ hA];have:=aJi x.sig (bI x) q (lH x.sig l) q.length;dsimp only;omega
  | none=>rw[aAM hj hm];exact⟨⟨by simp,by simp⟩,Nat.zero_le _,by simp⟩
theorem aTb{x:SystemT}(hx:gK x){gr:List (List Int)}:∀f T out,aCx (bI x).length out.length T->tA T+out.length≤64->(∀s∈out,aIv s)->(∀s∈(trF x gr f T out).1,aIv s)/\(trF x gr f T out).1.length≤64
 | 0,T,out,_,h2,h3=>⟨h3,by show out.length≤64;omega⟩
 | f+1,[],out,_,h2,h3=>⟨h3,by show out.length≤64;omega⟩
 | f+1,q::r,out,h1,h2,h3=>by
  cases hs:(jM x q).2 with
  | false=>rw[aOo hs];exact⟨λs h=>(by cases h),Nat.zero_le _⟩
  | true =>
   rw[aIP hs];have ht:=aEo (gr:=gr) (r:=r) hs;refine aTb hx f _ _ (by rw[zK];exact aIJ hx.2 h1) (by rw[zK,List.length_singleton];omega) λs h=>?_;rcases zP.1 h with h|h
   ·exact h3 s h
   ·rw[zN.1 h];exact aUW hx (h1.1 q zH)
theorem aMc:∀ {l:List PairStepT},(∀s∈l,aIv s)->kY l≤200*l.length
 | [],_=>Nat.zero_le _
 | s::r,h=>by
  obtain⟨⟨h1,h2⟩,h3,h4⟩:=h s zH;have ih:=aMc λz hz=>h z (zG _ hz);have e:kY (s::r)=(fY s.part+(fY s.proj+(m9 s.polys+(fY s.gone+0))))+kY r:=by simp only[kY,List.map_cons,List.sum_cons]
  rw[e,List.length_cons];unfold fY;omega
theorem aSr(x:SystemT):kY (uK x).1≤12800:=by
 rcases Classical.em (gK x) with hx|hx
 ·rw[x5 hx];have h1:=@v5 (eG x (bI x) (bI x).length) (upTo (bI x).length);have h2:=mO (bI x).length;have h64:(bI x).length≤64:=hx.2;obtain⟨h3,h4⟩:=aTb hx (gr:=eG x (bI x) (bI x).length) 65 (eK (eG x (bI x) (bI x).length) (upTo (bI x).length)) [] (aNT h64) (by simp only[List.length_nil];omega) (λs h=>by cases h);have:=aMc h3;omega
 ·rw[aBQ hx];exact Nat.zero_le _
end
end Go.Proofs.YtmfmgoceeedonaaGreat
