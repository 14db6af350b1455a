/-
  Q4l, K15, one behind the other.
-/
import Derived.Test.YtmfmgoceeedonaaGreatG3
import Derived.Test.YtmfmgoceeedonaaGreatLgK18
import Derived.Test.YtmfmgoceeedonaaGreatG11
import Derived.Test.YtmfmgoceeedonaaGreatG10
namespace Go.Proofs.YtmfmgoceeedonaaGreat
open Go Go.Lg
set_option linter.unusedSimpArgs false
set_option linter.unusedVariables false
set_option maxHeartbeats 4000000
section
attribute [local irreducible] SW bA bC dM bZ FC dX toF d7
attribute [local irreducible] j9 eL n9 fA
attribute [local go_sem] aLP aKC aFN rP aEe qS aKo aG7 aEg aLn aLy aGp vF aJg y8
attribute [local go_sem] aZ0
theorem aMz(p:List Nat)(hp:p≠[])(edges:List (List Int))(set:List Int)(hn:edges.length≤1000)(hs:∀i<set.length,0≤set.getD i default/\set.getD i default<edges.length)(hE:∀i<edges.length,∀j<(edges.getD i default).length,0≤(edges.getD i default).getD j default/\(edges.getD i default).getD j default<edges.length)(hEl:∀i<edges.length,(edges.getD i default).length≤1000)(hnd:(dH set).Nodup)(hsl:set.length≤1000):FC S 25 [] [] [] [.sl .any (edges.map dT),.sl .any (set.map (.int .i64))] (.sl (.own 0 22 1) (gU (λi y=>dL (p++[i]++[0]) y) (eK edges set))) [] [0]:=by
 refine aQz Tryz.func25 λB=>?_;refine bM 0 λhb0=>?_;refine bM 1 λhb1=>?_;repeat' first|(refine aVv ?_)|apply aG|refine aE 0 pF λK hK=>?_|refine aB ?_|(refine hK.n0 ?_;clear hK K)|with_reducible refine aH ?_|apply tTT
 have e0:(List.replicate edges.length [D.sl .nil []]).flatten=eL edges.length []:=by
  rw[←aN7];simp
 rw[e0];refine mI (ι:=Nat) (λi=>⟨186,[(0,.sl .any (edges.map dT)),(1,.sl .any (set.map (.int .i64))),(5,.ms 26 edges.length),(27,.sl .any (set.map (.int .i64))),(28,.int .i64 set.length),(29,.int .i64 i)],(26,eL edges.length (dH (set.take i)))::fA edges.length (dH (set.take i)) (r0 edges set),[],[],[]⟩) (λi=>i≤set.length) (λi=>set.length-i) 0 (by refine aD rfl rfl ?_ ⟨rfl,aFB λq hq=>by rw[List.take_zero] at hq;exact absurd hq (aRB _ _ q)⟩ ?_ ?_<;>simp only[go_sem];all_goals rfl) (by omega) (λi hi=>?_);by_cases hil:i<set.length
 ·have hsi:=hs i hil;have hpsn:dH (set.take (i+1))=dH (set.take i)++[(set.getD i default).toNat]:=by
   unfold dH;rw[List.take_add_one,List.map_append,zB hil];simp[zD,hil]
  have hnd1:(dH (set.take (i+1))).Nodup:=by
   have:(dH (set.take (i+1))).Sublist (dH set):=(List.take_sublist _ _).map _;exact this.nodup hnd
  have hqn:(set.getD i default).toNat∉dH (set.take i):=by
   rw[hpsn,List.nodup_append] at hnd1;exact λh=>hnd1.2.2 _ h _ (zN.2 rfl) rfl
  have hmk:1≤mk1 (dH (set.take (i+1))) (set.getD i default).toNat:=aAL.2 (by rw[hpsn];simp);have hndk:=aJr.2 hnd1;repeat' first|exact h.elim|(exfalso;omega)|apply aG|refine aE 0 pF λK hK=>?_|refine aB ?_|(refine hK.n0 ?_;clear hK K)|refine aA rfl (λh=>?_) λh=>?_|with_reducible refine aH ?_|apply tTT
  have hren:=aU1 (n:=edges.length) (r:=r0 edges set) hqn;rw[←hpsn] at hren;refine aQq (L':=⟨186,[(0,.sl .any (edges.map dT)),(1,.sl .any (set.map (.int .i64))),(5,.ms 26 edges.length),(7,.int .i64 (set.getD i default)),(27,.sl .any (set.map (.int .i64))),(28,.int .i64 set.length),(29,.int .i64 i),(42,.sl .any ((edges.getD (set.getD i default).toNat default).map (.int .i64))),(43,.int .i64 (edges.getD (set.getD i default).toNat default).length),(44,.int .i64 0)],(26,eL edges.length (dH (set.take (i+1))))::fA edges.length (dH (set.take (i+1))) (λx=>if x=(set.getD i default).toNat then λ_=>false else r0 edges set x),[],[],[]⟩) 37 ((set.getD i default).toNat+5000) (by omega) (by simp) (by simp) rfl rfl rfl rfl (λq hq=>?_) hren ?_
  ·simp only[zO,List.not_mem_nil,or_false] at hq;rcases hq with rfl|rfl|rfl|rfl|rfl|rfl|rfl|rfl|rfl|rfl
   all_goals first|exact⟨_,rfl,aBc.keep rfl⟩|(refine⟨_,rfl,.inl ⟨?_,?_,rfl⟩⟩<;>simp only[D.ids,zN]<;>omega)
  have hEp:=hE (set.getD i default).toNat (by omega);have hElp:=hEl (set.getD i default).toNat (by omega);refine mI (ι:=Nat) (λj=>⟨186,[(0,.sl .any (edges.map dT)),(1,.sl .any (set.map (.int .i64))),(5,.ms 26 edges.length),(7,.int .i64 (set.getD i default)),(27,.sl .any (set.map (.int .i64))),(28,.int .i64 set.length),(29,.int .i64 i),(42,.sl .any ((edges.getD (set.getD i default).toNat default).map (.int .i64))),(43,.int .i64 (edges.getD (set.getD i default).toNat default).length),(44,.int .i64 j)],(26,eL edges.length (dH (set.take (i+1))))::fA edges.length (dH (set.take (i+1))) (λx=>if x=(set.getD i default).toNat then rJ edges set (set.getD i default).toNat j else r0 edges set x),[],[],[]⟩) (λj=>j≤(edges.getD (set.getD i default).toNat default).length) (λj=>(edges.getD (set.getD i default).toNat default).length-j) 0 (by rw[aXl];refine aD rfl rfl ?_ (eZ hnd1 _) ?_ ?_<;>simp only[go_sem];all_goals first|rfl|trace_state) (by omega) (λj hj=>?_);by_cases hjl:j<(edges.getD (set.getD i default).toNat default).length
  ·have hej:=hEp j hjl;repeat' first|exact h.elim|(exfalso;omega)|(simp(disch:=apply aR;omega)only[rP,if_true];simp(disch:=apply aR;omega)only[go_sem])|apply aG|refine aE 0 pF λK hK=>?_|refine iG 0 pF 9 (id:=9) (by kernel_rfl) λK hK=>?_|refine λ(K:KT) (hK:KOk S 0 _ _ _ K)=>?_|refine aB ?_|refine aQ ?_|(refine hK.n0 ?_;clear hK K)|refine aA rfl (λh=>?_) λh=>?_|apply aF|refine hK.c1 rfl rfl rfl (tJ _ _ _) ?_|with_reducible refine aH ?_|apply tTT
   refine⟨j+1,?_,by omega,by omega⟩;rw[←aWV hjl hej.1];refine aD rfl rfl ?_ (aAt hnd1 _ (λx=>?_)) ?_ ?_
   ·simp(disch:=apply aR;omega)only[go_sem];all_goals first|omega|trace_state
   ·by_cases e:x=(set.getD i default).toNat
    ·simp only[if_pos e]
    ·simp only[if_neg e]
   ·simp only[go_sem]
   ·simp only[go_sem]
  ·repeat' first|exact h.elim|(exfalso;omega)|apply aG|refine aE 0 pF λK hK=>?_|refine aB ?_|(refine hK.n0 ?_;clear hK K)|refine aA rfl (λh=>?_) λh=>?_|refine aJ rfl ?_|apply aF|apply tTT
   obtain rfl:j=(edges.getD (set.getD i default).toNat default).length:=by omega
   refine⟨i+1,?_,by omega,by omega⟩;refine aD rfl rfl ?_ (aAt hnd1 _ (λx=>?_)) ?_ ?_
   ·simp(disch:=apply aR;omega)only[go_sem];all_goals first|omega|trace_state
   ·by_cases e:x=(set.getD i default).toNat
    ·rw[if_pos e,e];exact aYM _ _ _
    ·rw[if_neg e]
   ·simp only[go_sem]
   ·simp only[go_sem]
 ·obtain rfl:i=set.length:=by omega
  have hmk:∀i<set.length,1≤mk1 (dH set) (set.getD i default).toNat:=λi hi=>aAL.2 (by
   unfold dH;refine zJ.2 ⟨_,?_,rfl⟩;rw[zD,zB hi];exact List.getElem_mem hi)
  have hndk:=aJr.2 hnd;repeat' first|exact h.elim|(exfalso;omega)|apply aG|refine aE 0 pF λK hK=>?_|refine aB ?_|(refine hK.n0 ?_;clear hK K)|refine aA rfl (λh=>?_) λh=>?_|refine aJ rfl ?_|apply tTT
  rw[show r0 edges set=wM (dH set) (r0 edges set) 0 from rfl];refine mI (ι:=Nat) (λi=>⟨186,[(1,.sl .any (set.map (.int .i64))),(5,.ms 26 edges.length),(59,.sl .any (set.map (.int .i64))),(60,.int .i64 set.length),(61,.int .i64 i)],(26,eL edges.length (dH set))::fA edges.length (dH set) (wM (dH set) (r0 edges set) i),[],[],[]⟩) (λi=>i≤set.length) (λi=>set.length-i) 0 (by refine aD rfl rfl ?_ (eZ hnd _) ?_ ?_<;>simp only[go_sem];all_goals first|rfl|trace_state) (by omega) (λi hi=>?_);by_cases hil:i<set.length
  ·have hsi:=hs i hil;have hmi:=hmk i hil;repeat' first|exact h.elim|(exfalso;omega)|apply aG|refine aE 0 pF λK hK=>?_|refine aB ?_|(refine hK.n0 ?_;clear hK K)|refine aA rfl (λh=>?_) λh=>?_|with_reducible refine aH ?_|apply tTT
   generalize hR0:wM (dH set) (r0 edges set) i=R0;rw[show R0=wP R0 (dH set |>.getD i default) (dH set) 0 from rfl];refine mI (ι:=Nat) (λj=>⟨186,[(1,.sl .any (set.map (.int .i64))),(5,.ms 26 edges.length),(11,.int .i64 (set.getD i default)),(59,.sl .any (set.map (.int .i64))),(60,.int .i64 set.length),(61,.int .i64 i),(65,.sl .any (set.map (.int .i64))),(66,.int .i64 set.length),(67,.int .i64 j)],(26,eL edges.length (dH set))::fA edges.length (dH set) (wP R0 ((dH set).getD i default) (dH set) j),[],[],[]⟩) (λj=>j≤set.length) (λj=>set.length-j) 0 (by refine aD rfl rfl ?_ (eZ hnd _) ?_ ?_<;>simp only[go_sem];all_goals first|rfl|trace_state) (by omega) (λj hj=>?_);by_cases hjl:j<set.length
   ·have hsj:=hs j hjl;have hmj:=hmk j hjl;repeat' first|exact h.elim|(exfalso;omega)|apply aG|refine aE 0 pF λK hK=>?_|refine aB ?_|(refine hK.n0 ?_;clear hK K)|refine aA rfl (λh=>?_) λh=>?_|with_reducible refine aH ?_|apply tTT
    generalize hR1:wP R0 ((dH set).getD i default) (dH set) j=R1;rw[show R1=wQ R1 ((dH set).getD i default) ((dH set).getD j default) (dH set) 0 from rfl];refine mI (ι:=Nat) (λk=>⟨186,[(1,.sl .any (set.map (.int .i64))),(5,.ms 26 edges.length),(11,.int .i64 (set.getD i default)),(13,.int .i64 (set.getD j default)),(59,.sl .any (set.map (.int .i64))),(60,.int .i64 set.length),(61,.int .i64 i),(65,.sl .any (set.map (.int .i64))),(66,.int .i64 set.length),(67,.int .i64 j),(71,.sl .any (set.map (.int .i64))),(72,.int .i64 set.length),(73,.int .i64 k)],(26,eL edges.length (dH set))::fA edges.length (dH set) (wQ R1 ((dH set).getD i default) ((dH set).getD j default) (dH set) k),[],[],[]⟩) (λk=>k≤set.length) (λk=>set.length-k) 0 (by refine aD rfl rfl ?_ (eZ hnd _) ?_ ?_<;>simp only[go_sem];all_goals first|rfl|trace_state) (by omega) (λk hk=>?_);by_cases hkl:k<set.length
    ·have hsk:=hs k hkl;have hmk:=hmk k hkl;have hw:=aDz R1 ((dH set).getD i default) ((dH set).getD j default) (dH set) k;generalize hR2:wQ R1 ((dH set).getD i default) ((dH set).getD j default) (dH set) k=R2 at hw ⊢;rw[tW hkl,tW hil,tW hjl] at hw;repeat' first|exact h.elim|(exfalso;omega)|(simp(disch:=apply aR;omega)only[rP,if_true];simp(disch:=apply aR;omega)only[go_sem])|apply aG|refine aE 0 pF λK hK=>?_|refine iG 0 pF 31 (id:=21) (by kernel_rfl) λK hK=>?_|refine λ(K:KT) (hK:KOk S 0 _ _ _ K)=>?_|refine aB ?_|refine aQ ?_|(refine hK.n0 ?_;clear hK K)|refine bH (λh=>?_) λh=>?_|refine aA rfl (λh=>?_) λh=>?_|apply aF|with_reducible refine aH ?_|apply tTT
     all_goals refine⟨k+1,?_,by omega,by omega⟩
     all_goals refine aD rfl rfl ?_ (aAt hnd _ (λx=>?_)) ?_ ?_
     all_goals first|(simp only[go_sem];done)|(simp(disch:=apply aR;omega)only[go_sem];first|done|omega)|skip
     all_goals rw[tW hil,tW hjl] at *
     all_goals rw[hw x]
     all_goals by_cases e:x=(set.getD j default).toNat
     all_goals first|(simp only[if_neg e];done)|skip
     all_goals simp only[if_pos e]
     all_goals funext y
     all_goals by_cases e2:y=(set.getD k default).toNat
     all_goals first|(simp only[if_neg e2,e];done)|(simp_all;done)|trace_state
    ·obtain rfl:k=set.length:=by omega
     repeat' first|exact h.elim|(exfalso;omega)|apply aG|refine aE 0 pF λK hK=>?_|refine aB ?_|(refine hK.n0 ?_;clear hK K)|refine aA rfl (λh=>?_) λh=>?_|refine aJ rfl ?_|apply aF|apply tTT
     refine⟨j+1,?_,by omega,by omega⟩;refine aD rfl rfl ?_ (aAt hnd _ (λx=>?_)) ?_ ?_
     ·simp(disch:=apply aR;omega)only[go_sem];all_goals first|omega|trace_state
     ·show _=wQ (wP R0 ((dH set).getD i default) (dH set) j) ((dH set).getD i default) ((dH set).getD j default) (dH set) (dH set).length x;rw[hR1,aAE]
     ·simp only[go_sem]
     ·simp only[go_sem]
   ·obtain rfl:j=set.length:=by omega
    repeat' first|exact h.elim|(exfalso;omega)|apply aG|refine aE 0 pF λK hK=>?_|refine aB ?_|(refine hK.n0 ?_;clear hK K)|refine aA rfl (λh=>?_) λh=>?_|refine aJ rfl ?_|apply aF|apply tTT
    refine⟨i+1,?_,by omega,by omega⟩;refine aD rfl rfl ?_ (aAt hnd _ (λx=>?_)) ?_ ?_
    ·simp(disch:=apply aR;omega)only[go_sem];all_goals first|omega|trace_state
    ·show _=wP (wM (dH set) (r0 edges set) i) ((dH set).getD i default) (dH set) (dH set).length x;rw[hR0,aAE]
    ·simp only[go_sem]
    ·simp only[go_sem]
  ·obtain rfl:i=set.length:=by omega
   repeat' first|exact h.elim|(refine aU3 ?_)|(exfalso;omega)|apply aG|refine aE 0 pF λK hK=>?_|refine aB ?_|(refine hK.n0 ?_;clear hK K)|refine aA rfl (λh=>?_) λh=>?_|refine aJ rfl ?_|apply tTT
   unfold eK;generalize wM (dH set) (r0 edges set) set.length=C;refine eF 16 184000 22 1 rfl (.inl rfl) (by simp[LS.purge,LS.clean,qH,D.pu,D.pu1,D.tks,D.tksL,aGp,vF,aJg,y8]) ?_;simp only[go_sem,aGp,vF];refine mI (ι:=Nat) (λi=>⟨186,[(1,.sl .any (set.map (.int .i64))),(5,.ms 26 edges.length),(16,.sl (.own 184000 22 1) (gU (λi y=>dL (p++[i]++[0]) y) (cmp C set i))),(111,.sl .any (set.map (.int .i64))),(112,.int .i64 set.length),(113,.int .i64 i)],(26,eL edges.length (dH set))::fA edges.length (dH set) C,[],[184000],[]⟩) (λi=>i≤set.length) (λi=>set.length-i) 0 (by refine aD rfl rfl ?_ (eZ hnd _) ?_ ?_<;>simp only[go_sem];all_goals first|rfl|exact⟨rfl,rfl⟩|trace_state) (by omega) (λi hi=>?_);have hcl:=aDy C set i;by_cases hil:i<set.length
   ·have hsi:=hs i hil;have hmi:=hmk i hil;repeat' first|exact h.elim|(exfalso;omega)|apply aG|refine aE 0 pF λK hK=>?_|refine aB ?_|(refine hK.n0 ?_;clear hK K)|refine aA rfl (λh=>?_) λh=>?_|refine aJ rfl ?_|apply aF|with_reducible refine aH ?_|apply tTT
    ·refine⟨i+1,?_,by omega,by omega⟩;rw[aD5 (λh2=>by rw[h2.1] at h;cases h)];refine aD rfl rfl ?_ (eZ hnd _) ?_ ?_<;>simp only[go_sem]
     all_goals omega
    ·have hcc:=h;have hti:(set.take i).length=i:=by rw[List.length_take];omega
     have htg:∀l<i,(set.take i).getD l default=set.getD l default:=λl hl=>by
      simp[zD,hl]
     refine mI (ι:=Nat) (λk=>⟨186,[(1,.sl .any (set.map (.int .i64))),(5,.ms 26 edges.length),(16,.sl (.own 184000 22 1) (gU (λi y=>dL (p++[i]++[0]) y) (cmp C set i))),(17,.int .i64 i),(18,.int .i64 (set.getD i default)),(111,.sl .any (set.map (.int .i64))),(112,.int .i64 set.length),(113,.int .i64 i),(128,.sl .any ((set.take i).map (.int .i64))),(129,.int .i64 (set.take i).length),(130,.int .i64 k)],(26,eL edges.length (dH set))::fA edges.length (dH set) C,[],[184000],[]⟩) (λk=>k≤i/\∀l<k,fC C (set.getD i default).toNat (set.getD l default).toNat=false) (λk=>i-k) 0 (by refine aD rfl rfl ?_ (eZ hnd _) ?_ ?_<;>simp only[go_sem];all_goals first|rfl|exact⟨rfl,rfl⟩|trace_state) ⟨by omega,λl hl=>by omega⟩ (λk hk=>?_);obtain⟨hk,hkl⟩:=hk;by_cases hki:k<i
     ·have hsk:=hs k (by omega);have hmk2:=hmk k (by omega);have htk:=htg k hki;rw[←htk] at hsk hmk2;have hno:C (set.getD i default).toNat ((set.take i).getD k default).toNat=true->C ((set.take i).getD k default).toNat (set.getD i default).toNat=true->¬okC C set i:=λh1 h2 h3=>by
       have:=h3.2 k hki;unfold fC at this;rw[←htk,h1,h2] at this;cases this
      have hup:C (set.getD i default).toNat ((set.take i).getD k default).toNat=false∨C ((set.take i).getD k default).toNat (set.getD i default).toNat=false->∀l<k+1,fC C (set.getD i default).toNat (set.getD l default).toNat=false:=λh1 l hl=>by
       by_cases e:l=k
       ·subst e;unfold fC;rw[←htk];rcases h1 with h1|h1
        ·rw[h1];rfl
        ·rw[h1,Bool.and_false]
       ·exact hkl l (by omega)
      repeat' first|exact h.elim|(exfalso;omega)|apply aG|refine aE 0 pF λK hK=>?_|refine aB ?_|(refine hK.n0 ?_;clear hK K)|refine aZ (λh=>?_) λh=>?_|refine aA rfl (λh=>?_) λh=>?_|refine aJ rfl ?_|apply aF|with_reducible refine aH ?_|apply tTT
      all_goals first|(refine⟨k+1,?_,⟨by omega,hup (by first|exact .inl (by assumption)|exact .inr (by assumption))⟩,by omega⟩;refine aD rfl rfl ?_ (eZ hnd _) ?_ ?_<;>simp only[go_sem];all_goals first|omega|trace_state)|(refine⟨i+1,?_,by omega,by omega⟩;rw[aD5 (hno (by assumption) (by assumption))];refine aD rfl rfl ?_ (eZ hnd _) ?_ ?_<;>simp only[go_sem];all_goals first|omega|trace_state)|trace_state
     ·obtain rfl:k=i:=by omega
      have hok:okC C set k:=⟨hcc,hkl⟩;have hys:=aDs hok;have hdl:(set.drop k).length=set.length-k:=List.length_drop;have hdg:∀j,(set.drop k).getD j default=set.getD (k+j) default:=λj=>by
       simp[zD,List.getElem?_drop]
      repeat' first|exact h.elim|(exfalso;omega)|apply aG|refine aE 0 pF λK hK=>?_|refine aB ?_|(refine hK.n0 ?_;clear hK K)|refine aA rfl (λh=>?_) λh=>?_|refine aJ rfl ?_|with_reducible refine aH ?_|apply tTT
      refine eF 21 179000 2 1 rfl (.inl rfl) (by simp[LS.purge,LS.clean,qH,D.pu,D.pu1,D.tks,D.tksL,aGp,vF,aJg,y8,aUx]) ?_;simp only[go_sem,aGp,vF];refine mI (ι:=Nat) (λj=>⟨186,[(1,.sl .any (set.map (.int .i64))),(5,.ms 26 edges.length),(16,.sl (.own 184000 22 1) (gU (λi y=>dL (p++[i]++[0]) y) (cmp C set k))),(18,.int .i64 (set.getD k default)),(111,.sl .any (set.map (.int .i64))),(112,.int .i64 set.length),(113,.int .i64 k),(21,.sl (.own 179000 2 1) ((uJ C (set.getD k default).toNat (set.drop k) j).map (.int .i64))),(153,.sl .any ((set.drop k).map (.int .i64))),(154,.int .i64 (set.drop k).length),(155,.int .i64 j)],(26,eL edges.length (dH set))::fA edges.length (dH set) C,[],[179000,184000],[]⟩) (λj=>j≤(set.drop k).length) (λj=>(set.drop k).length-j) 0 (by refine aD rfl rfl ?_ (eZ hnd _) ?_ ?_<;>simp only[go_sem];all_goals first|rfl|exact⟨rfl,rfl⟩|trace_state) (by omega) (λj hj=>?_);have hpl:=aUH C (set.getD k default).toNat (set.drop k) j;by_cases hjl:j<(set.drop k).length
      ·have hsj:=hs (k+j) (by omega);have hmj:=hmk (k+j) (by omega);rw[←hdg] at hsj hmj;have hpy:=@aV2 C (set.getD k default).toNat (set.drop k) j hjl;have hpn:=@aXw C (set.getD k default).toNat (set.drop k) j hjl;repeat' first|exact h.elim|(exfalso;omega)|apply aG|refine aE 0 pF λK hK=>?_|refine aB ?_|(refine hK.n0 ?_;clear hK K)|refine aZ (λh=>?_) λh=>?_|refine aA rfl (λh=>?_) λh=>?_|apply aF|with_reducible refine aH ?_|apply tTT
       all_goals first|(refine⟨j+1,?_,by omega,by omega⟩;rw[hpy (by assumption) (by assumption),List.map_append];refine aD rfl rfl ?_ (eZ hnd _) ?_ ?_<;>simp only[go_sem];all_goals first|omega|(simp;done)|exact⟨rfl,by omega⟩|trace_state)|(refine⟨j+1,?_,by omega,by omega⟩;rw[hpn (by first|exact .inl (by assumption)|exact .inr (by assumption))];refine aD rfl rfl ?_ (eZ hnd _) ?_ ?_<;>simp only[go_sem];all_goals first|omega|trace_state)|trace_state
      ·obtain rfl:j=(set.drop k).length:=by omega
       rw[hdl];refine xY 21 (p++[(cmp C set k).length]++[0]) rfl (by simp) (by simp) ?_;simp only[go_sem];repeat' first|exact h.elim|(exfalso;omega)|apply aG|refine aE 0 pF λK hK=>?_|refine aB ?_|(refine hK.n0 ?_;clear hK K)|refine aA rfl (λh=>?_) λh=>?_|refine aJ rfl ?_|apply tTT
       refine⟨List.mem_filter.2 ⟨by simp,by simp⟩,aBy λ_ _=>rfl,by first|omega|(rw[iS];omega),by first|omega|(rw[iS];omega),?_⟩;repeat' first|apply aG|refine aE 0 pF λK hK=>?_|refine aB ?_|(refine hK.n0 ?_;clear hK K)|apply aF|apply tTT
       refine⟨k+1,?_,by omega,by omega⟩;rw[hys,aNL];refine aD rfl rfl ?_ (eZ hnd _) ?_ ?_<;>simp only[go_sem]
       all_goals first|omega|(simp;done)|exact⟨rfl,by omega⟩|trace_state
   ·obtain rfl:i=set.length:=by omega
    repeat' first|exact h.elim|(exfalso;omega)|apply aG|refine aE 0 pF λK hK=>?_|refine aB ?_|refine gL ?_|(refine hK.n0 ?_;clear hK K)|refine aA rfl (λh=>?_) λh=>?_|refine aJ rfl ?_|apply tTT
    all_goals exact n7 rfl (by simp)
end
section
attribute [local irreducible] SW bA bC dM bZ FC dX toF d7 iC fZ sumF b5
attribute [local go_sem] aZQ
theorem aX5{f:FuncId}{q g:List Int}{l m:List Nat}{d:D}{tk:List Nat}(h:FC S f [] [] [] [.sl .any (q.map (.int .i64)),.sl .any (g.map (.int .i64))] d [] tk):FC S f [] [] [] [.sl (.lab l) (q.map (.int .i64)),.sl (.lab m) (g.map (.int .i64))] d [] tk:=h.args ⟨.any,.any,trivial⟩
theorem aXS{f:FuncId}{a b:D}{q:List Int}{l:List Nat}{d:D}(h:FC S f [] [] [] [a,b,.sl .any (q.map (.int .i64))] d [] []):FC S f [] [] [] [a,b,.sl (.lab l) (q.map (.int .i64))] d [] []:=h.args ⟨.refl _,.refl _,.any,trivial⟩
theorem bAc{f:FuncId}{a b:D}{q g:List Int}{l m:List Nat}{d:D}(h:FC S f [] [] [] [a,b,.sl .any (q.map (.int .i64)),.sl .any (g.map (.int .i64))] d [] []):FC S f [] [] [] [a,b,.sl (.lab l) (q.map (.int .i64)),.sl (.lab m) (g.map (.int .i64))] d [] []:=h.args ⟨.refl _,.refl _,.any,.any,trivial⟩
theorem aY3{f:FuncId}{a b:D}{q:List Int}{ps:List PolyT}{l m:List Nat}{d:D}(h:FC S f [] [] [] [a,b,.sl .any (q.map (.int .i64)),.sl .any (ps.map bP)] d [] []):FC S f [] [] [] [a,b,.sl (.lab l) (q.map (.int .i64)),kB m ps] d [] []:=h.args ⟨.refl _,.refl _,.any,nK _ _,trivial⟩
theorem aPp{a b c d a' b' c' d':D}(h1:D.le a a')(h2:D.le b b')(h3:D.le c c')(h4:D.le d d'):∀(j:Nat) x y,[a,b,c,d][j]?=some x->[a',b',c',d'][j]?=some y->D.le x y
 | 0,_,_,e,e'=>by cases e;cases e';exact h1
 | 1,_,_,e,e'=>by cases e;cases e';exact h2
 | 2,_,_,e,e'=>by cases e;cases e';exact h3
 | 3,_,_,e,e'=>by cases e;cases e';exact h4
 | _+4,_,_,e,_=>by cases e
def kp7:List (Nat×List Nat):=[(0,[1]),(1,[1,4,5]),(2,[1,4,20]),(3,[2,3]),(4,[1,4,6]),(5,[1,4,6,7]),(6,[1,4,6,7,8]),(7,[1,4,6,7,8,30]),(8,[1,4,6,7,8,9]),(9,[1,4,6,7,8,9,10,11]),(10,[1,4,6,7,8,9,10,44]),(11,[1,4,6,7,8,9,10]),(12,[1,4,6,7,8,9]),(13,[1,4,6,7,8,9,12,13]),(14,[1,4,6,7,8,9,12,66]),(15,[1,4,6,7,8,9,12]),(16,[1,4,6,7,8,9]),(17,[2,3]),(18,[1,4,6,7,8,9]),(19,[1,4,6,7,8]),(20,[2,3])]
attribute [go_sem] kp7 Tryz.results7 Tryz.ntmps7
theorem aDb(p:List Nat)(hp:p≠[])(x:SystemT):FC S 7 [] [] [] [bR x] (.tup [sE p (uK x).1,.bool (uK x).2]) [] []:=by
 have cP:=aEO x;rcases Classical.em (gK x) with hx|hx
 ·rw[fW hx] at cP;have h64:(bI x).length≤64:=hx.2;obtain⟨g1,g2,g3⟩:=aLS hx;have cG:=aUc x hx.1 (bI x) (mG hx) h64;have cA:=aTR (bI x) (by omega);rw[x5 hx];generalize eG x (bI x) (bI x).length=gr at *;have cT:∀(c:List Nat),c≠[]->∀set,gA set (bI x).length->FC S 25 [] [] [] [.sl .any (gr.map dT),.sl .any (set.map (.int .i64))] (.sl (.own 0 22 1) ((lbP c (eK gr set)).map tL)) [] [0]:=λc hc set hS=>by
   rw[←aYT];exact aMz c hc gr set (by omega) (by rw[g1];exact λi hi=>(hS i hi).1) (by rw[g1];exact λi hi=>g3 i (by omega)) (λi hi=>by have:=g2 i hi;omega) (aMe hS) (by have:=l5 hS;omega)
  have hul:=mO (bI x).length;have hT0:=aNT (gr:=gr) h64;have hto:=@v5 gr (upTo (bI x).length);generalize hans:trF x gr 65 (eK gr (upTo (bI x).length)) []=ans;refine aYz Tryz.func7 λB N hOff=>?_;have cT0:=cT [N,0,0] (by simp) _ (x8 _);have hL0:=aH8 [N,0,0] (eK gr (upTo (bI x).length));have hZ0:=aYC N (eK gr (upTo (bI x).length));rw[←hL0] at hT0 hto hans;generalize lbP [N,0,0] (eK gr (upTo (bI x).length))=T0 at *;repeat' first|exact h.elim|apply aG|refine aE 0 kp7 λK hK=>?_|refine aB ?_|(refine hK.n0 ?_;clear hK K)|refine aA rfl (λh=>?_) λh=>?_|refine hK.c1 rfl rfl rfl (cP) ?_|refine hK.c1 rfl rfl rfl (cG) ?_|refine hK.c1 rfl rfl rfl (cA) ?_|refine hK.cB rfl rfl rfl (cT0) ?_|apply tTT
  refine eF 8 93000 53 4 rfl (.inl rfl) rfl ?_;simp only[go_sem];refine bG (ι:=Nat×List (List Nat×List Int)×List (List Nat×PairStepT)) (λq=>[(7,.sl .any (q.2.1.map tL)),(8,.sl (.own 93000 53 4) (gU (oL N) q.2.2))]) (λ_=>[]) (λ_=>[93000]) (λq=>((aCx (bI x).length q.2.2.length (q.2.1.map (·.2))/\tA (q.2.1.map (·.2))+q.2.2.length≤64)/\aRO N q.2.1 q.2.2)/\tA (q.2.1.map (·.2))<q.1/\trF x gr q.1 (q.2.1.map (·.2)) (q.2.2.map (·.2))=ans) (λq=>q.1) (65,T0,[]) cvB ⟨⟨⟨hT0,by simp;omega⟩,hZ0⟩,by dsimp only;omega,hans⟩ (λq hq=>?_);obtain⟨f,T,out⟩:=q;obtain⟨⟨⟨hO,ht1⟩,hLb⟩,ht2,hf⟩:=hq;dsimp only at hO ht1 ht2 hf hLb;simp only[go_sem];have hTl:=hO.2;rw[zC] at hTl;obtain⟨f,rfl⟩:∃g,f=g+1:=⟨f-1,by omega⟩;cases T with
  | nil =>
   rw[List.map_nil,aO8] at hf;subst hf;refine aU2 hOff (f:=aAR N p (out.map (·.1))) (aWv hp) aVd [(7,.sl .any []),(8,.sl (.own 93000 53 4) (gU (λi y=>j3 (p++[i]) y) (out.map (·.2))))] [] (λq hq=>?_) (λq hq=>by cases hq) ?_
   ·rcases zO.1 hq with rfl|hq
    ·exact⟨_,rfl,rfl,rfl⟩
    ·obtain rfl:=zN.1 hq;refine⟨_,rfl,aWm N out,?_⟩;show D.sl _ _=D.sl _ (D.rlL _ _);rw[aW1 hLb]
   simp only[go_sem];refine xY 8 p rfl (by simp) hp ?_;simp only[go_sem];repeat' first|exact h.elim|(exfalso;omega)|apply aG|refine aE 0 kp7 λK hK=>?_|refine aB ?_|refine aC ?_|(refine hK.n0 ?_;clear hK K)|refine aA rfl (λh=>?_) λh=>?_|refine aJ rfl ?_|apply tTT
  | cons lq r =>
   obtain⟨l,q⟩:=lq;simp only[List.map_cons] at hO ht1 ht2 hf;have hq:=hO.1 q zH;have hql:=l5 hq;have hrl:r.length≤5000:=by rw[List.length_cons] at hTl;omega
   have hdr:List.drop (Int.toNat 1) (D.sl (.lab l) (List.map (D.int IntKind.i64) q)::List.map tL r)=List.map tL r:=rfl;have hr1:∀x∈List.map tL r,x.cells.length=1:=λx hx=>by obtain⟨y,_,rfl⟩:=zJ.1 hx;rfl
   have hy:=@aIP x gr f q (r.map (·.2)) (out.map (·.2));have hn:=@aOo x gr f q (r.map (·.2)) (out.map (·.2));have htl:=@aEo x gr q (r.map (·.2));have hst:=λs=>aYL s hLb;have hmo:=aM6 (oL N) out;have c1:=aXS (l:=l) (aHW [N,1,out.length,1] (by simp) x.sig (bI x) q hx.1.1.1 (mG hx) hq h64);have c3:=aXS (l:=l) (aD1 [N,1,out.length,2] (by simp) x (bI x) q hx.1 (mG hx) hq h64);cases hj:g9 x.sig (bI x) q with
   | some pr =>
    have hpj:=aJo hx hj;have c2:=bAc (l:=l) (m:=[N,1,out.length,1]) (aDY [N,1,out.length,3] (by simp) x.sig (bI x) q pr hpj (mG hx) hq h64);rw[rQ hj] at hy htl;rw[hj] at c1;generalize jR x.sig (bI x) q pr=J at *;obtain⟨g,ok⟩:=J;dsimp only[xV] at c1 c2 hy htl;rw[hy rfl] at hf;have htl:=htl rfl;have hp1:=@qN gr (gR q g);have hp2:=pT q g;have cW:=aX5 (l:=l) (m:=[N,1,out.length,3]) (aFj q g (by omega));have cL:=cT [N,0,out.length+1] (by simp) _ (aA9 (gone:=g) hq);repeat' first|exact h.elim|(exfalso;omega)|(refine aAm 9 [.sl (.lab l) (q.map (.int .i64)),.sl (.lab [N,1,out.length,1]) (pr.map (.int .i64)),kB [N,1,out.length,2] [],.sl (.lab [N,1,out.length,3]) (g.map (.int .i64))] (cs:=[.sl (.lab l) (q.map (.int .i64)),.sl (.lab [N,1,out.length,1]) (pr.map (.int .i64)),.sl .nil [],.sl (.lab [N,1,out.length,3]) (g.map (.int .i64))]) rfl rfl (aPp (.refl _) (.refl _) .emp (.refl _)) ?_;simp only[go_sem])|(refine⟨λa _=>rfl,λa _=>rfl,?_,?_,?_⟩;(· rw[aDB];omega);(· rw[aDB];omega))|(refine⟨λa _=>rfl,?_⟩;rw[hdr])|(refine⟨by simp,aBy λ_ _=>rfl,by omega,by omega,?_⟩)|apply aG|refine aE 0 kp7 λK hK=>?_|refine aEt 0 kp7 9 (id:=18) (by kernel_rfl) λK hK=>?_|refine λ(K:KT) (hK:KOk S 0 _ _ _ K)=>?_|refine aB ?_|refine aQ ?_|(refine hK.n0 ?_;clear hK K)|refine aA rfl (λh=>?_) λh=>?_|apply aF|refine hK.c1 rfl rfl rfl (c1) ?_|refine hK.c1 rfl rfl rfl (c2) ?_|refine hK.c1 rfl rfl rfl (cW) ?_|refine hK.cO 777 rfl rfl rfl (cL) ?_|with_reducible refine aH ?_|apply tTT
    have hsn:(lbP [N,0,out.length+1] (eK gr (gR q g))++r).map (·.2)=eK gr (gR q g)++r.map (·.2):=by rw[List.map_append,aH8]
    have hTs:=aIJ (gr:=gr) h64 hO (g:=g);exact⟨(f,lbP [N,0,out.length+1] (eK gr (gR q g))++r,out++[(l,⟨q,pr,[],g⟩)]),(by(refine aD rfl rfl ?_ ?_ ?_ ?_<;>simp(disch:=apply aR;omega)only[go_sem]<;>(try omega));all_goals first|rfl|(rw[hmo];first|rfl|exact⟨rfl,rfl⟩|(refine⟨rfl,?_⟩;simp;done)|trace_state)),⟨⟨⟨by rw[hsn,zK];exact hTs,by rw[hsn,zK,List.length_singleton];omega⟩,hst _ _⟩,by dsimp only;rw[hsn];omega,by dsimp only;rw[hsn,List.map_append];exact hf⟩,by dsimp only;omega⟩
   | none =>
    rw[hj] at c1;cases hm:iN x (bI x) q with
    | some l0 =>
     obtain⟨h1,h2⟩:=aGu hx hm;have c4:=aY3 (l:=l) (m:=[N,1,out.length,2]) (xL [N,1,out.length,3] (by simp) x (bI x) q (lH x.sig l0) h2 h1 (mG hx) hq h64);rw[rX hj hm] at hy htl;rw[hm] at c3;generalize wR x.sig (bI x) q (lH x.sig l0)=J at *;obtain⟨g,ok⟩:=J;dsimp only[aDk,xV] at c1 c3 c4 hy htl;generalize lH x.sig l0=ps at *;rw[hy rfl] at hf;have htl:=htl rfl;have hp1:=@qN gr (gR q g);have hp2:=pT q g;have cW:=aX5 (l:=l) (m:=[N,1,out.length,3]) (aFj q g (by omega));have cL:=cT [N,0,out.length+1] (by simp) _ (aA9 (gone:=g) hq);repeat' first|exact h.elim|(exfalso;omega)|(refine aAm 9 [.sl (.lab l) (q.map (.int .i64)),.sl (.lab [N,1,out.length,1]) [],kB [N,1,out.length,2] ps,.sl (.lab [N,1,out.length,3]) (g.map (.int .i64))] (cs:=[.sl (.lab l) (q.map (.int .i64)),.sl .nil [],kB [N,1,out.length,2] ps,.sl (.lab [N,1,out.length,3]) (g.map (.int .i64))]) rfl rfl (aPp (.refl _) .emp (.refl _) (.refl _)) ?_;simp only[go_sem])|(refine⟨λa _=>rfl,λa _=>rfl,?_,?_,?_⟩;(· rw[aDB];omega);(· rw[aDB];omega))|(refine⟨λa _=>rfl,?_⟩;rw[hdr])|(refine⟨by simp,aBy λ_ _=>rfl,by omega,by omega,?_⟩)|apply aG|refine aE 0 kp7 λK hK=>?_|refine aEt 0 kp7 9 (id:=18) (by kernel_rfl) λK hK=>?_|refine λ(K:KT) (hK:KOk S 0 _ _ _ K)=>?_|refine aB ?_|refine aQ ?_|(refine hK.n0 ?_;clear hK K)|refine aA rfl (λh=>?_) λh=>?_|apply aF|refine hK.c1 rfl rfl rfl (c1) ?_|refine hK.c1 rfl rfl rfl (c3) ?_|refine hK.c1 rfl rfl rfl (c4) ?_|refine hK.c1 rfl rfl rfl (cW) ?_|refine hK.cO 777 rfl rfl rfl (cL) ?_|with_reducible refine aH ?_|apply tTT
     have hsn:(lbP [N,0,out.length+1] (eK gr (gR q g))++r).map (·.2)=eK gr (gR q g)++r.map (·.2):=by rw[List.map_append,aH8]
     have hTs:=aIJ (gr:=gr) h64 hO (g:=g);exact⟨(f,lbP [N,0,out.length+1] (eK gr (gR q g))++r,out++[(l,⟨q,[],ps,g⟩)]),(by(refine aD rfl rfl ?_ ?_ ?_ ?_<;>simp(disch:=apply aR;omega)only[go_sem]<;>(try omega));all_goals first|rfl|(rw[hmo];first|rfl|exact⟨rfl,rfl⟩|(refine⟨rfl,?_⟩;simp;done)|trace_state)),⟨⟨⟨by rw[hsn,zK];exact hTs,by rw[hsn,zK,List.length_singleton];omega⟩,hst _ _⟩,by dsimp only;rw[hsn];omega,by dsimp only;rw[hsn,List.map_append];exact hf⟩,by dsimp only;omega⟩
    | none =>
     rw[aAM hj hm] at hn;rw[hm] at c3;dsimp only[xV,aDk] at c1 c3 hn;rw[hn rfl] at hf;subst hf;repeat' first|exact h.elim|(exfalso;omega)|apply aG|refine aE 0 kp7 λK hK=>?_|refine aB ?_|refine aC ?_|(refine hK.n0 ?_;clear hK K)|refine aA rfl (λh=>?_) λh=>?_|refine hK.c1 rfl rfl rfl (c1) ?_|refine hK.c1 rfl rfl rfl (c3) ?_|with_reducible refine aH ?_|apply tTT
     all_goals first|exact⟨rfl,rfl⟩|(simp[gU,le0])
 ·rw[jG hx] at cP;rw[aBQ hx];refine fcb Tryz.func7 λB=>?_;repeat' first|exact h.elim|apply aG|refine aE 0 kp7 λK hK=>?_|refine aB ?_|refine aC ?_|(refine hK.n0 ?_;clear hK K)|refine aA rfl (λh=>?_) λh=>?_|refine hK.c1 rfl rfl rfl (cP) ?_|apply tTT
  all_goals (simp[gU,le0])
end
end Go.Proofs.YtmfmgoceeedonaaGreat
