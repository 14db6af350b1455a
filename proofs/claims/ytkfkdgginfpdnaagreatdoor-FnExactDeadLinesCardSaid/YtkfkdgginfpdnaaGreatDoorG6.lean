/-
  N6, N8p, A06e, A26, A26b, A02, A26r, D1p, one behind the other.
-/
import Derived.Test.YtkfkdgginfpdnaaGreatDoorG5
import Derived.Test.YtkfkdgginfpdnaaGreatDoorLgK10
import Derived.Lib.ItoaLen
import Derived.Test.YtkfkdgginfpdnaaGreatDoorG3
import Derived.Test.YtkfkdgginfpdnaaGreatDoorG1
import Derived.Test.YtkfkdgginfpdnaaGreatDoorG2
import Derived.Test.YtkfkdgginfpdnaaGreatDoorSet
import Derived.Test.YtkfkdgginfpdnaaGreatDoorG0
namespace Go.Proofs.YtkfkdgginfpdnaaGreatDoor
open Go Go.Lg
set_option linter.unusedSimpArgs false
set_option linter.unusedVariables false
set_option maxHeartbeats 4000000
section
open Go Go.Lg Go.RowKit
attribute [local irreducible] SW runL runQ runG runQG FC FCw Ret1 RetN toF redoL anyB
theorem ret_plain {L:LS} {d:D} (h1:d.tks=[]) (h2:∀f,d.mT f=d):RetK d [] 0 L d:=⟨[],d,.refl _,⟨rfl,List.nodup_nil⟩,by simp,by rw[h1];simp,h2 _,by simp⟩
theorem tail_len:∀r:List (List UInt8),(∀x∈r,x.length≤21)→(Lib.joinTail [44] r).length≤22*r.length
 | [],_=>by simp[Lib.joinTail]
 | x::r,h=>by
  have ih:=tail_len r fun y hy=>h y (List.mem_cons_of_mem _ hy)
  have h1:=h x List.mem_cons_self
  have e:Lib.joinTail [44] (x::r)=44::(x++Lib.joinTail [44] r):=by simp[Lib.joinTail]
  rw[e]
  simp only[List.length_cons,List.length_append]
  omega
theorem join_len (xs:List Int) (hx:∀x∈xs,0≤x∧x≤100000) (hl:xs.length≤1000):(Lib.join ((xs.map numB).map (·.data.toList)) (⟨#[44]⟩:ByteArray).data.toList).length≤140737488355328:=by
 have hb:∀y∈(xs.map numB).map (·.data.toList),y.length≤21:=fun y hy=>by
  obtain⟨b,hb,rfl⟩:=List.mem_map.1 hy
  obtain⟨n,hn,rfl⟩:=List.mem_map.1 hb
  have:=hx n hn
  exact Lib.itoa_length_le n (by omega) (by omega)
 have hlen:((xs.map numB).map (·.data.toList)).length=xs.length:=by simp
 generalize (xs.map numB).map (·.data.toList)=l at *
 show (Lib.join l [44]).length≤_
 cases l with
 | nil=>simp[Lib.join_nil]
 | cons x r =>
  rw[Lib.join_cons]
  have h1:=hb x List.mem_cons_self
  have h2:=tail_len r fun y hy=>hb y (List.mem_cons_of_mem _ hy)
  simp only[List.length_cons,List.length_append] at *
  omega
theorem tksL_fill (f:Nat→ByteArray) (z:ByteArray) (i n:Nat):D.tksL (fillL (fun j=>.str (f j)) (.str z) i n)=[]:=by
 unfold fillL
 generalize List.range n=l
 induction l with
 | nil=>rfl
 | cons x r ih =>
  simp only[List.map_cons,D.tksL,ih,List.append_nil]
  split<;>rfl
def kp193:List (Nat×List Nat):=[(0,[0]),(1,[2])]
attribute [go_sem] kp193 Tryz.results193 Tryz.ntmps193
theorem num_fc (n:Int) (h0:0≤n) (h1:n≤100000):FCw S TabW 193 [] [] [] [.int .i64 n] (.str (numB n)) [] []:=by
 refine fcbW Tryz.func193 rfl fun B hw hT hI hpan=>?_
 repeat' first|(refine sw_goAt (id:=1) 0 kp193 1 rfl fun K hK=>?_)|refine sw_n ?_|refine sw_go 0 kp193 fun K hK=>?_|refine fun (K:KT) (hK:KOk S 0 _ _ _ K)=>?_|refine runL_g ?_|refine sw_retg0 ?_|refine sw_retg ?_|(refine hK.n0 ?_;clear hK K)|refine sw_loopEnd ?_|with_reducible refine and_o ?_|apply tTT
 refine LopsW.callW rfl rfl rfl hw hT (formatInt_fc n (by omega) (by omega)) ⟨⟨by simp only[Nat.reduceLT],by simp,by simp,by simp,by simp⟩,⟨by simp[D.ids],by simp,by simp[D.tks],by simp,by simp⟩,rfl⟩ (LopsW.nil ?_)
 refine fun (K:List Oper→LS→Prop) (hK:KOk S 0 _ _ _ K)=>?_
 simp only[go_sem]
 repeat' first|refine sw_n ?_|refine sw_go 0 kp193 fun K hK=>?_|refine fun (K:KT) (hK:KOk S 0 _ _ _ K)=>?_|refine runL_g ?_|refine sw_retg0 ?_|refine sw_retg ?_|(refine hK.n0 ?_;clear hK K)|refine sw_loopEnd ?_|with_reducible refine and_o ?_|apply tTT
 unfold RetN
 simp only[go_sem]
 exact ret_plain rfl fun f=>rfl
def kp184:List (Nat×List Nat):=[(0,[0,1]),(1,[0,1,5]),(2,[1,5,11,12,13]),(3,[1,5,11,12,13,14]),(4,[1,5,6,7,11,12,13]),(5,[1,5,11,12,13]),(6,[1,5,11,12,13]),(7,[4])]
attribute [go_sem] kp184 Tryz.results184 Tryz.ntmps184
theorem numsText_fc (xs:List Int) (hx:∀x∈xs,0≤x∧x≤100000) (hl:xs.length≤1000):FCw S TabW 184 [] [] [] [.sl .any (xs.map (.int .i64)),.str ⟨#[44]⟩] (.str (txtB xs)) [] []:=by
 refine fcbW Tryz.func184 rfl fun B hw hT hI hpan=>?_
 repeat' first|exact h.elim|(exfalso;omega)|refine sw_n ?_|refine sw_go 0 kp184 fun K hK=>?_|refine fun (K:KT) (hK:KOk S 0 _ _ _ K)=>?_|refine runL_g ?_|refine sw_retg0 ?_|refine sw_retg ?_|(refine hK.n0 ?_;clear hK K)|refine sw_condg rfl (fun h=>?_) fun h=>?_|refine sw_exit rfl ?_|refine sw_loopEnd ?_|with_reducible refine and_o ?_|((with_reducible refine And.intro ?_ ?_);· first|(intro x hx;subst hx;rfl)|(intro x;refine And.intro ?_ ?_<;>(intros;subst_vars;rfl)))|apply tTT
 refine sw_loopT (ι:=Nat) (fun i=>[(13,.int .i64 i)]) (fun i=>[(10,fillL (fun j=>.str (numB (xs.getD j default))) (.str ByteArray.empty) i xs.length)]) (fun _=>[]) (fun i=>i≤xs.length) (fun i=>xs.length-i) 0 (by(refine covers_mk0 rfl rfl ?_ ?_ ?_ ?_<;>simp (disch:=(refine Om.mk ?_;omega)) only[go_sem]<;>(try omega));all_goals first|exact fillL_start _ _ _|exact⟨fillL_start _ _ _,rfl⟩|trace_state) (Nat.zero_le _) (fun i hi=>?_)
 simp only[go_sem]
 by_cases hil:i<xs.length
 ·have hxi:=hx _ (getD_mem xs i hil)
  have cN:=num_fc (xs.getD i default) hxi.1 hxi.2
  repeat' first|exact h.elim|(exfalso;omega)|(refine sw_goAt (id:=5) 0 kp184 3 rfl fun K hK=>?_)|refine sw_n ?_|refine sw_go 0 kp184 fun K hK=>?_|refine fun (K:KT) (hK:KOk S 0 _ _ _ K)=>?_|refine runL_g ?_|refine sw_retg0 ?_|refine sw_retg ?_|(refine hK.n0 ?_;clear hK K)|refine sw_condg rfl (fun h=>?_) fun h=>?_|refine sw_exit rfl ?_|refine sw_loopEnd ?_|with_reducible refine and_o ?_|((with_reducible refine And.intro ?_ ?_);· first|(intro x hx;subst hx;rfl)|(intro x;refine And.intro ?_ ?_<;>(intros;subst_vars;rfl)))|apply tTT
  refine LopsW.callW rfl rfl rfl hw hT cN ⟨⟨by simp only[Nat.reduceLT],by simp,by simp,by simp,by simp⟩,⟨by simp[D.ids],by simp,by simp[D.tks],by simp,by simp⟩,by simp[LS.clean,D.tks,tksL_fill]⟩ (LopsW.nil ?_)
  refine fun (K:List Oper→LS→Prop) (hK:KOk S 0 _ _ _ K)=>?_
  simp only[go_sem]
  repeat' first|exact h.elim|(exfalso;omega)|refine sw_n ?_|refine sw_go 0 kp184 fun K hK=>?_|refine fun (K:KT) (hK:KOk S 0 _ _ _ K)=>?_|refine runL_g ?_|refine sw_retg0 ?_|refine sw_retg ?_|(refine hK.n0 ?_;clear hK K)|refine sw_condg rfl (fun h=>?_) fun h=>?_|refine sw_exit rfl ?_|refine sw_loopEnd ?_|with_reducible refine and_o ?_|((with_reducible refine And.intro ?_ ?_);· first|(intro x hx;subst hx;rfl)|(intro x;refine And.intro ?_ ?_<;>(intros;subst_vars;rfl)))|apply tTT
  exact⟨i+1,(by(refine covers_mk0 rfl rfl ?_ ?_ ?_ ?_<;>simp (disch:=(refine Om.mk ?_;omega)) only[go_sem]<;>(try omega));exact fillL_set _ _ _ _),by omega,by omega⟩
 ·obtain rfl:i=xs.length:=by omega
  repeat' first|exact h.elim|(exfalso;omega)|(refine sw_freezeAt 7 5 1 .any (id:=10) (n:=xs.length) ((xs.map numB).map .str) rfl rfl (by rw[fillL_done (g:=fun n=>D.str (numB n)),flat_str,List.map_map];rfl) (by simp) (cells_one fun _=>rfl) (fillL_memOk (fun _=>rfl) rfl) (.inl rfl) ?_;simp only[go_sem])|(refine sw_goAt (id:=7) 0 kp184 2 rfl fun K hK=>?_)|refine sw_n ?_|refine sw_go 0 kp184 fun K hK=>?_|refine fun (K:KT) (hK:KOk S 0 _ _ _ K)=>?_|refine runL_g ?_|refine sw_retg0 ?_|refine sw_retg ?_|(refine hK.n0 ?_;clear hK K)|refine sw_condg rfl (fun h=>?_) fun h=>?_|refine sw_exit rfl ?_|refine sw_loopEnd ?_|with_reducible refine and_o ?_|((with_reducible refine And.intro ?_ ?_);· first|(intro x hx;subst hx;rfl)|(intro x;refine And.intro ?_ ?_<;>(intros;subst_vars;rfl)))|apply tTT
  refine LopsW.callW rfl rfl rfl hw hT (join_fc .any (xs.map numB) ⟨#[44]⟩ (by rw[List.length_map];omega) (join_len xs hx hl)) ⟨⟨by simp only[Nat.reduceLT],by simp,by simp,by simp,by simp⟩,⟨by simp[D.ids],by simp,by simp[D.tks],by simp,by simp⟩,by simp[LS.clean,D.tks]⟩ (LopsW.nil ?_)
  refine fun (K:List Oper→LS→Prop) (hK:KOk S 0 _ _ _ K)=>?_
  simp only[go_sem]
  repeat' first|exact h.elim|refine sw_n ?_|refine sw_go 0 kp184 fun K hK=>?_|refine fun (K:KT) (hK:KOk S 0 _ _ _ K)=>?_|refine runL_g ?_|refine sw_retg0 ?_|refine sw_retg ?_|(refine hK.n0 ?_;clear hK K)|refine sw_condg rfl (fun h=>?_) fun h=>?_|refine sw_exit rfl ?_|refine sw_loopEnd ?_|with_reducible refine and_o ?_|((with_reducible refine And.intro ?_ ?_);· first|(intro x hx;subst hx;rfl)|(intro x;refine And.intro ?_ ?_<;>(intros;subst_vars;rfl)))|apply tTT
  unfold RetN
  simp only[go_sem]
  exact ret_plain rfl fun f=>rfl
def kp168:List (Nat×List Nat):=[(0,[0,2]),(1,[2])]
attribute [go_sem] kp168 Tryz.results168 Tryz.ntmps168
theorem keyOf_fc (xs:List Int) (hx:∀x∈xs,0≤x∧x≤100000) (hl:xs.length≤1000):FCw S TabW 168 [] [] [] [.sl .any (xs.map (.int .i64))] (sKD .i64 (xs.length,txtB xs)) [] []:=by
 refine fcbW Tryz.func168 rfl fun B hw hT hI hpan=>?_
 repeat' first|(exfalso;omega)|(refine sw_goAt (id:=1) 0 kp168 3 rfl fun K hK=>?_)|refine sw_n ?_|refine sw_go 0 kp168 fun K hK=>?_|refine fun (K:KT) (hK:KOk S 0 _ _ _ K)=>?_|refine runL_g ?_|refine sw_retg0 ?_|refine sw_retg ?_|(refine hK.n0 ?_;clear hK K)|refine sw_loopEnd ?_|with_reducible refine and_o ?_|((with_reducible refine And.intro ?_ ?_);· first|(intro x hx;subst hx;rfl)|(intro x;refine And.intro ?_ ?_<;>(intros;subst_vars;rfl)))|apply tTT
 refine LopsW.callW rfl rfl rfl hw hT (numsText_fc xs hx hl) ⟨⟨by simp only[Nat.reduceLT],by simp,by simp,by simp,by simp⟩,⟨by simp[D.ids],by simp,by simp[D.tks],by simp,by simp⟩,by simp[LS.clean,D.tks,D.tksL]⟩ (LopsW.nil ?_)
 refine fun (K:List Oper→LS→Prop) (hK:KOk S 0 _ _ _ K)=>?_
 simp only[go_sem]
 repeat' first|refine sw_n ?_|refine sw_go 0 kp168 fun K hK=>?_|refine fun (K:KT) (hK:KOk S 0 _ _ _ K)=>?_|refine runL_g ?_|refine sw_retg0 ?_|refine sw_retg ?_|(refine hK.n0 ?_;clear hK K)|refine sw_loopEnd ?_|with_reducible refine and_o ?_|((with_reducible refine And.intro ?_ ?_);· first|(intro x hx;subst hx;rfl)|(intro x;refine And.intro ?_ ?_<;>(intros;subst_vars;rfl)))|apply tTT
 unfold RetN
 simp only[go_sem]
 exact ret_plain rfl fun f=>rfl
theorem keyS:KeyS S.P 199 .i64:=⟨by kernel_rfl,_,_,Tryz.underlying199,⟨rfl,rfl⟩,⟨rfl,rfl⟩,⟨by kernel_rfl,by kernel_rfl,by kernel_rfl⟩,by kernel_rfl,by kernel_rfl⟩
theorem goodK {xs:List Int} (hx:∀x∈xs,0≤x∧x≤100000) (hl:xs.length≤1000):GoodK .i64 ((xs.length:Int),txtB xs):=by
 refine⟨?_,?_⟩
 ·have e:(IntKind.i64.min=-9223372036854775808)∧IntKind.i64.max=9223372036854775807:=⟨by decide,by decide⟩
  simp only[Lit.wf,e.1,e.2,Bool.and_eq_true,decide_eq_true_eq]
  omega
 ·have:=join_len xs hx hl
  have e:(txtB xs).size=(Lib.join ((xs.map numB).map (·.data.toList)) [44]).length:=by simp[txtB,ByteArray.size]
  have h2:(140737488355328:Nat)≤maxLen:=by simp[maxLen]
  rw[e]
  exact Nat.le_trans this h2
end
section
attribute [local irreducible] SW runL runQ runG runQG FC FCw Ret1 RetN toF redoL anyB
def NumsOk (s:List Int):Prop:=(∀x∈s,0≤x∧x≤100000)∧s.length≤1000
def keyB (s:List Int):Int×ByteArray:=((s.length:Int),txtB s)
theorem key_inj {s t:List Int} (hs:NumsOk s) (ht:NumsOk t) (h:keyB s=keyB t):s=t :=
 txt_inj (fun x hx=>(hs.1 x hx).1) (fun x hx=>(ht.1 x hx).1) (congrArg Prod.snd h)
theorem key_good {s:List Int} (hs:NumsOk s):GoodK .i64 (keyB s):=goodK hs.1 hs.2
def keyM:Nat→List (List Int)→List ((Int×ByteArray)×Int)
 | _,[]=>[]
 | n,s::r=>(keyB s,(n:Int))::keyM (n+1) r
theorem keyM_snoc (s:List Int):∀(n:Nat) (out:List (List Int)),keyM n (out++[s])=keyM n out++[(keyB s,((n+out.length:Nat):Int))]
 | n,[]=>rfl
 | n,x::r=>by
  rw[List.cons_append,keyM,keyM,keyM_snoc s (n+1) r,List.cons_append,List.length_cons,show n+1+r.length=n+(r.length+1) by omega]
theorem keyM_good:∀(n:Nat) (out:List (List Int)),(∀s∈out,NumsOk s)→∀p∈keyM n out,GoodK .i64 p.1
 | n,[],_,p,hp=>by cases hp
 | n,x::r,h,p,hp=>by
  rcases List.mem_cons.1 hp with rfl|hp
  ·exact key_good (h x List.mem_cons_self)
  ·exact keyM_good (n+1) r (fun s hs=>h s (List.mem_cons_of_mem _ hs)) p hp
theorem findS_key {s:List Int} (hs:NumsOk s):∀(n:Nat) (out:List (List Int)),(∀x∈out,NumsOk x)→findS (keyM n out) (keyB s)=if s∈out then some ((n+out.idxOf s:Nat):Int) else none
 | n,[],_=>rfl
 | n,x::r,h=>by
  have ih:=findS_key hs (n+1) r fun y hy=>h y (List.mem_cons_of_mem _ hy)
  by_cases hx:x=s
  ·subst hx
   simp[findS,keyM]
  ·have hm:¬keyB x=keyB s:=fun e=>hx (key_inj (h x List.mem_cons_self) hs e)
   have e:findS (keyM n (x::r)) (keyB s)=findS (keyM (n+1) r) (keyB s):=by
    unfold findS
    rw[keyM,List.find?_cons_of_neg (by simpa using hm)]
   rw[e,ih,List.idxOf_cons,show (x==s)=false from by simpa using hx,cond_false]
   by_cases hr:s∈r
   ·rw[if_pos hr,if_pos (List.mem_cons_of_mem _ hr)]
    congr 2;omega
   ·rw[if_neg hr,if_neg (fun h1=>(List.mem_cons.1 h1).elim (fun e=>hx e.symm) hr)]
def evK (rs sk:List Int) (n:Nat):Nat→List (Nat×List Int)
 | 0=>[]
 | k+1=>(if ((rs.length-(k+1):Nat):Int)∈sk then [] else evF rs n (rs.length-(k+1)))++evK rs sk n k
def symsK (rs sk:List Int):List Nat:=(List.range rs.length).filter fun (f:Nat)=>decide ((f:Int)∉sk)
theorem evK_all (rs sk:List Int) (n:Nat):evK rs sk n rs.length=evY rs (symsK rs sk) n:=by
 have key:∀k≤rs.length,evK rs sk n k=(((List.range k).map fun i=>rs.length-k+i).filter fun (f:Nat)=>decide ((f:Int)∉sk)).flatMap (evF rs n):=fun k=>by
  induction k with
  | zero=>intro _;rfl
  | succ k ih =>
   intro hk
   have e1:((List.range (k+1)).map fun i=>rs.length-(k+1)+i)=(rs.length-(k+1))::((List.range k).map fun i=>rs.length-k+i):=by
    rw[List.range_succ_eq_map,List.map_cons,Nat.add_zero,List.map_map]
    congr 1
    refine List.map_congr_left fun i _=>?_
    simp only[Function.comp]
    omega
   rw[e1,evK,ih (by omega)]
   by_cases h:((rs.length-(k+1):Nat):Int)∈sk
   ·rw[if_pos h,List.filter_cons,if_neg (by simpa using h),List.nil_append]
   ·rw[if_neg h,List.filter_cons,if_pos (by simpa using h),List.flatMap_cons]
 have h:=key rs.length (Nat.le_refl _)
 rw[h]
 unfold evY symsK
 simp
theorem evK_len {rs sk:List Int} (h:∀f<rs.length,0≤rs.getD f default∧rs.getD f default≤3) {n:Nat} (hn:n≤16):∀k≤rs.length,(evK rs sk n k).length≤5000*k
 | 0,_=>by simp[evK]
 | k+1,hk=>by
  have ih:=evK_len (sk:=sk) h hn k (by omega)
  have hf:=h (rs.length-(k+1)) (by omega)
  have h1:(evF rs n (rs.length-(k+1))).length≤4096:=by
   unfold evF
   split
   ·simp
   ·rename_i h0
    rw[List.length_map]
    rcases Nat.eq_zero_or_pos n with hz|hz
    ·have:(rs.getD (rs.length-(k+1)) default).toNat=0:=by omega
     rw[this]
     simp[digs,allD]
    ·rw[digs_len hz]
     have h3:(rs.getD (rs.length-(k+1)) default).toNat≤3:=by omega
     calc n^(rs.getD (rs.length-(k+1)) default).toNat≤n^3:=Nat.pow_le_pow_right hz h3
      _≤16^3:=Nat.pow_le_pow_left hn 3
      _=4096:=by decide
  rw[evK,List.length_append]
  split
  ·simp only[List.length_nil];omega
  ·omega
end
section
attribute [local irreducible] SW runL runQ runG runQG FC
def leftL (x:LineT):List Int:=x.fun_::x.pats.flatten
theorem flatten_len {n:Nat}:∀ {xs:List (List Int)},(∀x∈xs,x.length≤n)→xs.flatten.length≤n*xs.length
 | [],_=>by simp
 | x::xs,h=>by
  have h1:=h x (by simp)
  have h2:=flatten_len fun y (hy:y∈xs)=>h y (by simp[hy])
  simp only[List.flatten_cons,List.length_append,List.length_cons,Nat.mul_add]
  omega
theorem take_flatten (xs:List (List Int)) (i:Nat) (h:i<xs.length):(xs.take (i+1)).flatten=(xs.take i).flatten++xs.getD i default:=by
 rw[List.take_succ_eq_append_getElem h,List.flatten_append];simp[List.getD,List.getElem?_eq_getElem h]
def leftTo (x:LineT) (i:Nat):List Int:=x.fun_::(x.pats.take i).flatten
theorem leftTo_succ (x:LineT) (i:Nat) (h:i<x.pats.length):leftTo x (i+1)=leftTo x i++x.pats.getD i default:=by
 unfold leftTo;rw[take_flatten _ _ h];rfl
theorem leftTo_len (x:LineT) (i:Nat) (ht:∀p∈x.pats,p.length≤60) (hi:i≤x.pats.length):(leftTo x i).length≤1+60*i:=by
 have hlen:=flatten_len (n:=60) (xs:=x.pats.take i) fun y hy=>ht y (List.mem_of_mem_take hy)
 rw[List.length_take,Nat.min_eq_left hi] at hlen
 unfold leftTo;rw[List.length_cons];omega
def kp137:List (Nat×List Nat):=[(0,[0,1]),(1,[0,1,5]),(2,[0,1,5,9]),(4,[0,1,5,17]),(5,[4]),(3,[0,1,5]),(6,[4])]
attribute [go_sem] kp137 Tryz.results137 Tryz.ntmps137
theorem l26Without_fc (tk tk':Tk) (t us:List Int):FC S 137 [] [] [] [.sl tk (t.map (.int .i64)),.sl tk' (us.map (.int .i64))] (.bool (tst (∀j<t.length,t.getD j default∉us))) [] []:=by
 refine fcb Tryz.func137 fun B=>?_
 refine sw_bndg 0 fun hb0=>?_
 repeat' first|exact h.elim|refine sw_n ?_|refine sw_go 0 kp137 fun K hK=>?_|refine fun (K:KT) (hK:KOk S 0 _ _ _ K)=>?_|refine runL_g ?_|refine sw_retg0 ?_|refine sw_retg ?_|(refine hK.n0 ?_;clear hK K)|refine sw_condg rfl (fun h=>?_) fun h=>?_|refine sw_exit rfl ?_|refine sw_loopEnd ?_|with_reducible refine and_o ?_|apply tTT
 refine sw_loopU (ι:=Nat) (fun i=>[(5,.int .i64 i)]) (fun _=>[]) (fun i=>i≤t.length∧(∀j<i,t.getD j default∉us)) (fun i=>t.length-i) 0 cvA ⟨by omega,?_⟩ (fun i ⟨hi,hj⟩=>?_)
 rotate_left
 simp only[go_sem]
 repeat' first|exact h.elim|refine sw_n ?_|refine sw_go 0 kp137 fun K hK=>?_|refine fun (K:KT) (hK:KOk S 0 _ _ _ K)=>?_|refine runL_g ?_|refine sw_retg0 ?_|refine sw_retg ?_|(refine hK.n0 ?_;clear hK K)|refine sw_condg rfl (fun h=>?_) fun h=>?_|refine sw_exit rfl ?_|refine sw_loopEnd ?_|refine hK.c1 rfl rfl rfl (l1Has_fc _ _ _) ?_|with_reducible refine and_o ?_|apply tTT
 ·intro h2;exact h2 i (by omega) h
 ·exact⟨i+1,by(refine covers_mk0 rfl rfl ?_ ?_ ?_ ?_<;>simp (disch:=(refine Om.mk ?_;omega)) only[go_sem]<;>(try omega)),⟨by omega,upto_succ hj h⟩,by omega⟩
 ·exact fun j hj'=>hj j (by omega)
 ·intro j hj';omega
def kp96:List (Nat×List Nat):=[(0,[1]),(1,[1,3]),(2,[1,3,4]),(3,[1,3,4,12]),(5,[1,3,4]),(4,[1,3,4]),(6,[2])]
attribute [go_sem] kp96 Tryz.results96 Tryz.ntmps96
theorem l26Left_fc (x:LineT) (hp:x.pats.length≤1000) (ht:∀p∈x.pats,1≤p.length∧p.length≤60):FC S 96 [] [] [] [LineD x] (.sl .any ((leftL x).map (.int .i64))) [] []:=by
 refine FC.args (args':=[LineD x]) ?_ (by simp only[go_sem])
 refine fcb Tryz.func96 fun B=>?_
 refine sw_bnd_aggg 0 1 fun hb0_1=>?_
 repeat' first|exact h.elim|refine sw_n ?_|refine sw_go 0 kp96 fun K hK=>?_|refine fun (K:KT) (hK:KOk S 0 _ _ _ K)=>?_|refine runL_g ?_|refine sw_retg0 ?_|refine sw_retg ?_|(refine hK.n0 ?_;clear hK K)|refine sw_condg rfl (fun h=>?_) fun h=>?_|refine sw_exit rfl ?_|refine sw_loopEnd ?_|with_reducible refine and_o ?_|((with_reducible refine And.intro ?_ ?_);· first|(intro x hx;subst hx;rfl)|(intro x;refine And.intro ?_ ?_<;>(intros;subst_vars;rfl)))|apply tTT
 refine sw_loopT (ι:=Nat) (fun i=>[(4,.int .i64 i),(3,if i=0 then .sl .full ((leftTo x i).map (.int .i64)) else .sl (.own 22000 2 1) ((leftTo x i).map (.int .i64)))]) (fun _=>[]) (fun i=>if i=0 then [] else [22000])
  (fun i=>i≤x.pats.length) (fun i=>x.pats.length-i) 0 cvB (by omega) (fun i hi=>?_)
 have hlen:=leftTo_len x i (fun p hp=>(ht p hp).2) hi
 have hpi:i<x.pats.length→1≤(x.pats.getD i default).length∧(x.pats.getD i default).length≤60:=fun h=>ht _ (getD_mem _ i h)
 have hsn:=leftTo_succ x i
 have he:i=x.pats.length→leftTo x i=leftL x:=fun e=>by subst e;simp[leftTo,leftL]
 cases i with
 | zero =>
  simp only[go_sem]
  repeat' first|exact h.elim|refine sw_n ?_|refine sw_go 0 kp96 fun K hK=>?_|refine fun (K:KT) (hK:KOk S 0 _ _ _ K)=>?_|refine runL_g ?_|refine sw_retg0 ?_|refine sw_retg ?_|(refine hK.n0 ?_;clear hK K)|refine sw_condg rfl (fun h=>?_) fun h=>?_|refine sw_exit rfl ?_|refine sw_loopEnd ?_|with_reducible refine and_o ?_|((with_reducible refine And.intro ?_ ?_);· first|(intro x hx;subst hx;rfl)|(intro x;refine And.intro ?_ ?_<;>(intros;subst_vars;rfl)))|apply tTT
  ·refine⟨.inr fun e=>?_,?_⟩
   ·have:=(hpi (by omega)).1
    rw[List.map_eq_nil_iff] at e
    rw[e] at this;simp at this
   ·repeat' first|exact h.elim|refine sw_n ?_|refine sw_go 0 kp96 fun K hK=>?_|refine fun (K:KT) (hK:KOk S 0 _ _ _ K)=>?_|refine runL_g ?_|refine sw_retg0 ?_|refine sw_retg ?_|(refine hK.n0 ?_;clear hK K)|refine sw_condg rfl (fun h=>?_) fun h=>?_|refine sw_exit rfl ?_|refine sw_loopEnd ?_|with_reducible refine and_o ?_|((with_reducible refine And.intro ?_ ?_);· first|(intro x hx;subst hx;rfl)|(intro x;refine And.intro ?_ ?_<;>(intros;subst_vars;rfl)))|apply tTT
    exact⟨0+1,(by(refine covers_mk0 rfl rfl ?_ ?_ ?_ ?_<;>simp (disch:=(refine Om.mk ?_;omega)) only[go_sem]<;>(try omega));rw[hsn (by omega)];exact⟨rfl,by omega⟩),by omega,by omega⟩
  ·exact he (by omega)
 | succ i =>
  simp only[go_sem]
  repeat' first|exact h.elim|refine sw_n ?_|refine sw_go 0 kp96 fun K hK=>?_|refine fun (K:KT) (hK:KOk S 0 _ _ _ K)=>?_|refine runL_g ?_|refine sw_retg0 ?_|refine sw_retg ?_|(refine hK.n0 ?_;clear hK K)|refine sw_condg rfl (fun h=>?_) fun h=>?_|refine sw_exit rfl ?_|refine sw_loopEnd ?_|with_reducible refine and_o ?_|((with_reducible refine And.intro ?_ ?_);· first|(intro x hx;subst hx;rfl)|(intro x;refine And.intro ?_ ?_<;>(intros;subst_vars;rfl)))|apply tTT
  ·exact⟨i+1+1,(by(refine covers_mk0 rfl rfl ?_ ?_ ?_ ?_<;>simp (disch:=(refine Om.mk ?_;omega)) only[go_sem]<;>(try omega));rw[hsn (by omega)];exact⟨rfl,by omega⟩),by omega,by omega⟩
  ·exact he (by omega)
def WithoutP (us t:List Int):Prop:=∀j<t.length,t.getD j default∉us
def LineOkP (f:FrontT) (x:LineT):Prop:=(x.fun_∈f.funs∧(x.pats.length:Int)=f.sig.getD x.fun_.toNat default) ∧
 (∀j<x.pats.length,TermOkP f.sig (x.pats.getD j default)∧WithoutP f.funs (x.pats.getD j default))∧(TermOkP f.sig (leftL x)∧LinP (leftL x))∧RuleOkP f.sig (leftL x) x.body
def kp87:List (Nat×List Nat):=[(0,[2,3]),(1,[2,3,25]),(2,[4]),(3,[2,3,5]),(4,[2,3,5,30]),(6,[2,3,5,52]),(7,[4]),(5,[2,3,5]),(8,[2,3,6]),(9,[4])]
attribute [go_sem] kp87 Tryz.results87 Tryz.ntmps87
theorem l26Line_fc (f:FrontT) (x:LineT) (hs:SigOkP f.sig) (hf:InP f.sig.length f.funs):FC S 87 [] [] [] [FrontD f,LineD x] (.bool (tst (LineOkP f x))) [] []:=by
 have hfi:x.fun_∈f.funs→0≤x.fun_∧x.fun_<f.sig.length:=fun h=>by
  have:=(forall_getD (P:=fun y=>0≤y∧y≤(f.sig.length:Int)-1)).1 hf _ h
  omega
 have hs3:=hs.2 x.fun_.toNat
 refine FC.args (args':=[FrontD f,LineD x]) ?_ (by simp only[go_sem])
 refine fcb Tryz.func87 fun B=>?_
 refine sw_bnd_aggg 1 1 fun hb1_1=>?_
 repeat' first|exact h.elim|refine sw_n ?_|refine sw_go 0 kp87 fun K hK=>?_|refine fun (K:KT) (hK:KOk S 0 _ _ _ K)=>?_|refine sw_goD kp87 (by kernel_rfl) fun K hK=>?_|refine runL_g ?_|refine runQ_g ?_|refine sw_retg0 ?_|refine sw_retg ?_|(refine hK.n0 ?_;clear hK K)|refine runG_fk (fun h=>?_) fun h=>?_|refine runQG_fk (fun h=>?_) fun h=>?_|refine sw_condg rfl (fun h=>?_) fun h=>?_|refine hK.skp rfl rfl ?_|refine sw_exit rfl ?_|refine sw_loopEnd ?_|refine hK.c1 rfl rfl rfl (l1Has_fc _ _ _) ?_|(refine hK.fork rfl rfl rfl ?_ ?_<;>intro h<;>try simp (disch:=(refine Om.mk ?_;omega)) only[go_sem] at h)|with_reducible refine and_o ?_|((with_reducible refine And.intro ?_ ?_);· first|(intro x hx;subst hx;rfl)|(intro x;refine And.intro ?_ ?_<;>(intros;subst_vars;rfl)))|apply tTT
 ·rintro⟨⟨h1,_⟩,_⟩;contradiction
 have hfj:=hfi (by assumption)
 have hs4:=hs3 (by omega)
 simp (disch:=(refine Om.mk ?_;omega)) only[go_sem]
 repeat' first|exact h.elim|refine sw_n ?_|refine sw_go 0 kp87 fun K hK=>?_|refine fun (K:KT) (hK:KOk S 0 _ _ _ K)=>?_|refine sw_goD kp87 (by kernel_rfl) fun K hK=>?_|refine runL_g ?_|refine runQ_g ?_|refine sw_retg0 ?_|refine sw_retg ?_|(refine hK.n0 ?_;clear hK K)|refine runG_fk (fun h=>?_) fun h=>?_|refine runQG_fk (fun h=>?_) fun h=>?_|refine sw_condg rfl (fun h=>?_) fun h=>?_|refine hK.skp rfl rfl ?_|refine sw_exit rfl ?_|refine sw_loopEnd ?_|(refine hK.fork rfl rfl rfl ?_ ?_<;>intro h<;>try simp (disch:=(refine Om.mk ?_;omega)) only[go_sem] at h)|with_reducible refine and_o ?_|((with_reducible refine And.intro ?_ ?_);· first|(intro x hx;subst hx;rfl)|(intro x;refine And.intro ?_ ?_<;>(intros;subst_vars;rfl)))|apply tTT
 ·rintro⟨⟨_,h1⟩,_⟩;omega
 refine sw_loopU (ι:=Nat) (fun i=>[(5,.int .i64 i)]) (fun _=>[]) (fun i=>i≤x.pats.length∧(∀j<i,TermOkP f.sig (x.pats.getD j default)∧WithoutP f.funs (x.pats.getD j default))) (fun i=>x.pats.length-i) 0 cvA ⟨by omega,?_⟩ (fun i ⟨hi,hj⟩=>?_)
 rotate_left
 simp only[go_sem]
 repeat' first|exact h.elim|refine sw_n ?_|refine sw_go 0 kp87 fun K hK=>?_|refine fun (K:KT) (hK:KOk S 0 _ _ _ K)=>?_|refine sw_goD kp87 (by kernel_rfl) fun K hK=>?_|refine runL_g ?_|refine runQ_g ?_|refine sw_retg0 ?_|refine sw_retg ?_|(refine hK.n0 ?_;clear hK K)|refine runG_fk (fun h=>?_) fun h=>?_|refine runQG_fk (fun h=>?_) fun h=>?_|refine sw_condg rfl (fun h=>?_) fun h=>?_|refine hK.skp rfl rfl ?_|refine sw_exit rfl ?_|refine sw_loopEnd ?_|refine hK.c1 rfl rfl rfl (specTermOk_fc _ _ _ _) ?_|refine hK.c1 rfl rfl rfl (l26Without_fc _ _ _ _) ?_|(refine hK.fork rfl rfl rfl ?_ ?_<;>intro h<;>try simp (disch:=(refine Om.mk ?_;omega)) only[go_sem] at h)|with_reducible refine and_o ?_|((with_reducible refine And.intro ?_ ?_);· first|(intro x hx;subst hx;rfl)|(intro x;refine And.intro ?_ ?_<;>(intros;subst_vars;rfl)))|apply tTT
 ·rintro⟨_,h2,_⟩;exact absurd (h2 i (by omega)).1 (by assumption)
 ·rintro⟨_,h2,_⟩;exact h (h2 i (by omega)).2
 ·exact⟨i+1,by(refine covers_mk0 rfl rfl ?_ ?_ ?_ ?_<;>simp (disch:=(refine Om.mk ?_;omega)) only[go_sem]<;>(try omega)),⟨by omega,upto_succ hj ⟨by assumption,h⟩⟩,by omega⟩
 ·have ht:∀p∈x.pats,1≤p.length∧p.length≤60:=(forall_getD (P:=fun (p:List Int)=>1≤p.length∧p.length≤60)).1 fun j hj'=>(hj j (by omega)).1.2.1
  repeat' first|exact h.elim|refine sw_n ?_|refine sw_go 0 kp87 fun K hK=>?_|refine fun (K:KT) (hK:KOk S 0 _ _ _ K)=>?_|refine sw_goD kp87 (by kernel_rfl) fun K hK=>?_|refine runL_g ?_|refine runQ_g ?_|refine sw_retg0 ?_|refine sw_retg ?_|(refine hK.n0 ?_;clear hK K)|refine runG_fk (fun h=>?_) fun h=>?_|refine runQG_fk (fun h=>?_) fun h=>?_|refine sw_condg rfl (fun h=>?_) fun h=>?_|refine hK.skp rfl rfl ?_|refine sw_exit rfl ?_|refine sw_loopEnd ?_|refine hK.c1 rfl rfl rfl (l26Left_fc x (by omega) ht) ?_|refine hK.c1 rfl rfl rfl (specLinearIn_fc _ _ _ (leftL x)) ?_|refine hK.c1 rfl rfl rfl (specRuleOk_fc _ _ _ _ (leftL x) x.body) ?_|(refine hK.fork rfl rfl rfl ?_ ?_<;>intro h<;>try simp (disch:=(refine Om.mk ?_;omega)) only[go_sem] at h)|with_reducible refine and_o ?_|((with_reducible refine And.intro ?_ ?_);· first|(intro x hx;subst hx;rfl)|(intro x;refine And.intro ?_ ?_<;>(intros;subst_vars;rfl)))|apply tTT
  ·exact⟨fun h'=>⟨⟨by assumption,by assumption⟩,fun j hj'=>hj j (by omega),h,h'⟩,fun h'=>h'.2.2.2⟩
  ·exact fun h'=>h h'.2.2.1
 ·intro j hj';omega
def FrontOkP (f:FrontT):Prop:=(SigOkP f.sig∧SetP f.funs f.sig.length∧f.lines.length≤8)∧∀j<f.lines.length,LineOkP f (f.lines.getD j default)
def kp45:List (Nat×List Nat):=[(0,[1]),(1,[1,23]),(2,[2]),(3,[1,3]),(4,[1,3,28]),(6,[1,3,38]),(7,[2]),(5,[1,3]),(8,[2])]
attribute [go_sem] kp45 Tryz.results45 Tryz.ntmps45
theorem specFrontOk_fc (f:FrontT):FC S 45 [] [] [] [FrontD f] (.bool (tst (FrontOkP f))) [] []:=by
 refine fcb Tryz.func45 fun B=>?_
 refine sw_bnd_aggg 0 0 fun hb0_0=>?_
 refine sw_bnd_aggg 0 1 fun hb0_1=>?_
 refine sw_bnd_aggg 0 2 fun hb0_2=>?_
 repeat' first|exact h.elim|refine sw_n ?_|refine sw_go 0 kp45 fun K hK=>?_|refine fun (K:KT) (hK:KOk S 0 _ _ _ K)=>?_|refine sw_goD kp45 (by kernel_rfl) fun K hK=>?_|refine runL_g ?_|refine runQ_g ?_|refine sw_retg0 ?_|refine sw_retg ?_|(refine hK.n0 ?_;clear hK K)|refine runG_fk (fun h=>?_) fun h=>?_|refine runQG_fk (fun h=>?_) fun h=>?_|refine sw_condg rfl (fun h=>?_) fun h=>?_|refine hK.skp rfl rfl ?_|refine sw_exit rfl ?_|refine sw_loopEnd ?_|refine hK.c1 rfl rfl rfl (specSigOk_fc _ _) ?_|refine hK.c1 rfl rfl rfl (l23Set_fc _ _ _ ⟨by omega,by omega⟩) ?_|(refine hK.fork rfl rfl rfl ?_ ?_<;>intro h<;>try simp (disch:=(refine Om.mk ?_;omega)) only[go_sem] at h)|with_reducible refine and_o ?_|apply tTT
 ·rintro⟨⟨h1,_⟩,_⟩;contradiction
 ·rintro⟨⟨_,h1,_⟩,_⟩;contradiction
 ·rintro⟨⟨_,_,h1⟩,_⟩;omega
 have hp:SetP f.funs f.sig.length:=by assumption
 have hsg:SigOkP f.sig:=by assumption
 have hin:InP f.sig.length f.funs:=fun j hj=>(hp j hj).1
 refine sw_loopU (ι:=Nat) (fun i=>[(3,.int .i64 i)]) (fun _=>[]) (fun i=>i≤f.lines.length∧(∀j<i,LineOkP f (f.lines.getD j default))) (fun i=>f.lines.length-i) 0 cvA ⟨by omega,?_⟩ (fun i ⟨hi,hj⟩=>?_)
 rotate_left
 simp only[go_sem]
 repeat' first|exact h.elim|refine sw_n ?_|refine sw_go 0 kp45 fun K hK=>?_|refine fun (K:KT) (hK:KOk S 0 _ _ _ K)=>?_|refine sw_goD kp45 (by kernel_rfl) fun K hK=>?_|refine runL_g ?_|refine runQ_g ?_|refine sw_retg0 ?_|refine sw_retg ?_|(refine hK.n0 ?_;clear hK K)|refine runG_fk (fun h=>?_) fun h=>?_|refine runQG_fk (fun h=>?_) fun h=>?_|refine sw_condg rfl (fun h=>?_) fun h=>?_|refine hK.skp rfl rfl ?_|refine sw_exit rfl ?_|refine sw_loopEnd ?_|refine hK.c1 rfl rfl rfl (l26Line_fc f (f.lines.getD i default) hsg hin) ?_|(refine hK.fork rfl rfl rfl ?_ ?_<;>intro h<;>try simp (disch:=(refine Om.mk ?_;omega)) only[go_sem] at h)|with_reducible refine and_o ?_|apply tTT
 ·rintro⟨_,h2⟩;exact h (h2 i (by omega))
 ·exact⟨i+1,by(refine covers_mk0 rfl rfl ?_ ?_ ?_ ?_<;>simp (disch:=(refine Om.mk ?_;omega)) only[go_sem]<;>(try omega)),⟨by omega,upto_succ hj h⟩,by omega⟩
 ·exact⟨⟨hsg,hp,by omega⟩,fun j hj'=>hj j (by omega)⟩
 ·intro j hj';omega
end
section
attribute [local irreducible] SW runL runQ runG runQG FC Ret1
def LeftC (x:LineT):Prop:=(∀p∈x.pats,1≤p.length∧p.length≤60)→x.pats.length≤3→FC S 142 [] [] [] [LineD x] (.sl .any ((leftL x).map (.int .i64))) [] []
def kp159:List (Nat×List Nat):=[(0,[0,1]),(1,[3])]
attribute [go_sem] kp159 Tryz.results159 Tryz.ntmps159
theorem calls1_fc (n:Int) (f:FrontT):FC S 159 [(2,[.sl .any (f.sig.map (.int .i64)),.sl .any (f.funs.map (.int .i64)),.sl .any (f.lines.map LineD)])] [] [] ([.int .i64 n]++[.box 2 0]) (.bool (tst (n∈f.funs))) [] []:=by
 refine fcb Tryz.func159 fun B=>?_
 repeat' first|refine sw_n ?_|refine sw_go 100 kp159 fun K hK=>?_|refine fun (K:KT) (hK:KOk S 100 _ _ _ K)=>?_|refine runL_g ?_|refine sw_retg0 ?_|refine sw_retg ?_|(refine hK.n0 ?_;clear hK K)|refine sw_loopEnd ?_|refine hK.c1 rfl rfl rfl (contains_fc _ _ _) ?_|with_reducible refine and_o ?_|apply tTT
def kp141:List (Nat×List Nat):=[(0,[1,2]),(1,[4])]
attribute [go_sem] kp141 Tryz.results141 Tryz.ntmps141
theorem calls_fc (tk:Tk) (f:FrontT) (t:List Int):FC S 141 [] [] [] [FrontD f,.sl tk (t.map (.int .i64))] (.bool (tst (¬WithoutP f.funs t))) [] []:=by
 refine fcb Tryz.func141 fun B=>?_
 repeat' first|refine sw_n ?_|refine sw_go 0 kp141 fun K hK=>?_|refine fun (K:KT) (hK:KOk S 0 _ _ _ K)=>?_|refine runL_g ?_|refine sw_retg0 ?_|refine sw_retg ?_|(refine hK.n0 ?_;clear hK K)|refine sw_loopEnd ?_|refine hK.cR rfl rfl rfl (containsFuncInt64_fc _ _ (fun x=>x∈f.funs) _ _ [(2,[.sl .any (f.sig.map (.int .i64)),.sl .any (f.funs.map (.int .i64)),.sl .any (f.lines.map LineD)])] (by simp[Lg.look]) (fun x _=>calls1_fc x f)) ?_|with_reducible refine and_o ?_|apply tTT
 rw[show WithoutP f.funs t↔∀x∈t,x∉f.funs from forall_getD (P:=fun x=>x∉f.funs)]
 simp
def kp101:List (Nat×List Nat):=[(0,[2,3]),(1,[2,3,25]),(2,[4]),(3,[2,3,27,28,29]),(4,[2,3,27,28,29,30]),(5,[2,3,6,27,28,29]),(6,[2,3,27,28,29,42]),(7,[4]),(8,[2,3,27,28,29]),(9,[4])]
attribute [go_sem] kp101 Tryz.results101 Tryz.ntmps101
theorem lineOk_fc (f:FrontT) (x:LineT) (hs:SigOkP f.sig) (hf:InP f.sig.length f.funs) (hleft:LeftC x):FC S 101 [] [] [] [FrontD f,LineD x] (.bool (tst (LineOkP f x))) [] []:=by
 have hfi:x.fun_∈f.funs→0≤x.fun_∧x.fun_<f.sig.length:=fun h=>by
  have:=(forall_getD (P:=fun y=>0≤y∧y≤(f.sig.length:Int)-1)).1 hf _ h
  omega
 have hs3:=hs.2 x.fun_.toNat
 refine FC.args (args':=[FrontD f,LineD x]) ?_ (by simp only[go_sem])
 refine fcb Tryz.func101 fun B=>?_
 refine sw_bnd_aggg 1 1 fun hb1_1=>?_
 repeat' first|exact h.elim|refine sw_n ?_|refine sw_go 0 kp101 fun K hK=>?_|refine fun (K:KT) (hK:KOk S 0 _ _ _ K)=>?_|refine sw_goD kp101 (by kernel_rfl) fun K hK=>?_|refine runL_g ?_|refine runQ_g ?_|refine sw_retg0 ?_|refine sw_retg ?_|(refine hK.n0 ?_;clear hK K)|refine runG_fk (fun h=>?_) fun h=>?_|refine runQG_fk (fun h=>?_) fun h=>?_|refine sw_condg rfl (fun h=>?_) fun h=>?_|refine hK.skp rfl rfl ?_|refine sw_exit rfl ?_|refine sw_loopEnd ?_|refine hK.c1 rfl rfl rfl (contains_fc _ _ _) ?_|(refine hK.fork rfl rfl rfl ?_ ?_<;>intro h<;>try simp (disch:=(refine Om.mk ?_;omega)) only[go_sem] at h)|with_reducible refine and_o ?_|((with_reducible refine And.intro ?_ ?_);· first|(intro x hx;subst hx;rfl)|(intro x;refine And.intro ?_ ?_<;>(intros;subst_vars;rfl)))|apply tTT
 ·rintro⟨⟨h1,_⟩,_⟩;contradiction
 have hfj:=hfi (by assumption)
 have hs4:=hs3 (by omega)
 simp (disch:=(refine Om.mk ?_;omega)) only[go_sem]
 repeat' first|exact h.elim|refine sw_n ?_|refine sw_go 0 kp101 fun K hK=>?_|refine fun (K:KT) (hK:KOk S 0 _ _ _ K)=>?_|refine sw_goD kp101 (by kernel_rfl) fun K hK=>?_|refine runL_g ?_|refine runQ_g ?_|refine sw_retg0 ?_|refine sw_retg ?_|(refine hK.n0 ?_;clear hK K)|refine runG_fk (fun h=>?_) fun h=>?_|refine runQG_fk (fun h=>?_) fun h=>?_|refine sw_condg rfl (fun h=>?_) fun h=>?_|refine hK.skp rfl rfl ?_|refine sw_exit rfl ?_|refine sw_loopEnd ?_|(refine hK.fork rfl rfl rfl ?_ ?_<;>intro h<;>try simp (disch:=(refine Om.mk ?_;omega)) only[go_sem] at h)|with_reducible refine and_o ?_|((with_reducible refine And.intro ?_ ?_);· first|(intro x hx;subst hx;rfl)|(intro x;refine And.intro ?_ ?_<;>(intros;subst_vars;rfl)))|apply tTT
 ·rintro⟨⟨_,h1⟩,_⟩;omega
 refine sw_loopU (ι:=Nat) (fun i=>[(29,.int .i64 i)]) (fun _=>[]) (fun i=>i≤x.pats.length∧(∀j<i,TermOkP f.sig (x.pats.getD j default)∧WithoutP f.funs (x.pats.getD j default))) (fun i=>x.pats.length-i) 0 cvA ⟨by omega,?_⟩ (fun i ⟨hi,hj⟩=>?_)
 rotate_left
 simp only[go_sem]
 repeat' first|exact h.elim|refine sw_n ?_|refine sw_go 0 kp101 fun K hK=>?_|refine fun (K:KT) (hK:KOk S 0 _ _ _ K)=>?_|refine sw_goD kp101 (by kernel_rfl) fun K hK=>?_|refine runL_g ?_|refine runQ_g ?_|refine sw_retg0 ?_|refine sw_retg ?_|(refine hK.n0 ?_;clear hK K)|refine runG_fk (fun h=>?_) fun h=>?_|refine runQG_fk (fun h=>?_) fun h=>?_|refine sw_condg rfl (fun h=>?_) fun h=>?_|refine hK.skp rfl rfl ?_|refine sw_exit rfl ?_|refine sw_loopEnd ?_|refine hK.c1 rfl rfl rfl (implTermOk_fc _ _ _ _) ?_|refine hK.c1 rfl rfl rfl (calls_fc _ f (x.pats.getD i default)) ?_|(refine hK.fork rfl rfl rfl ?_ ?_<;>intro h<;>try simp (disch:=(refine Om.mk ?_;omega)) only[go_sem] at h)|with_reducible refine and_o ?_|((with_reducible refine And.intro ?_ ?_);· first|(intro x hx;subst hx;rfl)|(intro x;refine And.intro ?_ ?_<;>(intros;subst_vars;rfl)))|apply tTT
 ·rintro⟨_,h2,_⟩;exact absurd (h2 i (by omega)).1 (by assumption)
 ·rintro⟨_,h2,_⟩;exact h (h2 i (by omega)).2
 ·exact⟨i+1,by(refine covers_mk0 rfl rfl ?_ ?_ ?_ ?_<;>simp (disch:=(refine Om.mk ?_;omega)) only[go_sem]<;>(try omega)),⟨by omega,upto_succ hj ⟨by assumption,Classical.not_not.1 h⟩⟩,by omega⟩
 ·have ht:∀p∈x.pats,1≤p.length∧p.length≤60:=(forall_getD (P:=fun (p:List Int)=>1≤p.length∧p.length≤60)).1 fun j hj'=>(hj j (by omega)).1.2.1
  repeat' first|exact h.elim|refine sw_n ?_|refine sw_go 0 kp101 fun K hK=>?_|refine fun (K:KT) (hK:KOk S 0 _ _ _ K)=>?_|refine sw_goD kp101 (by kernel_rfl) fun K hK=>?_|refine runL_g ?_|refine runQ_g ?_|refine sw_retg0 ?_|refine sw_retg ?_|(refine hK.n0 ?_;clear hK K)|refine runG_fk (fun h=>?_) fun h=>?_|refine runQG_fk (fun h=>?_) fun h=>?_|refine sw_condg rfl (fun h=>?_) fun h=>?_|refine hK.skp rfl rfl ?_|refine sw_exit rfl ?_|refine sw_loopEnd ?_|refine hK.c1 rfl rfl rfl (hleft ht (by omega)) ?_|refine hK.c1 rfl rfl rfl (linear_fc _ (leftL x)) ?_|refine hK.c1 rfl rfl rfl (implRuleOk_fc _ _ _ _ (leftL x) x.body) ?_|(refine hK.fork rfl rfl rfl ?_ ?_<;>intro h<;>try simp (disch:=(refine Om.mk ?_;omega)) only[go_sem] at h)|with_reducible refine and_o ?_|((with_reducible refine And.intro ?_ ?_);· first|(intro x hx;subst hx;rfl)|(intro x;refine And.intro ?_ ?_<;>(intros;subst_vars;rfl)))|apply tTT
  ·exact⟨fun h'=>⟨⟨by assumption,by assumption⟩,fun j hj'=>hj j (by omega),⟨h.1.1,h'⟩,h⟩,fun h'=>h'.2.2.1.2⟩
  ·exact fun h'=>h h'.2.2.2
 ·intro j hj';omega
def kp100:List (Nat×List Nat):=[(0,[1,2]),(1,[3])]
attribute [go_sem] kp100 Tryz.results100 Tryz.ntmps100
theorem frontOk1_fc (f:FrontT) (x:LineT) (hs:SigOkP f.sig) (hf:InP f.sig.length f.funs) (hleft:LeftC x):FC S 100 [(1,[.sl .any (f.sig.map (.int .i64)),.sl .any (f.funs.map (.int .i64)),.sl .any (f.lines.map LineD)])] [] [] ([LineD x]++[.box 1 0]) (.bool (tst (¬LineOkP f x))) [] []:=by
 refine fcb Tryz.func100 fun B=>?_
 repeat' first|refine sw_n ?_|refine sw_go 100 kp100 fun K hK=>?_|refine fun (K:KT) (hK:KOk S 100 _ _ _ K)=>?_|refine runL_g ?_|refine sw_retg0 ?_|refine sw_retg ?_|(refine hK.n0 ?_;clear hK K)|refine sw_loopEnd ?_|refine hK.c1 rfl rfl rfl (lineOk_fc f x hs hf hleft) ?_|with_reducible refine and_o ?_|apply tTT
 exact Classical.not_not.symm
def kp51:List (Nat×List Nat):=[(0,[1]),(1,[1,14]),(2,[2]),(3,[1,16,17,18]),(4,[1,16,17,18,19]),(5,[1,3,4,16,17,18]),(6,[1,16,17,18,46]),(7,[2]),(8,[1,16,17,18]),(9,[2])]
attribute [go_sem] kp51 Tryz.results51 Tryz.ntmps51
theorem implFrontOk_fc (f:FrontT) (hleft:∀x,LeftC x):FC S 51 [] [] [] [FrontD f] (.bool (tst (FrontOkP f))) [] []:=by
 refine fcb Tryz.func51 fun B=>?_
 refine sw_bnd_aggg 0 0 fun hb0_0=>?_
 refine sw_bnd_aggg 0 1 fun hb0_1=>?_
 refine sw_bnd_aggg 0 2 fun hb0_2=>?_
 repeat' first|exact h.elim|refine sw_n ?_|refine sw_go 0 kp51 fun K hK=>?_|refine fun (K:KT) (hK:KOk S 0 _ _ _ K)=>?_|refine runL_g ?_|refine sw_retg0 ?_|refine sw_retg ?_|(refine hK.n0 ?_;clear hK K)|refine runG_fk (fun h=>?_) fun h=>?_|refine sw_condg rfl (fun h=>?_) fun h=>?_|refine hK.skp rfl rfl ?_|refine sw_exit rfl ?_|refine sw_loopEnd ?_|refine hK.c1 rfl rfl rfl (implSigOk_fc _ _) ?_|(refine hK.fork rfl rfl rfl ?_ ?_<;>intro h<;>try simp (disch:=(refine Om.mk ?_;omega)) only[go_sem] at h)|with_reducible refine and_o ?_|apply tTT
 ·rintro⟨⟨h1,_⟩,_⟩;contradiction
 ·rintro⟨⟨_,_,h1⟩,_⟩;omega
 have hsg:SigOkP f.sig:=by assumption
 refine sw_loopU (ι:=Nat) (fun i=>[(18,.int .i64 i)]) (fun _=>[]) (fun i=>i≤f.funs.length∧(∀j<i,SetAt f.funs f.sig.length j)) (fun i=>f.funs.length-i) 0 cvA ⟨by omega,?_⟩ (fun i ⟨hi,hj⟩=>?_)
 rotate_left
 simp only[go_sem]
 repeat' first|exact h.elim|refine sw_n ?_|refine sw_go 0 kp51 fun K hK=>?_|refine fun (K:KT) (hK:KOk S 0 _ _ _ K)=>?_|refine runL_g ?_|refine sw_retg0 ?_|refine sw_retg ?_|(refine hK.n0 ?_;clear hK K)|refine runG_fk (fun h=>?_) fun h=>?_|refine sw_condg rfl (fun h=>?_) fun h=>?_|refine hK.skp rfl rfl ?_|refine sw_exit rfl ?_|refine sw_loopEnd ?_|(refine hK.fork rfl rfl rfl ?_ ?_<;>intro h<;>try simp (disch:=(refine Om.mk ?_;omega)) only[go_sem] at h)|with_reducible refine and_o ?_|apply tTT
 ·rintro⟨⟨_,h1,_⟩,_⟩;have:=(h1 i (by omega)).1;omega
 ·rintro⟨⟨_,h1,_⟩,_⟩;have:=(h1 i (by omega)).1;omega
 ·rintro⟨⟨_,h1,_⟩,_⟩;have:=(h1 i (by omega)).2 (by omega);omega
 ·exact⟨i+1,by(refine covers_mk0 rfl rfl ?_ ?_ ?_ ?_<;>simp (disch:=(refine Om.mk ?_;omega)) only[go_sem]<;>(try omega)),⟨by omega,upto_succ hj ⟨by omega,fun _=>h⟩⟩,by omega⟩
 ·exact⟨i+1,by(refine covers_mk0 rfl rfl ?_ ?_ ?_ ?_<;>simp (disch:=(refine Om.mk ?_;omega)) only[go_sem]<;>(try omega)),⟨by omega,upto_succ hj ⟨by omega,fun _=>by omega⟩⟩,by omega⟩
 ·have hp:SetP f.funs f.sig.length:=fun j hj'=>hj j (by omega)
  have hin:InP f.sig.length f.funs:=fun j hj'=>(hp j hj').1
  repeat' first|exact h.elim|refine sw_n ?_|refine sw_go 0 kp51 fun K hK=>?_|refine fun (K:KT) (hK:KOk S 0 _ _ _ K)=>?_|refine runL_g ?_|refine sw_retg0 ?_|refine sw_retg ?_|(refine hK.n0 ?_;clear hK K)|refine runG_fk (fun h=>?_) fun h=>?_|refine sw_condg rfl (fun h=>?_) fun h=>?_|refine hK.skp rfl rfl ?_|refine sw_exit rfl ?_|refine sw_loopEnd ?_|refine hK.cR rfl rfl rfl (containsFuncLine_fc _ f.lines (fun x=>¬LineOkP f x) _ _ [(1,[.sl .any (f.sig.map (.int .i64)),.sl .any (f.funs.map (.int .i64)),.sl .any (f.lines.map LineD)])] (by simp[Lg.look]) (fun x _=>frontOk1_fc f x hsg hin (hleft x))) ?_|(refine hK.fork rfl rfl rfl ?_ ?_<;>intro h<;>try simp (disch:=(refine Om.mk ?_;omega)) only[go_sem] at h)|with_reducible refine and_o ?_|apply tTT
  have key:FrontOkP f↔∀x∈f.lines,LineOkP f x:=by
   rw[←forall_getD (P:=fun x=>LineOkP f x)]
   exact⟨fun h'=>h'.2,fun h'=>⟨⟨hsg,hp,by omega⟩,h'⟩⟩
  rw[key]
  simp
 ·intro j hj';omega
end
section
attribute [local irreducible] SW runL runQ runG runQG FC LopsW
def kp142:List (Nat×List Nat):=[(0,[1]),(1,[2])]
attribute [go_sem] kp142 Tryz.results142 Tryz.ntmps142
theorem left_fc (p:List Nat) (hp:p≠[]) (x:LineT) (ht:∀q∈x.pats,1≤q.length∧q.length≤60) (h3:x.pats.length≤1000):FC S 142 [] [] [] [LineD x] (.sl (.lab p) ((leftL x).map (.int .i64))) [] []:=by
 have hb:=flat_bound x.pats fun q hq=>(ht q hq).2
 have e:[[x.fun_],x.pats.flatten].flatten=leftL x:=by simp[leftL]
 have hl:[[x.fun_],x.pats.flatten].flatten.length≤100000:=by rw[e];simp only[leftL,List.length_cons];omega
 rw[←e]
 refine fcb Tryz.func142 fun B=>?_
 repeat' first|refine sw_n ?_|refine sw_go 0 kp142 fun K hK=>?_|refine fun (K:KT) (hK:KOk S 0 _ _ _ K)=>?_|refine sw_goD kp142 (by kernel_rfl) fun K hK=>?_|refine runL_g ?_|refine runQ_g ?_|refine sw_retg0 ?_|refine sw_retg ?_|(refine hK.n0 ?_;clear hK K)|refine sw_loopEnd ?_|refine hK.c1 rfl rfl rfl (concatQ_fc _ x.pats (by omega) (by omega)) ?_|refine hK.c1 rfl rfl rfl (concat_fc p hp _ [[x.fun_],x.pats.flatten] (by simp) hl) ?_|with_reducible refine and_o ?_|((with_reducible refine And.intro ?_ ?_);· first|(intro x hx;subst hx;rfl)|(intro x;refine And.intro ?_ ?_<;>(intros;subst_vars;rfl)))|apply tTT
theorem leftC (x:LineT):LeftC x:=fun ht h3=>(left_fc [0] (by simp) x ht (by omega)).weak .any (by simp) (by simp)
end
section
attribute [local irreducible] SW runL runQ runG runQG FC
theorem len_flat:∀(xs:List (List Int)),(∀q∈xs,1≤q.length)→xs.length≤xs.flatten.length
 | [],_=>Nat.le_refl _
 | x::xs,h=>by
  have h1:=h x List.mem_cons_self
  have h2:=len_flat xs fun q hq=>h q (List.mem_cons_of_mem _ hq)
  simp only[List.flatten_cons,List.length_append,List.length_cons]
  omega
theorem front_len {f:FrontT} (h:FrontOkP f) (j:Nat) (hj:j<f.lines.length):(∀q∈(f.lines.getD j default).pats,1≤q.length∧q.length≤60)∧(f.lines.getD j default).pats.length≤60∧(leftL (f.lines.getD j default)).length≤60∧(1≤(f.lines.getD j default).body.length∧(f.lines.getD j default).body.length≤60):=by
 obtain⟨_,h1,⟨h2,_⟩,h3⟩:=h.2 j hj
 have ht:∀q∈(f.lines.getD j default).pats,1≤q.length∧q.length≤60:=(forall_getD (P:=fun (q:List Int)=>1≤q.length∧q.length≤60)).1 fun k hk=>(h1 k hk).1.2.1
 have hf:=len_flat _ fun q hq=>(ht q hq).1
 have hl:=h2.2.1.2
 refine⟨ht,?_,hl,h3.1.2.1.2.1⟩
 simp only[leftL,List.length_cons] at hl
 omega
end
section
def lefsTo (f:FrontT) (i:Nat):List (List Int):=(f.lines.take i).map leftL
theorem lefsTo_s (f:FrontT) {i:Nat} (h:i<f.lines.length):lefsTo f (i+1)=lefsTo f i++[leftL (f.lines.getD i default)]:=by
 unfold lefsTo
 rw[List.take_succ_eq_append_getElem h,List.map_append,List.getD_eq_getElem?_getD,List.getElem?_eq_getElem h];rfl
theorem lefsTo_len (f:FrontT) (i:Nat):(lefsTo f i).length≤i:=by simp[lefsTo];omega
def lefsL (f:FrontT):List (List Int):=f.lines.map leftL
theorem lefsTo_all (f:FrontT) (i:Nat) (h:f.lines.length≤i):lefsTo f i=lefsL f:=by unfold lefsTo lefsL;rw[List.take_of_length_le h]
theorem lefsL_len (f:FrontT):(lefsL f).length=f.lines.length:=List.length_map _
theorem lefsL_get (f:FrontT) {i:Nat} (h:i<f.lines.length):(lefsL f).getD i default=leftL (f.lines.getD i default):=by simp[lefsL,List.getD_eq_getElem?_getD,h]
theorem lefs_ok {f:FrontT} (h:FrontOkP f) {j:Nat} (hj:j<f.lines.length):TermOkP f.sig (leftL (f.lines.getD j default))∧LinP (leftL (f.lines.getD j default)):=(h.2 j hj).2.2.1
noncomputable def takI (LF:List FormT) (f:Int) (args:List (List Int)):Int:=fidx (fun x=>FitF x f args) LF
def setB (lv:List Bool) (k:Int):List Bool:=if 0≤k then lv.set k.toNat true else lv
theorem setB_len (lv:List Bool) (k:Int):(setB lv k).length=lv.length:=by unfold setB;split<;>simp
noncomputable def liveU (LF:List FormT) (sets:List (List Int)):List (Nat×List Int)→List Bool→List Bool
 | [],lv=>lv
 | e::es,lv=>liveU LF sets es (setB lv (takI LF e.1 (lstS sets e.2)))
theorem liveU_app (LF:List FormT) (sets:List (List Int)):∀(A B:List (Nat×List Int)) (lv:List Bool),liveU LF sets (A++B) lv=liveU LF sets B (liveU LF sets A lv)
 | [],B,lv=>rfl
 | e::es,B,lv=>by rw[List.cons_append,liveU,liveU,liveU_app LF sets es B]
theorem liveU_len (LF:List FormT) (sets:List (List Int)):∀(A:List (Nat×List Int)) (lv:List Bool),(liveU LF sets A lv).length=lv.length
 | [],lv=>rfl
 | e::es,lv=>by rw[liveU,liveU_len LF sets es,setB_len]
def deadL (lv:List Bool):Nat→List Int
 | 0=>[]
 | i+1=>deadL lv i++(if lv.getD i default=true then [] else [(i:Int)])
theorem deadL_len (lv:List Bool):∀i,(deadL lv i).length≤i
 | 0=>Nat.le_refl _
 | i+1=>by
  have:=deadL_len lv i
  rw[deadL,List.length_append]
  split<;>simp only[List.length_nil,List.length_singleton]<;>omega
theorem deadL_y {lv:List Bool} {i:Nat} (h:lv.getD i default=true):deadL lv (i+1)=deadL lv i:=by rw[deadL,if_pos h,List.append_nil]
theorem deadL_n {lv:List Bool} {i:Nat} (h:lv.getD i default=false):deadL lv (i+1)=deadL lv i++[(i:Int)]:=by rw[deadL,if_neg (by rw[h];simp)]
noncomputable def shpV (f:FrontT):List (List Int):=srtM (shpA f.sig (lefsL f) (lefsL f).length)
noncomputable def setV (f:FrontT):List (List Int)×Bool:=iterZ (imgH f.sig (shpV f) []) (evY f.sig (symsK f.sig f.funs)) 18 []
def funN (us:List Int):List Nat:=us.map Int.toNat
open Classical in
noncomputable def deadR (f:FrontT):List Int:=if FrontOkP f∧(setV f).2=true then deadL (liveU ((lefsL f).map (formR f.sig (shpV f))) (setV f).1 (evY f.sig (funN f.funs) (setV f).1.length) (List.replicate f.lines.length false)) f.lines.length else []
theorem deadR_no1 {f:FrontT} (h:¬FrontOkP f):deadR f=[]:=if_neg fun h'=>h h'.1
theorem deadR_no2 {f:FrontT} (h:(setV f).2=false):deadR f=[]:=if_neg fun h'=>by rw[h] at h';cases h'.2
theorem deadR_yes {f:FrontT} (h:FrontOkP f) {sets:List (List Int)} (h2:setV f=(sets,true)):deadR f=deadL (liveU ((lefsL f).map (formR f.sig (shpV f))) sets (evY f.sig (funN f.funs) sets.length) (List.replicate f.lines.length false)) f.lines.length:=by
 unfold deadR
 rw[h2]
 exact if_pos ⟨h,rfl⟩
theorem shpV_ok {f:FrontT} (h:FrontOkP f):ShpOk f.sig (shpV f) []∧(shpV f).length≤1000∧∀t∈lefsL f,TermOkP f.sig t∧FullP f.sig (shpV f) t:=by
 have hT:∀i<(lefsL f).length,TermOkP f.sig ((lefsL f).getD i default):=fun i hi=>by
  rw[lefsL_len] at hi
  rw[lefsL_get f hi]
  exact(lefs_ok h hi).1
 have h8:=h.1.2.2
 have hm:∀t,t∈shpV f↔t∈shpA f.sig (lefsL f) (lefsL f).length:=fun t=>by unfold shpV;rw[mem_srtM]
 have hl:=shpA_len (rs:=f.sig) (ls:=lefsL f) (fun i hi=>(hT i hi).2.1.2) _ (Nat.le_refl _)
 have hn:(shpV f).length≤1000:=by
  unfold shpV
  rw[srtM_len]
  rw[lefsL_len] at hl ⊢
  omega
 refine⟨⟨h.1.1,hn,by simp,fun t ht=>?_,fun t ht=>absurd ht List.not_mem_nil⟩,hn,fun t ht=>?_⟩
 ·have:=full_shape hT hm t ht
  exact⟨this.1,this.2.1⟩
 ·obtain⟨i,hi,rfl⟩:=List.getElem_of_mem ht
  have e:(lefsL f).getD i default=(lefsL f)[i]:=by rw[List.getD_eq_getElem?_getD,List.getElem?_eq_getElem hi];rfl
  have h3:=full_left hT hm hi
  rw[e] at h3
  exact⟨by rw[←e];exact hT i hi,h3⟩
theorem symsK_ok {rs us:List Int}:(∀f∈symsK rs us,f<rs.length)∧(symsK rs us).length≤rs.length:=by
 unfold symsK
 refine⟨fun f hf=>List.mem_range.1 (List.mem_filter.1 hf).1,?_⟩
 have:=List.length_filter_le (fun (f:Nat)=>decide ((f:Int)∉us)) (List.range rs.length)
 rwa [List.length_range] at this
def symsT (us:List Int) (n:Nat):List Nat:=(List.range n).filter fun (f:Nat)=>decide ((f:Int)∉us)
theorem symsT_y {us:List Int} {n:Nat} (h:(n:Int)∉us):symsT us (n+1)=symsT us n++[n]:=by
 unfold symsT
 rw[List.range_succ,List.filter_append]
 simp[h]
theorem symsT_n {us:List Int} {n:Nat} (h:(n:Int)∈us):symsT us (n+1)=symsT us n:=by
 unfold symsT
 rw[List.range_succ,List.filter_append]
 simp[h]
theorem symsT_len (us:List Int) (n:Nat):(symsT us n).length≤n:=by
 have:=List.length_filter_le (fun (f:Nat)=>decide ((f:Int)∉us)) (List.range n)
 rw[List.length_range] at this
 exact this
def val8:List Int→Nat
 | []=>0
 | x::r=>x.toNat*8^r.length+val8 r
def Oct (b:List Int):Prop:=b.length≤60∧∀x∈b,0≤x∧x<8
theorem val8_lt:∀(b:List Int),(∀x∈b,0≤x∧x<8)→val8 b<8^b.length
 | [],_=>by simp[val8]
 | x::r,h=>by
  have ih:=val8_lt r fun y hy=>h y (List.mem_cons_of_mem _ hy)
  have hx:=h x List.mem_cons_self
  rw[val8,List.length_cons,Nat.pow_succ]
  have:x.toNat*8^r.length≤7*8^r.length:=Nat.mul_le_mul (by omega) (Nat.le_refl _)
  omega
theorem val8_lex:∀(a b:List Int),a.length=b.length→(∀x∈a,0≤x∧x<8)→(∀x∈b,0≤x∧x<8)→lexB a b=true→val8 a<val8 b
 | [],[],_,_,_,h=>by simp[lexB] at h
 | x::r,[],hl,_,_,_=>by simp at hl
 | [],y::s,hl,_,_,_=>by simp at hl
 | x::r,y::s,hl,ha,hb,h=>by
  have hrs:r.length=s.length:=by simpa using hl
  have hx:=ha x List.mem_cons_self
  have hy:=hb y List.mem_cons_self
  have h1:=fun z hz=>ha z (List.mem_cons_of_mem x hz)
  have h2:=fun z hz=>hb z (List.mem_cons_of_mem y hz)
  rw[val8,val8,hrs]
  simp only[lexB] at h
  split at h
  ·rename_i e
   subst e
   have:=val8_lex r s hrs h1 h2 h
   omega
  ·have hlt:=of_decide_eq_true h
   have hr:=val8_lt r h1
   rw[hrs] at hr
   have:(x.toNat+1)*8^s.length≤y.toNat*8^s.length:=Nat.mul_le_mul (by omega) (Nat.le_refl _)
   rw[Nat.add_mul,Nat.one_mul] at this
   omega
def rank8 (b:List Int):Nat:=if b=[] then 61*8^60 else b.length*8^60+val8 b
theorem oct_val {b:List Int} (h:Oct b):val8 b<8^60:=Nat.lt_of_lt_of_le (val8_lt b h.2) (Nat.pow_le_pow_right (by decide) h.1)
theorem rank8_lt {t b:List Int} (ht:Oct t) (h0:t≠[]) (hb:b=[]∨(Oct b∧lessT t b=true)):rank8 t<rank8 b:=by
 have h1:=oct_val ht
 have hl:=ht.1
 have hp:=List.length_pos_iff.2 h0
 unfold rank8
 rw[if_neg h0]
 rcases hb with rfl|⟨hb,hlt⟩
 ·rw[if_pos rfl]
  have:t.length*8^60≤60*8^60:=Nat.mul_le_mul hl (Nat.le_refl _)
  have h61:61*8^60=60*8^60+8^60:=by rw[←Nat.succ_mul]
  generalize 8^60=P at *
  omega
 ·have hne:b≠[]:=fun e=>by
   subst e
   unfold lessT at hlt
   rw[if_neg (by simp only[List.length_nil];omega)] at hlt
   have:=of_decide_eq_true hlt
   simp at this
  rw[if_neg hne]
  unfold lessT at hlt
  split at hlt
  ·rename_i e
   have:=val8_lex t b e ht.2 hb.2 hlt
   rw[e]
   omega
  ·have hlt:=of_decide_eq_true hlt
   have:(t.length+1)*8^60≤b.length*8^60:=Nat.mul_le_mul hlt (Nat.le_refl _)
   rw[Nat.add_mul,Nat.one_mul] at this
   generalize 8^60=P at *
   omega
def sum8 (B:List (List Int)):Nat:=(B.map rank8).sum
theorem sum8_set:∀(B:List (List Int)) (k:Nat) (t:List Int),k<B.length→rank8 t<rank8 (B.getD k default)→sum8 (B.set k t)<sum8 B
 | [],k,t,h,_=>by simp at h
 | b::B,0,t,_,h=>by
  simp only[sum8,List.set_cons_zero,List.map_cons,List.sum_cons,List.getD_cons_zero] at *
  omega
 | b::B,k+1,t,h,h2=>by
  have ih:=sum8_set B k t (by simpa using h) (by simpa using h2)
  simp only[sum8,List.set_cons_succ,List.map_cons,List.sum_cons] at *
  omega
def bldT (f:Int) (B:List (List Int)) (l:List Int) (i:Nat):List Int:=f::((l.take i).map fun q=>B.getD q.toNat default).flatten
theorem bldT_s {f:Int} {B:List (List Int)} {l:List Int} {i:Nat} (h:i<l.length):bldT f B l (i+1)=bldT f B l i++B.getD (l.getD i default).toNat default:=by
 unfold bldT
 rw[List.take_succ_eq_append_getElem h,List.map_append,List.flatten_append,List.cons_append,List.getD_eq_getElem?_getD (l:=l),List.getElem?_eq_getElem h]
 simp
theorem bldT_len {f:Int} {B:List (List Int)} {l:List Int} (h:∀b∈B,b.length≤60):∀i≤l.length,(bldT f B l i).length≤1+60*i
 | 0,_=>by simp[bldT]
 | i+1,hi=>by
  have ih:=bldT_len (f:=f) (B:=B) (l:=l) h i (by omega)
  have hb:(B.getD (l.getD i default).toNat default).length≤60:=by
   rcases Nat.lt_or_ge (l.getD i default).toNat B.length with h1|h1
   ·exact h _ (getD_mem B _ h1)
   ·rw[List.getD_eq_getElem?_getD,List.getElem?_eq_none h1];exact Nat.zero_le _
  rw[bldT_s (by omega),List.length_append]
  omega
theorem bldT_oct {f:Int} {B:List (List Int)} {l:List Int} (hf:0≤f∧f<8) (h:∀b∈B,∀x∈b,0≤x∧x<8):∀i≤l.length,∀x∈bldT f B l i,0≤x∧x<8
 | 0,_,x,hx=>by
  have:x=f:=by simpa[bldT] using hx
  rw[this];exact hf
 | i+1,hi,x,hx=>by
  rw[bldT_s (by omega)] at hx
  rcases List.mem_append.1 hx with hx|hx
  ·exact bldT_oct hf h i (by omega) x hx
  ·rcases Nat.lt_or_ge (l.getD i default).toNat B.length with h1|h1
   ·exact h _ (getD_mem B _ h1) x hx
   ·rw[List.getD_eq_getElem?_getD,List.getElem?_eq_none h1] at hx
    cases hx
end
end Go.Proofs.YtkfkdgginfpdnaaGreatDoor
