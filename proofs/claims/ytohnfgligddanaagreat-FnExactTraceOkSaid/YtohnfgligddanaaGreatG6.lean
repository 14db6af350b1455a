/-
  U01, U02, U03, U04, one behind the other.
-/
import Derived.Test.YtohnfgligddanaaGreatG1
import Derived.Test.YtohnfgligddanaaGreatLgK14
import Derived.Test.YtohnfgligddanaaGreatLgK12
section
namespace Go.Proofs.YtohnfgligddanaaGreat
open Go Go.Lg
set_option linter.unusedSimpArgs false
set_option linter.unusedVariables false
set_option maxHeartbeats 4000000
attribute [local irreducible] SW runL runQ runG runQG FC Ret1
def phi (n:Int):Int:=if n < -24 then n+24 else n
def phiL (t:List Int):List Int:=t.map phi
theorem phiL_len (t:List Int):(phiL t).length=t.length:=List.length_map _
theorem phiL_get (t:List Int) (i:Nat) (h:i<t.length):(phiL t).getD i default=phi (t.getD i default):=by
 simp[phiL,List.getD_eq_getElem?_getD,h]
theorem phi_neg (n:Int) (h:-48≤n):phi n<0↔n<0:=by unfold phi;split<;>omega
theorem phi_pos {n:Int} (h:0≤n):phi n=n:=by unfold phi;rw[if_neg (by omega)]
theorem phi_low {n:Int} (h:-48≤n):-24≤phi n:=by unfold phi;split<;>omega
def XT (rs t:List Int):Prop:=TermOkP rs (phiL t)∧∀x∈t,-48≤x
theorem XT.len {rs t:List Int} (h:XT rs t):1≤t.length∧t.length≤60:=by have:=h.1.2.1;rwa [phiL_len] at this
theorem XT.get {rs t:List Int} (h:XT rs t) {a:Nat} (ha:a<t.length):-48≤t.getD a default∧t.getD a default<rs.length:=by
 have h1:=h.2 _ (getD_mem t a ha)
 have h2:=(h.1.low (a:=a) (by rw[phiL_len];exact ha)).1
 rw[phiL_get t a ha] at h2
 refine⟨h1,?_⟩
 have:=h2.2
 unfold phi at this
 split at this<;>omega
def subX (rs t:List Int) (a:Nat):List Int:=(t.take (endS rs (phiL t) a).toNat).drop a
theorem subX_phi (rs t:List Int) (a:Nat):phiL (subX rs t a)=subS rs (phiL t) a:=by simp[phiL,subX,subS,List.map_drop,List.map_take]
theorem subX_ok {rs t:List Int} (h:XT rs t) {a:Nat} (ha:a<t.length):XT rs (subX rs t a):=by
 refine⟨?_,fun x hx=>h.2 x (List.mem_of_mem_take (List.mem_of_mem_drop hx))⟩
 rw[subX_phi]
 exact subS_ok h.1 (by rw[phiL_len];exact ha)
theorem arityAtX_fc (tk:Tk) (rs:List Int) (n:Int) (hn:-48≤n∧n<rs.length):FC S 123 [] [] [] [.agg [.sl tk (rs.map (.int .i64))],.int .i64 n] (.int .i64 (arS rs (phi n))) [] []:=by
 refine fc_body Tryz.func123 rfl (by kernel_rfl) (by simp[Tryz.f123]) fun B=>?_
 simp only[Tryz.ntmps123,enumD,lst0,Nat.reduceAdd]
 refine sw_bnd_agg 0 0 rfl rfl fun hb0_0=>?_
 simp only[D.bnd,List.length_map] at hb0_0
 repeat' first|refine sw_seq ?_|refine sw_skip ?_|refine sw_go 0 kp123 fun K hK=>?_|((first|refine runL_go ?_|refine sw_ret (ret0 ?_)|refine sw_ret ?_);simp (disch:=(refine Om.mk ?_;omega)) only[go_sem,Tryz.results123])|(refine hK.nil ?_;clear hK K;simp only[go_sem])|((first|refine sw_cond rfl ?_ ?_)<;>intro h<;>try simp (disch:=(refine Om.mk ?_;omega)) only[go_sem] at h)|(with_reducible refine And.intro (by first|omega|(simp only[lens];omega)) ?_)|fail
 ·exact(arS_var (by unfold phi;split<;>omega)).symm
 ·rw[phi_pos (by omega),arS_sym (by omega)]
theorem nextX_fc (id:Nat) (rs t:List Int) (a:Nat) (hs:SigOkP rs) (ht:∀x∈t,-48≤x):FC S 137 [] [(id,[.sl .any (rs.map (.int .i64)),.sl .any (t.map (.int .i64)),.int .i64 a])] [] [.box id 0] (.int .i64 (nxS rs (phiL t) a)) [(id,[.sl .any (rs.map (.int .i64)),.sl .any (t.map (.int .i64)),.int .i64 ((if nxS rs (phiL t) a<0 then a else a+1:Nat):Int)])] []:=by
 have hx:a<t.length→-48≤t.getD a default:=fun h=>ht _ (getD_mem t a h)
 have hp:=phiL_get t a
 have hlen:=phiL_len t
 have hneg:=phi_neg (t.getD a default)
 have hpos:=@phi_pos (t.getD a default)
 refine fc_body Tryz.func137 rfl (by kernel_rfl) (by simp[Tryz.f137]) fun B=>?_
 simp only[Tryz.ntmps137,enumD,lst0,Nat.reduceAdd]
 refine sw_bnd_box id 1 (if_pos rfl) rfl fun hbid_1=>?_
 simp only[D.bnd,List.length_map] at hbid_1
 repeat' first|refine sw_seq ?_|refine sw_skip ?_|refine sw_go 0 kp137 fun K hK=>?_|refine sw_goD kp137 (by kernel_rfl) fun K hK=>?_|((first|refine runL_go ?_|refine runQ_go ?_|refine sw_ret (ret0 ?_)|refine sw_ret ?_);simp (disch:=(refine Om.mk ?_;omega)) only[go_sem,Tryz.results137])|(refine hK.nil ?_;clear hK K;simp only[go_sem])|((first|refine runG_fork rfl rfl rfl rfl rfl ?_ ?_|refine runQG_fork rfl rfl rfl rfl rfl ?_ ?_|refine sw_cond rfl ?_ ?_)<;>intro h<;>try simp (disch:=(refine Om.mk ?_;omega)) only[go_sem] at h)|refine hK.c0 rfl rfl rfl (arityAtX_fc _ _ _ ⟨by omega,by omega⟩) rfl rfl rfl ?_|(with_reducible refine And.intro (by first|omega|(simp only[lens];omega)) ?_)|fail
 ·have e:nxS rs (phiL t) a=-1:=if_neg (by omega)
  simp[e]
 ·have e:nxS rs (phiL t) a=-1:=by rw[nxS,if_pos (by omega),hp (by omega),hpos (by omega),arS_none (by omega) (by omega)]
  simp[e]
 ·have e:nxS rs (phiL t) a=arS rs (phi (t.getD a default)):=by rw[nxS,if_pos (by omega),hp (by omega)]
  have h0:0≤arS rs (phi (t.getD a default)):=by
   by_cases hn:t.getD a default<0
   ·rw[arS_var (by unfold phi;split<;>omega)];omega
   ·rw[hpos (by omega),arS_sym (by omega)];exact(hs.2 _ (by omega)).1
  rw[if_neg (by omega)]
  exact⟨e.symm,by simp⟩
theorem skipX_fc (id:Nat) (rs t:List Int) (a:Nat) (hs:SigOkP rs) (ht:∀x∈t,-48≤x) (hl:t.length≤60):FC S 130 [] [(id,[.sl .any (rs.map (.int .i64)),.sl .any (t.map (.int .i64)),.int .i64 a])] [] [.box id 0] (.bool (skipS rs ((phiL t).drop a) 1 a).2) [(id,[.sl .any (rs.map (.int .i64)),.sl .any (t.map (.int .i64)),.int .i64 (skipS rs ((phiL t).drop a) 1 a).1])] []:=by
 have hlen:=phiL_len t
 refine fc_body Tryz.func130 rfl (by kernel_rfl) (by simp[Tryz.f130]) fun B=>?_
 simp only[Tryz.ntmps130,enumD,lst0,Nat.reduceAdd]
 refine sw_bnd_box id 1 (if_pos rfl) rfl fun hbid_1=>?_
 simp only[D.bnd,List.length_map] at hbid_1
 repeat' first|refine sw_seq ?_|refine sw_block ?_|refine sw_go 0 kp130 fun K hK=>?_|((first|refine runL_go ?_|refine sw_ret (ret0 ?_)|refine sw_ret ?_);simp (disch:=(refine Om.mk ?_;omega)) only[go_sem,Tryz.results130])|(refine hK.nil ?_;clear hK K;simp only[go_sem])|fail
 refine sw_loopU (ι:=Nat×Int) (fun p=>[(3,.int .i64 p.2)]) (fun p=>[(id,[.sl .any (rs.map (.int .i64)),.sl .any (t.map (.int .i64)),.int .i64 p.1])]) (fun p=>(a≤p.1∧((1≤p.2∧skipS rs ((phiL t).drop a) 1 a=skipS rs ((phiL t).drop p.1) p.2 p.1)∨(p.2=0∧skipS rs ((phiL t).drop a) 1 a=(p.1,true))))∧p.2≤1+3*p.1) (fun p=>t.length-p.1) (a,1) (by(refine covers_mk0 rfl rfl ?_ ?_ ?_ ?_<;>simp (disch:=(refine Om.mk ?_;omega)) only[go_sem]<;>(try omega))) ?_ (fun p hp=>?_)
 rotate_left
 simp only[go_sem]
 obtain⟨i,need⟩:=p
 obtain⟨⟨h1,h2⟩,h4⟩:=hp
 dsimp only at h1 h2 h4
 have hr:=arS_rng hs ((phiL t).getD i default)
 have hn:nxS rs (phiL t) i≤3:=by unfold nxS;split<;>omega
 have hb:i<(phiL t).length→skipS rs ((phiL t).drop i) need i=_:=skip_step rs (phiL t) need i
 repeat' first|refine sw_seq ?_|refine sw_block ?_|refine sw_inBlock ?_|refine sw_skip ?_|refine sw_go 0 kp130 fun K hK=>?_|((first|refine runL_go ?_|refine sw_ret (ret0 ?_)|refine sw_ret ?_);simp (disch:=(refine Om.mk ?_;omega)) only[go_sem,Tryz.results130])|(refine hK.nil ?_;clear hK K;simp only[go_sem])|((first|refine sw_cond rfl ?_ ?_)<;>intro h<;>try simp (disch:=(refine Om.mk ?_;omega)) only[go_sem] at h)|refine sw_exit rfl ?_|refine sw_loopEnd ?_|(refine hK.callB rfl rfl rfl (nextX_fc id rs t i hs ht) ⟨⟨by simp only[Nat.reduceLT],(by first|(simp;all_goals fail)|(simp[LS.getBox,Lg.look];all_goals fail)),by(simp[Lg.look];all_goals fail),by(simp;all_goals fail),by(simp;all_goals fail)⟩,⟨by(simp[D.ids,D.idsL];all_goals fail),by(simp[D.ids,D.idsL];all_goals fail),by(simp[D.tks,D.tksL];all_goals fail),by(simp[D.tks,D.tksL];all_goals fail),by(simp;all_goals fail)⟩,rfl⟩ ?_;simp (disch:=(refine Om.mk ?_;omega)) only[go_sem])|fail
 ·have e:i<t.length→nxS rs (phiL t) i=arS rs ((phiL t).getD i default):=fun h=>if_pos (by omega)
  rcases h2 with⟨h2,h3⟩|⟨h2,h3⟩
  ·rw[h3]
   by_cases hi:i<t.length
   ·rw[hb (by omega),if_pos (by rw[←e hi];assumption),if_pos (by assumption)];simp
   ·rw[skip_end rs (phiL t) need i (by omega),if_pos (by assumption)];simp
  ·omega
 ·have hi:i<t.length:=by
   by_cases hi:i<t.length
   ·exact hi
   ·have:nxS rs (phiL t) i=-1:=if_neg (by omega)
    omega
  have e:nxS rs (phiL t) i=arS rs ((phiL t).getD i default):=if_pos (by omega)
  refine⟨(i+1,need+nxS rs (phiL t) i-1),(by(refine covers_mk0 rfl rfl ?_ ?_ ?_ ?_<;>simp (disch:=(refine Om.mk ?_;omega)) only[go_sem]<;>(try omega));rw[if_neg (by omega)]),⟨⟨by omega,?_⟩,by omega⟩,by omega⟩
  rcases h2 with⟨h2,h3⟩|⟨h2,h3⟩
  ·rw[h3,hb (by omega),if_neg (by omega),←e]
   by_cases hz:need+nxS rs (phiL t) i-1=0
   ·rw[if_pos hz];exact .inr ⟨hz,rfl⟩
   ·rw[if_neg hz];exact .inl ⟨by dsimp only;omega,rfl⟩
  ·omega
 ·rcases h2 with⟨h2,h3⟩|⟨h2,h3⟩
  ·omega
  ·rw[h3];simp
 ·exact⟨⟨by omega,.inl ⟨by omega,rfl⟩⟩,by omega⟩
theorem endAtX_fc (tk tk':Tk) (rs t:List Int) (a:Int) (hs:SigOkP rs) (ht:∀x∈t,-48≤x) (hl:t.length≤60) (ha:0≤a):FC S 117 [] [] [] [.agg [.sl tk (rs.map (.int .i64))],.sl tk' (t.map (.int .i64)),.int .i64 a] (.int .i64 (endS rs (phiL t) a.toNat)) [] []:=by
 obtain⟨a,rfl⟩:=Int.eq_ofNat_of_zero_le ha
 refine FC.args (args':=[.agg [.sl .any (rs.map (.int .i64))],.sl .any (t.map (.int .i64)),.int .i64 a]) ?_ (by simp only[go_sem])
 refine fc_body Tryz.func117 rfl (by kernel_rfl) (by simp[Tryz.f117]) fun B=>?_
 simp only[Tryz.ntmps117,enumD,lst0,Nat.reduceAdd]
 repeat' first|refine sw_seq ?_|refine sw_skip ?_|refine sw_go 0 kp117 fun K hK=>?_|((first|refine runL_go ?_|refine sw_ret (ret0 ?_)|refine sw_ret ?_);simp (disch:=(refine Om.mk ?_;omega)) only[go_sem,Tryz.results117])|(refine hK.nil ?_;clear hK K;simp only[go_sem])|((first|refine sw_cond rfl ?_ ?_)<;>intro h<;>try simp (disch:=(refine Om.mk ?_;omega)) only[go_sem] at h)|(refine hK.callB rfl rfl rfl (skipX_fc 7 rs t a hs ht hl) ⟨⟨by simp only[Nat.reduceLT],(by first|(simp;all_goals fail)|(simp[LS.getBox,Lg.look];all_goals fail)),by(simp[Lg.look];all_goals fail),by(simp;all_goals fail),by(simp;all_goals fail)⟩,⟨by(simp[D.ids,D.idsL];all_goals fail),by(simp[D.ids,D.idsL];all_goals fail),by(simp[D.tks,D.tksL];all_goals fail),by(simp[D.tks,D.tksL];all_goals fail),by(simp;all_goals fail)⟩,rfl⟩ ?_;simp (disch:=(refine Om.mk ?_;omega)) only[go_sem])|fail
 all_goals first|(rw[endS,skip_scan,h];rfl)
theorem subAtX_fc (tk tk':Tk) (rs t:List Int) (a:Nat) (hT:XT rs t) (ha:a<t.length):FC S 101 [] [] [] [.agg [.sl tk (rs.map (.int .i64))],.sl tk' (t.map (.int .i64)),.int .i64 a] (.sl .any ((subX rs t a).map (.int .i64))) [] []:=by
 have he:=endS_ge hT.1 (a:=a) (by rw[phiL_len];exact ha)
 rw[phiL_len] at he
 have hl:=hT.len.2
 refine fc_body Tryz.func101 rfl (by kernel_rfl) (by simp[Tryz.f101]) fun B=>?_
 simp only[Tryz.ntmps101,enumD,lst0,Nat.reduceAdd]
 refine sw_bnd 1 rfl fun hb1=>?_
 simp only[D.bnd,List.length_map] at hb1
 repeat' first|refine sw_seq ?_|refine sw_go 0 kp101 fun K hK=>?_|((first|refine runL_go ?_|refine sw_ret (ret0 ?_)|refine sw_ret ?_);simp (disch:=(refine Om.mk ?_;omega)) only[go_sem,Tryz.results101])|(refine hK.nil ?_;clear hK K;simp only[go_sem])|refine hK.c0 rfl rfl rfl (endAtX_fc _ _ rs t a hT.1.1 hT.2 hl (by omega)) rfl rfl rfl ?_|(with_reducible refine And.intro (by first|omega|(simp only[lens];omega)) ?_)|fail
 rfl
theorem argsAtX_fc (tk tk':Tk) (rs t:List Int) (a:Nat) (hT:XT rs t) (ha:a<t.length):FC S 107 [] [] [] [.agg [.sl tk (rs.map (.int .i64))],.sl tk' (t.map (.int .i64)),.int .i64 a] (.sl .any ((argsS rs (phiL t) a).map natD)) [] []:=by
 have hl:=hT.len.2
 have ha':a<(phiL t).length:=by rw[phiL_len];exact ha
 have hlo:=hT.1.low ha'
 have hg:=hT.get ha
 obtain⟨n,hn⟩:∃n:Nat,arS rs ((phiL t).getD a default)=n:=⟨(arS rs ((phiL t).getD a default)).toNat,by omega⟩
 have hlt:∀j<n,a<nthB rs (phiL t) (a+1) j∧nthB rs (phiL t) (a+1) j<(phiL t).length:=fun j hj=>nthB_lt hT.1 ha' (by omega)
 have hle:∀j≤n,a<nthB rs (phiL t) (a+1) j∧nthB rs (phiL t) (a+1) j≤(phiL t).length:=fun j hj=>nthB_le hT.1 ha' (by omega)
 unfold argsS
 have hn2:=hn
 rw[phiL_get t a ha] at hn2
 rw[hn,Int.toNat_natCast]
 have hlen:=phiL_len t
 refine FC.args (args':=[.agg [.sl .any (rs.map (.int .i64))],.sl .any (t.map (.int .i64)),.int .i64 a]) ?_ (by simp only[go_sem])
 refine fc_body Tryz.func107 rfl (by kernel_rfl) (by simp[Tryz.f107]) fun B=>?_
 simp only[Tryz.ntmps107,enumD,lst0,Nat.reduceAdd]
 refine sw_bnd 1 rfl fun hb1=>?_
 simp only[D.bnd,List.length_map] at hb1
 repeat' first|refine sw_seq ?_|refine sw_block ?_|refine sw_go 0 kp107 fun K hK=>?_|refine sw_goD kp107 (by kernel_rfl) fun K hK=>?_|((first|refine runL_go ?_|refine runQ_go ?_|refine sw_ret (ret0 ?_)|refine sw_ret ?_);simp (disch:=(refine Om.mk ?_;omega)) only[go_sem,Tryz.results107])|(refine hK.nil ?_;clear hK K;simp only[go_sem])|refine hK.c0 rfl rfl rfl (arityAtX_fc _ rs _ hg) rfl rfl rfl ?_|(with_reducible refine And.intro (by first|omega|(simp only[lens];omega)) ?_)|fail
 rw[hn2]
 refine sw_tok 7 26000 3 1 rfl (.inl rfl) rfl ?_
 simp only[go_sem]
 refine sw_loopT (ι:=Nat) (fun j=>[(9,.int .i64 (n-j:Int)),(8,.int .i64 (nthB rs (phiL t) (a+1) j)),(7,.sl (.own 26000 3 1) ((begS rs (phiL t) j (a+1)).map natD))]) (fun _=>[]) (fun _=>[26000]) (fun j=>j≤n) (fun j=>n-j) 0 (by(refine covers_mk0 rfl rfl ?_ ?_ ?_ ?_<;>simp (disch:=(refine Om.mk ?_;omega)) only[go_sem]<;>(try omega));simp[nthB,begS]) (by omega) (fun j hj=>?_)
 simp only[go_sem]
 have hb:=begS_length rs (phiL t) j (a+1)
 have h3:=hle j hj
 have h4:=hlt j
 have h5:j<n→((endS rs (phiL t) (nthB rs (phiL t) (a+1) j)).toNat:Int)=endS rs (phiL t) (nthB rs (phiL t) (a+1) j):=fun hj=>by have:=endS_ge hT.1 (h4 hj).2;omega
 repeat' first|refine sw_seq ?_|refine sw_block ?_|refine sw_inBlock ?_|refine sw_skip ?_|refine sw_go 0 kp107 fun K hK=>?_|((first|refine runL_go ?_|refine runQ_go ?_|refine sw_ret (ret0 ?_)|refine sw_ret ?_);simp (disch:=(refine Om.mk ?_;omega)) only[go_sem,Tryz.results107])|(refine hK.nil ?_;clear hK K;simp only[go_sem])|((first|refine sw_cond rfl ?_ ?_)<;>intro h<;>try simp (disch:=(refine Om.mk ?_;omega)) only[go_sem] at h)|refine sw_exit rfl ?_|refine sw_loopEnd ?_|refine hK.c0 rfl rfl rfl (endAtX_fc _ _ rs t (nthB rs (phiL t) (a+1) j) hT.1.1 hT.2 hl (by omega)) rfl rfl rfl ?_|(with_reducible refine And.intro (by first|omega|(simp only[lens];omega)) ?_)|fail
 ·refine⟨j+1,(by(refine covers_mk0 rfl rfl ?_ ?_ ?_ ?_<;>simp (disch:=(refine Om.mk ?_;omega)) only[go_sem]<;>(try omega));have:=h5 (by omega);simp only[nthB,begS_snoc,List.map_append,List.map_cons,List.map_nil,natD];exact⟨trivial,this.symm,by omega⟩),by omega,by omega⟩
 ·rw[show j=n by omega]
end Go.Proofs.YtohnfgligddanaaGreat
end
section
namespace Go.Proofs.YtohnfgligddanaaGreat
open Go Go.Lg
set_option linter.unusedSimpArgs false
set_option linter.unusedVariables false
set_option maxHeartbeats 4000000
attribute [local irreducible] SW runL runQ runG runQG FC Ret1
def bD (x:List Int):D:=if x=[] then .sl .nil [] else .sl .any (x.map (.int .i64))
theorem bD_nil:bD []=.sl .nil []:=rfl
theorem bD_some {x:List Int} (h:x≠[]):bD x=.sl .any (x.map (.int .i64)):=if_neg h
def uC (rs:List Int) (β:List (List Int)):List D:=.sl .any (rs.map (.int .i64))::β.map bD
def BOK (rs:List Int) (β:List (List Int)):Prop:=β.length=48∧∀x∈β,x=[]∨XT rs x
def vIx (n:Int):Nat:=(-1-n).toNat
def rootM (β:List (List Int)):Nat→List Int→Option (List Int)
 | 0,_=>none
 | f+1,t=>if t.getD 0 default<0∧β.getD (vIx (t.getD 0 default)) default≠[] then rootM β f (β.getD (vIx (t.getD 0 default)) default) else some t
theorem BOK.get {rs:List Int} {β:List (List Int)} (h:BOK rs β) {i:Nat} (hi:β.getD i default≠[]):XT rs (β.getD i default):=by
 by_cases hl:i<β.length
 ·exact(h.2 _ (getD_mem β i hl)).resolve_left hi
 ·exact absurd (by rw[List.getD_eq_getElem?_getD,List.getElem?_eq_none (by omega)];rfl) hi
theorem XT.ne {rs t:List Int} (h:XT rs t):t≠[]:=by
 rintro rfl
 have:=h.len
 simp at this
theorem uC_read (rs:List Int) {β:List (List Int)} (hl:β.length=48) {i:Nat} (hi:i<48):(List.drop (1+i) (D.sl .any (rs.map (.int .i64))::β.map bD)).head?=some (bD (β.getD i default)):=by
 rw[Nat.add_comm,List.drop_succ_cons,←List.map_drop,List.head?_map,List.head?_drop,List.getD_eq_getElem?_getD,List.getElem?_eq_getElem (by omega)]
 rfl
theorem bD_ids (x:List Int):(bD x).ids=[]:=by unfold bD;split<;>rfl
theorem tksU_ints (k:IntKind) (ys:List Int):D.tksL (ys.map (D.int k))=[]:=by
 induction ys with
 | nil=>rfl
 | cons y r ih=>simp[D.tksL,D.tks,ih]
theorem bD_tks (x:List Int):(bD x).tks=[]:=by
 unfold bD;split
 ·rfl
 ·simp[D.tks,tksU_ints]
theorem idsL_bD (β:List (List Int)):D.idsL (β.map bD)=[]:=by
 induction β with
 | nil=>rfl
 | cons y r ih=>simp[D.idsL,bD_ids,ih]
theorem tksL_bD (β:List (List Int)):D.tksL (β.map bD)=[]:=by
 induction β with
 | nil=>rfl
 | cons y r ih=>simp[D.tksL,bD_tks,ih]
theorem puOk_intsU (p:Nat→Bool) (ys:List Int):((ys.map (D.int .i64)).all fun d=>d.puOk p)=true:=by
 rw[List.all_map]
 exact List.all_eq_true.2 fun _ _=>rfl
theorem puOk_bD (p:Nat→Bool) (β:List (List Int)):((β.map bD).all fun d=>d.puOk p)=true:=by
 rw[List.all_map]
 refine List.all_eq_true.2 fun x _=>?_
 show (bD x).puOk p=true
 unfold bD;split
 ·rfl
 ·simp[D.puOk,D.pu,D.pu1,D.tks,tksU_ints]
theorem tksL_bool (ys:List Bool):D.tksL (ys.map D.bool)=[]:=by
 induction ys with
 | nil=>rfl
 | cons y r ih=>simp[D.tksL,D.tks,ih]
theorem idsL_bool (ys:List Bool):D.idsL (ys.map D.bool)=[]:=by
 induction ys with
 | nil=>rfl
 | cons y r ih=>simp[D.idsL,D.ids,ih]
theorem puOk_bool (p:Nat→Bool) (ys:List Bool):((ys.map D.bool).all fun d=>d.puOk p)=true:=by
 rw[List.all_map]
 exact List.all_eq_true.2 fun _ _=>rfl
theorem shTL_bool (k:Nat) (ys:List Bool):D.shTL k (ys.map D.bool)=ys.map D.bool:=by
 induction ys with
 | nil=>rfl
 | cons y r ih=>simp[D.shTL,D.shT,ih]
theorem shT_bD (k:Nat) (x:List Int):(bD x).shT k=bD x:=by
 unfold bD;split
 ·rfl
 ·rfl
theorem shTL_bD (k:Nat) (β:List (List Int)):D.shTL k (β.map bD)=β.map bD:=by
 induction β with
 | nil=>rfl
 | cons y r ih=>simp[D.shTL,shT_bD,ih]
attribute [go_sem] shTL_bool shTL_bD idsL_bD tksL_bD idsL_bool tksL_bool
attribute [local irreducible] bD
def kp132:List (Nat×List Nat):=[(0,[0,1]),(1,[0,1,20]),(2,[0,1]),(3,[4])]
attribute [go_sem] kp132
theorem root_fc (id:Nat) (rs:List Int) (β:List (List Int)) (hβ:BOK rs β) (f:Nat) (t r:List Int) (hr:rootM β f t=some r) (hT:XT rs t):FC S 132 [(id,uC rs β)] [] [] [.box id 0,.sl .any (t.map (.int .i64))] (.sl .any (r.map (.int .i64))) [] []:=by
 have hlb:=hβ.1
 unfold uC
 refine fc_body Tryz.func132 rfl (by kernel_rfl) (by simp[Tryz.f132]) fun B=>?_
 simp only[Tryz.ntmps132,enumD,lst0,Nat.reduceAdd]
 repeat' first|refine sw_seq ?_|refine sw_block ?_|refine sw_go 0 kp132 fun K hK=>?_|((first|refine runL_go ?_|refine runQ_go ?_|refine sw_ret (ret0 ?_)|refine sw_ret ?_);simp (disch:=(refine Om.mk ?_;omega)) only[go_sem,Tryz.results132])|(refine hK.nil ?_;clear hK K;simp only[go_sem])|fail
 refine sw_loopU (ι:=Nat×List Int) (fun p=>[(1,.sl .any (p.2.map (.int .i64)))]) (fun p=>[]) (fun p=>rootM β p.1 p.2=some r∧XT rs p.2) (fun p=>p.1) (f,t) (by(refine covers_mk0 rfl rfl ?_ ?_ ?_ ?_<;>simp (disch:=(refine Om.mk ?_;omega)) only[go_sem]<;>(try omega))) ?_ (fun p hp=>?_)
 rotate_left
 simp only[go_sem]
 obtain⟨k,u⟩:=p
 obtain⟨h1,h2⟩:=hp
 dsimp only at h1 h2
 rcases k with _|k
 ·cases h1
 have hg:=h2.get (a:=0) (by have:=h2.len;omega)
 have hl:=h2.len
 by_cases hv:u.getD 0 default<0
 ·obtain⟨m,hm,hm8⟩:∃m:Nat,u.getD 0 default=-1-(m:Int)∧m<48:=⟨vIx (u.getD 0 default),by unfold vIx;omega,by unfold vIx;omega⟩
  have hix:vIx (u.getD 0 default)=m:=by unfold vIx;omega
  unfold rootM at h1
  rw[hix] at h1
  by_cases hb:β.getD m default=[]
  ·rw[if_neg (by rintro⟨_,h⟩;exact h hb)] at h1
   obtain rfl:=Option.some.inj h1
   have hrd:=uC_read rs hlb (i:=(-1-u.getD 0 default).toNat) (by omega)
   rw[show (-1-u.getD 0 default).toNat=m from hix,hb,bD_nil] at hrd
   rw[←show (-1-u.getD 0 default).toNat=m from hix] at hrd
   repeat' first|((exfalso;omega))|((rw[hrd];simp only[go_sem]))|refine sw_seq ?_|refine sw_go 0 kp132 fun K hK=>?_|refine sw_goD kp132 (by kernel_rfl) fun K hK=>?_|((first|refine runL_go ?_|refine runQ_go ?_|refine sw_ret (ret0 ?_)|refine sw_ret ?_);simp (disch:=(refine Om.mk ?_;omega)) only[go_sem,Tryz.results132])|(refine hK.nil ?_;clear hK K;simp only[go_sem])|((first|refine runG_fork rfl rfl rfl rfl rfl ?_ ?_|refine runQG_fork rfl rfl rfl rfl rfl ?_ ?_|refine sw_cond rfl ?_ ?_)<;>intro h<;>try simp (disch:=(refine Om.mk ?_;omega)) only[go_sem] at h)|refine sw_exit rfl ?_|(with_reducible refine And.intro (by first|omega|(simp only[lens];omega)) ?_)|fail
   all_goals trace_state
  ·rw[if_pos ⟨hv,hb⟩] at h1
   have hrd:=uC_read rs hlb (i:=(-1-u.getD 0 default).toNat) (by omega)
   rw[show (-1-u.getD 0 default).toNat=m from hix,bD_some hb] at hrd
   rw[←show (-1-u.getD 0 default).toNat=m from hix] at hrd
   have hb2:(β.getD (-1-u.getD 0 default).toNat default).map (D.int .i64)≠[]:=by rw[show (-1-u.getD 0 default).toNat=m from hix];simpa using hb
   repeat' first|((exfalso;omega))|((rw[hrd];simp only[go_sem]))|((refine⟨hb2,?_⟩))|refine sw_seq ?_|refine sw_block ?_|refine sw_inBlock ?_|refine sw_skip ?_|refine sw_goD kp132 (by kernel_rfl) fun K hK=>?_|((first|refine runL_go ?_|refine runQ_go ?_|refine sw_ret (ret0 ?_)|refine sw_ret ?_);simp (disch:=(refine Om.mk ?_;omega)) only[go_sem,Tryz.results132])|(refine hK.nil ?_;clear hK K;simp only[go_sem])|((first|refine runG_fork rfl rfl rfl rfl rfl ?_ ?_|refine runQG_fork rfl rfl rfl rfl rfl ?_ ?_|refine sw_cond rfl ?_ ?_)<;>intro h<;>try simp (disch:=(refine Om.mk ?_;omega)) only[go_sem] at h)|refine sw_loopEnd ?_|(with_reducible refine And.intro (by first|omega|(simp only[lens];omega)) ?_)|fail
   exact⟨(k,β.getD (-1-u.getD 0 default).toNat default),(by(refine covers_mk0 rfl rfl ?_ ?_ ?_ ?_<;>simp (disch:=(refine Om.mk ?_;omega)) only[go_sem]<;>(try omega))),⟨by rw[show (-1-u.getD 0 default).toNat=m from hix];exact h1,by rw[show (-1-u.getD 0 default).toNat=m from hix];exact hβ.get hb⟩,by simp⟩
 ·unfold rootM at h1
  rw[if_neg (by rintro⟨h,_⟩;exact hv h)] at h1
  obtain rfl:=Option.some.inj h1
  repeat' first|((exfalso;omega))|refine sw_seq ?_|refine sw_go 0 kp132 fun K hK=>?_|refine sw_goD kp132 (by kernel_rfl) fun K hK=>?_|((first|refine runL_go ?_|refine runQ_go ?_|refine sw_ret (ret0 ?_)|refine sw_ret ?_);simp (disch:=(refine Om.mk ?_;omega)) only[go_sem,Tryz.results132])|(refine hK.nil ?_;clear hK K;simp only[go_sem])|((first|refine runG_fork rfl rfl rfl rfl rfl ?_ ?_|refine runQG_fork rfl rfl rfl rfl rfl ?_ ?_|refine sw_cond rfl ?_ ?_)<;>intro h<;>try simp (disch:=(refine Om.mk ?_;omega)) only[go_sem] at h)|refine sw_exit rfl ?_|(with_reducible refine And.intro (by first|omega|(simp only[lens];omega)) ?_)|fail
 ·exact⟨hr,hT⟩
end Go.Proofs.YtohnfgligddanaaGreat
end
section
namespace Go.Proofs.YtohnfgligddanaaGreat
open Go Go.Lg
set_option linter.unusedSimpArgs false
set_option linter.unusedVariables false
set_option maxHeartbeats 4000000
attribute [local irreducible] SW runL runQ runG runQG FC Ret1 bD
def occL (β:List (List Int)) (n:Int) (rec:List Int→List Bool→Option (Bool×List Bool)):List Int→List Bool→Option (Bool×List Bool)
 | [],s=>some (false,s)
 | m::r,s =>
  if m=n then some (true,s)
  else if 0≤m∨s.getD (vIx m) default=true then occL β n rec r s
  else if β.getD (vIx m) default=[] then occL β n rec r (s.set (vIx m) true)
  else match rec (β.getD (vIx m) default) (s.set (vIx m) true) with
   | none=>none
   | some (true,s')=>some (true,s')
   | some (false,s')=>occL β n rec r s'
def occM (β:List (List Int)) (n:Int):Nat→List Int→List Bool→Option (Bool×List Bool)
 | 0,_,_=>none
 | f+1,t,s=>occL β n (occM β n f) t s
theorem occL_len {β:List (List Int)} {n:Int} {rec:List Int→List Bool→Option (Bool×List Bool)} (hrec:∀t s q,rec t s=some q→q.2.length=s.length):∀t s q,occL β n rec t s=some q→q.2.length=s.length
 | [],s,q,h=>by obtain rfl:=Option.some.inj h;rfl
 | m::r,s,q,h=>by
  unfold occL at h
  split at h
  ·obtain rfl:=Option.some.inj h;rfl
  ·split at h
   ·exact occL_len hrec r s q h
   ·split at h
    ·rw[occL_len hrec r _ q h,List.length_set]
    ·split at h
     ·cases h
     ·rename_i s' hq;obtain rfl:=Option.some.inj h
      have:=hrec _ _ _ hq;rw[List.length_set] at this;exact this
     ·rename_i s' hq
      have:=hrec _ _ _ hq
      rw[occL_len hrec r _ q h];rw[List.length_set] at this;exact this
theorem occM_len {β:List (List Int)} {n:Int}:∀f t s q,occM β n f t s=some q→q.2.length=s.length
 | 0,_,_,_,h=>by cases h
 | f+1,t,s,q,h=>occL_len (occM_len f) t s q h
theorem set_map_bool (ys:List Bool) (i:Nat) (x:Bool):(ys.map D.bool).set i (.bool x)=(ys.set i x).map D.bool:=by rw[List.map_set]
attribute [go_sem] set_map_bool
def kp133:List (Nat×List Nat):=[(0,[0,1,2,3]),(1,[0,1,3,12,13,14]),(2,[0,1,3,12,13,14,15]),(3,[0,1,3,10,12,13,14]),(4,[0,1,3,10,12,13,14,20]),(5,[8]),(6,[0,1,3,10,12,13,14,30]),(7,[0,1,3,10,12,13,14]),(8,[0,1,3,11,12,13,14]),(9,[0,1,3,12,13,14,51]),(10,[8]),(11,[0,1,3,12,13,14]),(12,[8])]
attribute [go_sem] kp133
theorem occurs_fc (id:Nat) (rs:List Int) (β:List (List Int)) (hβ:BOK rs β) (n:Int):∀(f:Nat) (t:List Int) (s:List Bool) (q:Bool×List Bool),occM β n f t s=some q→XT rs t→s.length=48→FC S 133 [(id+1000,uC rs β)] [(64,s.map .bool)] [] [.box (id+1000) 0,.int .i64 n,.sl .any (t.map (.int .i64)),.box 64 0] (.bool q.1) [(64,q.2.map .bool)] []:=by
 have hlb:=hβ.1
 unfold uC
 intro f
 induction f with
 | zero=>intro t s q h;cases h
 | succ f ih =>
  intro t s q hq hT hs
  have hq:occL β n (occM β n f) t s=some q:=hq
  have hTl:=hT.len
  refine fc_body Tryz.func133 rfl (by kernel_rfl) (by simp[Tryz.f133]) fun B=>?_
  simp only[Tryz.ntmps133,enumD,lst0,Nat.reduceAdd]
  repeat' first|refine sw_seq ?_|refine sw_block ?_|refine sw_go 0 kp133 fun K hK=>?_|((first|refine runL_go ?_|refine sw_ret (ret0 ?_)|refine sw_ret ?_);simp (disch:=(refine Om.mk ?_;omega)) only[go_sem,Tryz.results133])|(refine hK.nil ?_;clear hK K;simp only[go_sem])|fail
  refine sw_loopU (ι:=Nat×List Bool) (fun p=>[(14,.int .i64 p.1)]) (fun p=>[(64,p.2.map .bool)]) (fun p=>(p.1≤t.length∧p.2.length=48)∧occL β n (occM β n f) (t.drop p.1) p.2=some q) (fun p=>t.length-p.1) (0,s) (by(refine covers_mk0 rfl rfl ?_ ?_ ?_ ?_<;>simp (disch:=(refine Om.mk ?_;omega)) only[go_sem]<;>(try omega))) ?_ (fun p hp=>?_)
  rotate_left
  simp only[go_sem]
  obtain⟨i,u⟩:=p
  obtain⟨⟨hi,hu⟩,h2⟩:=hp
  dsimp only at hi hu h2
  by_cases hil:i<t.length
  ·rw[List.drop_eq_getElem_cons hil,show t[i]=t.getD i default by simp[List.getD_eq_getElem?_getD,hil]] at h2
   have hg:=hT.get hil
   unfold occL at h2
   by_cases hn:t.getD i default=n
   ·rw[if_pos hn] at h2
    obtain rfl:=Option.some.inj h2
    repeat' first|((exfalso;omega))|refine sw_seq ?_|refine sw_block ?_|refine sw_skip ?_|refine sw_go 0 kp133 fun K hK=>?_|((first|refine runL_go ?_|refine sw_ret (ret0 ?_)|refine sw_ret ?_);simp (disch:=(refine Om.mk ?_;omega)) only[go_sem,Tryz.results133])|(refine hK.nil ?_;clear hK K;simp only[go_sem])|((first|refine runG_fork rfl rfl rfl rfl rfl ?_ ?_|refine sw_cond rfl ?_ ?_)<;>intro h<;>try simp (disch:=(refine Om.mk ?_;omega)) only[go_sem] at h)|(with_reducible refine And.intro (by first|omega|(simp only[lens];omega)) ?_)|fail
    all_goals first|rfl|exact⟨rfl,rfl⟩|trace_state
   ·rw[if_neg hn] at h2
    by_cases h0:0≤t.getD i default
    ·rw[if_pos (.inl h0)] at h2
     repeat' first|((exfalso;omega))|refine sw_seq ?_|refine sw_block ?_|refine sw_skip ?_|refine sw_go 0 kp133 fun K hK=>?_|((first|refine runL_go ?_|refine sw_ret (ret0 ?_)|refine sw_ret ?_);simp (disch:=(refine Om.mk ?_;omega)) only[go_sem,Tryz.results133])|(refine hK.nil ?_;clear hK K;simp only[go_sem])|((first|refine runG_fork rfl rfl rfl rfl rfl ?_ ?_|refine sw_cond rfl ?_ ?_)<;>intro h<;>try simp (disch:=(refine Om.mk ?_;omega)) only[go_sem] at h)|refine sw_exit rfl ?_|refine sw_loopEnd ?_|(with_reducible refine And.intro (by first|omega|(simp only[lens];omega)) ?_)|fail
     all_goals exact⟨(i+1,u),(by(refine covers_mk0 rfl rfl ?_ ?_ ?_ ?_<;>simp (disch:=(refine Om.mk ?_;omega)) only[go_sem]<;>(try omega))),⟨⟨by omega,hu⟩,h2⟩,by omega⟩
    ·have hix:vIx (t.getD i default)<48:=by unfold vIx;omega
     by_cases hsn:u.getD (vIx (t.getD i default)) default=true
     ·rw[if_pos (.inr hsn)] at h2
      repeat' first|((exfalso;omega))|((exfalso;have hx:u.getD (-1-t.getD i default).toNat default=false:=(by assumption);exact absurd (hx.symm.trans hsn) (by decide)))|refine sw_seq ?_|refine sw_block ?_|refine sw_skip ?_|refine sw_go 0 kp133 fun K hK=>?_|((first|refine runL_go ?_|refine sw_ret (ret0 ?_)|refine sw_ret ?_);simp (disch:=(refine Om.mk ?_;omega)) only[go_sem,Tryz.results133])|(refine hK.nil ?_;clear hK K;simp only[go_sem])|((first|refine runG_fork rfl rfl rfl rfl rfl ?_ ?_|refine sw_cond rfl ?_ ?_)<;>intro h<;>try simp (disch:=(refine Om.mk ?_;omega)) only[go_sem] at h)|refine sw_exit rfl ?_|refine sw_loopEnd ?_|(with_reducible refine And.intro (by first|omega|(simp only[lens];omega)) ?_)|fail
      all_goals exact⟨(i+1,u),(by(refine covers_mk0 rfl rfl ?_ ?_ ?_ ?_<;>simp (disch:=(refine Om.mk ?_;omega)) only[go_sem]<;>(try omega))),⟨⟨by omega,hu⟩,h2⟩,by omega⟩
     ·rw[if_neg (by rintro (h|h);exact h0 h;exact hsn h)] at h2
      have hrd:=uC_read rs hlb (i:=(-1-t.getD i default).toNat) hix
      by_cases hb:β.getD (vIx (t.getD i default)) default=[]
      ·rw[if_pos hb] at h2
       rw[show β.getD (-1-t.getD i default).toNat default=[] from hb,bD_nil] at hrd
       repeat' first|((exfalso;omega))|((exact absurd (by assumption) hsn))|((rw[hrd];simp only[go_sem]))|refine sw_seq ?_|refine sw_block ?_|refine sw_inBlock ?_|refine sw_skip ?_|refine sw_go 0 kp133 fun K hK=>?_|((first|refine runL_go ?_|refine sw_ret (ret0 ?_)|refine sw_ret ?_);simp (disch:=(refine Om.mk ?_;omega)) only[go_sem,Tryz.results133])|(refine hK.nil ?_;clear hK K;simp only[go_sem])|((first|refine runG_fork rfl rfl rfl rfl rfl ?_ ?_|refine sw_cond rfl ?_ ?_)<;>intro h<;>try simp (disch:=(refine Om.mk ?_;omega)) only[go_sem] at h)|refine hK.skp rfl rfl ?_|refine sw_loopEnd ?_|(with_reducible refine And.intro (by first|omega|(simp only[lens];omega)) ?_)|fail
       all_goals exact⟨(i+1,u.set (-1-t.getD i default).toNat true),(by(refine covers_mk0 rfl rfl ?_ ?_ ?_ ?_<;>simp (disch:=(refine Om.mk ?_;omega)) only[go_sem]<;>(try omega))),⟨⟨by omega,by rw[List.length_set];exact hu⟩,h2⟩,by omega⟩
      ·rw[if_neg hb] at h2
       rw[show bD (β.getD (-1-t.getD i default).toNat default)=_ from bD_some hb] at hrd
       have hb2:(β.getD (-1-t.getD i default).toNat default).map (D.int .i64)≠[]:=fun e=>hb (List.map_eq_nil_iff.1 e)
       have hXb:=hβ.get hb
       obtain⟨q1,hq1⟩:∃q1,occM β n f (β.getD (vIx (t.getD i default)) default) (u.set (vIx (t.getD i default)) true)=some q1:=by
        cases hx:occM β n f (β.getD (vIx (t.getD i default)) default) (u.set (vIx (t.getD i default)) true) with
        | none=>rw[hx] at h2;cases h2
        | some q1=>exact⟨q1,rfl⟩
       have cO:=ih (β.getD (-1-t.getD i default).toNat default) (u.set (-1-t.getD i default).toNat true) _ hq1 hXb (by rw[List.length_set];exact hu)
       rw[hq1] at h2
       have hl1:=occM_len _ _ _ _ hq1
       rw[List.length_set,hu] at hl1
       obtain⟨b1,s1⟩:=q1
       dsimp only at cO hl1
       cases b1
       ·simp only at h2
        repeat' first|((refine hK.callB rfl rfl rfl (cO) (by refine⟨⟨?_,?_,?_,?_,?_⟩,⟨?_,?_,?_,?_,?_⟩,?_⟩<;>simp[-List.map_set,LS.getBox,Lg.look,D.ids,D.idsL,idsL_bool,idsL_bD,LS.clean,D.puOk,D.pu,D.pu1,D.tks,D.tksL,tksU_ints,tksL_bool,tksL_bD,puOk_intsU,puOk_bool,puOk_bD,inTok]) ?_;simp (disch:=(refine Om.mk ?_;omega)) only[go_sem]))|((exfalso;omega))|((exact absurd (by assumption) hsn))|((rw[hrd];simp only[go_sem]))|((refine⟨hb2,?_⟩))|refine sw_seq ?_|refine sw_block ?_|refine sw_inBlock ?_|refine sw_skip ?_|refine sw_go 0 kp133 fun K hK=>?_|((first|refine runL_go ?_|refine sw_ret (ret0 ?_)|refine sw_ret ?_);simp (disch:=(refine Om.mk ?_;omega)) only[go_sem,Tryz.results133])|(refine hK.nil ?_;clear hK K;simp only[go_sem])|((first|refine runG_fork rfl rfl rfl rfl rfl ?_ ?_|refine sw_cond rfl ?_ ?_)<;>intro h<;>try simp (disch:=(refine Om.mk ?_;omega)) only[go_sem] at h)|refine sw_loopEnd ?_|(with_reducible refine And.intro (by first|omega|(simp only[lens];omega)) ?_)|fail
        all_goals exact⟨(i+1,s1),(by(refine covers_mk0 rfl rfl ?_ ?_ ?_ ?_<;>simp (disch:=(refine Om.mk ?_;omega)) only[go_sem]<;>(try omega))),⟨⟨by omega,hl1⟩,h2⟩,by omega⟩
       ·simp only at h2
        obtain rfl:=Option.some.inj h2
        repeat' first|((refine hK.callB rfl rfl rfl (cO) (by refine⟨⟨?_,?_,?_,?_,?_⟩,⟨?_,?_,?_,?_,?_⟩,?_⟩<;>simp[-List.map_set,LS.getBox,Lg.look,D.ids,D.idsL,idsL_bool,idsL_bD,LS.clean,D.puOk,D.pu,D.pu1,D.tks,D.tksL,tksU_ints,tksL_bool,tksL_bD,puOk_intsU,puOk_bool,puOk_bD,inTok]) ?_;simp (disch:=(refine Om.mk ?_;omega)) only[go_sem]))|((exfalso;omega))|((exact absurd (by assumption) hsn))|((rw[hrd];simp only[go_sem]))|((refine⟨hb2,?_⟩))|refine sw_seq ?_|refine sw_block ?_|refine sw_skip ?_|refine sw_go 0 kp133 fun K hK=>?_|((first|refine runL_go ?_|refine sw_ret (ret0 ?_)|refine sw_ret ?_);simp (disch:=(refine Om.mk ?_;omega)) only[go_sem,Tryz.results133])|(refine hK.nil ?_;clear hK K;simp only[go_sem])|((first|refine runG_fork rfl rfl rfl rfl rfl ?_ ?_|refine sw_cond rfl ?_ ?_)<;>intro h<;>try simp (disch:=(refine Om.mk ?_;omega)) only[go_sem] at h)|(with_reducible refine And.intro (by first|omega|(simp only[lens];omega)) ?_)|fail
        all_goals first|rfl|exact⟨rfl,rfl⟩|trace_state
  ·rw[List.drop_of_length_le (by omega)] at h2
   obtain rfl:=Option.some.inj h2
   repeat' first|((exfalso;omega))|refine sw_seq ?_|refine sw_go 0 kp133 fun K hK=>?_|((first|refine runL_go ?_|refine sw_ret (ret0 ?_)|refine sw_ret ?_);simp (disch:=(refine Om.mk ?_;omega)) only[go_sem,Tryz.results133])|(refine hK.nil ?_;clear hK K;simp only[go_sem])|((first|refine runG_fork rfl rfl rfl rfl rfl ?_ ?_|refine sw_cond rfl ?_ ?_)<;>intro h<;>try simp (disch:=(refine Om.mk ?_;omega)) only[go_sem] at h)|refine sw_exit rfl ?_|fail
   all_goals first|rfl|exact⟨rfl,rfl⟩|trace_state
  ·exact⟨⟨by omega,hs⟩,hq⟩
end Go.Proofs.YtohnfgligddanaaGreat
end
section
namespace Go.Proofs.YtohnfgligddanaaGreat
open Go Go.Lg
set_option linter.unusedSimpArgs false
set_option linter.unusedVariables false
set_option maxHeartbeats 4000000
attribute [local irreducible] SW runL runQ runG runQG FC Ret1 bD
abbrev Bds:=List (List Int)
def hd (t:List Int):Int:=t.getD 0 default
def pairsX (rs a b:List Int):List (List Int×List Int):=(List.range (argsS rs (phiL a) 0).length).map fun k=>(subX rs a ((argsS rs (phiL a) 0).getD k default),subX rs b ((argsS rs (phiL b) 0).getD k default))
def eqL (rec:Bds→List Int→List Int→Option (Option Bds)):List (List Int×List Int)→Bds→Option (Option Bds)
 | [],β=>some (some β)
 | p::r,β=>match rec β p.1 p.2 with
  | none=>none
  | some none=>some none
  | some (some β')=>eqL rec r β'
def bindM (g:Nat) (β:Bds) (x y:List Int):Option (Option Bds) :=
 if 0≤hd y then match occM β (hd x) g y (List.replicate 48 false) with
  | none=>none
  | some (true,_)=>some none
  | some (false,_)=>some (some (β.set (vIx (hd x)) y))
 else some (some (β.set (vIx (hd x)) y))
def eqB (rs:List Int) (g:Nat) (rec:Bds→List Int→List Int→Option (Option Bds)) (β:Bds) (a b:List Int):Option (Option Bds) :=
 if hd a=hd b∧hd a<0 then some (some β)
 else if hd b<0∧(0≤hd a∨hd b<hd a) then bindM g β b a
 else if hd a<0 then bindM g β a b
 else if hd a≠hd b then some none
 else eqL rec (pairsX rs a b) β
def eqM (rs:List Int) (g:Nat):Nat→Bds→List Int→List Int→Option (Option Bds)
 | 0,_,_,_=>none
 | f+1,β,a,b=>match rootM β g a,rootM β g b with
  | some a1,some b1=>eqB rs g (eqM rs g f) β a1 b1
  | _,_=>none
theorem rootM_ok {rs:List Int} {β:Bds} (hβ:BOK rs β):∀ {f:Nat} {t r:List Int},rootM β f t=some r→XT rs t→XT rs r
 | 0,_,_,h,_=>by cases h
 | f+1,t,r,h,hT=>by
  unfold rootM at h
  split at h
  ·rename_i hc
   exact rootM_ok hβ h (hβ.get hc.2)
  ·obtain rfl:=Option.some.inj h;exact hT
theorem BOK.set {rs:List Int} {β:Bds} (h:BOK rs β) (i:Nat) {t:List Int} (ht:XT rs t):BOK rs (β.set i t):=⟨by rw[List.length_set];exact h.1,fun x hx=>by
 rcases List.mem_or_eq_of_mem_set hx with hx|rfl
 ·exact h.2 x hx
 ·exact .inr ht⟩
theorem uC_set (rs:List Int) (β:Bds) (i:Nat) {y:List Int} (hy:y≠[]):(D.sl .any (rs.map (.int .i64))::β.map bD).set (1+i) (.sl .any (y.map (.int .i64)))=D.sl .any (rs.map (.int .i64))::(β.set i y).map bD:=by
 rw[Nat.add_comm,List.set_cons_succ,List.map_set,bD_some hy]
theorem uC_set' (rs:List Int) (β:Bds) (n:Int) {y:List Int} (hy:y≠[]):(D.sl .any (rs.map (.int .i64))::β.map bD).set (1+(-1-n).toNat) (.sl .any (y.map (.int .i64)))=D.sl .any (rs.map (.int .i64))::(β.set (vIx n) y).map bD:=uC_set rs β _ hy
def kp122:List (Nat×List Nat):=[(0,[0,1,2]),(1,[0,1,2,27]),(2,[0,1,2,46]),(3,[0,1,2]),(4,[0,1,2,52]),(5,[0,1,2,66]),(6,[0,1,2]),(7,[]),(8,[0,1,2,84]),(9,[0,1,2]),(10,[0,1,2,6,7]),(11,[0,1,2,6,7,100,101]),(12,[0,1,2,6,7,100,101,102]),(13,[0,1,2,6,7,8,100,101]),(14,[0,1,2,6,7,100,101]),(15,[0,1,2,6,7,100,101])]
attribute [go_sem] kp122
theorem equateA_fc (id:Nat) (rs:List Int) (g:Nat) (β:Bds) (hβ:BOK rs β) (a b a1 b1:List Int) (hA:XT rs a) (hB:XT rs b) (h1:rootM β g a=some a1) (h2:rootM β g b=some b1) (hv:hd a1=hd b1∧hd a1<0):FC S 122 [] [(id+1000,uC rs β)] [] [.box (id+1000) 0,.sl .any (a.map (.int .i64)),.sl .any (b.map (.int .i64))] (.tup []) [(id+1000,uC rs β)] []:=by
 have c1:=root_fc (id+1000) rs β hβ g a a1 h1 hA
 have c2:=root_fc (id+1000) rs β hβ g b b1 h2 hB
 have hA1:=rootM_ok hβ h1 hA
 have hB1:=rootM_ok hβ h2 hB
 have hla:=hA1.len
 have hlb:=hB1.len
 unfold uC at *
 unfold hd at hv
 refine fc_body Tryz.func122 rfl (by kernel_rfl) (by simp[Tryz.f122]) fun B=>?_
 simp only[Tryz.ntmps122,enumD,lst0,Nat.reduceAdd]
 repeat' first|((exfalso;omega))|refine sw_seq ?_|refine sw_go 0 kp122 fun K hK=>?_|refine sw_goD kp122 (by kernel_rfl) fun K hK=>?_|((first|refine runL_go ?_|refine runQ_go ?_|refine sw_ret (ret0 ?_)|refine sw_ret ?_);simp (disch:=(refine Om.mk ?_;omega)) only[go_sem,Tryz.results122])|(refine hK.nil ?_;clear hK K;simp only[go_sem])|((first|refine runG_fork rfl rfl rfl rfl rfl ?_ ?_|refine runQG_fork rfl rfl rfl rfl rfl ?_ ?_|refine sw_cond rfl ?_ ?_)<;>intro h<;>try simp (disch:=(refine Om.mk ?_;omega)) only[go_sem] at h)|refine hK.call rfl rfl rfl (c1) ⟨(by simp[LS.getBox,Lg.look]),rfl,rfl,(by simp only[dstOk,Nat.reduceLT])⟩ ?_|refine hK.call rfl rfl rfl (c2) ⟨(by simp[LS.getBox,Lg.look]),rfl,rfl,(by simp only[dstOk,Nat.reduceLT])⟩ ?_|(with_reducible refine And.intro (by first|omega|(simp only[lens];omega)) ?_)|fail
 all_goals first|exact hset|exact⟨rfl,hset⟩|trace_state
theorem equateC1_fc (id:Nat) (rs:List Int) (g:Nat) (β:Bds) (hβ:BOK rs β) (a b a1 b1:List Int) (hA:XT rs a) (hB:XT rs b) (h1:rootM β g a=some a1) (h2:rootM β g b=some b1) (hn1:¬(hd a1=hd b1∧hd a1<0)) (hw:¬(hd b1<0∧(0≤hd a1∨hd b1<hd a1))) (hv:hd a1<0) (hy:hd b1<0):FC S 122 [] [(id+1000,uC rs β)] [] [.box (id+1000) 0,.sl .any (a.map (.int .i64)),.sl .any (b.map (.int .i64))] (.tup []) [(id+1000,uC rs (β.set (vIx (hd a1)) b1))] []:=by
 have c1:=root_fc (id+1000) rs β hβ g a a1 h1 hA
 have c2:=root_fc (id+1000) rs β hβ g b b1 h2 hB
 have hA1:=rootM_ok hβ h1 hA
 have hB1:=rootM_ok hβ h2 hB
 have hla:=hA1.len
 have hlb:=hB1.len
 have hga:=hA1.get (a:=0) (by omega)
 have hgb:=hB1.get (a:=0) (by omega)
 have hlβ:=hβ.1
 have hset:=uC_set' rs β (hd a1) hB1.ne
 unfold uC at *
 unfold hd at *
 refine fc_body Tryz.func122 rfl (by kernel_rfl) (by simp[Tryz.f122]) fun B=>?_
 simp only[Tryz.ntmps122,enumD,lst0,Nat.reduceAdd]
 repeat' first|((exfalso;omega))|refine sw_seq ?_|refine sw_skip ?_|refine sw_go 0 kp122 fun K hK=>?_|refine sw_goT 0 kp122 9 (id:=7) (by kernel_rfl) fun K hK=>?_|refine fun (K:KT) (hK:KOk S 0 _ _ _ K)=>?_|refine sw_goD kp122 (by kernel_rfl) fun K hK=>?_|((first|refine runL_go ?_|refine runQ_go ?_|refine sw_ret (ret0 ?_)|refine sw_ret ?_);simp (disch:=(refine Om.mk ?_;omega)) only[go_sem,Tryz.results122])|(refine hK.nil ?_;clear hK K;simp only[go_sem])|((first|refine runG_fork rfl rfl rfl rfl rfl ?_ ?_|refine runQG_fork rfl rfl rfl rfl rfl ?_ ?_|refine sw_cond rfl ?_ ?_)<;>intro h<;>try simp (disch:=(refine Om.mk ?_;omega)) only[go_sem] at h)|refine hK.skp rfl rfl ?_|refine hK.call rfl rfl rfl (c1) ⟨(by simp[LS.getBox,Lg.look]),rfl,rfl,(by simp only[dstOk,Nat.reduceLT])⟩ ?_|refine hK.call rfl rfl rfl (c2) ⟨(by simp[LS.getBox,Lg.look]),rfl,rfl,(by simp only[dstOk,Nat.reduceLT])⟩ ?_|(with_reducible refine And.intro (by first|omega|(simp only[lens];omega)) ?_)|fail
 all_goals first|exact hset|exact⟨rfl,hset⟩|trace_state
theorem equateC2_fc (id:Nat) (rs:List Int) (g:Nat) (β:Bds) (hβ:BOK rs β) (a b a1 b1:List Int) (hA:XT rs a) (hB:XT rs b) (h1:rootM β g a=some a1) (h2:rootM β g b=some b1) (hn1:¬(hd a1=hd b1∧hd a1<0)) (hw:¬(hd b1<0∧(0≤hd a1∨hd b1<hd a1))) (hv:hd a1<0) (hy:0≤hd b1) (s:List Bool) (hq:occM β (hd a1) g b1 (List.replicate 48 false)=some (false,s)):FC S 122 [] [(id+1000,uC rs β)] [] [.box (id+1000) 0,.sl .any (a.map (.int .i64)),.sl .any (b.map (.int .i64))] (.tup []) [(id+1000,uC rs (β.set (vIx (hd a1)) b1))] []:=by
 have c1:=root_fc (id+1000) rs β hβ g a a1 h1 hA
 have c2:=root_fc (id+1000) rs β hβ g b b1 h2 hB
 have hA1:=rootM_ok hβ h1 hA
 have hB1:=rootM_ok hβ h2 hB
 have hla:=hA1.len
 have hlb:=hB1.len
 have hga:=hA1.get (a:=0) (by omega)
 have hgb:=hB1.get (a:=0) (by omega)
 have hlβ:=hβ.1
 have hset:=uC_set' rs β (hd a1) hB1.ne
 have cO:=occurs_fc id rs β hβ (hd a1) g b1 (List.replicate 48 false) _ hq hB1 (by simp)
 unfold uC at *
 unfold hd at *
 refine fc_body Tryz.func122 rfl (by kernel_rfl) (by simp[Tryz.f122]) fun B=>?_
 simp only[Tryz.ntmps122,enumD,lst0,Nat.reduceAdd]
 repeat' first|((exfalso;omega))|((refine hK.callB rfl rfl rfl (cO) (by refine⟨⟨?_,?_,?_,?_,?_⟩,⟨?_,?_,?_,?_,?_⟩,?_⟩<;>simp[-List.map_set,LS.getBox,Lg.look,D.ids,D.idsL,idsL_bool,idsL_bD,LS.clean,D.puOk,D.pu,D.pu1,D.tks,D.tksL,tksU_ints,tksL_bool,tksL_bD,puOk_intsU,puOk_bool,puOk_bD,inTok]) ?_;simp (disch:=(refine Om.mk ?_;omega)) only[go_sem]))|refine sw_seq ?_|refine sw_skip ?_|refine sw_go 0 kp122 fun K hK=>?_|refine sw_goT 0 kp122 9 (id:=7) (by kernel_rfl) fun K hK=>?_|refine fun (K:KT) (hK:KOk S 0 _ _ _ K)=>?_|refine sw_goD kp122 (by kernel_rfl) fun K hK=>?_|((first|refine runL_go ?_|refine runQ_go ?_|refine sw_ret (ret0 ?_)|refine sw_ret ?_);simp (disch:=(refine Om.mk ?_;omega)) only[go_sem,Tryz.results122])|(refine hK.nil ?_;clear hK K;simp only[go_sem])|((first|refine runG_fork rfl rfl rfl rfl rfl ?_ ?_|refine runQG_fork rfl rfl rfl rfl rfl ?_ ?_|refine sw_cond rfl ?_ ?_)<;>intro h<;>try simp (disch:=(refine Om.mk ?_;omega)) only[go_sem] at h)|refine hK.call rfl rfl rfl (c1) ⟨(by simp[LS.getBox,Lg.look]),rfl,rfl,(by simp only[dstOk,Nat.reduceLT])⟩ ?_|refine hK.call rfl rfl rfl (c2) ⟨(by simp[LS.getBox,Lg.look]),rfl,rfl,(by simp only[dstOk,Nat.reduceLT])⟩ ?_|(with_reducible refine And.intro (by first|omega|(simp only[lens];omega)) ?_)|fail
 all_goals first|exact hset|exact⟨rfl,hset⟩|trace_state
theorem equateC3_fc (id:Nat) (rs:List Int) (g:Nat) (β:Bds) (hβ:BOK rs β) (a b a1 b1:List Int) (hA:XT rs a) (hB:XT rs b) (h1:rootM β g a=some a1) (h2:rootM β g b=some b1) (hn1:¬(hd a1=hd b1∧hd a1<0)) (hw:¬(hd b1<0∧(0≤hd a1∨hd b1<hd a1))) (hv:hd a1<0) (hy:0≤hd b1) (s:List Bool) (hq:occM β (hd a1) g b1 (List.replicate 48 false)=some (true,s)):FCX S 122 [] [(id+1000,uC rs β)] [] [.box (id+1000) 0,.sl .any (a.map (.int .i64)),.sl .any (b.map (.int .i64))] (chainE 149):=by
 have c1:=root_fc (id+1000) rs β hβ g a a1 h1 hA
 have c2:=root_fc (id+1000) rs β hβ g b b1 h2 hB
 have hA1:=rootM_ok hβ h1 hA
 have hB1:=rootM_ok hβ h2 hB
 have hla:=hA1.len
 have hlb:=hB1.len
 have hga:=hA1.get (a:=0) (by omega)
 have hgb:=hB1.get (a:=0) (by omega)
 have hlβ:=hβ.1
 have hset:=uC_set' rs β (hd a1) hB1.ne
 have cO:=occurs_fc id rs β hβ (hd a1) g b1 (List.replicate 48 false) _ hq hB1 (by simp)
 unfold uC at *
 unfold hd at *
 refine fcx_body Tryz.func122 rfl (by kernel_rfl) (by simp[Tryz.f122]) fun B hp hp1=>?_
 simp only[Tryz.ntmps122,enumD,List.map_nil,List.map_cons,List.length_map,Nat.zero_add,Nat.reduceAdd]
 repeat' first|((exfalso;omega))|((refine hK.callB rfl rfl rfl (cO) (by refine⟨⟨?_,?_,?_,?_,?_⟩,⟨?_,?_,?_,?_,?_⟩,?_⟩<;>simp[-List.map_set,LS.getBox,Lg.look,D.ids,D.idsL,idsL_bool,idsL_bD,LS.clean,D.puOk,D.pu,D.pu1,D.tks,D.tksL,tksU_ints,tksL_bool,tksL_bD,puOk_intsU,puOk_bool,puOk_bD,inTok]) ?_;simp (disch:=(refine Om.mk ?_;omega)) only[go_sem]))|((refine sw_goP 0 1 (id:=6) fun K hK=>?_))|refine sw_seq ?_|refine sw_skip ?_|refine sw_go 0 kp122 fun K hK=>?_|refine sw_goD kp122 (by kernel_rfl) fun K hK=>?_|((first|refine runL_go ?_|refine runQ_go ?_|refine sw_ret (ret0 ?_)|refine sw_ret ?_);simp (disch:=(refine Om.mk ?_;omega)) only[go_sem,Tryz.results122])|(refine hK.nil ?_;clear hK K;simp only[go_sem])|((first|refine runG_fork rfl rfl rfl rfl rfl ?_ ?_|refine runQG_fork rfl rfl rfl rfl rfl ?_ ?_|refine sw_cond rfl ?_ ?_)<;>intro h<;>try simp (disch:=(refine Om.mk ?_;omega)) only[go_sem] at h)|refine hK.call rfl rfl rfl (c1) ⟨(by simp[LS.getBox,Lg.look]),rfl,rfl,(by simp only[dstOk,Nat.reduceLT])⟩ ?_|refine hK.call rfl rfl rfl (c2) ⟨(by simp[LS.getBox,Lg.look]),rfl,rfl,(by simp only[dstOk,Nat.reduceLT])⟩ ?_|(with_reducible refine And.intro (by first|omega|(simp only[lens];omega)) ?_)|fail
 all_goals try simp only[List.drop_succ_cons,List.drop_zero]
 all_goals refine LopsP.cons (LopsW.mkIface (fun v w=>run_makeInterface w _ v (by kernel_rfl)) rfl rfl rfl (by simp only[Nat.reduceLT]) (LopsW.nil ?_))
 all_goals exact LopsP.panic rfl hp
theorem equateS1_fc (id:Nat) (rs:List Int) (g:Nat) (β:Bds) (hβ:BOK rs β) (a b a1 b1:List Int) (hA:XT rs a) (hB:XT rs b) (h1:rootM β g a=some a1) (h2:rootM β g b=some b1) (hn1:¬(hd a1=hd b1∧hd a1<0)) (hw:hd b1<0∧(0≤hd a1∨hd b1<hd a1)) (hy:hd a1<0):FC S 122 [] [(id+1000,uC rs β)] [] [.box (id+1000) 0,.sl .any (a.map (.int .i64)),.sl .any (b.map (.int .i64))] (.tup []) [(id+1000,uC rs (β.set (vIx (hd b1)) a1))] []:=by
 have c1:=root_fc (id+1000) rs β hβ g a a1 h1 hA
 have c2:=root_fc (id+1000) rs β hβ g b b1 h2 hB
 have hA1:=rootM_ok hβ h1 hA
 have hB1:=rootM_ok hβ h2 hB
 have hla:=hA1.len
 have hlb:=hB1.len
 have hga:=hA1.get (a:=0) (by omega)
 have hgb:=hB1.get (a:=0) (by omega)
 have hlβ:=hβ.1
 have hset:=uC_set' rs β (hd b1) hA1.ne
 unfold uC at *
 unfold hd at *
 refine fc_body Tryz.func122 rfl (by kernel_rfl) (by simp[Tryz.f122]) fun B=>?_
 simp only[Tryz.ntmps122,enumD,lst0,Nat.reduceAdd]
 repeat' first|((exfalso;omega))|refine sw_seq ?_|refine sw_skip ?_|refine sw_go 0 kp122 fun K hK=>?_|refine sw_goT 0 kp122 9 (id:=7) (by kernel_rfl) fun K hK=>?_|refine fun (K:KT) (hK:KOk S 0 _ _ _ K)=>?_|refine sw_goD kp122 (by kernel_rfl) fun K hK=>?_|((first|refine runL_go ?_|refine runQ_go ?_|refine sw_ret (ret0 ?_)|refine sw_ret ?_);simp (disch:=(refine Om.mk ?_;omega)) only[go_sem,Tryz.results122])|(refine hK.nil ?_;clear hK K;simp only[go_sem])|((first|refine runG_fork rfl rfl rfl rfl rfl ?_ ?_|refine runQG_fork rfl rfl rfl rfl rfl ?_ ?_|refine sw_cond rfl ?_ ?_)<;>intro h<;>try simp (disch:=(refine Om.mk ?_;omega)) only[go_sem] at h)|refine hK.skp rfl rfl ?_|refine hK.call rfl rfl rfl (c1) ⟨(by simp[LS.getBox,Lg.look]),rfl,rfl,(by simp only[dstOk,Nat.reduceLT])⟩ ?_|refine hK.call rfl rfl rfl (c2) ⟨(by simp[LS.getBox,Lg.look]),rfl,rfl,(by simp only[dstOk,Nat.reduceLT])⟩ ?_|(with_reducible refine And.intro (by first|omega|(simp only[lens];omega)) ?_)|fail
 all_goals first|exact hset|exact⟨rfl,hset⟩|trace_state
theorem equateS2_fc (id:Nat) (rs:List Int) (g:Nat) (β:Bds) (hβ:BOK rs β) (a b a1 b1:List Int) (hA:XT rs a) (hB:XT rs b) (h1:rootM β g a=some a1) (h2:rootM β g b=some b1) (hn1:¬(hd a1=hd b1∧hd a1<0)) (hw:hd b1<0∧(0≤hd a1∨hd b1<hd a1)) (hy:0≤hd a1) (s:List Bool) (hq:occM β (hd b1) g a1 (List.replicate 48 false)=some (false,s)):FC S 122 [] [(id+1000,uC rs β)] [] [.box (id+1000) 0,.sl .any (a.map (.int .i64)),.sl .any (b.map (.int .i64))] (.tup []) [(id+1000,uC rs (β.set (vIx (hd b1)) a1))] []:=by
 have c1:=root_fc (id+1000) rs β hβ g a a1 h1 hA
 have c2:=root_fc (id+1000) rs β hβ g b b1 h2 hB
 have hA1:=rootM_ok hβ h1 hA
 have hB1:=rootM_ok hβ h2 hB
 have hla:=hA1.len
 have hlb:=hB1.len
 have hga:=hA1.get (a:=0) (by omega)
 have hgb:=hB1.get (a:=0) (by omega)
 have hlβ:=hβ.1
 have hset:=uC_set' rs β (hd b1) hA1.ne
 have cO:=occurs_fc id rs β hβ (hd b1) g a1 (List.replicate 48 false) _ hq hA1 (by simp)
 unfold uC at *
 unfold hd at *
 refine fc_body Tryz.func122 rfl (by kernel_rfl) (by simp[Tryz.f122]) fun B=>?_
 simp only[Tryz.ntmps122,enumD,lst0,Nat.reduceAdd]
 repeat' first|((exfalso;omega))|((refine hK.callB rfl rfl rfl (cO) (by refine⟨⟨?_,?_,?_,?_,?_⟩,⟨?_,?_,?_,?_,?_⟩,?_⟩<;>simp[-List.map_set,LS.getBox,Lg.look,D.ids,D.idsL,idsL_bool,idsL_bD,LS.clean,D.puOk,D.pu,D.pu1,D.tks,D.tksL,tksU_ints,tksL_bool,tksL_bD,puOk_intsU,puOk_bool,puOk_bD,inTok]) ?_;simp (disch:=(refine Om.mk ?_;omega)) only[go_sem]))|refine sw_seq ?_|refine sw_skip ?_|refine sw_go 0 kp122 fun K hK=>?_|refine sw_goT 0 kp122 9 (id:=7) (by kernel_rfl) fun K hK=>?_|refine fun (K:KT) (hK:KOk S 0 _ _ _ K)=>?_|refine sw_goD kp122 (by kernel_rfl) fun K hK=>?_|((first|refine runL_go ?_|refine runQ_go ?_|refine sw_ret (ret0 ?_)|refine sw_ret ?_);simp (disch:=(refine Om.mk ?_;omega)) only[go_sem,Tryz.results122])|(refine hK.nil ?_;clear hK K;simp only[go_sem])|((first|refine runG_fork rfl rfl rfl rfl rfl ?_ ?_|refine runQG_fork rfl rfl rfl rfl rfl ?_ ?_|refine sw_cond rfl ?_ ?_)<;>intro h<;>try simp (disch:=(refine Om.mk ?_;omega)) only[go_sem] at h)|refine hK.call rfl rfl rfl (c1) ⟨(by simp[LS.getBox,Lg.look]),rfl,rfl,(by simp only[dstOk,Nat.reduceLT])⟩ ?_|refine hK.call rfl rfl rfl (c2) ⟨(by simp[LS.getBox,Lg.look]),rfl,rfl,(by simp only[dstOk,Nat.reduceLT])⟩ ?_|(with_reducible refine And.intro (by first|omega|(simp only[lens];omega)) ?_)|fail
 all_goals first|exact hset|exact⟨rfl,hset⟩|trace_state
theorem equateS3_fc (id:Nat) (rs:List Int) (g:Nat) (β:Bds) (hβ:BOK rs β) (a b a1 b1:List Int) (hA:XT rs a) (hB:XT rs b) (h1:rootM β g a=some a1) (h2:rootM β g b=some b1) (hn1:¬(hd a1=hd b1∧hd a1<0)) (hw:hd b1<0∧(0≤hd a1∨hd b1<hd a1)) (hy:0≤hd a1) (s:List Bool) (hq:occM β (hd b1) g a1 (List.replicate 48 false)=some (true,s)):FCX S 122 [] [(id+1000,uC rs β)] [] [.box (id+1000) 0,.sl .any (a.map (.int .i64)),.sl .any (b.map (.int .i64))] (chainE 149):=by
 have c1:=root_fc (id+1000) rs β hβ g a a1 h1 hA
 have c2:=root_fc (id+1000) rs β hβ g b b1 h2 hB
 have hA1:=rootM_ok hβ h1 hA
 have hB1:=rootM_ok hβ h2 hB
 have hla:=hA1.len
 have hlb:=hB1.len
 have hga:=hA1.get (a:=0) (by omega)
 have hgb:=hB1.get (a:=0) (by omega)
 have hlβ:=hβ.1
 have hset:=uC_set' rs β (hd b1) hA1.ne
 have cO:=occurs_fc id rs β hβ (hd b1) g a1 (List.replicate 48 false) _ hq hA1 (by simp)
 unfold uC at *
 unfold hd at *
 refine fcx_body Tryz.func122 rfl (by kernel_rfl) (by simp[Tryz.f122]) fun B hp hp1=>?_
 simp only[Tryz.ntmps122,enumD,List.map_nil,List.map_cons,List.length_map,Nat.zero_add,Nat.reduceAdd]
 repeat' first|((exfalso;omega))|((refine hK.callB rfl rfl rfl (cO) (by refine⟨⟨?_,?_,?_,?_,?_⟩,⟨?_,?_,?_,?_,?_⟩,?_⟩<;>simp[-List.map_set,LS.getBox,Lg.look,D.ids,D.idsL,idsL_bool,idsL_bD,LS.clean,D.puOk,D.pu,D.pu1,D.tks,D.tksL,tksU_ints,tksL_bool,tksL_bD,puOk_intsU,puOk_bool,puOk_bD,inTok]) ?_;simp (disch:=(refine Om.mk ?_;omega)) only[go_sem]))|((refine sw_goP 0 1 (id:=6) fun K hK=>?_))|refine sw_seq ?_|refine sw_skip ?_|refine sw_go 0 kp122 fun K hK=>?_|refine sw_goD kp122 (by kernel_rfl) fun K hK=>?_|((first|refine runL_go ?_|refine runQ_go ?_|refine sw_ret (ret0 ?_)|refine sw_ret ?_);simp (disch:=(refine Om.mk ?_;omega)) only[go_sem,Tryz.results122])|(refine hK.nil ?_;clear hK K;simp only[go_sem])|((first|refine runG_fork rfl rfl rfl rfl rfl ?_ ?_|refine runQG_fork rfl rfl rfl rfl rfl ?_ ?_|refine sw_cond rfl ?_ ?_)<;>intro h<;>try simp (disch:=(refine Om.mk ?_;omega)) only[go_sem] at h)|refine hK.call rfl rfl rfl (c1) ⟨(by simp[LS.getBox,Lg.look]),rfl,rfl,(by simp only[dstOk,Nat.reduceLT])⟩ ?_|refine hK.call rfl rfl rfl (c2) ⟨(by simp[LS.getBox,Lg.look]),rfl,rfl,(by simp only[dstOk,Nat.reduceLT])⟩ ?_|(with_reducible refine And.intro (by first|omega|(simp only[lens];omega)) ?_)|fail
 all_goals try simp only[List.drop_succ_cons,List.drop_zero]
 all_goals refine LopsP.cons (LopsW.mkIface (fun v w=>run_makeInterface w _ v (by kernel_rfl)) rfl rfl rfl (by simp only[Nat.reduceLT]) (LopsW.nil ?_))
 all_goals exact LopsP.panic rfl hp
theorem equateN_fc (id:Nat) (rs:List Int) (g:Nat) (β:Bds) (hβ:BOK rs β) (a b a1 b1:List Int) (hA:XT rs a) (hB:XT rs b) (h1:rootM β g a=some a1) (h2:rootM β g b=some b1) (hv:0≤hd a1) (hy:0≤hd b1) (hne:hd a1≠hd b1):FCX S 122 [] [(id+1000,uC rs β)] [] [.box (id+1000) 0,.sl .any (a.map (.int .i64)),.sl .any (b.map (.int .i64))] (chainE 149):=by
 have c1:=root_fc (id+1000) rs β hβ g a a1 h1 hA
 have c2:=root_fc (id+1000) rs β hβ g b b1 h2 hB
 have hA1:=rootM_ok hβ h1 hA
 have hB1:=rootM_ok hβ h2 hB
 have hla:=hA1.len
 have hlb:=hB1.len
 have hga:=hA1.get (a:=0) (by omega)
 have hgb:=hB1.get (a:=0) (by omega)
 have hlβ:=hβ.1
 unfold uC at *
 unfold hd at *
 refine fcx_body Tryz.func122 rfl (by kernel_rfl) (by simp[Tryz.f122]) fun B hp hp1=>?_
 simp only[Tryz.ntmps122,enumD,List.map_nil,List.map_cons,List.length_map,Nat.zero_add,Nat.reduceAdd]
 repeat' first|((exfalso;omega))|((refine sw_goP 0 1 (id:=9) fun K hK=>?_))|refine sw_seq ?_|refine sw_skip ?_|refine sw_go 0 kp122 fun K hK=>?_|refine sw_goD kp122 (by kernel_rfl) fun K hK=>?_|((first|refine runL_go ?_|refine runQ_go ?_|refine sw_ret (ret0 ?_)|refine sw_ret ?_);simp (disch:=(refine Om.mk ?_;omega)) only[go_sem,Tryz.results122])|(refine hK.nil ?_;clear hK K;simp only[go_sem])|((first|refine runG_fork rfl rfl rfl rfl rfl ?_ ?_|refine runQG_fork rfl rfl rfl rfl rfl ?_ ?_|refine sw_cond rfl ?_ ?_)<;>intro h<;>try simp (disch:=(refine Om.mk ?_;omega)) only[go_sem] at h)|refine hK.call rfl rfl rfl (c1) ⟨(by simp[LS.getBox,Lg.look]),rfl,rfl,(by simp only[dstOk,Nat.reduceLT])⟩ ?_|refine hK.call rfl rfl rfl (c2) ⟨(by simp[LS.getBox,Lg.look]),rfl,rfl,(by simp only[dstOk,Nat.reduceLT])⟩ ?_|(with_reducible refine And.intro (by first|omega|(simp only[lens];omega)) ?_)|fail
 all_goals try simp only[List.drop_succ_cons,List.drop_zero]
 all_goals refine LopsP.cons (LopsW.mkIface (fun v w=>run_makeInterface w _ v (by kernel_rfl)) rfl rfl rfl (by simp only[Nat.reduceLT]) (LopsW.nil ?_))
 all_goals exact LopsP.panic rfl hp
end Go.Proofs.YtohnfgligddanaaGreat
end
