/-
  A01, A03t, Sl, A01b, A02c, A03, one behind the other.
-/
import Derived.Test.YtohnfgligddanaaGreatSet
import Derived.Test.YtohnfgligddanaaGreatG0
import Derived.Test.YtohnfgligddanaaGreatLgK6
import Derived.Test.YtohnfgligddanaaGreatLgK4
import Derived.Test.YtohnfgligddanaaGreatLgK7
section
namespace Go.Proofs.YtohnfgligddanaaGreat
open Go Go.Lg
set_option linter.unusedSimpArgs false
set_option maxHeartbeats 4000000
attribute [local irreducible] SW runL runQ runG runQG FC Ret1
def SigOkP (rs:List Int):Prop:=(1≤rs.length∧rs.length≤8)∧∀j<rs.length,0≤rs.getD j default∧rs.getD j default≤3
def arS (rs:List Int) (n:Int):Int:=if -24≤n∧n≤-1 then 0 else if 0≤n∧n≤rs.length-1 then rs.getD n.toNat default else -1
def scan (rs:List Int):List Int→Int→Nat→Int
 | [],_,_=>-1
 | x::r,need,i=>if arS rs x<0 then -1 else if need+arS rs x-1=0 then (i:Int)+1 else scan rs r (need+arS rs x-1) (i+1)
def endS (rs t:List Int) (a:Nat):Int:=scan rs (t.drop a) 1 a
def TermOkP (rs t:List Int):Prop:=SigOkP rs∧(1≤t.length∧t.length≤60)∧endS rs t 0=t.length
theorem scan_step (rs t:List Int) (need:Int) (i:Nat) (h:i<t.length):scan rs (t.drop i) need i=if arS rs (t.getD i default)<0 then -1 else if need+arS rs (t.getD i default)-1=0 then (i:Int)+1 else scan rs (t.drop (i+1)) (need+arS rs (t.getD i default)-1) (i+1):=by
 rw[List.drop_eq_getElem_cons h]
 simp[scan,List.getD,List.getElem?_eq_getElem h]
theorem scan_end (rs t:List Int) (need:Int) (i:Nat) (h:t.length≤i):scan rs (t.drop i) need i=-1:=by
 rw[List.drop_of_length_le h];rfl
theorem arS_rng {rs:List Int} (hs:SigOkP rs) (n:Int):-1≤arS rs n∧arS rs n≤3:=by
 unfold arS
 split
 ·omega
 ·split
  ·rename_i h
   have:=hs.2 n.toNat (by omega)
   omega
  ·omega
theorem arS_var {rs:List Int} {n:Int} (h:-24≤n∧n≤-1):arS rs n=0:=if_pos h
theorem arS_sym {rs:List Int} {n:Int} (h:0≤n∧n≤rs.length-1):arS rs n=rs.getD n.toNat default:=by
 unfold arS;rw[if_neg (by omega),if_pos h]
theorem arS_none {rs:List Int} {n:Int} (h1:¬(-24≤n∧n≤-1)) (h2:¬(0≤n∧n≤rs.length-1)):arS rs n=-1:=by
 unfold arS;rw[if_neg h1,if_neg h2]
theorem scan_all {rs:List Int}:∀(l:List Int) (need:Int) (i:Nat),scan rs l need i=i+l.length→∀x∈l,0≤arS rs x
 | [],_,_,_,x,hx=>by cases hx
 | y::r,need,i,h,x,hx=>by
  simp only[scan] at h
  split at h
  ·simp only[List.length_cons] at h;omega
  ·split at h
   ·have:r=[]:=by
     cases r with
     | nil=>rfl
     | cons _ _=>simp only[List.length_cons] at h;omega
    subst this
    obtain rfl:x=y:=by simpa using hx
    omega
   ·rcases List.mem_cons.1 hx with rfl|hx
    ·omega
    ·exact scan_all r _ _ (by rw[h];simp only[List.length_cons];omega) x hx
theorem ge24_of_arS {rs:List Int} {x:Int} (h:0≤arS rs x):-24≤x:=by
 unfold arS at h
 split at h
 ·omega
 ·split at h<;>omega
theorem TermOkP.ge {rs t:List Int} (h:TermOkP rs t):∀x∈t,-24≤x:=fun x hx=>by
 have:=h.2.2
 unfold endS at this
 rw[List.drop_zero] at this
 exact ge24_of_arS (scan_all (rs:=rs) t 1 0 (by omega) x hx)
def skipS (rs:List Int):List Int→Int→Nat→Nat×Bool
 | [],_,i=>(i,false)
 | x::r,need,i=>if arS rs x<0 then (i,false) else if need+arS rs x-1=0 then (i+1,true) else skipS rs r (need+arS rs x-1) (i+1)
theorem skip_scan (rs:List Int):∀(l:List Int) (need:Int) (i:Nat),scan rs l need i=if (skipS rs l need i).2=true then ((skipS rs l need i).1:Int) else -1
 | [],_,_=>rfl
 | x::r,need,i=>by
  simp only[scan,skipS]
  split
  ·rfl
  ·split
   ·simp
   ·exact skip_scan rs r _ _
theorem skip_step (rs t:List Int) (need:Int) (i:Nat) (h:i<t.length):skipS rs (t.drop i) need i=if arS rs (t.getD i default)<0 then (i,false) else if need+arS rs (t.getD i default)-1=0 then (i+1,true) else skipS rs (t.drop (i+1)) (need+arS rs (t.getD i default)-1) (i+1):=by
 rw[List.drop_eq_getElem_cons h]
 simp[skipS,List.getD,List.getElem?_eq_getElem h]
theorem skip_end (rs t:List Int) (need:Int) (i:Nat) (h:t.length≤i):skipS rs (t.drop i) need i=(i,false):=by
 rw[List.drop_of_length_le h];rfl
def nxS (rs t:List Int) (a:Nat):Int:=if a<t.length then arS rs (t.getD a default) else -1
def minAt (xs:List Int):Nat→Int
 | 0=>xs.getD 0 default
 | n+1=>if xs.getD (n+1) default<minAt xs n then xs.getD (n+1) default else minAt xs n
theorem minAt_ge (xs:List Int) (c:Int):∀n,c≤minAt xs n↔∀j≤n,c≤xs.getD j default
  | 0 => ⟨fun h j hj => by obtain rfl : j = 0 := by omega
                           exact h,fun h=>h 0 (by omega)⟩
  | n+1=>by
    have ih:=minAt_ge xs c n
    simp only[minAt]
    constructor
    · intro h j hj
      split at h
      · rcases Nat.lt_or_ge j (n+1) with e|e
        · exact ih.1 (by omega) j (by omega)
        · obtain rfl:j=n+1:=by omega
          exact h
      · rcases Nat.lt_or_ge j (n+1) with e|e
        · exact ih.1 h j (by omega)
        · obtain rfl:j=n+1:=by omega
          omega
    · intro h
      split
      · exact h _ (by omega)
      · exact ih.2 fun j hj=>h j (by omega)
theorem minAt_all {xs:List Int} {c:Int} (h:0<xs.length):c≤minAt xs (xs.length-1)↔∀x∈xs,c≤x:=by
 rw[minAt_ge,←forall_getD (P:=fun x=>c≤x)]
 exact⟨fun hh j hj=>hh j (by omega),fun hh j hj=>hh j (by omega)⟩
def kp88:List (Nat×List Nat):=[(0,[0,1,2]),(1,[6])]
attribute [go_sem] kp88
theorem l1In_fc (n lo hi:Int):FC S 88 [] [] [] [.int .i64 n,.int .i64 lo,.int .i64 hi] (.bool (tst (lo≤n∧n≤hi))) [] []:=by
 refine fc_body Tryz.func88 rfl (by kernel_rfl) (by simp[Tryz.f88]) fun B=>?_
 simp only[Tryz.ntmps88,enumD,lst0,Nat.reduceAdd]
 repeat' first|refine sw_seq ?_|refine sw_go 0 kp88 fun K hK=>?_|((first|refine runL_go ?_|refine sw_ret (ret0 ?_)|refine sw_ret ?_);simp (disch:=(refine Om.mk ?_;omega)) only[go_sem,Tryz.results88])|(refine hK.nil ?_;clear hK K;simp only[go_sem])|((first|refine runG_fork rfl rfl rfl rfl rfl ?_ ?_)<;>intro h<;>try simp (disch:=(refine Om.mk ?_;omega)) only[go_sem] at h)|fail
 ·simp[decide_tst,h]
 ·omega
def kp59:List (Nat×List Nat):=[(0,[1]),(1,[1,8]),(2,[2]),(3,[1,3]),(4,[1,3,13]),(6,[1,3,22]),(7,[2]),(5,[1,3]),(8,[2])]
attribute [go_sem] kp59
theorem specSigOk_fc (tk:Tk) (rs:List Int):FC S 59 [] [] [] [.agg [.sl tk (rs.map (.int .i64))]] (.bool (tst (SigOkP rs))) [] []:=by
 refine fc_body Tryz.func59 rfl (by kernel_rfl) (by simp[Tryz.f59]) fun B=>?_
 simp only[Tryz.ntmps59,enumD,lst0,Nat.reduceAdd]
 refine sw_bnd_agg 0 0 rfl rfl fun hb0_0=>?_
 simp only[D.bnd,List.length_map] at hb0_0
 repeat' first|refine sw_seq ?_|refine sw_block ?_|refine sw_skip ?_|refine sw_go 0 kp59 fun K hK=>?_|((first|refine runL_go ?_|refine sw_ret (ret0 ?_)|refine sw_ret ?_);simp (disch:=(refine Om.mk ?_;omega)) only[go_sem,Tryz.results59])|(refine hK.nil ?_;clear hK K;simp only[go_sem])|((first|refine sw_cond rfl ?_ ?_)<;>intro h<;>try simp (disch:=(refine Om.mk ?_;omega)) only[go_sem] at h)|refine hK.c0 rfl rfl rfl (l1In_fc _ _ _) rfl rfl rfl ?_|fail
 ·rintro⟨h1,_⟩;omega
 refine sw_loopU (ι:=Nat) (fun i=>[(3,.int .i64 i)]) (fun _=>[]) (fun i=>i≤rs.length∧(∀j<i,0≤rs.getD j default∧rs.getD j default≤3)) (fun i=>rs.length-i) 0 (by(refine covers_mk0 rfl rfl ?_ ?_ ?_ ?_<;>simp (disch:=(refine Om.mk ?_;omega)) only[go_sem]<;>(try omega))) ⟨by omega,?_⟩ (fun i ⟨hi,hj⟩=>?_)
 rotate_left
 simp only[go_sem]
 repeat' first|refine sw_seq ?_|refine sw_block ?_|refine sw_inBlock ?_|refine sw_skip ?_|refine sw_go 0 kp59 fun K hK=>?_|((first|refine runL_go ?_|refine sw_ret (ret0 ?_)|refine sw_ret ?_);simp (disch:=(refine Om.mk ?_;omega)) only[go_sem,Tryz.results59])|(refine hK.nil ?_;clear hK K;simp only[go_sem])|((first|refine sw_cond rfl ?_ ?_)<;>intro h<;>try simp (disch:=(refine Om.mk ?_;omega)) only[go_sem] at h)|refine sw_exit rfl ?_|refine sw_loopEnd ?_|refine hK.c0 rfl rfl rfl (l1In_fc _ _ _) rfl rfl rfl ?_|(with_reducible refine And.intro (by first|omega|(simp only[lens];omega)) ?_)|fail
 ·rintro⟨_,h2⟩;exact h (h2 i (by omega))
 ·exact⟨i+1,by(refine covers_mk0 rfl rfl ?_ ?_ ?_ ?_<;>simp (disch:=(refine Om.mk ?_;omega)) only[go_sem]<;>(try omega)),⟨by omega,upto_succ hj (by assumption)⟩,by omega⟩
 ·exact⟨⟨by omega,by omega⟩,fun j hj'=>hj j (by omega)⟩
 ·intro j hj';omega
def kp76:List (Nat×List Nat):=[(0,[1]),(1,[1,14]),(2,[2]),(3,[16,17,18]),(4,[16,17,18,19]),(5,[4,16,17,18]),(6,[16,17,18,27]),(7,[2]),(8,[16,17,18]),(9,[2])]
attribute [go_sem] kp76
theorem implSigOk_fc (tk:Tk) (rs:List Int):FC S 76 [] [] [] [.agg [.sl tk (rs.map (.int .i64))]] (.bool (tst (SigOkP rs))) [] []:=by
 refine fc_body Tryz.func76 rfl (by kernel_rfl) (by simp[Tryz.f76]) fun B=>?_
 simp only[Tryz.ntmps76,enumD,lst0,Nat.reduceAdd]
 refine sw_bnd_agg 0 0 rfl rfl fun hb0_0=>?_
 simp only[D.bnd,List.length_map] at hb0_0
 repeat' first|refine sw_seq ?_|refine sw_block ?_|refine sw_skip ?_|refine sw_go 0 kp76 fun K hK=>?_|((first|refine runL_go ?_|refine sw_ret (ret0 ?_)|refine sw_ret ?_);simp (disch:=(refine Om.mk ?_;omega)) only[go_sem,Tryz.results76])|(refine hK.nil ?_;clear hK K;simp only[go_sem])|((first|refine runG_fork rfl rfl rfl rfl rfl ?_ ?_|refine sw_cond rfl ?_ ?_)<;>intro h<;>try simp (disch:=(refine Om.mk ?_;omega)) only[go_sem] at h)|fail
 ·rintro⟨h1,_⟩;omega
 ·rintro⟨h1,_⟩;omega
 refine sw_loopU (ι:=Nat) (fun i=>[(18,.int .i64 i)]) (fun _=>[]) (fun i=>i≤rs.length∧(∀j<i,0≤rs.getD j default∧rs.getD j default≤3)) (fun i=>rs.length-i) 0 (by(refine covers_mk0 rfl rfl ?_ ?_ ?_ ?_<;>simp (disch:=(refine Om.mk ?_;omega)) only[go_sem]<;>(try omega))) ⟨by omega,?_⟩ (fun i ⟨hi,hj⟩=>?_)
 rotate_left
 simp only[go_sem]
 repeat' first|refine sw_seq ?_|refine sw_block ?_|refine sw_inBlock ?_|refine sw_skip ?_|refine sw_go 0 kp76 fun K hK=>?_|((first|refine runL_go ?_|refine sw_ret (ret0 ?_)|refine sw_ret ?_);simp (disch:=(refine Om.mk ?_;omega)) only[go_sem,Tryz.results76])|(refine hK.nil ?_;clear hK K;simp only[go_sem])|((first|refine runG_fork rfl rfl rfl rfl rfl ?_ ?_|refine sw_cond rfl ?_ ?_)<;>intro h<;>try simp (disch:=(refine Om.mk ?_;omega)) only[go_sem] at h)|refine sw_exit rfl ?_|refine sw_loopEnd ?_|(with_reducible refine And.intro (by first|omega|(simp only[lens];omega)) ?_)|fail
 ·rintro⟨_,h2⟩;have:=h2 i (by omega);omega
 ·rintro⟨_,h2⟩;have:=h2 i (by omega);omega
 ·exact⟨i+1,by(refine covers_mk0 rfl rfl ?_ ?_ ?_ ?_<;>simp (disch:=(refine Om.mk ?_;omega)) only[go_sem]<;>(try omega)),⟨by omega,upto_succ hj ⟨by assumption,by assumption⟩⟩,by omega⟩
 ·exact⟨⟨by omega,by omega⟩,fun j hj'=>hj j (by omega)⟩
 ·intro j hj';omega
def kp127:List (Nat×List Nat):=[(0,[1,2]),(1,[1,2,5]),(2,[4]),(3,[1,2,8]),(4,[4]),(5,[4])]
attribute [go_sem] kp127
theorem l1Arity_fc (tk:Tk) (rs:List Int) (n:Int):FC S 127 [] [] [] [.agg [.sl tk (rs.map (.int .i64))],.int .i64 n] (.int .i64 (arS rs n)) [] []:=by
 refine fc_body Tryz.func127 rfl (by kernel_rfl) (by simp[Tryz.f127]) fun B=>?_
 simp only[Tryz.ntmps127,enumD,lst0,Nat.reduceAdd]
 refine sw_bnd_agg 0 0 rfl rfl fun hb0_0=>?_
 simp only[D.bnd,List.length_map] at hb0_0
 repeat' first|refine sw_seq ?_|refine sw_block ?_|refine sw_inBlock ?_|refine sw_skip ?_|refine sw_go 0 kp127 fun K hK=>?_|((first|refine runL_go ?_|refine sw_ret (ret0 ?_)|refine sw_ret ?_);simp (disch:=(refine Om.mk ?_;omega)) only[go_sem,Tryz.results127])|(refine hK.nil ?_;clear hK K;simp only[go_sem])|((first|refine sw_cond rfl ?_ ?_)<;>intro h<;>try simp (disch:=(refine Om.mk ?_;omega)) only[go_sem] at h)|refine hK.c0 rfl rfl rfl (l1In_fc _ _ _) rfl rfl rfl ?_|(with_reducible refine And.intro (by first|omega|(simp only[lens];omega)) ?_)|fail
 ·exact(arS_var h).symm
 ·rw[arS_sym (by omega)]
 ·exact(arS_none (by assumption) (by assumption)).symm
def kp111:List (Nat×List Nat):=[(0,[1,2,3]),(1,[1,2,3,7]),(2,[1,3,7,8]),(3,[1,3,7,8,14]),(5,[1,3,7,8,9]),(6,[1,3,7,8,9,24]),(7,[6]),(8,[1,3,7,8]),(9,[1,3,7,8,30]),(10,[6]),(4,[1,3,7,8]),(11,[6])]
attribute [go_sem] kp111
theorem l1End_fc (tk tk':Tk) (rs t:List Int) (a:Int) (hs:SigOkP rs) (hl:t.length≤60) (ha:0≤a):FC S 111 [] [] [] [.agg [.sl tk (rs.map (.int .i64))],.sl tk' (t.map (.int .i64)),.int .i64 a] (.int .i64 (endS rs t a.toNat)) [] []:=by
 refine fc_body Tryz.func111 rfl (by kernel_rfl) (by simp[Tryz.f111]) fun B=>?_
 simp only[Tryz.ntmps111,enumD,lst0,Nat.reduceAdd]
 refine sw_bnd 1 rfl fun hb1=>?_
 simp only[D.bnd,List.length_map] at hb1
 repeat' first|refine sw_seq ?_|refine sw_block ?_|refine sw_go 0 kp111 fun K hK=>?_|((first|refine runL_go ?_|refine runQ_go ?_|refine sw_ret (ret0 ?_)|refine sw_ret ?_);simp (disch:=(refine Om.mk ?_;omega)) only[go_sem,Tryz.results111])|(refine hK.nil ?_;clear hK K;simp only[go_sem])|fail
 refine sw_loopU (ι:=Nat×Int) (fun p=>[(8,.int .i64 p.1),(7,.int .i64 p.2)]) (fun p=>[]) (fun p=>(a.toNat≤p.1∧endS rs t a.toNat=scan rs (t.drop p.1) p.2 p.1)∧1≤p.2∧p.2≤1+3*p.1) (fun p=>t.length-p.1) (a.toNat,1) (by(refine covers_mk0 rfl rfl ?_ ?_ ?_ ?_<;>simp (disch:=(refine Om.mk ?_;omega)) only[go_sem]<;>(try omega))) ?_ (fun p hp=>?_)
 rotate_left
 simp only[go_sem]
 obtain⟨i,need⟩:=p
 obtain⟨⟨h1,h2⟩,h3,h4⟩:=hp
 have hr:=arS_rng hs (t.getD i default)
 have hb:i<t.length→scan rs (t.drop i) need i=_:=scan_step rs t need i
 repeat' first|refine sw_seq ?_|refine sw_block ?_|refine sw_inBlock ?_|refine sw_skip ?_|refine sw_go 0 kp111 fun K hK=>?_|refine sw_goD kp111 (by kernel_rfl) fun K hK=>?_|((first|refine runL_go ?_|refine runQ_go ?_|refine sw_ret (ret0 ?_)|refine sw_ret ?_);simp (disch:=(refine Om.mk ?_;omega)) only[go_sem,Tryz.results111])|(refine hK.nil ?_;clear hK K;simp only[go_sem])|((first|refine sw_cond rfl ?_ ?_)<;>intro h<;>try simp (disch:=(refine Om.mk ?_;omega)) only[go_sem] at h)|refine sw_exit rfl ?_|refine sw_loopEnd ?_|refine hK.c0 rfl rfl rfl (l1Arity_fc _ _ _) rfl rfl rfl ?_|(with_reducible refine And.intro (by first|omega|(simp only[lens];omega)) ?_)|fail
 ·rw[h2,hb (by omega),if_pos h]
 ·rw[h2,hb (by omega),if_neg (by omega),if_pos h]
 ·refine⟨(i+1,need+arS rs (t.getD i default)-1),by(refine covers_mk0 rfl rfl ?_ ?_ ?_ ?_<;>simp (disch:=(refine Om.mk ?_;omega)) only[go_sem]<;>(try omega)),⟨⟨by omega,?_⟩,by omega,by omega⟩,by omega⟩
  rw[h2,hb (by omega),if_neg (by omega),if_neg h]
 ·rw[h2,scan_end rs t need i (by omega)]
 ·exact⟨⟨by omega,rfl⟩,by omega,by omega⟩
def kp89:List (Nat×List Nat):=[(0,[1,2]),(1,[4])]
attribute [go_sem] kp89
theorem specTermOk_fc (tk tk':Tk) (rs t:List Int):FC S 89 [] [] [] [.agg [.sl tk (rs.map (.int .i64))],.sl tk' (t.map (.int .i64))] (.bool (tst (TermOkP rs t))) [] []:=by
 refine fc_body Tryz.func89 rfl (by kernel_rfl) (by simp[Tryz.f89]) fun B=>?_
 simp only[Tryz.ntmps89,enumD,lst0,Nat.reduceAdd]
 refine sw_bnd_agg 0 0 rfl rfl fun hb0_0=>?_
 simp only[D.bnd,List.length_map] at hb0_0
 refine sw_bnd 1 rfl fun hb1=>?_
 simp only[D.bnd,List.length_map] at hb1
 repeat' first|refine sw_seq ?_|refine sw_go 0 kp89 fun K hK=>?_|((first|refine runL_go ?_|refine sw_ret (ret0 ?_)|refine sw_ret ?_);simp (disch:=(refine Om.mk ?_;omega)) only[go_sem,Tryz.results89])|(refine hK.nil ?_;clear hK K;simp only[go_sem])|((first|refine runG_fork rfl rfl rfl rfl rfl ?_ ?_)<;>intro h<;>try simp (disch:=(refine Om.mk ?_;omega)) only[go_sem] at h)|refine hK.skp rfl rfl ?_|refine hK.c0 rfl rfl rfl (specSigOk_fc _ _) rfl rfl rfl ?_|refine hK.c0 rfl rfl rfl (l1In_fc _ _ _) rfl rfl rfl ?_|refine hK.c0 rfl rfl rfl (l1End_fc _ _ _ _ _ (by assumption) (by omega) (by omega)) rfl rfl rfl ?_|fail
 all_goals (simp only[TermOkP] at *;grind)
def kp116:List (Nat×List Nat):=[(0,[0]),(1,[0,7]),(2,[0]),(3,[0,3]),(4,[0,3,4]),(5,[0,3,4,15]),(7,[0,3,4]),(6,[0,3,4]),(8,[2])]
attribute [go_sem] kp116
theorem min_fc (tk:Tk) (xs:List Int) (h0:0<xs.length):FC S 116 [] [] [] [.sl tk (xs.map (.int .i64))] (.int .i64 (minAt xs (xs.length-1))) [] []:=by
 refine fc_body Tryz.func116 rfl (by kernel_rfl) (by simp[Tryz.f116]) fun B=>?_
 simp only[Tryz.ntmps116,enumD,lst0,Nat.reduceAdd]
 refine sw_bnd 0 rfl fun hb0=>?_
 simp only[D.bnd,List.length_map] at hb0
 repeat' first|refine sw_seq ?_|refine sw_block ?_|refine sw_skip ?_|refine sw_go 0 kp116 fun K hK=>?_|((first|refine runL_go ?_|refine sw_ret (ret0 ?_)|refine sw_ret ?_);simp (disch:=(refine Om.mk ?_;omega)) only[go_sem,Tryz.results116])|(refine hK.nil ?_;clear hK K;simp only[go_sem])|((first|refine sw_cond rfl ?_ ?_)<;>intro h<;>try simp (disch:=(refine Om.mk ?_;omega)) only[go_sem] at h)|(with_reducible refine And.intro (by first|omega|(simp only[lens];omega)) ?_)|fail
 ·omega
 refine sw_loopU (ι:=Nat) (fun p=>[(4,.int .i64 (p+1)),(3,.int .i64 (minAt xs p))]) (fun p=>[]) (fun p=>p<xs.length) (fun p=>xs.length-p) 0 (by(refine covers_mk0 rfl rfl ?_ ?_ ?_ ?_<;>simp (disch:=(refine Om.mk ?_;omega)) only[go_sem]<;>(try omega));exact⟨rfl,rfl⟩) ?_ (fun p hp=>?_)
 rotate_left
 simp only[go_sem]
 repeat' first|refine sw_seq ?_|refine sw_block ?_|refine sw_inBlock ?_|refine sw_skip ?_|refine sw_go 0 kp116 fun K hK=>?_|((first|refine runL_go ?_|refine sw_ret (ret0 ?_)|refine sw_ret ?_);simp (disch:=(refine Om.mk ?_;omega)) only[go_sem,Tryz.results116])|(refine hK.nil ?_;clear hK K;simp only[go_sem])|((first|refine sw_cond rfl ?_ ?_)<;>intro h<;>try simp (disch:=(refine Om.mk ?_;omega)) only[go_sem] at h)|refine sw_exit rfl ?_|refine sw_loopEnd ?_|(with_reducible refine And.intro (by first|omega|(simp only[lens];omega)) ?_)|fail
 ·exact⟨p+1,(by(refine covers_mk0 rfl rfl ?_ ?_ ?_ ?_<;>simp (disch:=(refine Om.mk ?_;omega)) only[go_sem]<;>(try omega));exact⟨rfl,by omega⟩),by omega,by omega⟩
 ·rw[show p=xs.length-1 by omega]
 ·exact h0
def kp123:List (Nat×List Nat):=[(0,[1,2]),(1,[1,2,6]),(2,[4]),(3,[4])]
attribute [go_sem] kp123
theorem arityAt_fc (tk:Tk) (rs:List Int) (n:Int) (hn:-24≤n∧n<rs.length):FC S 123 [] [] [] [.agg [.sl tk (rs.map (.int .i64))],.int .i64 n] (.int .i64 (arS rs n)) [] []:=by
 refine fc_body Tryz.func123 rfl (by kernel_rfl) (by simp[Tryz.f123]) fun B=>?_
 simp only[Tryz.ntmps123,enumD,lst0,Nat.reduceAdd]
 refine sw_bnd_agg 0 0 rfl rfl fun hb0_0=>?_
 simp only[D.bnd,List.length_map] at hb0_0
 repeat' first|refine sw_seq ?_|refine sw_skip ?_|refine sw_go 0 kp123 fun K hK=>?_|((first|refine runL_go ?_|refine sw_ret (ret0 ?_)|refine sw_ret ?_);simp (disch:=(refine Om.mk ?_;omega)) only[go_sem,Tryz.results123])|(refine hK.nil ?_;clear hK K;simp only[go_sem])|((first|refine sw_cond rfl ?_ ?_)<;>intro h<;>try simp (disch:=(refine Om.mk ?_;omega)) only[go_sem] at h)|(with_reducible refine And.intro (by first|omega|(simp only[lens];omega)) ?_)|fail
 ·exact(arS_var (by omega)).symm
 ·rw[arS_sym (by omega)]
def kp137:List (Nat×List Nat):=[(0,[0]),(1,[0,31]),(2,[2]),(3,[0]),(4,[2])]
attribute [go_sem] kp137
theorem next_fc (id:Nat) (rs t:List Int) (a:Nat) (hs:SigOkP rs) (ht:∀x∈t,-24≤x):FC S 137 [] [(id,[.sl .any (rs.map (.int .i64)),.sl .any (t.map (.int .i64)),.int .i64 a])] [] [.box id 0] (.int .i64 (nxS rs t a)) [(id,[.sl .any (rs.map (.int .i64)),.sl .any (t.map (.int .i64)),.int .i64 ((if nxS rs t a<0 then a else a+1:Nat):Int)])] []:=by
 have hx:a<t.length→-24≤t.getD a default:=fun h=>ht _ (getD_mem t a h)
 refine fc_body Tryz.func137 rfl (by kernel_rfl) (by simp[Tryz.f137]) fun B=>?_
 simp only[Tryz.ntmps137,enumD,lst0,Nat.reduceAdd]
 refine sw_bnd_box id 1 (if_pos rfl) rfl fun hbid_1=>?_
 simp only[D.bnd,List.length_map] at hbid_1
 repeat' first|refine sw_seq ?_|refine sw_skip ?_|refine sw_go 0 kp137 fun K hK=>?_|refine sw_goD kp137 (by kernel_rfl) fun K hK=>?_|((first|refine runL_go ?_|refine runQ_go ?_|refine sw_ret (ret0 ?_)|refine sw_ret ?_);simp (disch:=(refine Om.mk ?_;omega)) only[go_sem,Tryz.results137])|(refine hK.nil ?_;clear hK K;simp only[go_sem])|((first|refine runG_fork rfl rfl rfl rfl rfl ?_ ?_|refine runQG_fork rfl rfl rfl rfl rfl ?_ ?_|refine sw_cond rfl ?_ ?_)<;>intro h<;>try simp (disch:=(refine Om.mk ?_;omega)) only[go_sem] at h)|refine hK.c0 rfl rfl rfl (arityAt_fc _ _ _ ⟨by omega,by omega⟩) rfl rfl rfl ?_|(with_reducible refine And.intro (by first|omega|(simp only[lens];omega)) ?_)|fail
 ·have e:nxS rs t a=-1:=if_neg (by omega)
  simp[e]
 ·have e:nxS rs t a=-1:=by rw[nxS,if_pos (by omega),arS_none (by omega) (by omega)]
  simp[e]
 ·have e:nxS rs t a=arS rs (t.getD a default):=if_pos (by omega)
  have h0:0≤arS rs (t.getD a default):=by
   by_cases hn:t.getD a default<0
   ·rw[arS_var (by omega)];omega
   ·rw[arS_sym (by omega)];exact(hs.2 _ (by omega)).1
  rw[if_neg (by omega)]
  exact⟨e.symm,by simp⟩
def kp130:List (Nat×List Nat):=[(0,[0]),(1,[0,3]),(2,[0,3,6]),(4,[0,3,4]),(5,[0,3,4,12]),(6,[2]),(7,[0,3]),(3,[0,3]),(8,[2])]
attribute [go_sem] kp130
theorem skip_fc (id:Nat) (rs t:List Int) (a:Nat) (hs:SigOkP rs) (ht:∀x∈t,-24≤x) (hl:t.length≤60):FC S 130 [] [(id,[.sl .any (rs.map (.int .i64)),.sl .any (t.map (.int .i64)),.int .i64 a])] [] [.box id 0] (.bool (skipS rs (t.drop a) 1 a).2) [(id,[.sl .any (rs.map (.int .i64)),.sl .any (t.map (.int .i64)),.int .i64 (skipS rs (t.drop a) 1 a).1])] []:=by
 refine fc_body Tryz.func130 rfl (by kernel_rfl) (by simp[Tryz.f130]) fun B=>?_
 simp only[Tryz.ntmps130,enumD,lst0,Nat.reduceAdd]
 refine sw_bnd_box id 1 (if_pos rfl) rfl fun hbid_1=>?_
 simp only[D.bnd,List.length_map] at hbid_1
 repeat' first|refine sw_seq ?_|refine sw_block ?_|refine sw_go 0 kp130 fun K hK=>?_|((first|refine runL_go ?_|refine sw_ret (ret0 ?_)|refine sw_ret ?_);simp (disch:=(refine Om.mk ?_;omega)) only[go_sem,Tryz.results130])|(refine hK.nil ?_;clear hK K;simp only[go_sem])|fail
 refine sw_loopU (ι:=Nat×Int) (fun p=>[(3,.int .i64 p.2)]) (fun p=>[(id,[.sl .any (rs.map (.int .i64)),.sl .any (t.map (.int .i64)),.int .i64 p.1])]) (fun p=>(a≤p.1∧((1≤p.2∧skipS rs (t.drop a) 1 a=skipS rs (t.drop p.1) p.2 p.1)∨(p.2=0∧skipS rs (t.drop a) 1 a=(p.1,true))))∧p.2≤1+3*p.1) (fun p=>t.length-p.1) (a,1) (by(refine covers_mk0 rfl rfl ?_ ?_ ?_ ?_<;>simp (disch:=(refine Om.mk ?_;omega)) only[go_sem]<;>(try omega))) ?_ (fun p hp=>?_)
 rotate_left
 simp only[go_sem]
 obtain⟨i,need⟩:=p
 obtain⟨⟨h1,h2⟩,h4⟩:=hp
 dsimp only at h1 h2 h4
 have hr:=arS_rng hs (t.getD i default)
 have hn:nxS rs t i≤3:=by unfold nxS;split<;>omega
 have hb:i<t.length→skipS rs (t.drop i) need i=_:=skip_step rs t need i
 repeat' first|refine sw_seq ?_|refine sw_block ?_|refine sw_inBlock ?_|refine sw_skip ?_|refine sw_go 0 kp130 fun K hK=>?_|((first|refine runL_go ?_|refine sw_ret (ret0 ?_)|refine sw_ret ?_);simp (disch:=(refine Om.mk ?_;omega)) only[go_sem,Tryz.results130])|(refine hK.nil ?_;clear hK K;simp only[go_sem])|((first|refine sw_cond rfl ?_ ?_)<;>intro h<;>try simp (disch:=(refine Om.mk ?_;omega)) only[go_sem] at h)|refine sw_exit rfl ?_|refine sw_loopEnd ?_|(refine hK.callB rfl rfl rfl (next_fc id rs t i hs ht) ⟨⟨by simp only[Nat.reduceLT],(by first|(simp;all_goals fail)|(simp[LS.getBox,Lg.look];all_goals fail)),by(simp[Lg.look];all_goals fail),by(simp;all_goals fail),by(simp;all_goals fail)⟩,⟨by(simp[D.ids,D.idsL];all_goals fail),by(simp[D.ids,D.idsL];all_goals fail),by(simp[D.tks,D.tksL];all_goals fail),by(simp[D.tks,D.tksL];all_goals fail),by(simp;all_goals fail)⟩,rfl⟩ ?_;simp (disch:=(refine Om.mk ?_;omega)) only[go_sem])|fail
 ·have e:i<t.length→nxS rs t i=arS rs (t.getD i default):=fun h=>if_pos h
  rcases h2 with⟨h2,h3⟩|⟨h2,h3⟩
  ·rw[h3]
   by_cases hi:i<t.length
   ·rw[hb hi,if_pos (by rw[←e hi];assumption),if_pos (by assumption)];simp
   ·rw[skip_end rs t need i (by omega),if_pos (by assumption)];simp
  ·omega
 ·have hi:i<t.length:=by
   by_cases hi:i<t.length
   ·exact hi
   ·have:nxS rs t i=-1:=if_neg hi
    omega
  have e:nxS rs t i=arS rs (t.getD i default):=if_pos hi
  refine⟨(i+1,need+nxS rs t i-1),(by(refine covers_mk0 rfl rfl ?_ ?_ ?_ ?_<;>simp (disch:=(refine Om.mk ?_;omega)) only[go_sem]<;>(try omega));rw[if_neg (by omega)]),⟨⟨by omega,?_⟩,by omega⟩,by omega⟩
  rcases h2 with⟨h2,h3⟩|⟨h2,h3⟩
  ·rw[h3,hb hi,if_neg (by omega),←e]
   by_cases hz:need+nxS rs t i-1=0
   ·rw[if_pos hz];exact .inr ⟨hz,rfl⟩
   ·rw[if_neg hz];exact .inl ⟨by dsimp only;omega,rfl⟩
  ·omega
 ·rcases h2 with⟨h2,h3⟩|⟨h2,h3⟩
  ·omega
  ·rw[h3];simp
 ·exact⟨⟨by omega,.inl ⟨by omega,rfl⟩⟩,by omega⟩
def kp117:List (Nat×List Nat):=[(0,[1,2,3]),(1,[7]),(2,[7,13]),(3,[6]),(4,[6])]
attribute [go_sem] kp117
theorem endAt_fc (tk tk':Tk) (rs t:List Int) (a:Int) (hs:SigOkP rs) (ht:∀x∈t,-24≤x) (hl:t.length≤60) (ha:0≤a):FC S 117 [] [] [] [.agg [.sl tk (rs.map (.int .i64))],.sl tk' (t.map (.int .i64)),.int .i64 a] (.int .i64 (endS rs t a.toNat)) [] []:=by
 obtain⟨a,rfl⟩:=Int.eq_ofNat_of_zero_le ha
 refine FC.args (args':=[.agg [.sl .any (rs.map (.int .i64))],.sl .any (t.map (.int .i64)),.int .i64 a]) ?_ (by simp only[go_sem])
 refine fc_body Tryz.func117 rfl (by kernel_rfl) (by simp[Tryz.f117]) fun B=>?_
 simp only[Tryz.ntmps117,enumD,lst0,Nat.reduceAdd]
 repeat' first|refine sw_seq ?_|refine sw_skip ?_|refine sw_go 0 kp117 fun K hK=>?_|((first|refine runL_go ?_|refine sw_ret (ret0 ?_)|refine sw_ret ?_);simp (disch:=(refine Om.mk ?_;omega)) only[go_sem,Tryz.results117])|(refine hK.nil ?_;clear hK K;simp only[go_sem])|((first|refine sw_cond rfl ?_ ?_)<;>intro h<;>try simp (disch:=(refine Om.mk ?_;omega)) only[go_sem] at h)|(refine hK.callB rfl rfl rfl (skip_fc 7 rs t a hs ht hl) ⟨⟨by simp only[Nat.reduceLT],(by first|(simp;all_goals fail)|(simp[LS.getBox,Lg.look];all_goals fail)),by(simp[Lg.look];all_goals fail),by(simp;all_goals fail),by(simp;all_goals fail)⟩,⟨by(simp[D.ids,D.idsL];all_goals fail),by(simp[D.ids,D.idsL];all_goals fail),by(simp[D.tks,D.tksL];all_goals fail),by(simp[D.tks,D.tksL];all_goals fail),by(simp;all_goals fail)⟩,rfl⟩ ?_;simp (disch:=(refine Om.mk ?_;omega)) only[go_sem])|fail
 all_goals first|(rw[endS,skip_scan,h];rfl)
def kp99:List (Nat×List Nat):=[(0,[1,2]),(1,[4])]
attribute [go_sem] kp99
theorem implTermOk_fc (tk tk':Tk) (rs t:List Int):FC S 99 [] [] [] [.agg [.sl tk (rs.map (.int .i64))],.sl tk' (t.map (.int .i64))] (.bool (tst (TermOkP rs t))) [] []:=by
 refine fc_body Tryz.func99 rfl (by kernel_rfl) (by simp[Tryz.f99]) fun B=>?_
 simp only[Tryz.ntmps99,enumD,lst0,Nat.reduceAdd]
 refine sw_bnd_agg 0 0 rfl rfl fun hb0_0=>?_
 simp only[D.bnd,List.length_map] at hb0_0
 refine sw_bnd 1 rfl fun hb1=>?_
 simp only[D.bnd,List.length_map] at hb1
 repeat' first|refine sw_seq ?_|refine sw_go 0 kp99 fun K hK=>?_|((first|refine runL_go ?_|refine sw_ret (ret0 ?_)|refine sw_ret ?_);simp (disch:=(refine Om.mk ?_;omega)) only[go_sem,Tryz.results99])|(refine hK.nil ?_;clear hK K;simp only[go_sem])|((first|refine runG_fork rfl rfl rfl rfl rfl ?_ ?_)<;>intro h<;>try simp (disch:=(refine Om.mk ?_;omega)) only[go_sem] at h)|refine hK.skp rfl rfl ?_|refine hK.c0 rfl rfl rfl (implSigOk_fc _ _) rfl rfl rfl ?_|refine hK.c0 rfl rfl rfl (min_fc _ _ (by omega)) rfl rfl rfl ?_|refine hK.c0 rfl rfl rfl (endAt_fc _ _ _ _ _ (by assumption) ((minAt_all (by omega)).1 (by assumption)) (by omega) (by omega)) rfl rfl rfl ?_|fail
 ·rename_i h1 h2 h3
  have h4:=(minAt_all (by omega)).1 h
  simp only[TermOkP,Int.toNat_zero]
  exact⟨fun e=>⟨h1,by omega,e⟩,fun e=>e.2.2⟩
 ·intro e
  have:=(minAt_all (c:=-24) (by omega)).2 e.ge
  omega
 ·rintro⟨_,h1,_⟩;omega
 ·rintro⟨_,h1,_⟩;omega
 ·rintro⟨h1,_⟩;contradiction
end Go.Proofs.YtohnfgligddanaaGreat
end
section
namespace Go.Proofs.YtohnfgligddanaaGreat
open Go Go.Lg
set_option linter.unusedSimpArgs false
inductive Fl (rs:List Int):Nat→List Int→Prop
 | nil:Fl rs 0 []
 | cons {n:Int} {k:Nat} {l:List Int} (h:0≤arS rs n) (r:Fl rs (k+(arS rs n).toNat) l):Fl rs (k+1) (n::l)
theorem Fl.zero {rs l:List Int} (h:Fl rs 0 l):l=[]:=by
 generalize e:(0:Nat)=k at h
 cases h with
 | nil=>rfl
 | cons _ _=>omega
theorem Fl.len {rs l:List Int} {k:Nat} (h:Fl rs k l):k≤l.length:=by
 induction h with
 | nil=>exact Nat.le_refl _
 | cons _ _ ih=>simp only[List.length_cons];omega
theorem Fl.app {rs l:List Int} {j:Nat} (h:Fl rs j l):∀ {k:Nat} {m:List Int},Fl rs k m→Fl rs (j+k) (l++m):=by
 induction h with
 | nil=>intro k m hm;rw[Nat.zero_add];exact hm
 | @cons n i l h r ih =>
  intro k m hm
  have:=ih hm
  rw[show i+1+k=(i+k)+1 by omega]
  exact .cons h (by rw[show i+k+(arS rs n).toNat=i+(arS rs n).toNat+k by omega];exact this)
theorem Fl.split {rs:List Int}:∀(l:List Int) (j k:Nat),Fl rs (j+k) l→∃l1 l2,l=l1++l2∧Fl rs j l1∧Fl rs k l2
 | [],j,k,h=>by
  have:=h.len
  simp only[List.length_nil] at this
  obtain rfl:j=0:=by omega
  obtain rfl:k=0:=by omega
  exact⟨[],[],rfl,.nil,.nil⟩
 | n::l,0,k,h=>⟨[],n::l,rfl,.nil,by rw[Nat.zero_add] at h;exact h⟩
 | n::l,j+1,k,h=>by
  rw[show j+1+k=(j+k)+1 by omega] at h
  cases h with
  | cons h r =>
   rw[show j+k+(arS rs n).toNat=(j+(arS rs n).toNat)+k by omega] at r
   obtain⟨l1,l2,e,h1,h2⟩:=Fl.split l _ _ r
   exact⟨n::l1,l2,by rw[e];rfl,.cons h h1,h2⟩
theorem Fl.scan {rs:List Int} {k:Nat} {l:List Int} (h:Fl rs k l):∀(r:List Int) (i:Nat),1≤k→Go.Proofs.YtohnfgligddanaaGreat.scan rs (l++r) k i=i+l.length:=by
 induction h with
 | nil=>intro r i h0;omega
 | @cons n k l h hr ih =>
  intro r i _
  simp only[List.cons_append,Go.Proofs.YtohnfgligddanaaGreat.scan]
  rw[if_neg (by omega)]
  by_cases e:k+(arS rs n).toNat=0
  ·rw[if_pos (by omega)]
   rw[e] at hr
   rw[hr.zero]
   simp
  ·rw[if_neg (by omega)]
   have:=ih r (i+1) (by omega)
   rw[show ((k+1:Nat):Int)+arS rs n-1=((k+(arS rs n).toNat:Nat):Int) by omega,this]
   simp only[List.length_cons];omega
theorem scan_fl {rs:List Int}:∀(l:List Int) (k i:Nat) (e:Int),1≤k→scan rs l k i=e→0≤e→∃l1 l2,l=l1++l2∧Fl rs k l1∧e=i+l1.length
 | [],k,i,e,_,h,he=>by simp only[scan] at h;omega
 | n::l,k,i,e,hk,h,he=>by
  simp only[scan] at h
  split at h
  ·omega
  ·rename_i h0
   obtain⟨k,rfl⟩:∃q,k=q+1:=⟨k-1,by omega⟩
   split at h
   ·rename_i h1
    obtain⟨rfl,h3⟩:k=0∧arS rs n=0:=by omega
    exact⟨[n],l,rfl,.cons (by omega) (by rw[h3];exact .nil),by simp;omega⟩
   ·rename_i h1
    obtain⟨l1,l2,e1,e2,e3⟩:=scan_fl l (k+(arS rs n).toNat) (i+1) e (by omega) (by rw[←h];congr 1;omega) he
    exact⟨n::l1,l2,by rw[e1];rfl,.cons (by omega) e2,by simp only[List.length_cons];omega⟩
theorem Fl.uniq {rs:List Int} {k:Nat} {l:List Int} (h:Fl rs k l):∀ {m r s:List Int},Fl rs k m→l++r=m++s→l=m∧r=s:=by
 induction h with
 | nil=>intro m r s hm e;rw[hm.zero] at e ⊢;exact⟨rfl,e⟩
 | @cons n k l h hr ih =>
  intro m r s hm e
  cases hm with
  | @cons n' _ m h' hr' =>
   simp only[List.cons_append,List.cons.injEq] at e
   obtain⟨rfl,e⟩:=e
   obtain⟨rfl,rfl⟩:=ih hr' e
   exact⟨rfl,rfl⟩
theorem Fl.pre {rs:List Int} {k:Nat} {l:List Int} (h:Fl rs k l) {m:List Int} (hm:Fl rs k m) {r:List Int} (e:l=m++r):l=m∧r=[]:=by
 have:=Fl.uniq h hm (r:=[]) (s:=r) (by simpa using e)
 exact⟨this.1,this.2.symm⟩
theorem termOk_fl {rs t:List Int} (h:TermOkP rs t):Fl rs 1 t:=by
 obtain⟨_,_,h3⟩:=h
 unfold endS at h3
 rw[List.drop_zero] at h3
 obtain⟨l1,l2,e1,e2,e3⟩:=scan_fl t 1 0 _ (by omega) h3 (by omega)
 have:l2=[]:=by
  have:=congrArg List.length e1
  rw[List.length_append] at this
  exact List.length_eq_zero_iff.1 (by omega)
 rw[e1,this,List.append_nil];exact e2
theorem fl_termOk {rs t:List Int} (hs:SigOkP rs) (h:Fl rs 1 t) (hl:t.length≤60):TermOkP rs t:=by
 refine⟨hs,⟨h.len,hl⟩,?_⟩
 have:=h.scan [] 0 (by omega)
 unfold endS
 rw[List.drop_zero]
 simpa using this
theorem endS_app {rs:List Int} {p u r:List Int} (h:Fl rs 1 u):endS rs (p++(u++r)) p.length=p.length+u.length:=by
 unfold endS
 rw[List.drop_left]
 exact h.scan r p.length (by omega)
theorem Fl.at {rs:List Int}:∀(l:List Int) (k a:Nat),Fl rs k l→a<l.length→∃p u r,l=p++(u++r)∧p.length=a∧Fl rs 1 u
 | [],_,a,_,ha=>absurd ha (Nat.not_lt_zero _)
 | n::l,k,0,h,_=>by
  obtain⟨k,rfl⟩:∃q,k=q+1:=by cases h;exact⟨_,rfl⟩
  obtain⟨l1,l2,e,h1,_⟩:=Fl.split (n::l) 1 k (by rw[Nat.add_comm];exact h)
  exact⟨[],l1,l2,e,rfl,h1⟩
 | n::l,k,a+1,h,ha=>by
  cases h with
  | cons h r =>
   obtain⟨p,u,s,e,hp,hu⟩:=Fl.at l _ a r (by simpa using ha)
   exact⟨n::p,u,s,by rw[e];rfl,by simp[hp],hu⟩
theorem TermOkP.at {rs t:List Int} (h:TermOkP rs t) {a:Nat} (ha:a<t.length):∃p u r,t=p++(u++r)∧p.length=a∧Fl rs 1 u:=Fl.at t 1 a (termOk_fl h) ha
def subS (rs t:List Int) (a:Nat):List Int:=(t.take (endS rs t a).toNat).drop a
theorem subS_app {rs p u r:List Int} (h:Fl rs 1 u):subS rs (p++(u++r)) p.length=u:=by
 unfold subS
 rw[endS_app h,show ((p.length:Int)+u.length).toNat=p.length+u.length by omega,←List.append_assoc,List.take_left' (by simp),List.drop_left]
theorem subS_ok {rs t:List Int} (h:TermOkP rs t) {a:Nat} (ha:a<t.length):TermOkP rs (subS rs t a):=by
 obtain⟨p,u,r,rfl,rfl,hu⟩:=h.at ha
 rw[subS_app hu]
 refine fl_termOk h.1 hu ?_
 have:=h.2.1.2
 simp only[List.length_append] at this
 omega
theorem endS_ge {rs t:List Int} (h:TermOkP rs t) {a:Nat} (ha:a<t.length):a<endS rs t a∧endS rs t a≤t.length:=by
 obtain⟨p,u,r,rfl,rfl,hu⟩:=h.at ha
 rw[endS_app hu]
 have:=hu.len
 simp only[List.length_append]
 omega
def begS (rs t:List Int):Nat→Nat→List Nat
 | 0,_=>[]
 | k+1,a=>a::begS rs t k (endS rs t a).toNat
def argsS (rs t:List Int) (a:Nat):List Nat:=begS rs t (arS rs (t.getD a default)).toNat (a+1)
theorem begS_length (rs t:List Int):∀k a,(begS rs t k a).length=k
 | 0,_=>rfl
 | k+1,a=>by simp[begS,begS_length rs t k]
theorem begS_fl {rs:List Int}:∀(k:Nat) (p l r:List Int),Fl rs k l→∀x∈begS rs (p++(l++r)) k p.length,p.length≤x∧x<(p++l).length
 | 0,_,_,_,_,x,hx=>by cases hx
 | k+1,p,l,r,h,x,hx=>by
  obtain⟨l1,l2,rfl,h1,h2⟩:=Fl.split l 1 k (by rw[Nat.add_comm];exact h)
  have hl:=h1.len
  simp only[begS,List.mem_cons] at hx
  rcases hx with rfl|hx
  ·simp only[List.length_append];omega
  ·rw[List.append_assoc,endS_app h1,show ((p.length:Int)+l1.length).toNat=(p++l1).length by simp;omega,←List.append_assoc p l1 (l2++r)] at hx
   have:=begS_fl k (p++l1) l2 r h2 x hx
   simp only[List.length_append] at this ⊢
   omega
def nthB (rs t:List Int) (a:Nat):Nat→Nat
 | 0=>a
 | j+1=>(endS rs t (nthB rs t a j)).toNat
theorem nthB_shift (rs t:List Int) (a:Nat):∀j,nthB rs t a (j+1)=nthB rs t (endS rs t a).toNat j
 | 0=>rfl
 | j+1=>by
  show (endS rs t (nthB rs t a (j+1))).toNat=_
  rw[nthB_shift rs t a j]
  rfl
theorem begS_snoc (rs t:List Int):∀(k a:Nat),begS rs t (k+1) a=begS rs t k a++[nthB rs t a k]
 | 0,a=>rfl
 | k+1,a=>by
  show a::begS rs t (k+1) (endS rs t a).toNat=_
  rw[begS_snoc rs t k,nthB_shift]
  rfl
theorem begS_get (rs t:List Int):∀(k a j:Nat),j<k→(begS rs t k a).getD j default=nthB rs t a j
 | 0,_,_,h=>absurd h (Nat.not_lt_zero _)
 | k+1,a,0,_=>rfl
 | k+1,a,j+1,h=>by
  rw[nthB_shift,←begS_get rs t k _ j (by omega)]
  rfl
theorem Fl.cut {rs:List Int} (p r:List Int):∀(j:Nat) (k:Nat) (l:List Int),Fl rs k l→j≤k→∃l1 l2,l=l1++l2∧Fl rs j l1∧Fl rs (k-j) l2∧nthB rs (p++(l++r)) p.length j=(p++l1).length
 | 0,k,l,h,_=>⟨[],l,rfl,.nil,by simpa using h,by simp[nthB]⟩
 | j+1,k,l,h,hj=>by
  obtain⟨l1,l2,rfl,h1,h2,h3⟩:=Fl.cut p r j k l h (by omega)
  obtain⟨m1,m2,rfl,h4,h5⟩:=Fl.split l2 1 (k-(j+1)) (by rw[show 1+(k-(j+1))=k-j by omega];exact h2)
  refine⟨l1++m1,m2,by simp,h1.app h4,h5,?_⟩
  have e:p++(l1++(m1++m2)++r)=(p++l1)++(m1++(m2++r)):=by simp
  show (endS rs _ (nthB rs _ _ j)).toNat=_
  rw[h3,e,endS_app h4]
  simp only[List.length_append];omega
theorem args_cut {rs t:List Int} (h:TermOkP rs t) {a:Nat} (ha:a<t.length):∃p l r,t=p++(t.getD a default::l++r)∧p.length=a∧0≤arS rs (t.getD a default)∧Fl rs (arS rs (t.getD a default)).toNat l:=by
 obtain⟨p,u,r,e,rfl,hu⟩:=h.at ha
 cases hu with
 | @cons n k l h0 hr =>
  have hn:t.getD p.length default=n:=by rw[e];simp[List.getD]
  rw[hn]
  exact⟨p,l,r,by rw[e],rfl,h0,by rw[Nat.zero_add] at hr;exact hr⟩
theorem argsS_lt {rs t:List Int} (h:TermOkP rs t) {a:Nat} (ha:a<t.length):∀x∈argsS rs t a,a<x∧x<t.length:=by
 obtain⟨p,l,r,e,rfl,h0,hl⟩:=args_cut h ha
 intro x hx
 unfold argsS at hx
 have e2:t=(p++[t.getD p.length default])++(l++r):=by simpa using e
 have hlen:(p++[t.getD p.length default]).length=p.length+1:=by simp
 have:=begS_fl _ (p++[t.getD p.length default]) l r hl x (by rw[←e2,hlen];exact hx)
 have h3:=congrArg List.length e2
 simp only[List.length_append,List.length_cons,List.length_nil] at this h3
 omega
theorem nthB_lt {rs t:List Int} (h:TermOkP rs t) {a:Nat} (ha:a<t.length) {j:Nat} (hj:j<(arS rs (t.getD a default)).toNat):a<nthB rs t (a+1) j∧nthB rs t (a+1) j<t.length:=by
 rw[←begS_get rs t _ (a+1) j hj]
 exact argsS_lt h ha _ (getD_mem _ _ (by unfold argsS;rw[begS_length];exact hj))
theorem nthB_le {rs t:List Int} (h:TermOkP rs t) {a:Nat} (ha:a<t.length):∀ {j:Nat},j≤(arS rs (t.getD a default)).toNat→a<nthB rs t (a+1) j∧nthB rs t (a+1) j≤t.length
 | 0,_=>by simp only[nthB];omega
 | j+1,hj=>by
  obtain⟨h1,h2⟩:=nthB_lt h ha (show j<_ by omega)
  have:=endS_ge h h2
  simp only[nthB]
  omega
end Go.Proofs.YtohnfgligddanaaGreat
end
section
namespace Go.Proofs.YtohnfgligddanaaGreat
open Go Go.Lg
set_option linter.unusedSimpArgs false
set_option maxHeartbeats 4000000
attribute [local irreducible] SW runL runQ runG runQG FC Ret1
def kp131:List (Nat×List Nat):=[(0,[0,1]),(1,[0,1,7,8]),(2,[0,1,7,8,9]),(3,[0,1,5,7,8]),(4,[0,1,5,7,8,16]),(5,[4]),(6,[0,1,7,8]),(7,[4])]
attribute [go_sem] kp131
theorem indexFuncRule_fc (tk:Tk) (xs:List (RuleT)) (p:RuleT→Prop) (f:Nat) (cap:List D) (ro:List (Nat×List D)) (hro:∀p∈ro,Lg.look ro p.1=some p.2) (hf:∀x∈xs,FC S f ro [] [] ([RuleD x]++cap) (.bool (tst (p x))) [] []):FC S 131 ro [] [] [.sl tk (xs.map RuleD),.fn f cap] (.int .i64 (fidx p xs)) [] []:=by
 refine fc_body Tryz.func131 rfl (by kernel_rfl) (by simp[Tryz.f131]) fun B=>?_
 simp only[Tryz.ntmps131,enumD,lst0,Nat.reduceAdd]
 refine sw_bnd 0 rfl fun hb0=>?_
 simp only[D.bnd,List.length_map] at hb0
 repeat' first|refine sw_seq ?_|refine sw_block ?_|refine sw_go 0 kp131 fun K hK=>?_|((first|refine runL_go ?_|refine sw_ret (ret0 ?_)|refine sw_ret ?_);simp (disch:=(refine Om.mk ?_;omega)) only[go_sem,Tryz.results131])|(refine hK.nil ?_;clear hK K;simp only[go_sem])|fail
 refine sw_loopU (ι:=Nat) (fun i=>[(8,.int .i64 i)]) (fun _=>[]) (fun i=>i≤xs.length∧(∀j<i,¬p (xs.getD j default))) (fun i=>xs.length-i) 0 (by(refine covers_mk0 rfl rfl ?_ ?_ ?_ ?_<;>simp (disch:=(refine Om.mk ?_;omega)) only[go_sem]<;>(try omega));exact boxLe_mk hro) ⟨by omega,?_⟩ (fun i ⟨hi,hj⟩=>?_)
 rotate_left
 simp only[go_sem]
 repeat' first|refine sw_seq ?_|refine sw_block ?_|refine sw_skip ?_|refine sw_go 0 kp131 fun K hK=>?_|((first|refine runL_go ?_|refine sw_ret (ret0 ?_)|refine sw_ret ?_);simp (disch:=(refine Om.mk ?_;omega)) only[go_sem,Tryz.results131])|(refine hK.nil ?_;clear hK K;simp only[go_sem])|((first|refine sw_cond rfl ?_ ?_)<;>intro h<;>try simp (disch:=(refine Om.mk ?_;omega)) only[go_sem] at h)|refine sw_exit rfl ?_|(with_reducible refine And.intro (by first|omega|(simp only[lens];omega)) ?_)|fail
 ·refine hK.call rfl rfl rfl (hf (xs.getD i default) (getD_mem _ _ (by omega))) ⟨hro,rfl,rfl,(by simp only[dstOk,Nat.reduceLT])⟩ ?_
  repeat' first|refine sw_seq ?_|refine sw_inBlock ?_|refine sw_skip ?_|refine sw_go 0 kp131 fun K hK=>?_|((first|refine runL_go ?_|refine sw_ret (ret0 ?_)|refine sw_ret ?_);simp (disch:=(refine Om.mk ?_;omega)) only[go_sem,Tryz.results131])|(refine hK.nil ?_;clear hK K;simp only[go_sem])|((first|refine sw_cond rfl ?_ ?_)<;>intro h<;>try simp (disch:=(refine Om.mk ?_;omega)) only[go_sem] at h)|refine sw_loopEnd ?_|fail
  ·exact(fidx_at hj (by omega) h).symm
  ·exact⟨i+1,(by(refine covers_mk0 rfl rfl ?_ ?_ ?_ ?_<;>simp (disch:=(refine Om.mk ?_;omega)) only[go_sem]<;>(try omega));exact boxLe_mk hro),⟨by omega,upto_succ hj h⟩,by omega⟩
 ·exact(fidx_none fun j hj'=>hj j (by omega)).symm
 ·intro j hj';omega
def kp118:List (Nat×List Nat):=[(0,[0,1]),(1,[4])]
attribute [go_sem] kp118
theorem containsFuncRule_fc (tk:Tk) (xs:List (RuleT)) (p:RuleT→Prop) (f:Nat) (cap:List D) (ro:List (Nat×List D)) (hro:∀p∈ro,Lg.look ro p.1=some p.2) (hf:∀x∈xs,FC S f ro [] [] ([RuleD x]++cap) (.bool (tst (p x))) [] []):FC S 118 ro [] [] [.sl tk (xs.map RuleD),.fn f cap] (.bool (tst (∃x∈xs,p x))) [] []:=by
 refine fc_body Tryz.func118 rfl (by kernel_rfl) (by simp[Tryz.f118]) fun B=>?_
 simp only[Tryz.ntmps118,enumD,lst0,Nat.reduceAdd]
 repeat' first|refine sw_seq ?_|refine sw_go 0 kp118 fun K hK=>?_|((first|refine runL_go ?_|refine sw_ret (ret0 ?_)|refine sw_ret ?_);simp (disch:=(refine Om.mk ?_;omega)) only[go_sem,Tryz.results118])|(refine hK.nil ?_;clear hK K;simp only[go_sem])|fail
 refine hK.call rfl rfl rfl (indexFuncRule_fc _ _ p _ _ ro hro hf) ⟨hro,rfl,rfl,(by simp only[dstOk,Nat.reduceLT])⟩ ?_
 repeat' first|((first|refine runL_go ?_|refine sw_ret (ret0 ?_)|refine sw_ret ?_);simp (disch:=(refine Om.mk ?_;omega)) only[go_sem,Tryz.results118])|(refine hK.nil ?_;clear hK K;simp only[go_sem])|fail
 exact fidx_ge
def kp49:List (Nat×List Nat):=[(0,[0,1]),(1,[0,1,10]),(2,[4]),(3,[0,1,12,13]),(4,[0,1,12,13,14]),(5,[0,1,5,12,13]),(6,[0,1,12,13,24]),(7,[4]),(8,[0,1,12,13]),(9,[4])]
attribute [go_sem] kp49
theorem equalInt64_fc (tk tk':Tk) (xs ys:List (Int)):FC S 49 [] [] [] [.sl tk (xs.map (.int .i64)),.sl tk' (ys.map (.int .i64))] (.bool (tst (xs=ys))) [] []:=by
 refine fc_body Tryz.func49 rfl (by kernel_rfl) (by simp[Tryz.f49]) fun B=>?_
 simp only[Tryz.ntmps49,enumD,lst0,Nat.reduceAdd]
 refine sw_bnd 0 rfl fun hb0=>?_
 simp only[D.bnd,List.length_map] at hb0
 refine sw_bnd 1 rfl fun hb1=>?_
 simp only[D.bnd,List.length_map] at hb1
 repeat' first|refine sw_seq ?_|refine sw_block ?_|refine sw_skip ?_|refine sw_go 0 kp49 fun K hK=>?_|((first|refine runL_go ?_|refine runQ_go ?_|refine sw_ret (ret0 ?_)|refine sw_ret ?_);simp (disch:=(refine Om.mk ?_;omega)) only[go_sem,Tryz.results49])|(refine hK.nil ?_;clear hK K;simp only[go_sem])|((first|refine sw_cond rfl ?_ ?_)<;>intro h<;>try simp (disch:=(refine Om.mk ?_;omega)) only[go_sem] at h)|fail
 ·intro e;exact h (by rw[e])
 refine sw_loopU (ι:=Nat) (fun i=>[(13,.int .i64 i)]) (fun _=>[]) (fun i=>i≤xs.length∧(∀j<i,xs.getD j default=ys.getD j default)) (fun i=>xs.length-i) 0 (by(refine covers_mk0 rfl rfl ?_ ?_ ?_ ?_<;>simp (disch:=(refine Om.mk ?_;omega)) only[go_sem]<;>(try omega))) ⟨by omega,?_⟩ (fun i ⟨hi,hj⟩=>?_)
 rotate_left
 simp only[go_sem]
 repeat' first|refine sw_seq ?_|refine sw_block ?_|refine sw_inBlock ?_|refine sw_skip ?_|refine sw_go 0 kp49 fun K hK=>?_|refine sw_goD kp49 (by kernel_rfl) fun K hK=>?_|((first|refine runL_go ?_|refine runQ_go ?_|refine sw_ret (ret0 ?_)|refine sw_ret ?_);simp (disch:=(refine Om.mk ?_;omega)) only[go_sem,Tryz.results49])|(refine hK.nil ?_;clear hK K;simp only[go_sem])|((first|refine sw_cond rfl ?_ ?_)<;>intro h<;>try simp (disch:=(refine Om.mk ?_;omega)) only[go_sem] at h)|refine sw_exit rfl ?_|refine sw_loopEnd ?_|(with_reducible refine And.intro (by first|omega|(simp only[lens];omega)) ?_)|fail
 ·intro e;exact h (by rw[e])
 ·exact⟨i+1,by(refine covers_mk0 rfl rfl ?_ ?_ ?_ ?_<;>simp (disch:=(refine Om.mk ?_;omega)) only[go_sem]<;>(try omega)),⟨by omega,upto_succ hj (by assumption)⟩,by omega⟩
 ·exact ext_getD (by assumption) fun j hj'=>hj j (by omega)
 ·intro j hj';omega
end Go.Proofs.YtohnfgligddanaaGreat
end
section
namespace Go.Proofs.YtohnfgligddanaaGreat
open Go Go.Lg
set_option linter.unusedSimpArgs false
set_option maxHeartbeats 4000000
attribute [local irreducible] SW runL runQ runG runQG FC
def intoL:List Int→Int→List Int
 | [],n=>[n]
 | x::r,n=>if x<n then x::intoL r n else if x=n then x::r else n::x::r
theorem mem_intoL (m:Int):∀(xs:List Int) (n:Int),m∈intoL xs n↔m∈xs∨m=n
 | [],n=>by simp[intoL]
 | x::r,n=>by
  simp only[intoL]
  split
  ·simp only[List.mem_cons,mem_intoL m r n,or_assoc]
  ·split
   ·rename_i h;subst h
    simp only[List.mem_cons]
    exact⟨.inl,fun h=>h.elim id .inl⟩
   ·simp only[List.mem_cons]
    exact⟨fun h=>h.elim .inr .inl,fun h=>h.elim .inr .inl⟩
theorem intoL_at (n:Int):∀(xs:List Int) (k:Nat),k≤xs.length→(∀j<k,xs.getD j default<n)→intoL xs n=xs.take k++intoL (xs.drop k) n
 | xs,0,_,_=>by simp
 | x::r,k+1,hk,h=>by
  have h0:=h 0 (by omega)
  simp only[List.getD_cons_zero] at h0
  rw[intoL,if_pos h0,intoL_at n r k (by simpa using hk) (fun j hj=>by simpa using h (j+1) (by omega))]
  simp
 | [],k+1,hk,_=>by simp at hk
theorem drop_cons {α:Type} [Inhabited α] {xs:List α} {k:Nat} (h:k<xs.length):xs.drop k=xs.getD k default::xs.drop (k+1):=by
 rw[List.drop_eq_getElem_cons h];simp[List.getD,List.getElem?_eq_getElem h]
def kp37:List (Nat×List Nat):=[(0,[0,1]),(1,[0,1,5]),(2,[0,1,5,9]),(4,[0,1,5,17]),(5,[4]),(3,[0,1,5]),(6,[4])]
attribute [go_sem] kp37
theorem l1Has_fc (tk:Tk) (xs:List Int) (n:Int):FC S 37 [] [] [] [.sl tk (xs.map (.int .i64)),.int .i64 n] (.bool (tst (n∈xs))) [] []:=by
 refine fc_body Tryz.func37 rfl (by kernel_rfl) (by simp[Tryz.f37]) fun B=>?_
 simp only[Tryz.ntmps37,enumD,lst0,Nat.reduceAdd]
 refine sw_bnd 0 rfl fun hb0=>?_
 simp only[D.bnd,List.length_map] at hb0
 repeat' first|refine sw_seq ?_|refine sw_block ?_|refine sw_go 0 kp37 fun K hK=>?_|((first|refine runL_go ?_|refine sw_ret (ret0 ?_)|refine sw_ret ?_);simp (disch:=(refine Om.mk ?_;omega)) only[go_sem,Tryz.results37])|(refine hK.nil ?_;clear hK K;simp only[go_sem])|fail
 refine sw_loopU (ι:=Nat) (fun i=>[(5,.int .i64 i)]) (fun _=>[]) (fun i=>i≤xs.length∧(∀j<i,¬xs.getD j default=n)) (fun i=>xs.length-i) 0 (by(refine covers_mk0 rfl rfl ?_ ?_ ?_ ?_<;>simp (disch:=(refine Om.mk ?_;omega)) only[go_sem]<;>(try omega))) ⟨by omega,?_⟩ (fun i ⟨hi,hj⟩=>?_)
 rotate_left
 simp only[go_sem]
 repeat' first|refine sw_seq ?_|refine sw_block ?_|refine sw_inBlock ?_|refine sw_skip ?_|refine sw_go 0 kp37 fun K hK=>?_|((first|refine runL_go ?_|refine sw_ret (ret0 ?_)|refine sw_ret ?_);simp (disch:=(refine Om.mk ?_;omega)) only[go_sem,Tryz.results37])|(refine hK.nil ?_;clear hK K;simp only[go_sem])|((first|refine sw_cond rfl ?_ ?_)<;>intro h<;>try simp (disch:=(refine Om.mk ?_;omega)) only[go_sem] at h)|refine sw_exit rfl ?_|refine sw_loopEnd ?_|(with_reducible refine And.intro (by first|omega|(simp only[lens];omega)) ?_)|fail
 ·rw[←h];exact getD_mem _ _ (by omega)
 ·exact⟨i+1,by(refine covers_mk0 rfl rfl ?_ ?_ ?_ ?_<;>simp (disch:=(refine Om.mk ?_;omega)) only[go_sem]<;>(try omega)),⟨by omega,upto_succ hj h⟩,by omega⟩
 ·intro hm
  exact(forall_getD (P:=fun x=>¬x=n)).1 (fun j hj'=>hj j (by omega)) n hm rfl
 ·intro j hj';omega
def kp106:List (Nat×List Nat):=[(0,[0,1]),(1,[0,1,7,8]),(2,[0,1,7,8,9]),(3,[0,1,5,7,8]),(4,[0,1,5,7,8,16]),(5,[4]),(6,[0,1,7,8]),(7,[4])]
attribute [go_sem] kp106
theorem index_fc (tk:Tk) (xs:List Int) (n:Int):FC S 106 [] [] [] [.sl tk (xs.map (.int .i64)),.int .i64 n] (.int .i64 (fidx (fun x=>x=n) xs)) [] []:=by
 refine fc_body Tryz.func106 rfl (by kernel_rfl) (by simp[Tryz.f106]) fun B=>?_
 simp only[Tryz.ntmps106,enumD,lst0,Nat.reduceAdd]
 refine sw_bnd 0 rfl fun hb0=>?_
 simp only[D.bnd,List.length_map] at hb0
 repeat' first|refine sw_seq ?_|refine sw_block ?_|refine sw_go 0 kp106 fun K hK=>?_|((first|refine runL_go ?_|refine sw_ret (ret0 ?_)|refine sw_ret ?_);simp (disch:=(refine Om.mk ?_;omega)) only[go_sem,Tryz.results106])|(refine hK.nil ?_;clear hK K;simp only[go_sem])|fail
 refine sw_loopU (ι:=Nat) (fun i=>[(8,.int .i64 i)]) (fun _=>[]) (fun i=>i≤xs.length∧(∀j<i,¬xs.getD j default=n)) (fun i=>xs.length-i) 0 (by(refine covers_mk0 rfl rfl ?_ ?_ ?_ ?_<;>simp (disch:=(refine Om.mk ?_;omega)) only[go_sem]<;>(try omega))) ⟨by omega,?_⟩ (fun i ⟨hi,hj⟩=>?_)
 rotate_left
 simp only[go_sem]
 repeat' first|refine sw_seq ?_|refine sw_block ?_|refine sw_inBlock ?_|refine sw_skip ?_|refine sw_go 0 kp106 fun K hK=>?_|((first|refine runL_go ?_|refine sw_ret (ret0 ?_)|refine sw_ret ?_);simp (disch:=(refine Om.mk ?_;omega)) only[go_sem,Tryz.results106])|(refine hK.nil ?_;clear hK K;simp only[go_sem])|((first|refine sw_cond rfl ?_ ?_)<;>intro h<;>try simp (disch:=(refine Om.mk ?_;omega)) only[go_sem] at h)|refine sw_exit rfl ?_|refine sw_loopEnd ?_|(with_reducible refine And.intro (by first|omega|(simp only[lens];omega)) ?_)|fail
 ·exact(fidx_at (p:=fun x=>x=n) hj (by omega) h.symm).symm
 ·exact⟨i+1,by(refine covers_mk0 rfl rfl ?_ ?_ ?_ ?_<;>simp (disch:=(refine Om.mk ?_;omega)) only[go_sem]<;>(try omega)),⟨by omega,upto_succ hj fun e=>h e.symm⟩,by omega⟩
 ·exact(fidx_none (p:=fun x=>x=n) fun j hj'=>hj j (by omega)).symm
 ·intro j hj';omega
def kp80:List (Nat×List Nat):=[(0,[0,1]),(1,[4])]
attribute [go_sem] kp80
theorem contains_fc (tk:Tk) (xs:List Int) (n:Int):FC S 80 [] [] [] [.sl tk (xs.map (.int .i64)),.int .i64 n] (.bool (tst (n∈xs))) [] []:=by
 refine fc_body Tryz.func80 rfl (by kernel_rfl) (by simp[Tryz.f80]) fun B=>?_
 simp only[Tryz.ntmps80,enumD,lst0,Nat.reduceAdd]
 repeat' first|refine sw_seq ?_|refine sw_go 0 kp80 fun K hK=>?_|((first|refine runL_go ?_|refine sw_ret (ret0 ?_)|refine sw_ret ?_);simp (disch:=(refine Om.mk ?_;omega)) only[go_sem,Tryz.results80])|(refine hK.nil ?_;clear hK K;simp only[go_sem])|refine hK.c0 rfl rfl rfl (index_fc _ _ _) rfl rfl rfl ?_|fail
 rw[fidx_ge (p:=fun x=>x=n)]
 exact⟨fun⟨x,hx,e⟩=>e ▸ hx,fun h=>⟨n,h,rfl⟩⟩
def kp62:List (Nat×List Nat):=[(0,[0]),(1,[2])]
attribute [go_sem] kp62
theorem l1Copy_fc (tk:Tk) (xs:List Int) (hl:xs.length≤17592186044416):FC S 62 [] [] [] [.sl tk (xs.map (.int .i64))] (.sl (.own 0 2 1) (xs.map (.int .i64))) [] [0]:=by
 refine FC.args (args':=[.sl .any (xs.map (.int .i64))]) ?_ (by simp only[go_sem])
 refine fc_body1 Tryz.func62 rfl (by kernel_rfl) (by simp[Tryz.f62]) fun B=>?_
 simp only[Tryz.ntmps62,enumD,lst0,Nat.reduceAdd]
 refine sw_bnd 0 rfl fun hb0=>?_
 simp only[D.bnd,List.length_map] at hb0
 repeat' first|refine sw_seq ?_|refine sw_go 0 kp62 fun K hK=>?_|((first|refine runL_go ?_|refine sw_ret (ret0 ?_)|refine sw_ret ?_);simp (disch:=(refine Om.mk ?_;omega)) only[go_sem,Tryz.results62])|(refine hK.nil ?_;clear hK K;simp only[go_sem])|(with_reducible refine And.intro (by first|omega|(simp only[lens];omega)) ?_)|fail
 exact ret1_own rfl (by simp)
def kp68:List (Nat×List Nat):=[(0,[0,1]),(1,[0,1,5]),(2,[0,1,5,18]),(3,[0,1,5]),(4,[0,1,5,32]),(5,[4]),(6,[0,5,6]),(7,[4])]
attribute [go_sem] kp68
theorem l1Into_fc (tk:Tk) (xs:List Int) (n:Int) (hl:xs.length≤1099511627776):FC S 68 [] [] [] [.sl tk (xs.map (.int .i64)),.int .i64 n] (.sl .any ((intoL xs n).map (.int .i64))) [] []:=by
 refine FC.args (args':=[.sl .any (xs.map (.int .i64)),.int .i64 n]) ?_ (by simp only[go_sem])
 refine fc_body Tryz.func68 rfl (by kernel_rfl) (by simp[Tryz.f68]) fun B=>?_
 simp only[Tryz.ntmps68,enumD,lst0,Nat.reduceAdd]
 refine sw_bnd 0 rfl fun hb0=>?_
 simp only[D.bnd,List.length_map] at hb0
 repeat' first|refine sw_seq ?_|refine sw_block ?_|refine sw_go 0 kp68 fun K hK=>?_|((first|refine runL_go ?_|refine sw_ret (ret0 ?_)|refine sw_ret ?_);simp (disch:=(refine Om.mk ?_;omega)) only[go_sem,Tryz.results68])|(refine hK.nil ?_;clear hK K;simp only[go_sem])|fail
 refine sw_loopU (ι:=Nat) (fun i=>[(5,.int .i64 i)]) (fun _=>[]) (fun i=>i≤xs.length∧(∀j<i,xs.getD j default<n)) (fun i=>xs.length-i) 0 (by(refine covers_mk0 rfl rfl ?_ ?_ ?_ ?_<;>simp (disch:=(refine Om.mk ?_;omega)) only[go_sem]<;>(try omega))) ⟨by omega,?_⟩ (fun i ⟨hi,hj⟩=>?_)
 rotate_left
 simp only[go_sem]
 have key:=intoL_at n xs i hi hj
 have hd:i<xs.length→xs.drop i=_:=drop_cons
 have hlt:(xs.take i).length≤1099511627776:=by simp;omega
 repeat' first|refine sw_seq ?_|refine sw_block ?_|refine sw_inBlock ?_|refine sw_skip ?_|refine sw_go 0 kp68 fun K hK=>?_|((first|refine runL_go ?_|refine sw_ret (ret0 ?_)|refine sw_ret ?_);simp (disch:=(refine Om.mk ?_;omega)) only[go_sem,Tryz.results68])|(refine hK.nil ?_;clear hK K;simp only[go_sem])|((first|refine runG_fork rfl rfl rfl rfl rfl ?_ ?_|refine sw_cond rfl ?_ ?_)<;>intro h<;>try simp (disch:=(refine Om.mk ?_;omega)) only[go_sem] at h)|refine sw_exit rfl ?_|refine sw_loopEnd ?_|(refine hK.callB rfl rfl rfl (l1Copy_fc .any (xs.take i) (by omega)) ⟨⟨by simp only[Nat.reduceLT],(by first|(simp;all_goals fail)|(simp[LS.getBox,Lg.look];all_goals fail)),by(simp[Lg.look];all_goals fail),by(simp;all_goals fail),by(simp;all_goals fail)⟩,⟨by(simp[D.ids,D.idsL];all_goals fail),by(simp[D.ids,D.idsL];all_goals fail),by(simp[D.tks,D.tksL];all_goals fail),by(simp[D.tks,D.tksL];all_goals fail),by(simp;all_goals fail)⟩,rfl⟩ ?_;simp (disch:=(refine Om.mk ?_;omega)) only[go_sem])|(with_reducible refine And.intro (by first|omega|(simp only[lens];omega)) ?_)|((with_reducible refine And.intro ?_ ?_);· first|(intro x hx;subst hx;rfl)|(intro x;refine And.intro ?_ ?_<;>(intros;subst_vars;rfl)))|fail
 ·exact⟨i+1,by(refine covers_mk0 rfl rfl ?_ ?_ ?_ ?_<;>simp (disch:=(refine Om.mk ?_;omega)) only[go_sem]<;>(try omega)),⟨by omega,upto_succ hj h⟩,by omega⟩
 all_goals first
  | (intro j hj';omega)
  | (rw[key,hd (by omega),intoL,if_neg (by omega),if_pos (by assumption),←hd (by omega),List.take_append_drop])
  | (rw[key,hd (by omega),intoL,if_neg (by omega),if_neg (by assumption),List.append_assoc];rfl)
  | (rw[key,show xs.drop i=[] from List.drop_of_length_le (by omega),intoL,List.append_nil])
end Go.Proofs.YtohnfgligddanaaGreat
end
section
namespace Go.Proofs.YtohnfgligddanaaGreat
open Go Go.Lg
set_option linter.unusedSimpArgs false
set_option linter.unusedVariables false
set_option maxHeartbeats 4000000
attribute [local irreducible] SW runL runQ runG runQG FC LopsW
end Go.Proofs.YtohnfgligddanaaGreat
end
section
namespace Go.Proofs.YtohnfgligddanaaGreat
open Go Go.Lg
set_option linter.unusedSimpArgs false
set_option linter.unusedVariables false
set_option maxHeartbeats 4000000
attribute [local irreducible] SW runL runQ runG runQG FC Ret1
def natD (n:Nat):D:=.int .i64 n
attribute [go_sem] natD
theorem arS_low {rs:List Int} {x:Int} (h:0≤arS rs x):-24≤x∧x<rs.length:=by
 unfold arS at h
 split at h
 ·have:0≤(rs.length:Int):=by omega
  omega
 ·split at h
  ·omega
  ·omega
theorem TermOkP.ar {rs t:List Int} (h:TermOkP rs t):∀x∈t,0≤arS rs x:=fun x hx=>by
 have:=h.2.2
 unfold endS at this
 rw[List.drop_zero] at this
 exact scan_all (rs:=rs) t 1 0 (by omega) x hx
theorem TermOkP.low {rs t:List Int} (h:TermOkP rs t) {a:Nat} (ha:a<t.length):(-24≤t.getD a default∧t.getD a default<rs.length)∧0≤arS rs (t.getD a default)∧arS rs (t.getD a default)≤3 :=
 ⟨arS_low (h.ar _ (getD_mem t a ha)),h.ar _ (getD_mem t a ha),(arS_rng h.1 _).2⟩
def kp101:List (Nat×List Nat):=[(0,[1,2,3]),(1,[6])]
attribute [go_sem] kp101
theorem subAt_fc (tk tk':Tk) (rs t:List Int) (a:Nat) (hT:TermOkP rs t) (ha:a<t.length):FC S 101 [] [] [] [.agg [.sl tk (rs.map (.int .i64))],.sl tk' (t.map (.int .i64)),.int .i64 a] (.sl .any ((subS rs t a).map (.int .i64))) [] []:=by
 have he:=endS_ge hT ha
 have hl:=hT.2.1.2
 refine fc_body Tryz.func101 rfl (by kernel_rfl) (by simp[Tryz.f101]) fun B=>?_
 simp only[Tryz.ntmps101,enumD,lst0,Nat.reduceAdd]
 refine sw_bnd 1 rfl fun hb1=>?_
 simp only[D.bnd,List.length_map] at hb1
 repeat' first|refine sw_seq ?_|refine sw_go 0 kp101 fun K hK=>?_|((first|refine runL_go ?_|refine sw_ret (ret0 ?_)|refine sw_ret ?_);simp (disch:=(refine Om.mk ?_;omega)) only[go_sem,Tryz.results101])|(refine hK.nil ?_;clear hK K;simp only[go_sem])|refine hK.c0 rfl rfl rfl (endAt_fc _ _ rs t a hT.1 hT.ge hl (by omega)) rfl rfl rfl ?_|(with_reducible refine And.intro (by first|omega|(simp only[lens];omega)) ?_)|fail
 rfl
def kp107:List (Nat×List Nat):=[(0,[1,2,3]),(1,[1,2,3,7]),(2,[1,2,3,7,8]),(3,[1,3,7,8,9]),(4,[1,3,7,8,9,19]),(6,[1,3,7,8,9]),(7,[1,3,7,8,9]),(5,[1,3,7,8,9]),(8,[6])]
attribute [go_sem] kp107
theorem argsAt_fc (tk tk':Tk) (rs t:List Int) (a:Nat) (hT:TermOkP rs t) (ha:a<t.length):FC S 107 [] [] [] [.agg [.sl tk (rs.map (.int .i64))],.sl tk' (t.map (.int .i64)),.int .i64 a] (.sl .any ((argsS rs t a).map natD)) [] []:=by
 have hl:=hT.2.1.2
 have hlo:=hT.low ha
 obtain⟨n,hn⟩:∃n:Nat,arS rs (t.getD a default)=n:=⟨(arS rs (t.getD a default)).toNat,by omega⟩
 have hlt:∀j<n,a<nthB rs t (a+1) j∧nthB rs t (a+1) j<t.length:=fun j hj=>nthB_lt hT ha (by omega)
 have hle:∀j≤n,a<nthB rs t (a+1) j∧nthB rs t (a+1) j≤t.length:=fun j hj=>nthB_le hT ha (by omega)
 unfold argsS
 rw[hn,Int.toNat_natCast]
 refine FC.args (args':=[.agg [.sl .any (rs.map (.int .i64))],.sl .any (t.map (.int .i64)),.int .i64 a]) ?_ (by simp only[go_sem])
 refine fc_body Tryz.func107 rfl (by kernel_rfl) (by simp[Tryz.f107]) fun B=>?_
 simp only[Tryz.ntmps107,enumD,lst0,Nat.reduceAdd]
 refine sw_bnd 1 rfl fun hb1=>?_
 simp only[D.bnd,List.length_map] at hb1
 repeat' first|refine sw_seq ?_|refine sw_block ?_|refine sw_go 0 kp107 fun K hK=>?_|refine sw_goD kp107 (by kernel_rfl) fun K hK=>?_|((first|refine runL_go ?_|refine runQ_go ?_|refine sw_ret (ret0 ?_)|refine sw_ret ?_);simp (disch:=(refine Om.mk ?_;omega)) only[go_sem,Tryz.results107])|(refine hK.nil ?_;clear hK K;simp only[go_sem])|refine hK.c0 rfl rfl rfl (arityAt_fc _ rs _ hlo.1) rfl rfl rfl ?_|(with_reducible refine And.intro (by first|omega|(simp only[lens];omega)) ?_)|fail
 rw[hn]
 refine sw_tok 7 26000 3 1 rfl (.inl rfl) rfl ?_
 simp only[go_sem]
 refine sw_loopT (ι:=Nat) (fun j=>[(9,.int .i64 (n-j:Int)),(8,.int .i64 (nthB rs t (a+1) j)),(7,.sl (.own 26000 3 1) ((begS rs t j (a+1)).map natD))]) (fun _=>[]) (fun _=>[26000]) (fun j=>j≤n) (fun j=>n-j) 0 (by(refine covers_mk0 rfl rfl ?_ ?_ ?_ ?_<;>simp (disch:=(refine Om.mk ?_;omega)) only[go_sem]<;>(try omega));simp[nthB,begS]) (by omega) (fun j hj=>?_)
 simp only[go_sem]
 have hb:=begS_length rs t j (a+1)
 have h3:=hle j hj
 have h4:=hlt j
 have h5:j<n→((endS rs t (nthB rs t (a+1) j)).toNat:Int)=endS rs t (nthB rs t (a+1) j):=fun hj=>by have:=endS_ge hT (h4 hj).2;omega
 repeat' first|refine sw_seq ?_|refine sw_block ?_|refine sw_inBlock ?_|refine sw_skip ?_|refine sw_go 0 kp107 fun K hK=>?_|((first|refine runL_go ?_|refine runQ_go ?_|refine sw_ret (ret0 ?_)|refine sw_ret ?_);simp (disch:=(refine Om.mk ?_;omega)) only[go_sem,Tryz.results107])|(refine hK.nil ?_;clear hK K;simp only[go_sem])|((first|refine sw_cond rfl ?_ ?_)<;>intro h<;>try simp (disch:=(refine Om.mk ?_;omega)) only[go_sem] at h)|refine sw_exit rfl ?_|refine sw_loopEnd ?_|refine hK.c0 rfl rfl rfl (endAt_fc _ _ rs t (nthB rs t (a+1) j) hT.1 hT.ge hl (by omega)) rfl rfl rfl ?_|(with_reducible refine And.intro (by first|omega|(simp only[lens];omega)) ?_)|fail
 ·refine⟨j+1,(by(refine covers_mk0 rfl rfl ?_ ?_ ?_ ?_<;>simp (disch:=(refine Om.mk ?_;omega)) only[go_sem]<;>(try omega));have:=h5 (by omega);simp only[nthB,begS_snoc,List.map_append,List.map_cons,List.map_nil,natD];exact⟨trivial,this.symm,by omega⟩),by omega,by omega⟩
 ·rw[show j=n by omega]
end Go.Proofs.YtohnfgligddanaaGreat
end
