/-
  P23, U17, U18, U19, one behind the other.
-/
import Derived.Test.YtohnfgligddanaaGreatG8
import Derived.Test.YtohnfgligddanaaGreatG3
import Derived.Test.YtohnfgligddanaaGreatG2
import Derived.Test.YtohnfgligddanaaGreatLgK13
import Derived.Test.YtohnfgligddanaaGreatLgK10
import Derived.Test.YtohnfgligddanaaGreatLgK12
import Derived.Test.YtohnfgligddanaaGreatLgK17
import Derived.Test.YtohnfgligddanaaGreatLgK7
section
namespace Go.Proofs.YtohnfgligddanaaGreat
open Go Go.Lg
set_option linter.unusedSimpArgs false
set_option linter.unusedVariables false
set_option maxHeartbeats 4000000
attribute [local irreducible] SW runL runQ runG runQG FC Ret1 DefP
def fvs (s l:List Int):List Int:=l.foldl (fun s x=>if x<0 then intoL s (-1-x) else s) s
theorem intoL_up (n:Nat):intoL (upTo n) n=upTo (n+1):=sort_ext (sort_intoL n _ (sort_upTo n)) (sort_upTo _) fun x=>by rw[mem_intoL,mem_upTo,mem_upTo];omega
theorem mkO_pos {x:SystemT} {t:List Int} {a:Nat} (h:¬mkO x t a=2):0≤t.getD a default:=by
 unfold mkO at h
 split at h
 ·exact absurd rfl h
 ·omega
theorem cap_vars (x:SystemT) (t:List Int):∀f a n,fvs (upTo n) (capL x t f a n).1=upTo (capL x t f a n).2
 | 0,a,n=>by unfold capL;rfl
 | f+1,a,n=>by
  unfold capL
  split
  ·split
   ·show fvs (if -((n:Int)+1)<0 then intoL (upTo n) (-1 - -((n:Int)+1)) else upTo n) _=_
    rw[if_pos (by omega),show (-1 - -((n:Int)+1))=(n:Int) by omega,intoL_up]
    exact cap_vars x t f _ _
   ·rename_i h
    have:=mkO_pos h
    show fvs (if t.getD a default<0 then _ else upTo n) _=_
    rw[if_neg (by omega)]
    exact cap_vars x t f _ _
  ·rfl
theorem negV_all (t:List Int):negV t t.length=fvs [] t:=by unfold negV fvs;rw[List.take_length]
theorem cap_cnt (x:SystemT) (t:List Int):(negV (capL x t 60 0 0).1 (capL x t 60 0 0).1.length).length=(capL x t 60 0 0).2:=by
 rw[negV_all]
 have:=cap_vars x t 60 0 0
 rw[show upTo 0=[] from rfl] at this
 rw[this];simp[upTo]
theorem cap_len (x:SystemT) (t:List Int):∀f a n,(capL x t f a n).1.length≤f∧n≤(capL x t f a n).2∧(capL x t f a n).2≤n+f
 | 0,a,n=>by unfold capL;simp
 | f+1,a,n=>by
  unfold capL
  split
  ·split
   ·have:=cap_len x t f (endS x.sig t a).toNat (n+1)
    simp only[List.length_cons];omega
   ·have:=cap_len x t f (a+1) n
    simp only[List.length_cons];omega
  ·simp
theorem cap_ge (x:SystemT) (t:List Int):∀f a n,∀y∈(capL x t f a n).1,-((capL x t f a n).2:Int)≤y
 | 0,a,n=>by unfold capL;simp
 | f+1,a,n=>by
  unfold capL
  split
  ·split
   ·have h1:=cap_len x t f (endS x.sig t a).toNat (n+1)
    have h2:=cap_ge x t f (endS x.sig t a).toNat (n+1)
    intro y hy
    rcases List.mem_cons.1 hy with rfl|hy
    ·dsimp only;omega
    ·exact h2 y hy
   ·rename_i h
    have h0:=mkO_pos h
    have h2:=cap_ge x t f (a+1) n
    intro y hy
    rcases List.mem_cons.1 hy with rfl|hy
    ·dsimp only;omega
    ·exact h2 y hy
  ·simp
theorem cap_fl {x:SystemT} {t:List Int} (hT:TermOkP x.sig t):∀f a n k,a≤t.length→t.length≤a+f→(capL x t f a n).2≤24→Fl x.sig k (t.drop a)→Fl x.sig k (capL x t f a n).1
 | 0,a,n,k,h1,h2,_,h=>by
  rw[List.drop_of_length_le (by omega)] at h
  unfold capL;exact h
 | f+1,a,n,k,h1,h2,hc,h=>by
  have hl:=cap_len x t f
  unfold capL at hc ⊢
  split
  ·rename_i ha
   rw[if_pos ha] at hc
   obtain⟨q,rfl⟩:∃q,k=q+1:=by
    rw[List.drop_eq_getElem_cons ha] at h
    cases h;exact⟨_,rfl⟩
   split
   ·rename_i hm
    rw[if_pos hm] at hc
    obtain⟨l1,l2,e,f1,f2⟩:=Fl.split (t.drop a) 1 q (by rw[Nat.add_comm];exact h)
    have ht:t=t.take a++(l1++l2):=by rw[←e,List.take_append_drop]
    have hta:(t.take a).length=a:=by rw[List.length_take];omega
    have he:=endS_app (p:=t.take a) (r:=l2) f1
    rw[←ht,hta] at he
    have hd:t.drop (endS x.sig t a).toNat=l2:=by
     rw[he,show ((a:Int)+(l1.length:Int)).toNat=a+l1.length by omega,←List.drop_drop,e,List.drop_left]
    have hle:(endS x.sig t a).toNat≤t.length:=by have:=(endS_ge hT ha).2;omega
    have hgt:=(endS_ge hT ha).1
    have ih:=cap_fl hT f (endS x.sig t a).toNat (n+1) q hle (by omega) hc (by rw[hd];exact f2)
    have:=(hl (endS x.sig t a).toNat (n+1)).2.1
    dsimp only at hc
    have har:arS x.sig (-((n:Int)+1))=0:=arS_var (by omega)
    exact .cons (by omega) (by rw[har];exact ih)
   ·rename_i hm
    rw[if_neg hm] at hc
    rw[List.drop_eq_getElem_cons ha] at h
    have hg:t[a]=t.getD a default:=by rw[List.getD_eq_getElem?_getD,List.getElem?_eq_getElem ha];rfl
    rw[hg] at h
    cases h with
    | cons h0 hr=>exact .cons h0 (cap_fl hT f (a+1) n _ (by omega) (by omega) hc hr)
  ·rw[List.drop_of_length_le (by omega)] at h
   exact h
theorem cap_ok {x:SystemT} {t:List Int} (hT:TermOkP x.sig t) (hc:(capL x t 60 0 0).2≤24):TermOkP x.sig (capL x t 60 0 0).1 :=
 fl_termOk hT.1 (cap_fl hT 60 0 0 1 (by omega) (by have:=hT.2.1.2;omega) hc (termOk_fl hT)) (cap_len x t 60 0 0).1
theorem cap_head {x:SystemT} {t:List Int} (h:0≤t.getD 0 default) (hl:0<t.length):capL x t 60 0 0=(t.getD 0 default::(capL x t 59 1 0).1,(capL x t 59 1 0).2):=by
 have hm:mkO x t 0=0:=by unfold mkO;rw[if_neg (by omega),if_pos rfl]
 show (if 0<t.length then _ else _)=_
 rw[if_pos hl,if_neg (by rw[hm];decide)]
theorem mkO_def {x:SystemT} {t:List Int} {a:Nat} (ha:1≤a):mkO x t a=2↔(t.getD a default<0∨DefP x (t.getD a default)):=by
 unfold mkO
 by_cases h1:t.getD a default<0
 ·rw[if_pos h1];exact⟨fun _=>.inl h1,fun _=>rfl⟩
 ·rw[if_neg h1,if_neg (by omega)]
  by_cases h2:DefP x (t.getD a default)
  ·rw[tst_true h2,if_pos rfl];exact⟨fun _=>.inr h2,fun _=>rfl⟩
  ·rw[tst_false h2,if_neg (by decide)];exact⟨fun h=>absurd h (by decide),fun h=>h.elim (fun h=>absurd h h1) fun h=>absurd h h2⟩
attribute [local irreducible] mkO
def kp90:List (Nat×List Nat):=[(0,[1,2]),(1,[1,2,12]),(2,[4]),(3,[1,2,5]),(4,[1,2,5,6]),(5,[1,2,5,6,7]),(6,[1,2,5,6,7,8]),(7,[1,2,5,6,7,8,23]),(8,[1,2,5,6,7,8,36]),(9,[1,2,5,6,7,8]),(10,[1,2,5,6,7,8]),(11,[1,2,5,6,7,8]),(12,[1,2,5,6,7,8]),(13,[1,2,5,6,7,8]),(14,[4])]
attribute [go_sem] kp90
theorem l17Capped_fc (x:SystemT) (t:List Int) (hT:TermOkP x.sig t) (h0:0≤t.getD 0 default) (hx:SystemOkP x):FC S 90 [] [] [] [SystemD x,.sl .any (t.map (.int .i64))] (.sl .any ((capL x t 60 0 0).1.map (.int .i64))) [] []:=by
 have h12:=hx.1.2
 have hd0:∀j<x.rules.length,1≤(x.rules.getD j default).l.length:=fun j hj=>(hx.2 j hj).1.1.2.1.1
 have hl:=hT.2.1
 have hH:=cap_head (x:=x) h0 hl.1
 generalize hR:capL x t 60 0 0=R at *
 have hm2:∀a,1≤a→(mkO x t a=2↔(t.getD a default<0∨t.getD a default∈defL x.rules x.rules.length)):=fun a ha=>by rw[mkO_def ha,defP_mem]
 generalize hdl:defL x.rules x.rules.length=dl at *
 have cD:=l6Defined_fc x (by omega) hd0
 rw[hdl] at cD
 refine fc_body Tryz.func90 rfl (by kernel_rfl) (by simp[Tryz.f90]) fun B=>?_
 simp only[Tryz.ntmps90,enumD,lst0,Nat.reduceAdd]
 repeat' first|((exfalso;omega))|((refine sw_goB (id:=4) 0 kp90 3 55000 rfl fun K hK=>?_))|((refine⟨_,_,_,rfl,rfl,rfl,⟨⟨by simp only[Nat.reduceLT],by decide,by decide,by decide⟩,rfl,by simp[D.strip,strip1,D.cells,D.memOk,TyI.size]⟩,rfl,by simp only[Nat.reduceLT],?_⟩;simp only[go_sem]))|refine sw_seq ?_|refine sw_block ?_|refine sw_skip ?_|refine sw_go 0 kp90 fun K hK=>?_|((first|refine runL_go ?_|refine sw_ret (ret0 ?_)|refine sw_ret ?_);simp (disch:=(refine Om.mk ?_;omega)) only[go_sem,Tryz.results90])|(refine hK.nil ?_;clear hK K;simp only[go_sem])|((first|refine runG_fork rfl rfl rfl rfl rfl ?_ ?_|refine sw_cond rfl ?_ ?_)<;>intro h<;>try simp (disch:=(refine Om.mk ?_;omega)) only[go_sem] at h)|refine hK.c0 rfl rfl rfl (cD) rfl rfl rfl ?_|(with_reducible refine And.intro (by first|omega|(simp only[lens];omega)) ?_)|fail
 refine sw_loopT (ι:=Nat×Nat×Nat×List Int) (fun q=>[(1,.sl .any (t.map (.int .i64))),(2,.box 2 0),(5,.sl .any (dl.map (.int .i64))),(8,.int .i64 q.2.1),(7,.int .i64 (-((q.2.2.1:Int)+1))),(6,.sl (.own 55000 2 1) (q.2.2.2.map (.int .i64)))]) (fun _=>[]) (fun _=>[55000]) (fun q=>(1≤q.2.1∧q.2.1≤t.length∧q.2.2.1≤q.2.1∧q.2.2.2.length≤q.2.1∧t.length≤q.2.1+q.1)∧q.2.2.2++(capL x t q.1 q.2.1 q.2.2.1).1=R.1) (fun q=>t.length-q.2.1) (59,1,0,[t.getD 0 default]) (by(refine covers_mk0 rfl rfl ?_ ?_ ?_ ?_<;>simp (disch:=(refine Om.mk ?_;omega)) only[go_sem]<;>(try omega))) ⟨⟨by simp,by dsimp only;omega,by simp,by simp,by dsimp only;omega⟩,by rw[hH];rfl⟩ (fun q hq=>?_)
 obtain⟨f,a,n,out⟩:=q
 obtain⟨⟨h1,h2,h3,h4,h5⟩,h6⟩:=hq
 dsimp only at h1 h2 h3 h4 h5 h6
 simp only[go_sem]
 by_cases hal:a<t.length
 ·obtain⟨f,rfl⟩:∃g,f=g+1:=⟨f-1,by omega⟩
  have he:=endS_ge hT hal
  have cE:=l13End_fc x.sig t a hT hal
  have hh:=l1Has_fc .any dl (t.getD a default)
  unfold capL at h6
  rw[if_pos hal] at h6
  by_cases e:mkO x t a=2
  ·rw[if_pos e] at h6
   have e2:=(hm2 a h1).1 e
   have e3:¬t.getD a default<0→t.getD a default∈dl:=fun h=>e2.resolve_left h
   repeat' first|((refine sw_renC 41000 55000 rfl rfl ?_;simp only[go_sem]))|((exfalso;omega))|((exfalso;exact absurd (e3 (by omega)) (by assumption)))|refine sw_seq ?_|refine sw_block ?_|refine sw_inBlock ?_|refine sw_skip ?_|refine sw_go 0 kp90 fun K hK=>?_|((first|refine runL_go ?_|refine sw_ret (ret0 ?_)|refine sw_ret ?_);simp (disch:=(refine Om.mk ?_;omega)) only[go_sem,Tryz.results90])|(refine hK.nil ?_;clear hK K;simp only[go_sem])|((first|refine runG_fork rfl rfl rfl rfl rfl ?_ ?_|refine sw_cond rfl ?_ ?_)<;>intro h<;>try simp (disch:=(refine Om.mk ?_;omega)) only[go_sem] at h)|refine hK.skp rfl rfl ?_|refine sw_loopEnd ?_|refine hK.c0 rfl rfl rfl (cE) rfl rfl rfl ?_|refine hK.c0 rfl rfl rfl (hh) rfl rfl rfl ?_|(with_reducible refine And.intro (by first|omega|(simp only[lens];omega)) ?_)|fail
   all_goals exact⟨(f,(endS x.sig t a).toNat,n+1,out++[-((n:Int)+1)]),(by(refine covers_mk0 rfl rfl ?_ ?_ ?_ ?_<;>simp (disch:=(refine Om.mk ?_;omega)) only[go_sem]<;>(try omega));all_goals first|exact⟨by omega,by omega⟩|trace_state),⟨⟨by dsimp only;omega,by dsimp only;omega,by dsimp only;omega,by dsimp only;rw[List.length_append,List.length_singleton];omega,by dsimp only;omega⟩,by dsimp only;rw[List.append_assoc];exact h6⟩,by dsimp only;omega⟩
  ·rw[if_neg e] at h6
   have e2:=mt (hm2 a h1).2 e
   repeat' first|((exfalso;exact e2 (.inl (by omega))))|((exfalso;exact e2 (.inr (by assumption))))|refine sw_seq ?_|refine sw_block ?_|refine sw_inBlock ?_|refine sw_skip ?_|refine sw_go 0 kp90 fun K hK=>?_|((first|refine runL_go ?_|refine sw_ret (ret0 ?_)|refine sw_ret ?_);simp (disch:=(refine Om.mk ?_;omega)) only[go_sem,Tryz.results90])|(refine hK.nil ?_;clear hK K;simp only[go_sem])|((first|refine runG_fork rfl rfl rfl rfl rfl ?_ ?_|refine sw_cond rfl ?_ ?_)<;>intro h<;>try simp (disch:=(refine Om.mk ?_;omega)) only[go_sem] at h)|refine sw_loopEnd ?_|refine hK.c0 rfl rfl rfl (hh) rfl rfl rfl ?_|(with_reducible refine And.intro (by first|omega|(simp only[lens];omega)) ?_)|fail
   all_goals exact⟨(f,a+1,n,out++[t.getD a default]),(by(refine covers_mk0 rfl rfl ?_ ?_ ?_ ?_<;>simp (disch:=(refine Om.mk ?_;omega)) only[go_sem]<;>(try omega))),⟨⟨by dsimp only;omega,by dsimp only;omega,by dsimp only;omega,by dsimp only;rw[List.length_append,List.length_singleton];omega,by dsimp only;omega⟩,by dsimp only;rw[List.append_assoc];exact h6⟩,by dsimp only;omega⟩
 ·have hz:(capL x t f a n).1=[]:=by
   cases f with
   | zero=>rfl
   | succ f=>unfold capL;rw[if_neg hal]
  rw[hz,List.append_nil] at h6
  repeat' first|((exfalso;omega))|refine sw_seq ?_|refine sw_go 0 kp90 fun K hK=>?_|((first|refine runL_go ?_|refine sw_ret (ret0 ?_)|refine sw_ret ?_);simp (disch:=(refine Om.mk ?_;omega)) only[go_sem,Tryz.results90])|(refine hK.nil ?_;clear hK K;simp only[go_sem])|((first|refine runG_fork rfl rfl rfl rfl rfl ?_ ?_|refine sw_cond rfl ?_ ?_)<;>intro h<;>try simp (disch:=(refine Om.mk ?_;omega)) only[go_sem] at h)|refine sw_exit rfl ?_|fail
  all_goals first|rfl|rw[h6]|exact h6
theorem l2VarsW_fc (t:List Int) (ht:t.length≤1000) (hlo:∀x∈t,-1000≤x):FC S 91 [] [] [] [.sl .any (t.map (.int .i64))] (.sl .any ((negV t t.length).map (.int .i64))) [] []:=by
 refine fc_body Tryz.func91 rfl (by kernel_rfl) (by simp[Tryz.f91]) fun B=>?_
 simp only[Tryz.ntmps91,enumD,lst0,Nat.reduceAdd]
 refine sw_bnd 0 rfl fun hb0=>?_
 simp only[D.bnd,List.length_map] at hb0
 repeat' first|refine sw_seq ?_|refine sw_block ?_|refine sw_go 0 kp91 fun K hK=>?_|((first|refine runL_go ?_|refine sw_ret (ret0 ?_)|refine sw_ret ?_);simp (disch:=(refine Om.mk ?_;omega)) only[go_sem,Tryz.results91])|(refine hK.nil ?_;clear hK K;simp only[go_sem])|fail
 refine sw_loopU (ι:=Nat) (fun p=>[(4,.int .i64 p),(3,.sl .any ((negV t p).map (.int .i64)))]) (fun p=>[]) (fun p=>p≤t.length) (fun p=>t.length-p) 0 (by(refine covers_mk0 rfl rfl ?_ ?_ ?_ ?_<;>simp (disch:=(refine Om.mk ?_;omega)) only[go_sem]<;>(try omega));exact⟨rfl,rfl⟩) ?_ (fun p hp=>?_)
 rotate_left
 simp only[go_sem]
 have hl:=negV_len t p hp
 have hs:=negV_succ t p
 have hg:p<t.length→-1000≤t.getD p default:=fun h=>hlo _ (getD_mem t p h)
 repeat' first|refine sw_seq ?_|refine sw_block ?_|refine sw_inBlock ?_|refine sw_skip ?_|refine sw_go 0 kp91 fun K hK=>?_|((first|refine runL_go ?_|refine sw_ret (ret0 ?_)|refine sw_ret ?_);simp (disch:=(refine Om.mk ?_;omega)) only[go_sem,Tryz.results91])|(refine hK.nil ?_;clear hK K;simp only[go_sem])|((first|refine sw_cond rfl ?_ ?_)<;>intro h<;>try simp (disch:=(refine Om.mk ?_;omega)) only[go_sem] at h)|refine sw_exit rfl ?_|refine sw_loopEnd ?_|refine hK.c0 rfl rfl rfl (l1Into_fc _ (negV t p) (-1-t.getD p default) (by omega)) rfl rfl rfl ?_|(with_reducible refine And.intro (by first|omega|(simp only[lens];omega)) ?_)|fail
 ·exact⟨p+1,(by rw[hs (by omega),if_pos (by omega)];(refine covers_mk0 rfl rfl ?_ ?_ ?_ ?_<;>simp (disch:=(refine Om.mk ?_;omega)) only[go_sem]<;>(try omega));all_goals exact⟨rfl,by omega⟩),by omega,by omega⟩
 ·exact⟨p+1,(by rw[hs (by omega),if_neg (by omega)];(refine covers_mk0 rfl rfl ?_ ?_ ?_ ?_<;>simp (disch:=(refine Om.mk ?_;omega)) only[go_sem]<;>(try omega));all_goals exact⟨rfl,by omega⟩),by omega,by omega⟩
 ·rw[show p=t.length by omega]
 ·omega
def kp65:List (Nat×List Nat):=[(0,[1,2]),(1,[1,2,16]),(2,[4,5]),(3,[6]),(4,[6,24]),(5,[4,5]),(6,[4,5])]
attribute [go_sem] kp65
theorem cappedOf_fc (x:SystemT) (t:List Int) (hT:TermOkP x.sig t) (h0:0≤t.getD 0 default) (hx:SystemOkP x):FC S 65 [] [] [] [SystemD x,.sl .any (t.map (.int .i64))] (.tup [.sl .any ((if (capL x t 60 0 0).2≤24 then (capL x t 60 0 0).1 else []).map (.int .i64)),.bool (tst ((capL x t 60 0 0).2≤24))]) [] []:=by
 have cC:=l17Capped_fc x t hT h0 hx
 have hn:=cap_cnt x t
 have hl:=cap_len x t 60 0 0
 have hg:=cap_ge x t 60 0 0
 have cV:=l2VarsW_fc (capL x t 60 0 0).1 (by omega) (fun y hy=>by have:=hg y hy;omega)
 generalize capL x t 60 0 0=R at *
 generalize negV R.1 R.1.length=V at *
 by_cases hc:R.2≤24
 ·rw[if_pos hc,tst_true hc]
  refine fc_body Tryz.func65 rfl (by kernel_rfl) (by simp[Tryz.f65]) fun B=>?_
  simp only[Tryz.ntmps65,enumD,lst0,Nat.reduceAdd]
  repeat' first|((exact absurd hx (by assumption)))|((exact absurd hT (by assumption)))|((exfalso;omega))|refine sw_seq ?_|refine sw_skip ?_|refine sw_go 0 kp65 fun K hK=>?_|((first|refine runL_go ?_|refine sw_ret (ret0 ?_)|refine sw_ret ?_);simp (disch:=(refine Om.mk ?_;omega)) only[go_sem,Tryz.results65])|(refine hK.nil ?_;clear hK K;simp only[go_sem])|((first|refine runG_fork rfl rfl rfl rfl rfl ?_ ?_|refine sw_cond rfl ?_ ?_)<;>intro h<;>try simp (disch:=(refine Om.mk ?_;omega)) only[go_sem] at h)|refine hK.c0 rfl rfl rfl (specSystemOk_fc _) rfl rfl rfl ?_|refine hK.c0 rfl rfl rfl (specTermOk_fc _ _ _ _) rfl rfl rfl ?_|refine hK.c0 rfl rfl rfl (cC) rfl rfl rfl ?_|refine hK.c0 rfl rfl rfl (cV) rfl rfl rfl ?_|fail
 ·rw[if_neg hc,tst_false hc]
  refine fc_body Tryz.func65 rfl (by kernel_rfl) (by simp[Tryz.f65]) fun B=>?_
  simp only[Tryz.ntmps65,enumD,lst0,Nat.reduceAdd]
  repeat' first|((exact absurd hx (by assumption)))|((exact absurd hT (by assumption)))|((exfalso;omega))|refine sw_seq ?_|refine sw_skip ?_|refine sw_go 0 kp65 fun K hK=>?_|((first|refine runL_go ?_|refine sw_ret (ret0 ?_)|refine sw_ret ?_);simp (disch:=(refine Om.mk ?_;omega)) only[go_sem,Tryz.results65])|(refine hK.nil ?_;clear hK K;simp only[go_sem])|((first|refine runG_fork rfl rfl rfl rfl rfl ?_ ?_|refine sw_cond rfl ?_ ?_)<;>intro h<;>try simp (disch:=(refine Om.mk ?_;omega)) only[go_sem] at h)|refine hK.c0 rfl rfl rfl (specSystemOk_fc _) rfl rfl rfl ?_|refine hK.c0 rfl rfl rfl (specTermOk_fc _ _ _ _) rfl rfl rfl ?_|refine hK.c0 rfl rfl rfl (cC) rfl rfl rfl ?_|refine hK.c0 rfl rfl rfl (cV) rfl rfl rfl ?_|fail
end Go.Proofs.YtohnfgligddanaaGreat
end
section
namespace Go.Proofs.YtohnfgligddanaaGreat
open Go Go.Lg
set_option linter.unusedSimpArgs false
set_option linter.unusedVariables false
set_option maxHeartbeats 4000000
attribute [local irreducible] SW runL runQ runG runQG FC Ret1 bD
theorem endX_step {rs t:List Int} {a i:Nat} {need m:Int} (hi:i<t.length) (h3:1≤need) (h4:endS rs t a=scan rs (t.drop i) need i) (h0:0≤arS rs (t.getD i default)) (hm:m=need+arS rs (t.getD i default)-1):(m=0∧endS rs t a=((i+1:Nat):Int))∨(1≤m∧endS rs t a=scan rs (t.drop (i+1)) m (i+1)):=by
 have hb:=scan_step rs t need i hi
 rw[if_neg (by omega)] at hb
 subst hm
 by_cases h:need+arS rs (t.getD i default)-1=0
 ·rw[if_pos h] at hb
  exact .inl ⟨h,by rw[h4,hb];omega⟩
 ·rw[if_neg h] at hb
  exact .inr ⟨by omega,by rw[h4,hb]⟩
theorem xt_neg {rs t:List Int} (hT:XT rs t) {i:Nat} (hi:i<t.length) (h:t.getD i default<0):arS rs (phi (t.getD i default))=0:=by
 have hg:=hT.get hi
 exact arS_var ⟨phi_low hg.1,by have:=(phi_neg _ hg.1).2 h;omega⟩
theorem xt_pos {rs t:List Int} (hT:XT rs t) {i:Nat} (hi:i<t.length) (h:0≤t.getD i default):arS rs (phi (t.getD i default))=rs.getD (t.getD i default).toNat default:=by
 have hg:=hT.get hi
 rw[phi_pos h]
 exact arS_sym (by omega)
theorem l13EndX_fc (rs t:List Int) (a:Nat) (hT:XT rs t) (ha:a<t.length):FC S 63 [] [] [] [.agg [.sl .any (rs.map (.int .i64))],.sl .any (t.map (.int .i64)),.int .i64 a] (.int .i64 (endS rs (phiL t) a)) [] []:=by
 have hlen:=phiL_len t
 have he:=endS_ge hT.1 (a:=a) (by omega)
 have hl:=hT.len
 refine fc_body Tryz.func63 rfl (by kernel_rfl) (by simp[Tryz.f63]) fun B=>?_
 simp only[Tryz.ntmps63,enumD,lst0,Nat.reduceAdd]
 refine sw_bnd 1 rfl fun hb1=>?_
 simp only[D.bnd,List.length_map] at hb1
 repeat' first|refine sw_seq ?_|refine sw_block ?_|refine sw_go 0 kp63 fun K hK=>?_|((first|refine runL_go ?_|refine runQ_go ?_|refine sw_ret (ret0 ?_)|refine sw_ret ?_);simp (disch:=(refine Om.mk ?_;omega)) only[go_sem,Tryz.results63])|(refine hK.nil ?_;clear hK K;simp only[go_sem])|fail
 refine sw_loopU (ι:=Nat×Int) (fun p=>[(2,.int .i64 p.1),(7,.int .i64 p.2)]) (fun p=>[]) (fun p=>(p.1≤t.length∧0≤p.2∧p.2≤1+3*p.1)∧((p.2=0∧endS rs (phiL t) a=p.1)∨(1≤p.2∧endS rs (phiL t) a=scan rs ((phiL t).drop p.1) p.2 p.1))) (fun p=>t.length-p.1) (a,1) (by(refine covers_mk0 rfl rfl ?_ ?_ ?_ ?_<;>simp (disch:=(refine Om.mk ?_;omega)) only[go_sem]<;>(try omega))) ?_ (fun p hp=>?_)
 rotate_left
 simp only[go_sem]
 obtain⟨i,need⟩:=p
 obtain⟨⟨h1,h2,h2'⟩,h3⟩:=hp
 dsimp only at h1 h2 h2' h3
 have hlt:1≤need→i<t.length:=fun h=>Classical.byContradiction fun hn=>by
  have hx:=scan_end rs (phiL t) need i (by omega)
  omega
 have hlow:i<t.length→_:=fun h=>hT.1.low (a:=i) (by omega)
 have hgt:i<t.length→_:=fun h=>hT.get h
 have hv:i<t.length→t.getD i default<0→_:=fun hi h=>xt_neg hT hi h
 have hsy:i<t.length→0≤t.getD i default→_:=fun hi h=>xt_pos hT hi h
 have hph:i<t.length→_:=fun h=>phiL_get t i h
 repeat' first|refine sw_seq ?_|refine sw_block ?_|refine sw_inBlock ?_|refine sw_skip ?_|refine sw_go 0 kp63 fun K hK=>?_|refine sw_goD kp63 (by kernel_rfl) fun K hK=>?_|((first|refine runL_go ?_|refine runQ_go ?_|refine sw_ret (ret0 ?_)|refine sw_ret ?_);simp (disch:=(refine Om.mk ?_;omega)) only[go_sem,Tryz.results63])|(refine hK.nil ?_;clear hK K;simp only[go_sem])|((first|refine sw_cond rfl ?_ ?_)<;>intro h<;>try simp (disch:=(refine Om.mk ?_;omega)) only[go_sem] at h)|refine sw_exit rfl ?_|refine sw_loopEnd ?_|(with_reducible refine And.intro (by first|omega|(simp only[lens];omega)) ?_)|fail
 ·have hi:=hlt (by omega)
  have e:=hsy hi (by omega)
  have hl0:=(hlow hi).2
  rw[hph hi] at hl0
  exact⟨(i+1,need+rs.getD (t.getD i default).toNat default-1),by(refine covers_mk0 rfl rfl ?_ ?_ ?_ ?_<;>simp (disch:=(refine Om.mk ?_;omega)) only[go_sem]<;>(try omega)),⟨⟨by omega,by omega,by omega⟩,endX_step (t:=phiL t) (need:=need) (m:=need+rs.getD (t.getD i default).toNat default-1) (by omega) (by omega) (by omega) (by rw[hph hi];exact hl0.1) (by rw[hph hi,e])⟩,by omega⟩
 ·have hi:=hlt (by omega)
  have e:=hv hi (by omega)
  exact⟨(i+1,need-1),by(refine covers_mk0 rfl rfl ?_ ?_ ?_ ?_<;>simp (disch:=(refine Om.mk ?_;omega)) only[go_sem]<;>(try omega)),⟨⟨by omega,by omega,by omega⟩,endX_step (t:=phiL t) (need:=need) (m:=need-1) (by omega) (by omega) (by omega) (by rw[hph hi,e];omega) (by rw[hph hi,e];omega)⟩,by omega⟩
 ·omega
 ·exact .inr ⟨by simp,rfl⟩
def kp92:List (Nat×List Nat):=[(0,[0,1]),(1,[0,1,22]),(2,[0,1]),(3,[4])]
attribute [go_sem] kp92
theorem l11Head_fc (rs:List Int) (β:List (List Int)) (hβ:BOK rs β) (f:Nat) (t r:List Int) (hr:rootM β f t=some r) (hT:XT rs t):FC S 92 [(1030,[.ms 1028 48]),(1028,β.map bD)] [] [] [.box 1030 0,.sl .any (t.map (.int .i64))] (.sl .any (r.map (.int .i64))) [] []:=by
 have hlb:=hβ.1
 refine fc_body Tryz.func92 rfl (by kernel_rfl) (by simp[Tryz.f92]) fun B=>?_
 simp only[Tryz.ntmps92,enumD,lst0,Nat.reduceAdd]
 repeat' first|refine sw_seq ?_|refine sw_block ?_|refine sw_go 0 kp92 fun K hK=>?_|((first|refine runL_go ?_|refine runQ_go ?_|refine sw_ret (ret0 ?_)|refine sw_ret ?_);simp (disch:=(refine Om.mk ?_;omega)) only[go_sem,Tryz.results92])|(refine hK.nil ?_;clear hK K;simp only[go_sem])|fail
 refine sw_loopU (ι:=Nat×List Int) (fun p=>[(1,.sl .any (p.2.map (.int .i64)))]) (fun p=>[]) (fun p=>rootM β p.1 p.2=some r∧XT rs p.2) (fun p=>p.1) (f,t) (by(refine covers_mk0 rfl rfl ?_ ?_ ?_ ?_<;>simp (disch:=(refine Om.mk ?_;omega)) only[go_sem]<;>(try omega))) ?_ (fun p hp=>?_)
 rotate_left
 simp only[go_sem]
 obtain⟨k,u⟩:=p
 obtain⟨h1,h2⟩:=hp
 dsimp only at h1 h2
 rcases k with _|k
 ·cases h1
 have hg:=h2.get (a:=0) (by have:=h2.len;omega)
 have hl:=h2.len
 by_cases hv:u.getD 0 default<0
 ·have h48:vIx (u.getD 0 default)<48:=by unfold vIx;omega
  unfold rootM at h1
  by_cases hb:β.getD (vIx (u.getD 0 default)) default=[]
  ·rw[if_neg (by rintro⟨_,h⟩;exact h hb)] at h1
   obtain rfl:=Option.some.inj h1
   have hrd:bD (β.getD (-1-u.getD 0 default).toNat default)=.sl .nil []:=by rw[show β.getD (-1-u.getD 0 default).toNat default=[] from hb];exact bD_nil
   repeat' first|((exfalso;omega))|((rw[hrd];simp only[go_sem]))|refine sw_seq ?_|refine sw_go 0 kp92 fun K hK=>?_|refine sw_goD kp92 (by kernel_rfl) fun K hK=>?_|((first|refine runL_go ?_|refine runQ_go ?_|refine sw_ret (ret0 ?_)|refine sw_ret ?_);simp (disch:=(refine Om.mk ?_;omega)) only[go_sem,Tryz.results92])|(refine hK.nil ?_;clear hK K;simp only[go_sem])|((first|refine runG_fork rfl rfl rfl rfl rfl ?_ ?_|refine runQG_fork rfl rfl rfl rfl rfl ?_ ?_|refine sw_cond rfl ?_ ?_)<;>intro h<;>try simp (disch:=(refine Om.mk ?_;omega)) only[go_sem] at h)|refine sw_exit rfl ?_|(with_reducible refine And.intro (by first|omega|(simp only[lens];omega)) ?_)|fail
   all_goals trace_state
  ·rw[if_pos ⟨hv,hb⟩] at h1
   have hrd:bD (β.getD (-1-u.getD 0 default).toNat default)=.sl .any ((β.getD (-1-u.getD 0 default).toNat default).map (.int .i64)):=bD_some hb
   have hb2:(β.getD (-1-u.getD 0 default).toNat default).map (D.int .i64)≠[]:=fun e=>hb (List.map_eq_nil_iff.1 e)
   have hb3:0<(β.getD (-1-u.getD 0 default).toNat default).length:=List.length_pos_iff.2 hb
   repeat' first|((exfalso;omega))|((rw[hrd];simp only[go_sem]))|refine sw_seq ?_|refine sw_block ?_|refine sw_inBlock ?_|refine sw_skip ?_|refine sw_goD kp92 (by kernel_rfl) fun K hK=>?_|((first|refine runL_go ?_|refine runQ_go ?_|refine sw_ret (ret0 ?_)|refine sw_ret ?_);simp (disch:=(refine Om.mk ?_;omega)) only[go_sem,Tryz.results92])|(refine hK.nil ?_;clear hK K;simp only[go_sem])|((first|refine runG_fork rfl rfl rfl rfl rfl ?_ ?_|refine runQG_fork rfl rfl rfl rfl rfl ?_ ?_|refine sw_cond rfl ?_ ?_)<;>intro h<;>try simp (disch:=(refine Om.mk ?_;omega)) only[go_sem] at h)|refine sw_loopEnd ?_|(with_reducible refine And.intro (by first|omega|(simp only[lens];omega)) ?_)|fail
   all_goals exact⟨(k,β.getD (-1-u.getD 0 default).toNat default),(by(refine covers_mk0 rfl rfl ?_ ?_ ?_ ?_<;>simp (disch:=(refine Om.mk ?_;omega)) only[go_sem]<;>(try omega));rw[hrd];simp only[go_sem]),⟨h1,hβ.get hb⟩,by simp⟩
 ·unfold rootM at h1
  rw[if_neg (by rintro⟨h,_⟩;exact hv h)] at h1
  obtain rfl:=Option.some.inj h1
  repeat' first|((exfalso;omega))|refine sw_seq ?_|refine sw_go 0 kp92 fun K hK=>?_|refine sw_goD kp92 (by kernel_rfl) fun K hK=>?_|((first|refine runL_go ?_|refine runQ_go ?_|refine sw_ret (ret0 ?_)|refine sw_ret ?_);simp (disch:=(refine Om.mk ?_;omega)) only[go_sem,Tryz.results92])|(refine hK.nil ?_;clear hK K;simp only[go_sem])|((first|refine runG_fork rfl rfl rfl rfl rfl ?_ ?_|refine runQG_fork rfl rfl rfl rfl rfl ?_ ?_|refine sw_cond rfl ?_ ?_)<;>intro h<;>try simp (disch:=(refine Om.mk ?_;omega)) only[go_sem] at h)|refine sw_exit rfl ?_|(with_reducible refine And.intro (by first|omega|(simp only[lens];omega)) ?_)|fail
  all_goals trace_state
 ·exact⟨hr,hT⟩
def partsN (rs t:List Int) (j:Nat):List (List Int):=(List.range j).map fun i=>subX rs t (nthB rs (phiL t) 1 i)
theorem partsN_len (rs t:List Int) (j:Nat):(partsN rs t j).length=j:=by simp[partsN]
theorem partsN_succ (rs t:List Int) (j:Nat):partsN rs t (j+1)=partsN rs t j++[subX rs t (nthB rs (phiL t) 1 j)]:=by simp[partsN,List.range_succ]
theorem partsN_all (rs t:List Int):partsN rs t (arS rs ((phiL t).getD 0 default)).toNat=partsX rs t:=by
 unfold partsN partsX
 rw[show argsS rs (phiL t) 0=begS rs (phiL t) (arS rs ((phiL t).getD 0 default)).toNat 1 from rfl,begS_length]
 exact List.map_congr_left fun i hi=>by rw[begS_get _ _ _ _ _ (List.mem_range.1 hi)]
theorem l13PartsX_fc (rs t:List Int) (hT:XT rs t) (h0:0≤hd t):FC S 94 [] [] [] [.agg [.sl .any (rs.map (.int .i64))],.sl .any (t.map (.int .i64))] (.sl .any ((partsX rs t).map IntsD)) [] []:=by
 rw[←partsN_all]
 have hl:=hT.len
 have hlen:=phiL_len t
 have hlo:=hT.1.low (a:=0) (by omega)
 have hph:=phiL_get t 0 (by omega)
 have hsy:=xt_pos hT (i:=0) (by omega) h0
 have hg:=hT.get (a:=0) (by omega)
 have hhd:0≤t.getD 0 default:=h0
 have hlt:∀j<(arS rs ((phiL t).getD 0 default)).toNat,0<nthB rs (phiL t) 1 j∧nthB rs (phiL t) 1 j<(phiL t).length:=fun j hj=>nthB_lt hT.1 (by omega) (by omega)
 have hle:∀j≤(arS rs ((phiL t).getD 0 default)).toNat,0<nthB rs (phiL t) 1 j∧nthB rs (phiL t) 1 j≤(phiL t).length:=fun j hj=>nthB_le hT.1 (by omega) (by omega)
 have hlow:=hlo.2
 rw[hph,hsy] at hlow hlt hle ⊢
 generalize hk:(rs.getD (t.getD 0 default).toNat default).toNat=k at *
 refine fc_body Tryz.func94 rfl (by kernel_rfl) (by simp[Tryz.f94]) fun B=>?_
 simp only[Tryz.ntmps94,enumD,lst0,Nat.reduceAdd]
 refine sw_bnd 1 rfl fun hb1=>?_
 simp only[D.bnd,List.length_map] at hb1
 repeat' first|refine sw_seq ?_|refine sw_block ?_|refine sw_skip ?_|refine sw_go 0 kp94 fun K hK=>?_|((first|refine runL_go ?_|refine runQ_go ?_|refine sw_ret (ret0 ?_)|refine sw_ret ?_);simp (disch:=(refine Om.mk ?_;omega)) only[go_sem,Tryz.results94])|(refine hK.nil ?_;clear hK K;simp only[go_sem])|((first|refine sw_cond rfl ?_ ?_)<;>intro h<;>try simp (disch:=(refine Om.mk ?_;omega)) only[go_sem] at h)|(with_reducible refine And.intro (by first|omega|(simp only[lens];omega)) ?_)|fail
 ·exfalso;omega
 refine sw_tok 5 37000 22 1 rfl (.inr rfl) rfl ?_
 simp only[go_sem]
 refine sw_loopT (ι:=Nat) (fun j=>[(7,.int .i64 j),(6,.int .i64 (nthB rs (phiL t) 1 j)),(5,.sl (.own 37000 22 1) ((partsN rs t j).map IntsD))]) (fun _=>[]) (fun _=>[37000]) (fun j=>j≤k) (fun j=>k-j) 0 (by(refine covers_mk0 rfl rfl ?_ ?_ ?_ ?_<;>simp (disch:=(refine Om.mk ?_;omega)) only[go_sem]<;>(try omega));all_goals exact⟨rfl,rfl,rfl⟩) (by omega) (fun j hj=>?_)
 simp only[go_sem]
 have h3:=hle j hj
 have h4:=hlt j
 have h5:j<k→nthB rs (phiL t) 1 j<endS rs (phiL t) (nthB rs (phiL t) 1 j)∧endS rs (phiL t) (nthB rs (phiL t) 1 j)≤(phiL t).length:=fun h=>endS_ge hT.1 (h4 h).2
 have h6:j<k→((endS rs (phiL t) (nthB rs (phiL t) 1 j)).toNat:Int)=endS rs (phiL t) (nthB rs (phiL t) 1 j):=fun h=>by have:=h5 h;omega
 have h7:=partsN_len rs t j
 have h8:=partsN_succ rs t j
 by_cases hjk:j<k
 ·repeat' first|((exfalso;omega))|refine sw_seq ?_|refine sw_block ?_|refine sw_inBlock ?_|refine sw_skip ?_|refine sw_go 0 kp94 fun K hK=>?_|refine sw_goD kp94 (by kernel_rfl) fun K hK=>?_|((first|refine runL_go ?_|refine runQ_go ?_|refine sw_ret (ret0 ?_)|refine sw_ret ?_);simp (disch:=(refine Om.mk ?_;omega)) only[go_sem,Tryz.results94])|(refine hK.nil ?_;clear hK K;simp only[go_sem])|((first|refine sw_cond rfl ?_ ?_)<;>intro h<;>try simp (disch:=(refine Om.mk ?_;omega)) only[go_sem] at h)|refine sw_loopEnd ?_|refine hK.c0 rfl rfl rfl (l13EndX_fc rs t (nthB rs (phiL t) 1 j) hT (by have:=(h4 hjk).2;omega)) rfl rfl rfl ?_|(with_reducible refine And.intro (by first|omega|(simp only[lens];omega)) ?_)|fail
  exact⟨j+1,(by(refine covers_mk0 rfl rfl ?_ ?_ ?_ ?_<;>simp (disch:=(refine Om.mk ?_;omega)) only[go_sem]<;>(try omega));rw[h8,List.map_append];exact⟨rfl,(h6 hjk).symm,by omega⟩),by omega,by omega⟩
 ·repeat' first|((exfalso;omega))|refine sw_seq ?_|refine sw_go 0 kp94 fun K hK=>?_|refine sw_goD kp94 (by kernel_rfl) fun K hK=>?_|((first|refine runL_go ?_|refine runQ_go ?_|refine sw_ret (ret0 ?_)|refine sw_ret ?_);simp (disch:=(refine Om.mk ?_;omega)) only[go_sem,Tryz.results94])|(refine hK.nil ?_;clear hK K;simp only[go_sem])|((first|refine sw_cond rfl ?_ ?_)<;>intro h<;>try simp (disch:=(refine Om.mk ?_;omega)) only[go_sem] at h)|refine sw_exit rfl ?_|(with_reducible refine And.intro (by first|omega|(simp only[lens];omega)) ?_)|fail
  rw[show j=k by omega]
end Go.Proofs.YtohnfgligddanaaGreat
end
section
namespace Go.Proofs.YtohnfgligddanaaGreat
open Go Go.Lg
set_option linter.unusedVariables false
set_option linter.unusedSimpArgs false
def PrU (β:Bds) (x:Int) (s:List Bool) (u:List Int):Prop:=∀z∈u,z≠x∧(z<0→Sn s (vIx z)∨β.getD (vIx z) default=[])
def unS (s:List Bool):Nat:=s.count false
theorem unS_set:∀(s:List Bool) (i:Nat),i<s.length→s.getD i default=false→unS (s.set i true)+1=unS s
 | [],_,h,_=>by cases h
 | b::s,0,_,h=>by
  have:b=false:=by simpa using h
  subst this
  simp[unS]
 | b::s,i+1,h,h0=>by
  have ih:=unS_set s i (by simpa using h) (by simpa using h0)
  unfold unS at ih ⊢
  rw[List.set_cons_succ,List.count_cons,List.count_cons]
  omega
theorem PrU.mono {β:Bds} {x:Int} {s:List Bool} {i:Nat} (hi:i<s.length) {u:List Int} (h:PrU β x s u):PrU β x (s.set i true) u:=fun z hz=>⟨(h z hz).1,fun h0=>((h z hz).2 h0).imp (fun h=>(sn_set hi).2 (.inr h)) id⟩
theorem PrU.nil (β:Bds) (x:Int) (s:List Bool):PrU β x s []:=fun z hz=>by cases hz
theorem PrU.snoc {β:Bds} {x:Int} {s:List Bool} {u:List Int} {i:Nat} (hi:i<u.length) (h:PrU β x s (u.take i)) (hne:u.getD i default≠x) (h0:u.getD i default<0→Sn s (vIx (u.getD i default))∨β.getD (vIx (u.getD i default)) default=[]):PrU β x s (u.take (i+1)):=fun z hz=>by
 have e:u.take (i+1)=u.take i++[u.getD i default]:=by
  rw[List.take_add_one,List.getElem?_eq_getElem hi,List.getD_eq_getElem?_getD,List.getElem?_eq_getElem hi]
  rfl
 rw[e] at hz
 rcases List.mem_append.1 hz with hz|hz
 ·exact h z hz
 ·rw[List.mem_singleton.1 hz];exact⟨hne,h0⟩
structure OccI (β:Bds) (x:Int) (t:List Int) (us:List (List Int)) (s:List Bool):Prop where
 len:s.length=48
 size:us.length+unS s≤49
 sound:∀u∈us,OccP β x u→OccP β x t
 top:PrU β x s t∨t∈us
 seen:∀i,Sn s i→PrU β x s (β.getD i default)∨β.getD i default∈us
theorem OccI.start (β:Bds) (x:Int) (t:List Int):OccI β x t [t] (List.replicate 48 false) where
 len:=List.length_replicate
 size:=by simp[unS]
 sound:=fun u hu h=>by rw[List.mem_singleton.1 hu] at h;exact h
 top:=.inr (List.mem_singleton.2 rfl)
 seen:=fun i h=>by
  unfold Sn at h
  rw[List.getD_eq_getElem?_getD,List.getElem?_replicate] at h
  split at h<;>cases h
theorem OccI.done {β:Bds} {x:Int} (hx:x<0) {t:List Int} {s:List Bool} (h:OccI β x t [] s):¬OccP β x t:=by
 have key:∀i j,Rch β i j→j=vIx x→i≠vIx x→(Sn s i∨β.getD i default=[])→False:=by
  intro i j hr
  induction hr with
  | refl=>intro e h1 _;exact h1 e
  | step he _ ih =>
   intro e h1 h2
   obtain⟨y,hy,hy0,hyj⟩:=he
   rcases h2 with h2|h2
   ·have hp:=(h.seen _ h2).resolve_right (by simp)
    have:=hp y hy
    exact ih e (fun e'=>this.1 (vIx_inj hy0 hx (hyj.trans e'))) (hyj ▸ this.2 hy0)
   ·rw[h2] at hy;cases hy
 rintro⟨z,hz,hz0,hr⟩
 have hp:=(h.top.resolve_right (by simp)) z hz
 exact key _ _ hr rfl (fun e=>hp.1 (vIx_inj hz0 hx e)) (hp.2 hz0)
theorem OccI.found {β:Bds} {x:Int} (hx:x<0) {t u:List Int} {us:List (List Int)} {s:List Bool} (h:OccI β x t (u::us) s) (hm:x∈u):OccP β x t :=
 h.sound u (List.mem_cons_self ..) ⟨x,hm,hx,.refl _⟩
theorem OccI.drop {β:Bds} {x:Int} {t u:List Int} {us:List (List Int)} {s:List Bool} (h:OccI β x t (u::us) s) (hp:PrU β x s u):OccI β x t us s where
 len:=h.len
 size:=by have:=h.size;rw[List.length_cons] at this;omega
 sound:=fun v hv=>h.sound v (List.mem_cons_of_mem _ hv)
 top:=h.top.elim .inl fun h1=>(List.mem_cons.1 h1).elim (fun e=>.inl (e ▸ hp)) .inr
 seen:=fun i hi=>(h.seen i hi).elim .inl fun h1=>(List.mem_cons.1 h1).elim (fun e=>.inl (e ▸ hp)) .inr
theorem OccI.perm {β:Bds} {x:Int} {t:List Int} {us vs:List (List Int)} {s:List Bool} (h:OccI β x t us s) (hl:vs.length=us.length) (hm:∀v,v∈vs↔v∈us):OccI β x t vs s where
 len:=h.len
 size:=by rw[hl];exact h.size
 sound:=fun v hv=>h.sound v ((hm v).1 hv)
 top:=h.top.imp id (hm _).2
 seen:=fun i hi=>(h.seen i hi).imp id (hm _).2
theorem OccI.push {β:Bds} {x:Int} {t u:List Int} {us:List (List Int)} {s:List Bool} (h:OccI β x t (u::us) s) {z:Int} (hz:z∈u) (hz0:z<0) (h8:vIx z<48) (hns:s.getD (vIx z) default=false):OccI β x t (u::(us++[β.getD (vIx z) default])) (s.set (vIx z) true) where
 len:=by rw[List.length_set];exact h.len
 size:=by
  have:=h.size
  have:=unS_set s (vIx z) (by rw[h.len];exact h8) hns
  simp only[List.length_cons,List.length_append,List.length_nil] at *
  omega
 sound:=fun v hv ho=>by
  rcases List.mem_cons.1 hv with rfl|hv
  ·exact h.sound _ (List.mem_cons_self ..) ho
  ·rcases List.mem_append.1 hv with hv|hv
   ·exact h.sound v (List.mem_cons_of_mem _ hv) ho
   ·rw[List.mem_singleton.1 hv] at ho
    obtain⟨y,hy,hy0,hr⟩:=ho
    exact h.sound u (List.mem_cons_self ..) ⟨z,hz,hz0,.step ⟨y,hy,hy0,rfl⟩ hr⟩
 top:=h.top.imp (fun h1=>h1.mono (by rw[h.len];exact h8)) fun h1=>(List.mem_cons.1 h1).elim (fun e=>List.mem_cons.2 (.inl e)) fun h1=>List.mem_cons_of_mem _ (List.mem_append_left _ h1)
 seen:=fun i hi=>by
  rcases (sn_set (by rw[h.len];exact h8)).1 hi with rfl|hi
  ·exact .inr (List.mem_cons_of_mem _ (List.mem_append_right _ (List.mem_singleton.2 rfl)))
  ·exact(h.seen i hi).imp (fun h1=>h1.mono (by rw[h.len];exact h8)) fun h1=>(List.mem_cons.1 h1).elim (fun e=>List.mem_cons.2 (.inl e)) fun h1=>List.mem_cons_of_mem _ (List.mem_append_left _ h1)
end Go.Proofs.YtohnfgligddanaaGreat
end
section
namespace Go.Proofs.YtohnfgligddanaaGreat
open Go Go.Lg
set_option linter.unusedSimpArgs false
set_option linter.unusedVariables false
set_option maxHeartbeats 4000000
attribute [local irreducible] SW runL runQ runG runQG FC Ret1 bD PrU OccP
theorem puL_bDs (f:Nat→Bool) (β:List (List Int)):(β.map bD).map (D.pu1 f)=β.map bD:=by
 rw[List.map_map]
 exact List.map_congr_left fun x _=>by
  show D.pu1 f (bD x)=bD x
  by_cases h:x=[]
  ·rw[h,bD_nil];rfl
  ·rw[bD_some h];rfl
theorem puL_bools (f:Nat→Bool) (ys:List Bool):(ys.map D.bool).map (D.pu1 f)=ys.map D.bool:=by
 rw[List.map_map]
 exact List.map_congr_left fun x _=>rfl
attribute [go_sem] puL_bDs puL_bools
theorem pop_eq (us:List (List Int)) (m:Nat):((us.map fun y=>(Tk.any,y)).take m).map intsT=(us.take m).map IntsD:=by rw[←List.map_take,List.map_map];rfl
theorem safe_IntsD (k:Nat) (tk:List Nat) (u:List Int):(IntsD u).safe k tk=true:=scaL_ints u .i64
theorem safe_bD (k:Nat) (tk:List Nat) (u:List Int):(bD u).safe k tk=true:=by
 by_cases h:u=[]
 ·rw[h,bD_nil];rfl
 ·rw[bD_some h];exact scaL_ints u .i64
def kp93:List (Nat×List Nat):=[(0,[0,1,2]),(1,[0,1,2,7]),(2,[0,1,7,8]),(3,[0,1,7,8,21]),(4,[0,1,7,8,9]),(5,[0,1,7,8,9]),(6,[0,1,7,8,9,10]),(7,[0,1,7,8,9,10,36]),(9,[0,1,7,8,9,10,44]),(10,[6]),(11,[0,1,7,8,9,10,75]),(12,[0,1,7,8,9,10]),(13,[0,1,7,8,9,10]),(8,[0,1,7,8,9,10]),(14,[6])]
attribute [go_sem] kp93
theorem l11Occurs_fc (rs:List Int) (β:List (List Int)) (hβ:BOK rs β) (x:Int) (hx:x<0) (t:List Int) (hT:XT rs t):FC S 93 [] [(1030,[.ms 1028 48]),(1028,β.map bD)] [] [.box 1030 0,.int .i64 x,.sl .any (t.map (.int .i64))] (.bool (tst (OccP β x t))) [(1030,[.ms 1028 48]),(1028,β.map bD)] []:=by
 have hlb:=hβ.1
 refine fc_bodyP Tryz.func93 rfl (by kernel_rfl) (by simp[Tryz.f93]) fun B hP=>?_
 simp only[Tryz.ntmps93,enumD,lst0,Nat.reduceAdd]
 repeat' first|((refine sw_goB (id:=2) 0 kp93 1 97000 rfl fun K hK=>?_))|((refine⟨_,_,_,rfl,rfl,rfl,⟨⟨by simp only[Nat.reduceLT],by decide,by decide,by decide⟩,rfl,by simp[D.strip,strip1,D.cells,D.memOk,TyI.size]⟩,(by simp[-List.map_set,LS.clean,D.tks,D.tksL,tksU_ints,tksL_bD]),by simp only[Nat.reduceLT],?_⟩;simp only[go_sem]))|refine sw_seq ?_|refine sw_block ?_|refine sw_go 0 kp93 fun K hK=>?_|((first|refine runL_go ?_|refine runQ_go ?_|refine sw_ret (ret0 ?_)|refine sw_ret ?_);simp (disch:=(refine Om.mk ?_;omega)) only[go_sem,Tryz.results93])|(refine hK.nil ?_;clear hK K;simp only[go_sem])|(with_reducible refine And.intro (by first|omega|(simp only[lens];omega)) ?_)|fail
 refine sw_loopT (ι:=List (List Int)×List Bool) (fun p=>[(0,.box 1030 0),(1,.int .i64 x),(7,.ms 16 48),(8,.sl (.own 97000 22 1) (p.1.map IntsD))]) (fun p=>[(1030,[.ms 1028 48]),(1028,β.map bD),(16,p.2.map .bool)]) (fun _=>[97000]) (fun p=>OccI β x t p.1 p.2∧∀u∈p.1,XT rs u) (fun p=>2*unS p.2+p.1.length) ([t],List.replicate 48 false) (by(refine covers_mk0 rfl rfl ?_ ?_ ?_ ?_<;>simp (disch:=(refine Om.mk ?_;omega)) only[go_sem]<;>(try omega));rfl) ⟨OccI.start β x t,fun u hu=>by rw[List.mem_singleton.1 hu];exact hT⟩ (fun p hp=>?_)
 obtain⟨us,s⟩:=p
 obtain⟨hI,hX⟩:=hp
 dsimp only at hI hX
 have hsz:=hI.size
 have hsl:=hI.len
 simp only[go_sem]
 by_cases hn:us=[]
 ·subst hn
  repeat' first|((exfalso;omega))|refine sw_seq ?_|refine sw_go 0 kp93 fun K hK=>?_|((first|refine runL_go ?_|refine runQ_go ?_|refine sw_ret (ret0 ?_)|refine sw_ret ?_);simp (disch:=(refine Om.mk ?_;omega)) only[go_sem,Tryz.results93])|(refine hK.nil ?_;clear hK K;simp only[go_sem])|((first|refine runG_fork rfl rfl rfl rfl rfl ?_ ?_|refine runQG_fork rfl rfl rfl rfl rfl ?_ ?_|refine sw_cond rfl ?_ ?_)<;>intro h<;>try simp (disch:=(refine Om.mk ?_;omega)) only[go_sem] at h)|refine sw_exit rfl ?_|fail
  exact hI.done hx
 ·have hup:0<us.length:=List.length_pos_iff.2 hn
  repeat' first|((exfalso;omega))|((refine sw_goAt (id:=5) 0 kp93 4 rfl fun K hK=>?_))|refine sw_seq ?_|refine sw_block ?_|refine sw_skip ?_|refine sw_go 0 kp93 fun K hK=>?_|((first|refine runL_go ?_|refine runQ_go ?_|refine sw_ret (ret0 ?_)|refine sw_ret ?_);simp (disch:=(refine Om.mk ?_;omega)) only[go_sem,Tryz.results93])|(refine hK.nil ?_;clear hK K;simp only[go_sem])|((first|refine runG_fork rfl rfl rfl rfl rfl ?_ ?_|refine runQG_fork rfl rfl rfl rfl rfl ?_ ?_|refine sw_cond rfl ?_ ?_)<;>intro h<;>try simp (disch:=(refine Om.mk ?_;omega)) only[go_sem] at h)|(with_reducible refine And.intro (by first|omega|(simp only[lens];omega)) ?_)|fail
  refine LopsW.popOwn hP (k:=97000) (by simp) (kd:=.i64) (m:=us.length-1) (ps:=us.map fun y=>(.any,y)) (by simp only[go_sem];rw[List.map_map];rfl) (by simp only[go_sem]) rfl rfl ⟨by omega,by rw[List.length_map];omega⟩ (fun p hp=>by obtain⟨y,_,rfl⟩:=List.mem_map.1 hp;rfl) [(0,.box 1030 0),(1,.int .i64 x),(7,.ms 16 48),(9,IntsD (us.getD (us.length-1) default))] [(1030,[.ms 1028 48]),(1028,β.map bD),(16,s.map .bool)] ?_ ?_ (by simp only[Nat.reduceLT]) (LopsW.nil ?_)
  ·intro p hp
   simp only[List.mem_cons,List.not_mem_nil,or_false] at hp
   rcases hp with rfl|rfl|rfl|rfl
   ·exact⟨rfl,rfl⟩
   ·exact⟨rfl,rfl⟩
   ·exact⟨rfl,rfl⟩
   ·exact⟨rfl,safe_IntsD _ _ _⟩
  ·intro p hp
   simp only[List.mem_cons,List.not_mem_nil,or_false] at hp
   rcases hp with rfl|rfl|rfl
   ·exact⟨rfl,fun d hd=>by rw[List.mem_singleton.1 hd];rfl⟩
   ·exact⟨rfl,fun d hd=>by obtain⟨y,_,rfl⟩:=List.mem_map.1 hd;exact safe_bD _ _ _⟩
   ·exact⟨rfl,fun d hd=>by obtain⟨y,_,rfl⟩:=List.mem_map.1 hd;rfl⟩
  simp only[pop_eq,go_sem]
  refine fun (K:List Oper→LS→Prop) (hK:KOk S 0 _ _ _ K)=>?_
  have hdec:us=us.take (us.length-1)++[us.getD (us.length-1) default]:=by
   conv=>lhs;rw[←List.take_append_drop (us.length-1) us]
   congr 1
   rw[List.drop_eq_getElem_cons (by omega),List.drop_of_length_le (by omega),List.getD_eq_getElem?_getD,List.getElem?_eq_getElem (by omega)]
   rfl
  have hXu:XT rs (us.getD (us.length-1) default):=hX _ (by rw[hdec];simp)
  have hXr:∀v∈us.take (us.length-1),XT rs v:=fun v hv=>hX v (List.mem_of_mem_take hv)
  have hIu:OccI β x t (us.getD (us.length-1) default::us.take (us.length-1)) s:=hI.perm (by rw[List.length_cons,List.length_take];omega) fun v=>by
   conv=>rhs;rw[hdec]
   simp[or_comm]
  have hrl:(us.take (us.length-1)).length+1=us.length:=by rw[List.length_take];omega
  generalize us.getD (us.length-1) default=u at *
  generalize us.take (us.length-1)=ur at *
  repeat' first|refine sw_seq ?_|refine sw_block ?_|refine sw_go 0 kp93 fun K hK=>?_|((first|refine runL_go ?_|refine runQ_go ?_|refine sw_ret (ret0 ?_)|refine sw_ret ?_);simp (disch:=(refine Om.mk ?_;omega)) only[go_sem,Tryz.results93])|(refine hK.nil ?_;clear hK K;simp only[go_sem])|fail
  refine sw_loopT (ι:=Nat×List (List Int)×List Bool) (fun q=>[(0,.box 1030 0),(1,.int .i64 x),(7,.ms 16 48),(8,.sl (.own 97000 22 1) (q.2.1.map IntsD)),(9,.sl .any (u.map (.int .i64))),(10,.int .i64 q.1)]) (fun q=>[(1030,[.ms 1028 48]),(1028,β.map bD),(16,q.2.2.map .bool)]) (fun _=>[97000]) (fun q=>(q.1≤u.length∧2*unS q.2.2+q.2.1.length≤2*unS s+ur.length)∧OccI β x t (u::q.2.1) q.2.2∧(∀v∈q.2.1,XT rs v)∧PrU β x q.2.2 (u.take q.1)) (fun q=>u.length-q.1) (0,ur,s) (by(refine covers_mk0 rfl rfl ?_ ?_ ?_ ?_<;>simp (disch:=(refine Om.mk ?_;omega)) only[go_sem]<;>(try omega))) ⟨⟨Nat.zero_le _,Nat.le_refl _⟩,hIu,hXr,by rw[List.take_zero];exact PrU.nil β x s⟩ (fun q hq=>?_)
  obtain⟨i,vs,s'⟩:=q
  obtain⟨⟨hi,hm⟩,hI',hX',hP'⟩:=hq
  dsimp only at hi hm hI' hX' hP'
  have hsz':=hI'.size
  have hsl':=hI'.len
  rw[List.length_cons] at hsz'
  have hlu:=hXu.len
  simp only[go_sem]
  by_cases hil:i<u.length
  ·have hg:=hXu.get hil
   have hmi:u.getD i default∈u:=getD_mem _ _ hil
   by_cases hz:u.getD i default=x
   ·have hf:OccP β x t:=hI'.found hx (hz ▸ hmi)
    repeat' first|((exfalso;omega))|refine sw_seq ?_|refine sw_block ?_|refine sw_skip ?_|refine sw_go 0 kp93 fun K hK=>?_|((first|refine runL_go ?_|refine runQ_go ?_|refine sw_ret (ret0 ?_)|refine sw_ret ?_);simp (disch:=(refine Om.mk ?_;omega)) only[go_sem,Tryz.results93])|(refine hK.nil ?_;clear hK K;simp only[go_sem])|((first|refine runG_fork rfl rfl rfl rfl rfl ?_ ?_|refine runQG_fork rfl rfl rfl rfl rfl ?_ ?_|refine sw_cond rfl ?_ ?_)<;>intro h<;>try simp (disch:=(refine Om.mk ?_;omega)) only[go_sem] at h)|(with_reducible refine And.intro (by first|omega|(simp only[lens];omega)) ?_)|fail
    all_goals first|exact hf|exact tst_true hf|trace_state
   ·by_cases h0:0≤u.getD i default
    ·repeat' first|((exfalso;omega))|refine sw_seq ?_|refine sw_block ?_|refine sw_inBlock ?_|refine sw_skip ?_|refine sw_go 0 kp93 fun K hK=>?_|refine sw_goD kp93 (by kernel_rfl) fun K hK=>?_|((first|refine runL_go ?_|refine runQ_go ?_|refine sw_ret (ret0 ?_)|refine sw_ret ?_);simp (disch:=(refine Om.mk ?_;omega)) only[go_sem,Tryz.results93])|(refine hK.nil ?_;clear hK K;simp only[go_sem])|((first|refine runG_fork rfl rfl rfl rfl rfl ?_ ?_|refine runQG_fork rfl rfl rfl rfl rfl ?_ ?_|refine sw_cond rfl ?_ ?_)<;>intro h<;>try simp (disch:=(refine Om.mk ?_;omega)) only[go_sem] at h)|refine sw_loopEnd ?_|(with_reducible refine And.intro (by first|omega|(simp only[lens];omega)) ?_)|fail
     all_goals exact⟨(i+1,vs,s'),(by(refine covers_mk0 rfl rfl ?_ ?_ ?_ ?_<;>simp (disch:=(refine Om.mk ?_;omega)) only[go_sem]<;>(try omega))),⟨⟨by omega,hm⟩,hI',hX',hP'.snoc hil hz fun h=>absurd h (by omega)⟩,by omega⟩
    ·have h48:vIx (u.getD i default)<48:=by unfold vIx;omega
     by_cases hsn:s'.getD (vIx (u.getD i default)) default=true
     ·repeat' first|((exfalso;omega))|((exfalso;have hx:s'.getD (-1-u.getD i default).toNat default=false:=(by assumption);exact absurd (hx.symm.trans hsn) (by decide)))|refine sw_seq ?_|refine sw_block ?_|refine sw_inBlock ?_|refine sw_skip ?_|refine sw_go 0 kp93 fun K hK=>?_|refine sw_goD kp93 (by kernel_rfl) fun K hK=>?_|((first|refine runL_go ?_|refine runQ_go ?_|refine sw_ret (ret0 ?_)|refine sw_ret ?_);simp (disch:=(refine Om.mk ?_;omega)) only[go_sem,Tryz.results93])|(refine hK.nil ?_;clear hK K;simp only[go_sem])|((first|refine runG_fork rfl rfl rfl rfl rfl ?_ ?_|refine runQG_fork rfl rfl rfl rfl rfl ?_ ?_|refine sw_cond rfl ?_ ?_)<;>intro h<;>try simp (disch:=(refine Om.mk ?_;omega)) only[go_sem] at h)|refine sw_loopEnd ?_|(with_reducible refine And.intro (by first|omega|(simp only[lens];omega)) ?_)|fail
      all_goals exact⟨(i+1,vs,s'),(by(refine covers_mk0 rfl rfl ?_ ?_ ?_ ?_<;>simp (disch:=(refine Om.mk ?_;omega)) only[go_sem]<;>(try omega))),⟨⟨by omega,hm⟩,hI',hX',hP'.snoc hil hz fun _=>.inl hsn⟩,by omega⟩
     ·have hsf:s'.getD (vIx (u.getD i default)) default=false:=by simpa using hsn
      by_cases hb:β.getD (vIx (u.getD i default)) default=[]
      ·have hrd:bD (β.getD (-1-u.getD i default).toNat default)=.sl .nil []:=by rw[show β.getD (-1-u.getD i default).toNat default=[] from hb];exact bD_nil
       repeat' first|((exfalso;omega))|((exact absurd (by assumption) hsn))|((rw[hrd];simp only[go_sem]))|refine sw_seq ?_|refine sw_block ?_|refine sw_inBlock ?_|refine sw_skip ?_|refine sw_go 0 kp93 fun K hK=>?_|refine sw_goD kp93 (by kernel_rfl) fun K hK=>?_|((first|refine runL_go ?_|refine runQ_go ?_|refine sw_ret (ret0 ?_)|refine sw_ret ?_);simp (disch:=(refine Om.mk ?_;omega)) only[go_sem,Tryz.results93])|(refine hK.nil ?_;clear hK K;simp only[go_sem])|((first|refine runG_fork rfl rfl rfl rfl rfl ?_ ?_|refine runQG_fork rfl rfl rfl rfl rfl ?_ ?_|refine sw_cond rfl ?_ ?_)<;>intro h<;>try simp (disch:=(refine Om.mk ?_;omega)) only[go_sem] at h)|refine sw_loopEnd ?_|(with_reducible refine And.intro (by first|omega|(simp only[lens];omega)) ?_)|fail
       all_goals exact⟨(i+1,vs,s'),(by(refine covers_mk0 rfl rfl ?_ ?_ ?_ ?_<;>simp (disch:=(refine Om.mk ?_;omega)) only[go_sem]<;>(try omega))),⟨⟨by omega,hm⟩,hI',hX',hP'.snoc hil hz fun _=>.inr hb⟩,by omega⟩
      ·have hrd:bD (β.getD (-1-u.getD i default).toNat default)=.sl .any ((β.getD (-1-u.getD i default).toNat default).map (.int .i64)):=bD_some hb
       have hb3:0<(β.getD (-1-u.getD i default).toNat default).length:=List.length_pos_iff.2 hb
       have hpu:=hI'.push hmi (by omega) h48 hsf
       have hun:=unS_set s' _ (by omega) hsf
       have hset:=hP'.mono (i:=vIx (u.getD i default)) (by omega)
       repeat' first|((exfalso;omega))|((exact absurd (by assumption) hsn))|((rw[hrd];simp only[go_sem]))|refine sw_seq ?_|refine sw_block ?_|refine sw_inBlock ?_|refine sw_skip ?_|refine sw_go 0 kp93 fun K hK=>?_|refine sw_goT 0 kp93 13 (id:=13) (by kernel_rfl) fun K hK=>?_|refine fun (K:KT) (hK:KOk S 0 _ _ _ K)=>?_|refine sw_goD kp93 (by kernel_rfl) fun K hK=>?_|((first|refine runL_go ?_|refine runQ_go ?_|refine sw_ret (ret0 ?_)|refine sw_ret ?_);simp (disch:=(refine Om.mk ?_;omega)) only[go_sem,Tryz.results93])|(refine hK.nil ?_;clear hK K;simp only[go_sem])|((first|refine runG_fork rfl rfl rfl rfl rfl ?_ ?_|refine runQG_fork rfl rfl rfl rfl rfl ?_ ?_|refine sw_cond rfl ?_ ?_)<;>intro h<;>try simp (disch:=(refine Om.mk ?_;omega)) only[go_sem] at h)|refine sw_loopEnd ?_|(with_reducible refine And.intro (by first|omega|(simp only[lens];omega)) ?_)|fail
       exact⟨(i+1,vs++[β.getD (vIx (u.getD i default)) default],s'.set (vIx (u.getD i default)) true),(by(refine covers_mk0 rfl rfl ?_ ?_ ?_ ?_<;>simp (disch:=(refine Om.mk ?_;omega)) only[go_sem]<;>(try omega));all_goals first|rfl|(rw[List.map_append];exact⟨rfl,by omega⟩)),⟨⟨by omega,by dsimp only;rw[List.length_append,List.length_singleton];omega⟩,hpu,(fun v hv=>(List.mem_append.1 hv).elim (hX' v) fun h=>by rw[List.mem_singleton.1 h];exact hβ.get hb),hset.snoc hil hz fun _=>.inl ((sn_set (by omega)).2 (.inl rfl))⟩,by dsimp only;omega⟩
  ·have hfin:PrU β x s' u:=by
    rw[List.take_of_length_le (by omega)] at hP'
    exact hP'
   repeat' first|((exfalso;omega))|refine sw_seq ?_|refine sw_inBlock ?_|refine sw_go 0 kp93 fun K hK=>?_|((first|refine runL_go ?_|refine runQ_go ?_|refine sw_ret (ret0 ?_)|refine sw_ret ?_);simp (disch:=(refine Om.mk ?_;omega)) only[go_sem,Tryz.results93])|(refine hK.nil ?_;clear hK K;simp only[go_sem])|((first|refine runG_fork rfl rfl rfl rfl rfl ?_ ?_|refine runQG_fork rfl rfl rfl rfl rfl ?_ ?_|refine sw_cond rfl ?_ ?_)<;>intro h<;>try simp (disch:=(refine Om.mk ?_;omega)) only[go_sem] at h)|refine sw_exit rfl ?_|refine sw_loopEnd ?_|fail
   exact⟨(vs,s'),(by(refine covers_mk0 rfl rfl ?_ ?_ ?_ ?_<;>simp (disch:=(refine Om.mk ?_;omega)) only[go_sem]<;>(try omega))),⟨hI'.drop hfin,hX'⟩,by dsimp only;omega⟩
end Go.Proofs.YtohnfgligddanaaGreat
end
