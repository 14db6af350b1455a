/-
  K4, K5, A17i, A17j, one behind the other.
-/
import Derived.Test.YtpennhjjnlkbiaaGreatG4
import Derived.Test.YtpennhjjnlkbiaaGreatG1
import Derived.Test.YtpennhjjnlkbiaaGreatLgK19
import Derived.Test.YtpennhjjnlkbiaaGreatLgK20
import Derived.Test.YtpennhjjnlkbiaaGreatLgK10
import Derived.Test.YtpennhjjnlkbiaaGreatG2
section
namespace Go.Proofs.YtpennhjjnlkbiaaGreat
open Go Go.Lg
set_option linter.unusedSimpArgs false
set_option linter.unusedVariables false
set_option maxHeartbeats 4000000
attribute [local irreducible] SW runL runQ runG runQG FC Ret1 toF redoL anyB
theorem lops_id {S:Setup} {B:Base} {ops:Array Oper} {l:List Oper} {L:LS} {N:LS→Prop} (h:LopsW S B ops l L N):LopsW S B ops l L N:=h
def repC (v:Int) (n p:Nat):List Int:=List.replicate p v++List.replicate (n-p) 0
theorem repC_len (v:Int) {n p:Nat} (h:p≤n):(repC v n p).length=n:=by simp[repC];omega
theorem repC_all (v:Int) (n:Nat):repC v n n=List.replicate n v:=by simp[repC]
theorem putC_int (a b:List Int) (k:Nat):putCells (a.map (.int .i64)) k (b.map (.int .i64))=(a.take k++b++a.drop (k+b.length)).map (.int .i64):=by
 simp[putCells,List.map_take,List.map_drop]
theorem repC_step (v:Int) {n p m:Nat} (h:p≤n) (hm:m≤p) (hn:p+m≤n):(repC v n p).take p++(repC v n p).take m++(repC v n p).drop (p+((repC v n p).take m).length)=repC v n (p+m):=by
 have h1:(repC v n p).take p=List.replicate p v:=by
  unfold repC;rw[List.take_left' (by simp)]
 have h2:(repC v n p).take m=List.replicate m v:=by
  unfold repC
  rw[List.take_append_of_le_length (by simpa using hm),List.take_replicate,Nat.min_eq_left hm]
 have h3:(repC v n p).drop (p+m)=List.replicate (n-(p+m)) 0:=by
  unfold repC
  rw[List.drop_append,List.length_replicate,List.drop_of_length_le (by simp),List.nil_append,List.drop_replicate]
  congr 1;omega
 rw[h1,h2,List.length_replicate,h3]
 unfold repC
 rw[List.replicate_append_replicate]
theorem repC_start (v:Int) {n:Nat} (h:0<n):(List.replicate n (0:Int)).take 0++[v]++(List.replicate n (0:Int)).drop (0+1)=repC v n 1:=by
 simp[repC,List.drop_replicate]
def kp152:List (Nat×List Nat):=[(0,[0,1]),(1,[0,1,6]),(2,[0,1,6,7]),(3,[0,1,6,7,8]),(4,[0,1,6,7,8,9]),(5,[0,1,6,7,8,9,10]),(6,[0,1,6,7,9,11]),(7,[0,1,6,7,9,11,12]),(8,[0,1,6,7,9,12,13]),(9,[0,1,7,9,12,13]),(10,[0,1,4]),(11,[4,5])]
attribute [go_sem] kp152
theorem mul64_fc (n:Nat) (hn:n<65):FC S 152 [] [] [] [.int .u64 1,.int .u64 n] (.tup [.int .u64 0,.int .u64 n]) [] []:=by
 have key:∀m:Nat,m<65→IntKind.wrap .u64 (1*(m:Int))=m:=by decide
 refine fc_body Tryz.func152 rfl (by kernel_rfl) (by simp[Tryz.f152]) fun B=>?_
 simp only[Tryz.ntmps152,enumD,lst0,Nat.reduceAdd]
 repeat' first|refine sw_seq ?_|refine sw_skip ?_|refine sw_go 0 kp152 fun K hK=>?_|refine fun (K:KT) (hK:KOk S 0 _ _ _ K)=>?_|((first|refine runL_go ?_|refine sw_ret (ret0 ?_)|refine sw_ret ?_);simp (disch:=(refine Om.mk ?_;omega)) only[go_sem,Tryz.results152])|(refine hK.nil ?_;clear hK K;simp only[go_sem])|(with_reducible refine And.intro (by first|omega|(simp only[lens];omega)) ?_)|fail
 all_goals (revert n;decide)
def kp131:List (Nat×List Nat):=[(0,[0,1]),(1,[6,7]),(2,[4,5]),(3,[8,9]),(4,[4,5])]
attribute [go_sem] kp131
theorem mul_fc (n:Nat) (hn:n<65):FC S 131 [] [] [] [.int .u64 1,.int .u64 n] (.tup [.int .u64 0,.int .u64 n]) [] []:=by
 refine fc_body Tryz.func131 rfl (by kernel_rfl) (by simp[Tryz.f131]) fun B=>?_
 simp only[Tryz.ntmps131,enumD,lst0,Nat.reduceAdd]
 repeat' first|((refine sw_cond (b:=false) rfl (fun h=>by cases h) fun _=>?_))|refine sw_seq ?_|refine sw_skip ?_|refine sw_go 0 kp131 fun K hK=>?_|refine fun (K:KT) (hK:KOk S 0 _ _ _ K)=>?_|((first|refine runL_go ?_|refine sw_ret (ret0 ?_)|refine sw_ret ?_);simp (disch:=(refine Om.mk ?_;omega)) only[go_sem,Tryz.results131])|(refine hK.nil ?_;clear hK K;simp only[go_sem])|refine hK.c0 rfl rfl rfl (mul64_fc n hn) rfl rfl rfl ?_|(with_reducible refine And.intro (by first|omega|(simp only[lens];omega)) ?_)|fail
def kp108:List (Nat×List Nat):=[(0,[0,1]),(1,[0,1,10]),(2,[0,1]),(3,[0,5,6]),(4,[0,6,26]),(5,[0,6]),(6,[0,7]),(7,[7,8]),(8,[7,8,37]),(9,[7,8]),(10,[4])]
attribute [go_sem] kp108
theorem repeat_fc (tk:Tk) (v:Int) (n:Nat) (h0:0<n) (hn:n<65):FC S 108 [] [] [] [.sl tk ([v].map (.int .i64)),.int .i64 n] (.ms 30 n) [(30,(List.replicate n v).map (.int .i64))] []:=by
 refine fc_body Tryz.func108 rfl (by kernel_rfl) (by simp[Tryz.f108]) fun B=>?_
 simp only[Tryz.ntmps108,enumD,lst0,Nat.reduceAdd]
 repeat' first|((exfalso;omega))|((refine sw_goAt (id:=7) 0 kp108 2 rfl fun K hK=>?_))|refine sw_seq ?_|refine sw_block ?_|refine sw_inBlock ?_|refine sw_skip ?_|refine sw_go 0 kp108 fun K hK=>?_|refine fun (K:KT) (hK:KOk S 0 _ _ _ K)=>?_|refine sw_goD kp108 (by kernel_rfl) fun K hK=>?_|((first|refine runL_go ?_|refine runQ_go ?_|refine sw_ret (ret0 ?_)|refine sw_ret ?_);simp (disch:=(refine Om.mk ?_;omega)) only[go_sem,Tryz.results108])|(refine hK.nil ?_;clear hK K;simp only[go_sem])|((first|refine runG_fork rfl rfl rfl rfl rfl ?_ ?_|refine runQG_fork rfl rfl rfl rfl rfl ?_ ?_|refine sw_cond rfl ?_ ?_)<;>intro h<;>try simp (disch:=(refine Om.mk ?_;omega)) only[go_sem] at h)|refine hK.skp rfl rfl ?_|refine sw_exit rfl ?_|refine sw_loopEnd ?_|refine hK.c0 rfl rfl rfl (mul_fc n hn) rfl rfl rfl ?_|(refine hK.fork rfl rfl rfl ?_ ?_<;>intro h<;>try simp (disch:=(refine Om.mk ?_;omega)) only[go_sem] at h)|(with_reducible refine And.intro (by first|omega|(simp only[lens];omega)) ?_)|((with_reducible refine And.intro ?_ ?_);· first|(intro x hx;subst hx;rfl)|exact upR_mem fun _ _=>rfl|exact mapR_mem fun _ _=>rfl|(intro x;refine And.intro ?_ ?_<;>(intros;subst_vars;rfl)))|fail
 rw[flatten_one,←List.map_replicate (f:=D.int .i64)]
 refine LopsW.copyL (id:=30) (n:=n) (ys:=[v]) rfl rfl rfl (by simp) rfl rfl rfl ⟨by simp;omega,by simp;omega⟩ (by simp only[Nat.reduceLT]) (LopsW.nil ?_)
 rw[putC_int,List.length_singleton,repC_start v h0]
 refine fun (K:List Oper→LS→Prop) (hK:KOk S 0 _ _ _ K)=>?_
 simp only[go_sem]
 repeat' first|refine sw_seq ?_|refine sw_block ?_|refine sw_inBlock ?_|refine sw_skip ?_|refine sw_go 0 kp108 fun K hK=>?_|refine fun (K:KT) (hK:KOk S 0 _ _ _ K)=>?_|refine sw_goD kp108 (by kernel_rfl) fun K hK=>?_|((first|refine runL_go ?_|refine runQ_go ?_|refine sw_ret (ret0 ?_)|refine sw_ret ?_);simp (disch:=(refine Om.mk ?_;omega)) only[go_sem,Tryz.results108])|(refine hK.nil ?_;clear hK K;simp only[go_sem])|((first|refine runG_fork rfl rfl rfl rfl rfl ?_ ?_|refine runQG_fork rfl rfl rfl rfl rfl ?_ ?_|refine sw_cond rfl ?_ ?_)<;>intro h<;>try simp (disch:=(refine Om.mk ?_;omega)) only[go_sem] at h)|refine hK.skp rfl rfl ?_|refine sw_exit rfl ?_|refine sw_loopEnd ?_|(refine hK.fork rfl rfl rfl ?_ ?_<;>intro h<;>try simp (disch:=(refine Om.mk ?_;omega)) only[go_sem] at h)|(with_reducible refine And.intro (by first|omega|(simp only[lens];omega)) ?_)|((with_reducible refine And.intro ?_ ?_);· first|(intro x hx;subst hx;rfl)|exact upR_mem fun _ _=>rfl|exact mapR_mem fun _ _=>rfl|(intro x;refine And.intro ?_ ?_<;>(intros;subst_vars;rfl)))|fail
 refine sw_loopU (ι:=Nat) (fun p=>[(7,.ms 30 n),(8,.int .i64 p)]) (fun p=>[(30,(repC v n p).map (.int .i64))]) (fun p=>1≤p∧p≤n) (fun p=>n-p) 1 (by(refine covers_mk0 rfl rfl ?_ ?_ ?_ ?_<;>simp (disch:=(refine Om.mk ?_;omega)) only[go_sem]<;>(try omega))) ?_ (fun p hp=>?_)
 rotate_left
 simp only[go_sem]
 obtain⟨hp1,hp2⟩:=hp
 have hcl:=repC_len v hp2
 by_cases hpn:p<n
 ·have hm1:Nat.min p (n-p)≤p:=Nat.min_le_left _ _
  have hm2:Nat.min p (n-p)≤n-p:=Nat.min_le_right _ _
  have hm3:1≤Nat.min p (n-p):=Nat.le_min.2 ⟨by omega,by omega⟩
  have hst:=repC_step v hp2 hm1 (by omega)
  repeat' first|((exfalso;omega))|((refine sw_any (id:=9) kp108 [(true,[]),(true,[]),(true,[]),(false,[1,2]),(true,[]),(true,[]),(false,[4,5]),(false,[3,6]),(false,[0,7]),(false,[8,7,0,1,2,3,4,5,6,7,8])] ⟨48,[(7,.ms 30 n),(8,.int .i64 ((p:Int)+(Nat.min p (n-p):Nat)))],[(30,(repC v n (p+Nat.min p (n-p))).map (.int .i64))],[],[],[]⟩ (by kernel_rfl) ?_ ?_;simp only[List.length_cons,List.length_nil,Nat.reduceAdd]))|((with_reducible refine lops_id ?_;refine LopsW.sliceMv (i:=p) (n:=n) rfl rfl hpn rfl rfl rfl (by simp only[Nat.reduceLT]) (LopsW.nil ?_);simp only[go_sem]))|((with_reducible refine lops_id ?_;refine LopsW.copyM (off:=p) (n:=n-p) (m:=p) (ys:=repC v n p) rfl rfl rfl rfl rfl rfl (by omega) (by simp only[Nat.reduceLT]) (LopsW.nil ?_);rw[putC_int,hst];simp only[go_sem]))|((refine anyB_unf ?_;simp only[stepF_n,stepF_c,goR_n,goR_c,exR_n,exR_c,memB_n,memB_c,subB_n,subB_c,moveY_m,moveY_f,moveY_i,cond_t,cond_f,true_and,and_true,Bool.not_false,Bool.not_true,Bool.and_true,Bool.and_false,Bool.true_and,Bool.false_and,Bool.or_false,Bool.false_or,Bool.true_or,Bool.or_true,Nat.reduceBEq,Nat.reduceAdd]))|((refine anyB_move (by simp only[Nat.reduceLT]) rfl (by simp only[go_sem];exact rfl) ?_))|((refine anyB_fa (by simp only[Nat.reduceLT]) rfl rfl rfl rfl (by decide) (by simp only[go_sem];exact rfl) ?_))|((refine hK.nil (anyB_id ?_);clear hK K))|((refine lops_and ?_ ?_))|((refine lops_go 0 ?_;refine fun (K:List Oper→LS→Prop) (hK:KOk S 0 _ _ _ K)=>?_;simp (disch:=(refine Om.mk ?_;omega)) only[go_sem]))|((refine anyB_end ?_;simp (disch:=(refine Om.mk ?_;omega)) only[go_sem];(refine covers_mk0 rfl rfl ?_ ?_ ?_ ?_<;>simp (disch:=(refine Om.mk ?_;omega)) only[go_sem]<;>(try omega));done))|refine sw_seq ?_|refine sw_block ?_|refine sw_inBlock ?_|refine sw_skip ?_|refine sw_go 0 kp108 fun K hK=>?_|refine fun (K:KT) (hK:KOk S 0 _ _ _ K)=>?_|refine sw_goD kp108 (by kernel_rfl) fun K hK=>?_|((first|refine runL_go ?_|refine runQ_go ?_|refine sw_ret (ret0 ?_)|refine sw_ret ?_);simp (disch:=(refine Om.mk ?_;omega)) only[go_sem,Tryz.results108])|(refine hK.nil ?_;clear hK K;simp only[go_sem])|((first|refine runG_fork rfl rfl rfl rfl rfl ?_ ?_|refine runQG_fork rfl rfl rfl rfl rfl ?_ ?_|refine sw_cond rfl ?_ ?_)<;>intro h<;>try simp (disch:=(refine Om.mk ?_;omega)) only[go_sem] at h)|refine hK.skp rfl rfl ?_|refine sw_exit rfl ?_|refine sw_loopEnd ?_|(refine hK.fork rfl rfl rfl ?_ ?_<;>intro h<;>try simp (disch:=(refine Om.mk ?_;omega)) only[go_sem] at h)|(with_reducible refine And.intro (by first|omega|(simp only[lens];omega)) ?_)|((with_reducible refine And.intro ?_ ?_);· first|(intro x hx;subst hx;rfl)|exact upR_mem fun _ _=>rfl|exact mapR_mem fun _ _=>rfl|(intro x;refine And.intro ?_ ?_<;>(intros;subst_vars;rfl)))|fail
  exact⟨p+Nat.min p (n-p),(by(refine covers_mk0 rfl rfl ?_ ?_ ?_ ?_<;>simp (disch:=(refine Om.mk ?_;omega)) only[go_sem]<;>(try omega))),⟨by omega,by omega⟩,by omega⟩
 ·obtain rfl:p=n:=by omega
  repeat' first|((exfalso;omega))|refine sw_seq ?_|refine sw_block ?_|refine sw_inBlock ?_|refine sw_skip ?_|refine sw_go 0 kp108 fun K hK=>?_|refine fun (K:KT) (hK:KOk S 0 _ _ _ K)=>?_|refine sw_goD kp108 (by kernel_rfl) fun K hK=>?_|((first|refine runL_go ?_|refine runQ_go ?_|refine sw_ret (ret0 ?_)|refine sw_ret ?_);simp (disch:=(refine Om.mk ?_;omega)) only[go_sem,Tryz.results108])|(refine hK.nil ?_;clear hK K;simp only[go_sem])|((first|refine runG_fork rfl rfl rfl rfl rfl ?_ ?_|refine runQG_fork rfl rfl rfl rfl rfl ?_ ?_|refine sw_cond rfl ?_ ?_)<;>intro h<;>try simp (disch:=(refine Om.mk ?_;omega)) only[go_sem] at h)|refine hK.skp rfl rfl ?_|refine sw_exit rfl ?_|refine sw_loopEnd ?_|(refine hK.fork rfl rfl rfl ?_ ?_<;>intro h<;>try simp (disch:=(refine Om.mk ?_;omega)) only[go_sem] at h)|(with_reducible refine And.intro (by first|omega|(simp only[lens];omega)) ?_)|((with_reducible refine And.intro ?_ ?_);· first|(intro x hx;subst hx;rfl)|exact upR_mem fun _ _=>rfl|exact mapR_mem fun _ _=>rfl|(intro x;refine And.intro ?_ ?_<;>(intros;subst_vars;rfl)))|fail
  exact repC_all v p
 ·exact⟨Nat.le_refl _,h0⟩
theorem repeat0_fc (tk:Tk) (v:Int):FC S 108 [] [] [] [.sl tk ([v].map (.int .i64)),.int .i64 0] (.sl .any []) [] []:=by
 have hm:=mul_fc 0 (by decide)
 refine fc_body Tryz.func108 rfl (by kernel_rfl) (by simp[Tryz.f108]) fun B=>?_
 simp only[Tryz.ntmps108,enumD,lst0,Nat.reduceAdd]
 repeat' first|((exfalso;omega))|((refine sw_goAt (id:=7) 0 kp108 2 rfl fun K hK=>?_))|refine sw_seq ?_|refine sw_block ?_|refine sw_inBlock ?_|refine sw_skip ?_|refine sw_go 0 kp108 fun K hK=>?_|refine fun (K:KT) (hK:KOk S 0 _ _ _ K)=>?_|refine sw_goD kp108 (by kernel_rfl) fun K hK=>?_|((first|refine runL_go ?_|refine runQ_go ?_|refine sw_ret (ret0 ?_)|refine sw_ret ?_);simp (disch:=(refine Om.mk ?_;omega)) only[go_sem,Tryz.results108])|(refine hK.nil ?_;clear hK K;simp only[go_sem])|((first|refine runG_fork rfl rfl rfl rfl rfl ?_ ?_|refine runQG_fork rfl rfl rfl rfl rfl ?_ ?_|refine sw_cond rfl ?_ ?_)<;>intro h<;>try simp (disch:=(refine Om.mk ?_;omega)) only[go_sem] at h)|refine hK.skp rfl rfl ?_|refine sw_exit rfl ?_|refine sw_loopEnd ?_|refine hK.c0 rfl rfl rfl (hm) rfl rfl rfl ?_|(refine hK.fork rfl rfl rfl ?_ ?_<;>intro h<;>try simp (disch:=(refine Om.mk ?_;omega)) only[go_sem] at h)|(with_reducible refine And.intro (by first|omega|(simp only[lens];omega)) ?_)|((with_reducible refine And.intro ?_ ?_);· first|(intro x hx;subst hx;rfl)|exact upR_mem fun _ _=>rfl|exact mapR_mem fun _ _=>rfl|(intro x;refine And.intro ?_ ?_<;>(intros;subst_vars;rfl)))|fail
 refine LopsW.copy0 (id:=30) rfl rfl rfl rfl rfl (by simp only[Nat.reduceLT]) (LopsW.nil ?_)
 refine fun (K:List Oper→LS→Prop) (hK:KOk S 0 _ _ _ K)=>?_
 simp only[go_sem]
 repeat' first|refine sw_seq ?_|refine sw_block ?_|refine sw_inBlock ?_|refine sw_skip ?_|refine sw_go 0 kp108 fun K hK=>?_|refine fun (K:KT) (hK:KOk S 0 _ _ _ K)=>?_|refine sw_goD kp108 (by kernel_rfl) fun K hK=>?_|((first|refine runL_go ?_|refine runQ_go ?_|refine sw_ret (ret0 ?_)|refine sw_ret ?_);simp (disch:=(refine Om.mk ?_;omega)) only[go_sem,Tryz.results108])|(refine hK.nil ?_;clear hK K;simp only[go_sem])|((first|refine runG_fork rfl rfl rfl rfl rfl ?_ ?_|refine runQG_fork rfl rfl rfl rfl rfl ?_ ?_|refine sw_cond rfl ?_ ?_)<;>intro h<;>try simp (disch:=(refine Om.mk ?_;omega)) only[go_sem] at h)|refine hK.skp rfl rfl ?_|refine sw_exit rfl ?_|refine sw_loopEnd ?_|(refine hK.fork rfl rfl rfl ?_ ?_<;>intro h<;>try simp (disch:=(refine Om.mk ?_;omega)) only[go_sem] at h)|(with_reducible refine And.intro (by first|omega|(simp only[lens];omega)) ?_)|((with_reducible refine And.intro ?_ ?_);· first|(intro x hx;subst hx;rfl)|exact upR_mem fun _ _=>rfl|exact mapR_mem fun _ _=>rfl|(intro x;refine And.intro ?_ ?_<;>(intros;subst_vars;rfl)))|fail
 refine sw_loopU (ι:=Nat) (fun p=>[(7,.ms 30 0),(8,.int .i64 0)]) (fun p=>[(30,[])]) (fun p=>True) (fun p=>p) 0 (by(refine covers_mk0 rfl rfl ?_ ?_ ?_ ?_<;>simp (disch:=(refine Om.mk ?_;omega)) only[go_sem]<;>(try omega));rfl) ?_ (fun p hp=>?_)
 rotate_left
 simp only[go_sem]
 repeat' first|((exfalso;omega))|((refine sw_freezeAt 10 7 1 .any (id:=30) (n:=0) (cs:=[]) [] rfl rfl rfl rfl (fun x hx=>by cases hx) (fun d hd=>by cases hd) (.inl rfl) ?_;simp only[go_sem]))|refine sw_seq ?_|refine sw_block ?_|refine sw_inBlock ?_|refine sw_skip ?_|refine sw_go 0 kp108 fun K hK=>?_|refine fun (K:KT) (hK:KOk S 0 _ _ _ K)=>?_|refine sw_goD kp108 (by kernel_rfl) fun K hK=>?_|((first|refine runL_go ?_|refine runQ_go ?_|refine sw_ret (ret0 ?_)|refine sw_ret ?_);simp (disch:=(refine Om.mk ?_;omega)) only[go_sem,Tryz.results108])|(refine hK.nil ?_;clear hK K;simp only[go_sem])|((first|refine runG_fork rfl rfl rfl rfl rfl ?_ ?_|refine runQG_fork rfl rfl rfl rfl rfl ?_ ?_|refine sw_cond rfl ?_ ?_)<;>intro h<;>try simp (disch:=(refine Om.mk ?_;omega)) only[go_sem] at h)|refine hK.skp rfl rfl ?_|refine sw_exit rfl ?_|refine sw_loopEnd ?_|(refine hK.fork rfl rfl rfl ?_ ?_<;>intro h<;>try simp (disch:=(refine Om.mk ?_;omega)) only[go_sem] at h)|(with_reducible refine And.intro (by first|omega|(simp only[lens];omega)) ?_)|((with_reducible refine And.intro ?_ ?_);· first|(intro x hx;subst hx;rfl)|exact upR_mem fun _ _=>rfl|exact mapR_mem fun _ _=>rfl|(intro x;refine And.intro ?_ ?_<;>(intros;subst_vars;rfl)))|fail
 trivial
def kp75:List (Nat×List Nat):=[(0,[0,1]),(1,[4])]
attribute [go_sem] kp75
theorem repeatedL_fc (q:List Nat) (hq:q≠[]) (v:Int) (n:Nat) (h0:0<n) (hn:n<65):FC S 75 [] [] [] [.int .i64 v,.int .i64 n] (Int64SL q (List.replicate n v)) [] []:=by
 refine fc_body Tryz.func75 rfl (by kernel_rfl) (by simp[Tryz.f75]) fun B=>?_
 simp only[Tryz.ntmps75,enumD,lst0,Nat.reduceAdd]
 repeat' first|((refine sw_freezeLab 4 1 q (id:=8) (n:=n) (cs:=(List.replicate n v).map (.int .i64)) ((List.replicate n v).map (.int .i64)) rfl (by simp[Lg.look]) (flat_ints _).symm (by simp) (cells_one fun _=>rfl) (memOk_ints _) hq (by simp) ?_;simp only[go_sem]))|refine sw_seq ?_|refine sw_skip ?_|refine sw_go 0 kp75 fun K hK=>?_|refine fun (K:KT) (hK:KOk S 0 _ _ _ K)=>?_|((first|refine runL_go ?_|refine sw_ret (ret0 ?_)|refine sw_ret ?_);simp (disch:=(refine Om.mk ?_;omega)) only[go_sem,Tryz.results75])|(refine hK.nil ?_;clear hK K;simp only[go_sem])|refine sw_loopEnd ?_|(refine hK.callM rfl rfl rfl (repeat_fc _ v n h0 hn) ⟨⟨by simp only[Nat.reduceLT],by simp,by simp[Lg.look]⟩,by first|exact memOk_ints _|simp⟩ ?_;simp (disch:=(refine Om.mk ?_;omega)) only[go_sem])|(with_reducible refine And.intro (by first|omega|(simp only[lens];omega)) ?_)|((with_reducible refine And.intro ?_ ?_);· first|(intro x hx;subst hx;rfl)|exact upR_mem fun _ _=>rfl|exact mapR_mem fun _ _=>rfl|(intro x;refine And.intro ?_ ?_<;>(intros;subst_vars;rfl)))|fail
theorem repeatedA_fc (v:Int) (n:Nat) (hn:n<65):FC S 75 [] [] [] [.int .i64 v,.int .i64 n] (.sl .any ((List.replicate n v).map (.int .i64))) [] []:=by
 rcases Nat.eq_zero_or_pos n with h|h
 ·subst h
  refine fc_body Tryz.func75 rfl (by kernel_rfl) (by simp[Tryz.f75]) fun B=>?_
  simp only[Tryz.ntmps75,enumD,lst0,Nat.reduceAdd]
  repeat' first|refine sw_seq ?_|refine sw_skip ?_|refine sw_go 0 kp75 fun K hK=>?_|refine fun (K:KT) (hK:KOk S 0 _ _ _ K)=>?_|((first|refine runL_go ?_|refine sw_ret (ret0 ?_)|refine sw_ret ?_);simp (disch:=(refine Om.mk ?_;omega)) only[go_sem,Tryz.results75])|(refine hK.nil ?_;clear hK K;simp only[go_sem])|refine sw_loopEnd ?_|refine hK.c0 rfl rfl rfl (repeat0_fc _ v) rfl rfl rfl ?_|(with_reducible refine And.intro (by first|omega|(simp only[lens];omega)) ?_)|((with_reducible refine And.intro ?_ ?_);· first|(intro x hx;subst hx;rfl)|exact upR_mem fun _ _=>rfl|exact mapR_mem fun _ _=>rfl|(intro x;refine And.intro ?_ ?_<;>(intros;subst_vars;rfl)))|fail
  rfl
 ·exact(repeatedL_fc [0] (by simp) v n h hn).weak .any (by simp) (by simp)
def kp77:List (Nat×List Nat):=[(0,[0,1]),(1,[4])]
attribute [go_sem] kp77
theorem tries_fc (n m:Int) (hn:1≤n∧n≤20001) (hm:1≤m∧m≤2):FC S 77 [] [] [] [.int .i64 n,.int .i64 m] (.int .i64 (min (n*m) 20001)) [] []:=by
 have hnm:0≤n*m∧n*m≤50000:=by
  rcases (show m=1∨m=2 by omega) with rfl|rfl<;>omega
 generalize hq:n*m=q at *
 refine fc_body Tryz.func77 rfl (by kernel_rfl) (by simp[Tryz.f77]) fun B=>?_
 simp only[Tryz.ntmps77,enumD,lst0,Nat.reduceAdd]
 repeat' first|((rw[hq]))|refine sw_seq ?_|refine sw_skip ?_|refine sw_go 0 kp77 fun K hK=>?_|refine fun (K:KT) (hK:KOk S 0 _ _ _ K)=>?_|((first|refine runL_go ?_|refine sw_ret (ret0 ?_)|refine sw_ret ?_);simp (disch:=(refine Om.mk ?_;omega)) only[go_sem,Tryz.results77])|(refine hK.nil ?_;clear hK K;simp only[go_sem])|refine sw_loopEnd ?_|(with_reducible refine And.intro (by first|omega|(simp only[lens];omega)) ?_)|fail
 all_goals (simp only[Int.min_def];split<;>split<;>omega)
def kp79:List (Nat×List Nat):=[(0,[0,1,2]),(1,[0,1,2,7]),(2,[0,1,2,7,12]),(4,[0,1,2,7,23]),(5,[]),(6,[6]),(7,[0,1,2,7]),(3,[0,1,2,7]),(8,[6])]
attribute [go_sem] kp79
theorem countUp_fc (id:Nat) (bs:List (Int×Int)) (xs:List Int) (he:xs.length=bs.length) (hne:xs≠[]) (hl:xs.length≤100) (hx:∀x∈xs,-1≤x∧x≤1000):FC S 79 [] [(id,xs.map (.int .i64))] [] [.ms id xs.length,.sl .any ((lowD bs).map (.int .i64)),.sl .any ((bs.map (·.2)).map (.int .i64))] (.bool (nxtD bs xs).2) [(id,(nxtD bs xs).1.map (.int .i64))] []:=by
 have hll:=lowD_len bs
 have hhl:(bs.map (·.2)).length=bs.length:=by simp
 refine fc_body Tryz.func79 rfl (by kernel_rfl) (by simp[Tryz.f79]) fun B=>?_
 simp only[Tryz.ntmps79,enumD,lst0,Nat.reduceAdd]
 repeat' first|refine sw_seq ?_|refine sw_block ?_|refine sw_inBlock ?_|refine sw_skip ?_|refine sw_go 0 kp79 fun K hK=>?_|refine fun (K:KT) (hK:KOk S 0 _ _ _ K)=>?_|refine sw_goD kp79 (by kernel_rfl) fun K hK=>?_|((first|refine runL_go ?_|refine runQ_go ?_|refine sw_ret (ret0 ?_)|refine sw_ret ?_);simp (disch:=(refine Om.mk ?_;omega)) only[go_sem,Tryz.results79])|(refine hK.nil ?_;clear hK K;simp only[go_sem])|((first|refine sw_cond rfl ?_ ?_)<;>intro h<;>try simp (disch:=(refine Om.mk ?_;omega)) only[go_sem] at h)|refine sw_exit rfl ?_|refine sw_loopEnd ?_|(with_reducible refine And.intro (by first|omega|(simp only[lens];omega)) ?_)|fail
 refine sw_loopU (ι:=Nat) (fun p=>[(7,.int .i64 (p-1:Int))]) (fun p=>[(id,(stD bs xs p).map (.int .i64))]) (fun p=>p≤xs.length∧NxInv bs xs p) (fun p=>p) xs.length (by(refine covers_mk0 rfl rfl ?_ ?_ ?_ ?_<;>simp (disch:=(refine Om.mk ?_;omega)) only[go_sem]<;>(try omega));rw[stD_all he]) ?_ (fun p hp=>?_)
 rotate_left
 simp only[go_sem]
 obtain⟨hp1,hp2⟩:=hp
 have hlen:=stD_len he hp1
 cases p with
 | zero =>
  have hz:=nx_end he hp2
  rw[hz]
  repeat' first|((exfalso;omega))|refine sw_seq ?_|refine sw_block ?_|refine sw_inBlock ?_|refine sw_skip ?_|refine sw_go 0 kp79 fun K hK=>?_|refine fun (K:KT) (hK:KOk S 0 _ _ _ K)=>?_|refine sw_goD kp79 (by kernel_rfl) fun K hK=>?_|((first|refine runL_go ?_|refine runQ_go ?_|refine sw_ret (ret0 ?_)|refine sw_ret ?_);simp (disch:=(refine Om.mk ?_;omega)) only[go_sem,Tryz.results79])|(refine hK.nil ?_;clear hK K;simp only[go_sem])|((first|refine sw_cond rfl ?_ ?_)<;>intro h<;>try simp (disch:=(refine Om.mk ?_;omega)) only[go_sem] at h)|refine sw_exit rfl ?_|refine sw_loopEnd ?_|(with_reducible refine And.intro (by first|omega|(simp only[lens];omega)) ?_)|fail
 | succ k =>
  have hk:k<xs.length:=by omega
  have hg:=stD_get he hk
  have hxk:=hx _ (getD_mem xs k hk)
  have hlt:k<(stD bs xs (k+1)).length:=by omega
  have hkh:k<(bs.map (·.2)).length:=by omega
  have hkl:k<(lowD bs).length:=by omega
  have hi:((k+1:Nat):Int)-1=(k:Int):=by omega
  rw[hi]
  repeat' first|refine sw_seq ?_|refine sw_block ?_|refine sw_inBlock ?_|refine sw_skip ?_|refine sw_go 0 kp79 fun K hK=>?_|refine fun (K:KT) (hK:KOk S 0 _ _ _ K)=>?_|refine sw_goD kp79 (by kernel_rfl) fun K hK=>?_|((first|refine runL_go ?_|refine runQ_go ?_|refine sw_ret (ret0 ?_)|refine sw_ret ?_);simp (disch:=(refine Om.mk ?_;omega)) only[go_sem,Tryz.results79])|(refine hK.nil ?_;clear hK K;simp only[go_sem])|((first|refine sw_cond rfl ?_ ?_)<;>intro h<;>try simp (disch:=(refine Om.mk ?_;omega)) only[go_sem] at h)|refine sw_exit rfl ?_|refine sw_loopEnd ?_|(with_reducible refine And.intro (by first|omega|(simp only[lens];omega)) ?_)|fail
  ·have hb:(bs.map (·.2)).getD k default=(bs.getD k default).2:=by simp[List.getD,List.getElem?_map,List.getElem?_eq_getElem (show k<bs.length by omega)]
   rw[hb,hg] at h
   rw[nx_yes he hk hp2 h,hg]
   exact⟨rfl,rfl⟩
  ·have hb:(bs.map (·.2)).getD k default=(bs.getD k default).2:=by simp[List.getD,List.getElem?_map,List.getElem?_eq_getElem (show k<bs.length by omega)]
   have hb2:(lowD bs).getD k default=(bs.getD k default).1:=by simp[lowD,List.getD,List.getElem?_map,List.getElem?_eq_getElem (show k<bs.length by omega)]
   rw[hb,hg] at h
   obtain⟨n1,n2⟩:=nx_no he hk hp2 (by omega)
   rw[hb2,n2]
   exact⟨k,(by(refine covers_mk0 rfl rfl ?_ ?_ ?_ ?_<;>simp (disch:=(refine Om.mk ?_;omega)) only[go_sem]<;>(try omega))),⟨by omega,n1⟩,by omega⟩
 ·exact⟨Nat.le_refl _,nx_start he⟩
theorem cloneOwnK_fc (tk:Tk) (xs:List Int) (hl:xs.length≤17592186044416):FC S 78 [] [] [] [.sl tk (xs.map (.int .i64))] (.sl (.own 0 2 1) (xs.map (.int .i64))) [] [0]:=by
 refine FC.args (args':=[.sl .any (xs.map (.int .i64))]) ?_ (by simp only[go_sem])
 refine fc_body1 Tryz.func78 rfl (by kernel_rfl) (by simp[Tryz.f78]) fun B=>?_
 simp only[Tryz.ntmps78,enumD,lst0,Nat.reduceAdd]
 refine sw_bnd 0 rfl fun hb0=>?_
 simp only[D.bnd,List.length_map] at hb0
 refine sw_nilcase 0 rfl (fun hx=>?_) ?_<;>simp only[go_sem]
 ·have hx:xs=[]:=by simpa using hx
  subst hx
  repeat' first|(refine sw_tok 2 5000 2 1 rfl (.inl rfl) rfl ?_;simp only[go_sem])|refine sw_seq ?_|refine sw_skip ?_|refine sw_go 0 kp78 fun K hK=>?_|refine fun (K:KT) (hK:KOk S 0 _ _ _ K)=>?_|((first|refine runL_go ?_|refine sw_ret (ret0 ?_)|refine sw_ret ?_);simp (disch:=(refine Om.mk ?_;omega)) only[go_sem,Tryz.results78])|(refine hK.nil ?_;clear hK K;simp only[go_sem])|((first|refine sw_cond rfl ?_ ?_)<;>intro h<;>try simp (disch:=(refine Om.mk ?_;omega)) only[go_sem] at h)|(with_reducible refine And.intro (by first|omega|(simp only[lens];omega)) ?_)|((with_reducible refine And.intro ?_ ?_);· first|(intro x hx;subst hx;rfl)|exact upR_mem fun _ _=>rfl|exact mapR_mem fun _ _=>rfl|(intro x;refine And.intro ?_ ?_<;>(intros;subst_vars;rfl)))|fail
  exact ret1_own rfl (by simp)
 ·repeat' first|refine sw_seq ?_|refine sw_skip ?_|refine sw_go 0 kp78 fun K hK=>?_|refine fun (K:KT) (hK:KOk S 0 _ _ _ K)=>?_|((first|refine runL_go ?_|refine sw_ret (ret0 ?_)|refine sw_ret ?_);simp (disch:=(refine Om.mk ?_;omega)) only[go_sem,Tryz.results78])|(refine hK.nil ?_;clear hK K;simp only[go_sem])|((first|refine sw_cond rfl ?_ ?_)<;>intro h<;>try simp (disch:=(refine Om.mk ?_;omega)) only[go_sem] at h)|(with_reducible refine And.intro (by first|omega|(simp only[lens];omega)) ?_)|((with_reducible refine And.intro ?_ ?_);· first|(intro x hx;subst hx;rfl)|exact upR_mem fun _ _=>rfl|exact mapR_mem fun _ _=>rfl|(intro x;refine And.intro ?_ ?_<;>(intros;subst_vars;rfl)))|fail
  exact ret1_own rfl (by simp)
theorem cloneLabK_fc (p:List Nat) (hp:p≠[]) (tk:Tk) (xs:List Int) (hl:xs.length≤17592186044416):FC S 78 [] [] [] [.sl tk (xs.map (.int .i64))] (Int64SL p xs) [] []:=by
 by_cases h:xs=[]
 ·subst h
  exact(cloneOwnK_fc tk [] hl).weak .emp (by simp) (by simp)
 ·skip
  have h1':xs.map (D.int .i64)≠[]:=by simpa using h
  refine FC.args (args':=[.sl .any (xs.map (.int .i64))]) ?_ (by simp only[go_sem])
  refine fc_body Tryz.func78 rfl (by kernel_rfl) (by simp[Tryz.f78]) fun B=>?_
  simp only[Tryz.ntmps78,enumD,lst0,Nat.reduceAdd]
  refine sw_bnd 0 rfl fun hb0=>?_
  simp only[D.bnd,List.length_map] at hb0
  repeat' first|(refine sw_lab 2 p (k:=8000) rfl (by simp) hp ?_;simp only[go_sem])|refine sw_seq ?_|refine sw_skip ?_|refine sw_go 0 kp78 fun K hK=>?_|refine fun (K:KT) (hK:KOk S 0 _ _ _ K)=>?_|((first|refine runL_go ?_|refine sw_ret (ret0 ?_)|refine sw_ret ?_);simp (disch:=(refine Om.mk ?_;omega)) only[go_sem,Tryz.results78])|(refine hK.nil ?_;clear hK K;simp only[go_sem])|((first|refine sw_cond rfl ?_ ?_)<;>intro h<;>try simp (disch:=(refine Om.mk ?_;omega)) only[go_sem] at h)|(with_reducible refine And.intro (by first|omega|(simp only[lens];omega)) ?_)|((with_reducible refine And.intro ?_ ?_);· first|(intro x hx;subst hx;rfl)|exact upR_mem fun _ _=>rfl|exact mapR_mem fun _ _=>rfl|(intro x;refine And.intro ?_ ?_<;>(intros;subst_vars;rfl)))|fail
end Go.Proofs.YtpennhjjnlkbiaaGreat
end
section
namespace Go.Proofs.YtpennhjjnlkbiaaGreat
open Go Go.Lg
set_option linter.unusedSimpArgs false
set_option linter.unusedVariables false
set_option maxHeartbeats 4000000
attribute [local irreducible] SW runL runQ runG runQG FC Ret1 toF redoL anyB
noncomputable def headB (P:List DepPairT) (set:List Int) (n i:Nat):List Bool:=(List.range n).map fun f:Nat=>tst (HeadP P set i (f:Int))
theorem headB_len (P:List DepPairT) (set:List Int) (n i:Nat):(headB P set n i).length=n:=by simp[headB]
theorem headB_get {P:List DepPairT} {set:List Int} {n i f:Nat} (h:f<n):(headB P set n i).getD f default=tst (HeadP P set i f):=by
 simp[headB,List.getD,List.getElem?_map,List.getElem?_range h]
theorem headB_zero (P:List DepPairT) (set:List Int) (n:Nat):headB P set n 0=List.replicate n false:=by
 refine List.ext_getElem (by simp[headB]) fun j h1 h2=>?_
 simp only[headB,List.getElem_map,List.getElem_range,List.getElem_replicate]
 exact tst_false fun⟨k,hk,_⟩=>absurd hk (Nat.not_lt_zero _)
theorem headB_succ {P:List DepPairT} {set:List Int} {n i a b:Nat} (ha:(P.getD (set.getD i default).toNat default).l.getD 0 default=a) (hb:(P.getD (set.getD i default).toNat default).r.getD 0 default=b):((headB P set n i).set a true).set b true=headB P set n (i+1):=by
 refine List.ext_getElem (by simp[headB]) fun j h1 h2=>?_
 simp only[headB,List.getElem_set,List.getElem_map,List.getElem_range]
 have key:HeadP P set (i+1) j↔HeadP P set i j∨(a:Int)=j∨(b:Int)=j:=by
  constructor
  ·rintro⟨k,hk,h⟩
   rcases Nat.lt_or_ge k i with h3|h3
   ·exact .inl ⟨k,h3,h⟩
   ·obtain rfl:k=i:=by omega
    rw[ha,hb] at h
    exact .inr h
  ·rintro (⟨k,hk,h⟩|h)
   ·exact⟨k,by omega,h⟩
   ·exact⟨i,by omega,by rw[ha,hb];exact h⟩
 by_cases h3:b=j
 ·rw[if_pos h3,tst_true (key.2 (.inr (.inr (by omega))))]
 ·rw[if_neg h3]
  by_cases h4:a=j
  ·rw[if_pos h4,tst_true (key.2 (.inr (.inl (by omega))))]
  ·rw[if_neg h4]
   refine tst_congr (key.trans ⟨fun h=>h.resolve_right (by omega),.inl⟩).symm
theorem set_map_boolK (xs:List Bool) (i:Nat):(xs.map D.bool).set i (.bool true)=(xs.set i true).map D.bool:=by rw[List.map_set]
attribute [local go_sem] set_map_boolK
def kp76:List (Nat×List Nat):=[(0,[1,2,3]),(1,[1,2,7]),(2,[1,7,14,15,16]),(3,[1,7,14,15,16,17]),(4,[1,7,9,14,15,16]),(5,[1,7,9,14,15,16]),(6,[1,7,14,15,16]),(7,[1,7,14,15,16]),(8,[6])]
attribute [go_sem] kp76
theorem heads_fc (rs:List Int) (P:List DepPairT) (set:List Int) (hs8:rs.length≤8) (hP:∀p∈P,PrOk rs p) (hS:SetPP set P.length) (hl:P.length≤64):FC S 76 [] [] [] [.agg [.sl .any (rs.map (.int .i64))],.sl .any (P.map DepPairD),.sl .any (set.map (.int .i64))] (.sl .any ((headB P set rs.length set.length).map .bool)) [] []:=by
 have hsl:=set_le hS
 refine fc_body Tryz.func76 rfl (by kernel_rfl) (by simp[Tryz.f76]) fun B=>?_
 simp only[Tryz.ntmps76,enumD,lst0,Nat.reduceAdd]
 repeat' first|refine sw_seq ?_|refine sw_block ?_|refine sw_inBlock ?_|refine sw_skip ?_|refine sw_go 0 kp76 fun K hK=>?_|refine fun (K:KT) (hK:KOk S 0 _ _ _ K)=>?_|((first|refine runL_go ?_|refine sw_ret (ret0 ?_)|refine sw_ret ?_);simp (disch:=(refine Om.mk ?_;omega)) only[go_sem,Tryz.results76])|(refine hK.nil ?_;clear hK K;simp only[go_sem])|((first|refine sw_cond rfl ?_ ?_)<;>intro h<;>try simp (disch:=(refine Om.mk ?_;omega)) only[go_sem] at h)|refine sw_exit rfl ?_|refine sw_loopEnd ?_|(with_reducible refine And.intro (by first|omega|(simp only[lens];omega)) ?_)|((with_reducible refine And.intro ?_ ?_);· first|(intro x hx;subst hx;rfl)|exact upR_mem fun _ _=>rfl|exact mapR_mem fun _ _=>rfl|(intro x;refine And.intro ?_ ?_<;>(intros;subst_vars;rfl)))|fail
 refine sw_loopU (ι:=Nat) (fun p=>[(16,.int .i64 p)]) (fun p=>[(13,(headB P set rs.length p).map .bool)]) (fun p=>p≤set.length) (fun p=>set.length-p) 0 (by(refine covers_mk0 rfl rfl ?_ ?_ ?_ ?_<;>simp (disch:=(refine Om.mk ?_;omega)) only[go_sem]<;>(try omega));(rw[headB_zero];simp)) ?_ (fun p hp=>?_)
 rotate_left
 simp only[go_sem]
 have hbl:=headB_len P set rs.length p
 by_cases hil:p<set.length
 ·obtain⟨h1,⟨⟨h2,h3⟩,h4,h5⟩⟩:=(fun i hi=>(⟨(hS i hi).1,hP _ (getD_mem P _ (by have:=(hS i hi).1;omega))⟩:(0≤set.getD i default∧set.getD i default<P.length)∧PrOk rs (P.getD (set.getD i default).toNat default))) p hil
  have h6:=h2.2.1
  have h7:=h3.2.1
  have h8:=(h2.low (show 0<_ from h2.2.1.1)).1.2
  have h9:=(h3.low (show 0<_ from h3.2.1.1)).1.2
  obtain⟨a,ha⟩:∃a:Nat,(P.getD (set.getD p default).toNat default).l.getD 0 default=a:=⟨_,(Int.toNat_of_nonneg h4).symm⟩
  obtain⟨b,hb⟩:∃b:Nat,(P.getD (set.getD p default).toNat default).r.getD 0 default=b:=⟨_,(Int.toNat_of_nonneg h5).symm⟩
  have hst:=headB_succ (n:=rs.length) ha hb
  repeat' first|((exfalso;omega))|((simp only[ha];simp (disch:=(refine Om.mk ?_;omega)) only[go_sem]))|((simp only[hb];simp (disch:=(refine Om.mk ?_;omega)) only[go_sem]))|refine sw_seq ?_|refine sw_block ?_|refine sw_inBlock ?_|refine sw_skip ?_|refine sw_go 0 kp76 fun K hK=>?_|refine fun (K:KT) (hK:KOk S 0 _ _ _ K)=>?_|((first|refine runL_go ?_|refine sw_ret (ret0 ?_)|refine sw_ret ?_);simp (disch:=(refine Om.mk ?_;omega)) only[go_sem,Tryz.results76])|(refine hK.nil ?_;clear hK K;simp only[go_sem])|((first|refine sw_cond rfl ?_ ?_)<;>intro h<;>try simp (disch:=(refine Om.mk ?_;omega)) only[go_sem] at h)|refine sw_exit rfl ?_|refine sw_loopEnd ?_|(with_reducible refine And.intro (by first|omega|(simp only[lens];omega)) ?_)|((with_reducible refine And.intro ?_ ?_);· first|(intro x hx;subst hx;rfl)|exact upR_mem fun _ _=>rfl|exact mapR_mem fun _ _=>rfl|(intro x;refine And.intro ?_ ?_<;>(intros;subst_vars;rfl)))|fail
  exact⟨p+1,(by(refine covers_mk0 rfl rfl ?_ ?_ ?_ ?_<;>simp (disch:=(refine Om.mk ?_;omega)) only[go_sem]<;>(try omega));first|(rw[hst];done)|exact⟨by omega,by rw[hst]⟩),by omega,by omega⟩
 ·obtain rfl:p=set.length:=by omega
  repeat' first|((exfalso;omega))|((refine sw_freezeAt 8 7 1 .any ((headB P set rs.length set.length).map .bool) rfl (by simp[Lg.look]) (flat_ones _ _ fun _=>rfl).symm (by simp[hbl]) (cells_one fun _=>rfl) (fun d hd=>by obtain⟨b,_,rfl⟩:=List.mem_map.1 hd;rfl) (.inl rfl) ?_;simp only[go_sem]))|refine sw_seq ?_|refine sw_block ?_|refine sw_inBlock ?_|refine sw_skip ?_|refine sw_go 0 kp76 fun K hK=>?_|refine fun (K:KT) (hK:KOk S 0 _ _ _ K)=>?_|((first|refine runL_go ?_|refine sw_ret (ret0 ?_)|refine sw_ret ?_);simp (disch:=(refine Om.mk ?_;omega)) only[go_sem,Tryz.results76])|(refine hK.nil ?_;clear hK K;simp only[go_sem])|((first|refine sw_cond rfl ?_ ?_)<;>intro h<;>try simp (disch:=(refine Om.mk ?_;omega)) only[go_sem] at h)|refine sw_exit rfl ?_|refine sw_loopEnd ?_|(with_reducible refine And.intro (by first|omega|(simp only[lens];omega)) ?_)|((with_reducible refine And.intro ?_ ?_);· first|(intro x hx;subst hx;rfl)|exact upR_mem fun _ _=>rfl|exact mapR_mem fun _ _=>rfl|(intro x;refine And.intro ?_ ?_<;>(intros;subst_vars;rfl)))|fail
 ·exact Nat.zero_le _
def kp80:List (Nat×List Nat):=[(0,[1,2]),(1,[1,2,6]),(2,[1,6,10,11,12]),(3,[1,6,10,11,12,13]),(4,[1,6,8,10,11,12]),(5,[1,6,8,10,11,12]),(6,[1,6,10,11,12]),(7,[1,6,10,11,12]),(8,[4,5])]
attribute [go_sem] kp80
theorem polysBy_fc (p:List Nat) (hp:p≠[]) (off:Nat) (rs xs:List Int) (hS:SigOkP rs) (hl:atN rs rs.length≤xs.length) (hx:xs.length≤1000):FC S 80 [] [] [] [.agg [.sl .any (rs.map (.int .i64))],.sl .any (xs.map (.int .i64))] (.tup [.sl (.own 0 71 2) (upR (fun i y=>PolyL (p++[off+i]) y) (polD rs xs) rs.length),.sl .any ((xs.drop (atN rs rs.length)).map (.int .i64))]) [] [0]:=by
 have hs8:=hS.1.2
 refine fc_body1 Tryz.func80 rfl (by kernel_rfl) (by simp[Tryz.f80]) fun B=>?_
 simp only[Tryz.ntmps80,enumD,lst0,Nat.reduceAdd]
 repeat' first|refine sw_seq ?_|refine sw_block ?_|refine sw_inBlock ?_|refine sw_skip ?_|refine sw_go 0 kp80 fun K hK=>?_|refine sw_goT 0 kp80 11 (id:=5) (by kernel_rfl) fun K hK=>?_|refine fun (K:KT) (hK:KOk S 0 _ _ _ K)=>?_|refine sw_goD kp80 (by kernel_rfl) fun K hK=>?_|((first|refine runL_go ?_|refine runQ_go ?_|refine sw_ret (ret0 ?_)|refine sw_ret ?_);simp (disch:=(refine Om.mk ?_;omega)) only[go_sem,Tryz.results80])|(refine hK.nil ?_;clear hK K;simp only[go_sem])|((first|refine sw_cond rfl ?_ ?_)<;>intro h<;>try simp (disch:=(refine Om.mk ?_;omega)) only[go_sem] at h)|refine sw_exit rfl ?_|refine sw_loopEnd ?_|(with_reducible refine And.intro (by first|omega|(simp only[lens];omega)) ?_)|((with_reducible refine And.intro ?_ ?_);· first|(intro x hx;subst hx;rfl)|exact upR_mem fun _ _=>rfl|exact mapR_mem fun _ _=>rfl|(intro x;refine And.intro ?_ ?_<;>(intros;subst_vars;rfl)))|fail
 refine sw_tok 6 28000 71 2 rfl (.inl rfl) rfl ?_
 simp only[go_sem]
 repeat' first|refine sw_seq ?_|refine sw_block ?_|refine sw_inBlock ?_|refine sw_skip ?_|refine sw_go 0 kp80 fun K hK=>?_|refine sw_goT 0 kp80 11 (id:=5) (by kernel_rfl) fun K hK=>?_|refine fun (K:KT) (hK:KOk S 0 _ _ _ K)=>?_|refine sw_goD kp80 (by kernel_rfl) fun K hK=>?_|((first|refine runL_go ?_|refine runQ_go ?_|refine sw_ret (ret0 ?_)|refine sw_ret ?_);simp (disch:=(refine Om.mk ?_;omega)) only[go_sem,Tryz.results80])|(refine hK.nil ?_;clear hK K;simp only[go_sem])|((first|refine sw_cond rfl ?_ ?_)<;>intro h<;>try simp (disch:=(refine Om.mk ?_;omega)) only[go_sem] at h)|refine sw_exit rfl ?_|refine sw_loopEnd ?_|(with_reducible refine And.intro (by first|omega|(simp only[lens];omega)) ?_)|((with_reducible refine And.intro ?_ ?_);· first|(intro x hx;subst hx;rfl)|exact upR_mem fun _ _=>rfl|exact mapR_mem fun _ _=>rfl|(intro x;refine And.intro ?_ ?_<;>(intros;subst_vars;rfl)))|fail
 refine sw_loopT (ι:=Nat) (fun f=>[(12,.int .i64 f),(1,.sl .any ((xs.drop (atN rs f)).map (.int .i64))),(6,.sl (.own 28000 71 2) (upR (fun i y=>PolyL (p++[off+i]) y) (polD rs xs) f))]) (fun _=>[]) (fun _=>[28000]) (fun f=>f≤rs.length) (fun f=>rs.length-f) 0 (by(refine covers_mk0 rfl rfl ?_ ?_ ?_ ?_<;>simp (disch:=(refine Om.mk ?_;omega)) only[go_sem]<;>(try omega));refine⟨?_,?_,?_⟩<;>first|rfl|(simp[atN];done)|(simp[upR];done)) (by omega) (fun f hf=>?_)
 simp only[go_sem]
 by_cases hfl:f<rs.length
 ·have har:=hS.2 f hfl
  have hm:atN rs (f+1)≤atN rs rs.length:=atN_mono rs hfl
  have hm1:atN rs (f+1)=atN rs f+(rs.getD f default).toNat+1:=rfl
  have hg:(polD rs xs).getD f default=⟨(xs.drop (atN rs f)).getD 0 default,((xs.drop (atN rs f)).take (rs.getD f default+1).toNat).drop 1⟩:=by
   rw[show (polD rs xs).getD f default=_ from polN_get rs xs _ f hfl]
   congr 1
   ·simp[List.getD,List.getElem?_drop]
   ·rw[List.drop_take,List.drop_drop];congr 1;omega
  have hd:(xs.drop (atN rs f)).drop (rs.getD f default+1).toNat=xs.drop (atN rs (f+1)):=by rw[List.drop_drop];congr 1;omega
  have hyl:(xs.drop (atN rs f)).length=xs.length-atN rs f:=List.length_drop
  have hul:=upR_length (fun i y=>PolyL (p++[off+i]) y) (polD rs xs) f
  have hsu:=upR_succ (fun i y=>PolyL (p++[off+i]) y) (polD rs xs) f
  rw[hg] at hsu
  generalize xs.drop (atN rs f)=ys at hg hd hyl hsu ⊢
  repeat' first|((exfalso;omega))|refine sw_seq ?_|refine sw_block ?_|refine sw_inBlock ?_|refine sw_skip ?_|refine sw_go 0 kp80 fun K hK=>?_|refine sw_goT 0 kp80 11 (id:=5) (by kernel_rfl) fun K hK=>?_|refine fun (K:KT) (hK:KOk S 0 _ _ _ K)=>?_|refine sw_goD kp80 (by kernel_rfl) fun K hK=>?_|((first|refine runL_go ?_|refine runQ_go ?_|refine sw_ret (ret0 ?_)|refine sw_ret ?_);simp (disch:=(refine Om.mk ?_;omega)) only[go_sem,Tryz.results80])|(refine hK.nil ?_;clear hK K;simp only[go_sem])|((first|refine sw_cond rfl ?_ ?_)<;>intro h<;>try simp (disch:=(refine Om.mk ?_;omega)) only[go_sem] at h)|refine sw_exit rfl ?_|refine sw_loopEnd ?_|refine hK.c0 rfl rfl rfl (cloneLabK_fc (p++[off+f]++[1]) (by simp) _ _ (by simp;omega)) rfl rfl rfl ?_|(with_reducible refine And.intro (by first|omega|(simp only[lens];omega)) ?_)|((with_reducible refine And.intro ?_ ?_);· first|(intro x hx;subst hx;rfl)|exact upR_mem fun _ _=>rfl|exact mapR_mem fun _ _=>rfl|(intro x;refine And.intro ?_ ?_<;>(intros;subst_vars;rfl)))|fail
  exact⟨f+1,(by(refine covers_mk0 rfl rfl ?_ ?_ ?_ ?_<;>simp (disch:=(refine Om.mk ?_;omega)) only[go_sem]<;>(try omega));rw[upR_succ,hg];exact⟨hd,rfl,by omega⟩),by omega,by omega⟩
 ·obtain rfl:f=rs.length:=by omega
  repeat' first|((exfalso;omega))|refine sw_seq ?_|refine sw_block ?_|refine sw_inBlock ?_|refine sw_skip ?_|refine sw_go 0 kp80 fun K hK=>?_|refine sw_goT 0 kp80 11 (id:=5) (by kernel_rfl) fun K hK=>?_|refine fun (K:KT) (hK:KOk S 0 _ _ _ K)=>?_|refine sw_goD kp80 (by kernel_rfl) fun K hK=>?_|((first|refine runL_go ?_|refine runQ_go ?_|refine sw_ret (ret0 ?_)|refine sw_ret ?_);simp (disch:=(refine Om.mk ?_;omega)) only[go_sem,Tryz.results80])|(refine hK.nil ?_;clear hK K;simp only[go_sem])|((first|refine sw_cond rfl ?_ ?_)<;>intro h<;>try simp (disch:=(refine Om.mk ?_;omega)) only[go_sem] at h)|refine sw_exit rfl ?_|refine sw_loopEnd ?_|(with_reducible refine And.intro (by first|omega|(simp only[lens];omega)) ?_)|((with_reducible refine And.intro ?_ ?_);· first|(intro x hx;subst hx;rfl)|exact upR_mem fun _ _=>rfl|exact mapR_mem fun _ _=>rfl|(intro x;refine And.intro ?_ ?_<;>(intros;subst_vars;rfl)))|fail
  unfold Ret1
  simp only[go_sem]
  exact⟨28000,_,.refl _,rfl,by simp[D.tks,D.tksL],rfl⟩
end Go.Proofs.YtpennhjjnlkbiaaGreat
end
section
namespace Go.Proofs.YtpennhjjnlkbiaaGreat
open Go Go.Lg
set_option linter.unusedSimpArgs false
set_option linter.unusedVariables false
set_option maxHeartbeats 4000000
attribute [local irreducible] SW runL runQ runG runQG FC Ret1 toF redoL anyB addJ sumF formM
def kp150:List (Nat×List Nat):=[(0,[1,2]),(1,[3])]
attribute [go_sem] kp150
theorem isDefined1_fc (f:Int) (r:RuleT) (h:1≤r.l.length):FC S 150 [(3,[.int .i64 f])] [] [] ([RuleD r]++[.box 3 0]) (.bool (tst (r.l.getD 0 default=f))) [] []:=by
 refine fc_body Tryz.func150 rfl (by kernel_rfl) (by simp[Tryz.f150]) fun B=>?_
 simp only[Tryz.ntmps150,enumD,lst0,Nat.reduceAdd]
 repeat' first|refine sw_seq ?_|refine sw_go 100 kp150 fun K hK=>?_|refine sw_goD kp150 (by kernel_rfl) fun K hK=>?_|((first|refine runL_go ?_|refine runQ_go ?_|refine sw_ret (ret0 ?_)|refine sw_ret ?_);simp (disch:=(refine Om.mk ?_;omega)) only[go_sem,Tryz.results150])|(refine hK.nil ?_;clear hK K;simp only[go_sem])|(with_reducible refine And.intro (by first|omega|(simp only[lens];omega)) ?_)|fail
def kp130:List (Nat×List Nat):=[(0,[2,3]),(1,[4])]
attribute [go_sem] kp130
theorem isDefined_fc (x:SystemT) (f:Int) (h:∀r∈x.rules,1≤r.l.length):FC S 130 [] [] [] [SystemD x,.int .i64 f] (.bool (tst (DefP x f))) [] []:=by
 refine fc_body Tryz.func130 rfl (by kernel_rfl) (by simp[Tryz.f130]) fun B=>?_
 simp only[Tryz.ntmps130,enumD,lst0,Nat.reduceAdd]
 repeat' first|refine sw_seq ?_|refine sw_go 0 kp130 fun K hK=>?_|((first|refine runL_go ?_|refine sw_ret (ret0 ?_)|refine sw_ret ?_);simp (disch:=(refine Om.mk ?_;omega)) only[go_sem,Tryz.results130])|(refine hK.nil ?_;clear hK K;simp only[go_sem])|refine hK.call rfl rfl rfl (containsFuncRule_fc _ x.rules (fun r=>r.l.getD 0 default=f) _ _ [(3,[.int .i64 f])] (by simp[Lg.look]) (fun r hr=>isDefined1_fc f r (h r hr))) ⟨(by simp[LS.getBox,Lg.look]),rfl,rfl,(by simp only[dstOk,Nat.reduceLT])⟩ ?_|fail
 exact Iff.rfl
def kp92:List (Nat×List Nat):=[(0,[1,2,3,4]),(1,[1,3,4,9]),(2,[1,3,4,9,14]),(4,[1,3,4,9,22]),(5,[8]),(3,[1,3,4,9]),(6,[8])]
attribute [go_sem] kp92
theorem hasSub_fc (rs t u:List Int) (hT:TermOkP rs t):FC S 92 [] [] [] [.agg [.sl .any (rs.map (.int .i64))],.sl .any (t.map (.int .i64)),.int .i64 1,.sl .any (u.map (.int .i64))] (.bool (tst (HasSub rs t 1 u))) [] []:=by
 have hl:=hT.2.1
 refine fc_body Tryz.func92 rfl (by kernel_rfl) (by simp[Tryz.f92]) fun B=>?_
 simp only[Tryz.ntmps92,enumD,lst0,Nat.reduceAdd]
 repeat' first|refine sw_seq ?_|refine sw_block ?_|refine sw_go 0 kp92 fun K hK=>?_|((first|refine runL_go ?_|refine sw_ret (ret0 ?_)|refine sw_ret ?_);simp (disch:=(refine Om.mk ?_;omega)) only[go_sem,Tryz.results92])|(refine hK.nil ?_;clear hK K;simp only[go_sem])|fail
 refine sw_loopU (ι:=Nat) (fun p=>[(9,.int .i64 p)]) (fun p=>[]) (fun p=>(1≤p∧p≤t.length)∧∀j<p,1≤j→subS rs t j≠u) (fun p=>t.length-p) 1 (by(refine covers_mk0 rfl rfl ?_ ?_ ?_ ?_<;>simp (disch:=(refine Om.mk ?_;omega)) only[go_sem]<;>(try omega))) ?_ (fun p hp=>?_)
 rotate_left
 simp only[go_sem]
 obtain⟨hp,hj⟩:=hp
 by_cases hil:p<t.length
 ·repeat' first|((exfalso;omega))|refine sw_seq ?_|refine sw_block ?_|refine sw_inBlock ?_|refine sw_skip ?_|refine sw_go 0 kp92 fun K hK=>?_|((first|refine runL_go ?_|refine sw_ret (ret0 ?_)|refine sw_ret ?_);simp (disch:=(refine Om.mk ?_;omega)) only[go_sem,Tryz.results92])|(refine hK.nil ?_;clear hK K;simp only[go_sem])|((first|refine sw_cond rfl ?_ ?_)<;>intro h<;>try simp (disch:=(refine Om.mk ?_;omega)) only[go_sem] at h)|refine sw_loopEnd ?_|refine hK.c0 rfl rfl rfl (subAt_fc .any .any rs t p hT hil) rfl rfl rfl ?_|refine hK.c0 rfl rfl rfl (equalInt64_fc _ _ (subS rs t p) u) rfl rfl rfl ?_|fail
  ·exact⟨p,⟨hp.1,hil⟩,h⟩
  ·exact⟨p+1,(by(refine covers_mk0 rfl rfl ?_ ?_ ?_ ?_<;>simp (disch:=(refine Om.mk ?_;omega)) only[go_sem]<;>(try omega))),⟨by omega,upto_succ hj fun _=>h⟩,by omega⟩
 ·repeat' first|((exfalso;omega))|refine sw_seq ?_|refine sw_go 0 kp92 fun K hK=>?_|((first|refine runL_go ?_|refine sw_ret (ret0 ?_)|refine sw_ret ?_);simp (disch:=(refine Om.mk ?_;omega)) only[go_sem,Tryz.results92])|(refine hK.nil ?_;clear hK K;simp only[go_sem])|((first|refine sw_cond rfl ?_ ?_)<;>intro h<;>try simp (disch:=(refine Om.mk ?_;omega)) only[go_sem] at h)|refine sw_exit rfl ?_|fail
  exact hasSub_no fun j hj'=>hj j (by omega)
 ·exact⟨⟨by omega,by omega⟩,fun j h1 h2=>absurd h1 (by omega)⟩
def kp107:List (Nat×List Nat):=[(0,[1,2,3,6]),(1,[1,2,3,6,8]),(2,[1,2,3,6,8,30]),(3,[6,7]),(4,[1,2,3,6,8,9]),(5,[1,2,6,8,9,43]),(6,[6,7]),(7,[6,7])]
attribute [go_sem] kp107
theorem pairAt_fc (x:SystemT) (hx:SystemOkP x) (r a:Nat) (hr:r<x.rules.length) (ha:a<(x.rules.getD r default).r.length):FC S 107 [] [] [] [SystemD x,.int .i64 r,.int .i64 a] (.tup [DepPairD (atR x r a).1,.bool (atR x r a).2]) [] []:=by
 have hR:=hx.2 r hr
 have h12:=hx.1.2
 have hT:=hR.1.2.1
 have hl:=hT.2.1
 have hl1:=hR.1.1.2.1
 have hsl:1≤(subS x.sig (x.rules.getD r default).r a).length∧(subS x.sig (x.rules.getD r default).r a).length≤60:=(subS_ok hT ha).2.1
 have hne:∀ {xs:List Int},1≤xs.length→xs≠[]:=fun h e=>by rw[e] at h;exact absurd h (by simp)
 have h0:∀r∈x.rules,1≤r.l.length:=fun r hr=>by
  obtain⟨j,hj,rfl⟩:=List.getElem_of_mem hr
  have:=(hx.2 j hj).1.1.2.1.1
  rwa [List.getD_eq_getElem?_getD,List.getElem?_eq_getElem hj] at this
 rcases Classical.em (PairP x r a) with hPA|hPA
 ·rw[atR_yes hPA]
  have hh:=hPA.1
  refine fc_body Tryz.func107 rfl (by kernel_rfl) (by simp[Tryz.f107]) fun B=>?_
  simp only[Tryz.ntmps107,enumD,lst0,Nat.reduceAdd]
  repeat' first|((exfalso;omega))|refine sw_seq ?_|refine sw_skip ?_|refine sw_go 0 kp107 fun K hK=>?_|refine sw_goD kp107 (by kernel_rfl) fun K hK=>?_|((first|refine runL_go ?_|refine runQ_go ?_|refine sw_ret (ret0 ?_)|refine sw_ret ?_);simp (disch:=(refine Om.mk ?_;omega)) only[go_sem,Tryz.results107])|(refine hK.nil ?_;clear hK K;simp only[go_sem])|((first|refine runG_fork rfl rfl rfl rfl rfl ?_ ?_|refine runQG_fork rfl rfl rfl rfl rfl ?_ ?_|refine sw_cond rfl ?_ ?_)<;>intro h<;>try simp (disch:=(refine Om.mk ?_;omega)) only[go_sem] at h)|refine hK.c0 rfl rfl rfl (isDefined_fc x _ h0) rfl rfl rfl ?_|refine hK.c0 rfl rfl rfl (subAt_fc .any .any x.sig (x.rules.getD r default).r a hT ha) rfl rfl rfl ?_|refine hK.c0 rfl rfl rfl (hasSub_fc x.sig (x.rules.getD r default).l (subS x.sig (x.rules.getD r default).r a) hR.1.1) rfl rfl rfl ?_|refine hK.c0 rfl rfl rfl (cloneL_fc [1] (by simp) _ (subS x.sig (x.rules.getD r default).r a) (hne hsl.1) (by omega)) rfl rfl rfl ?_|refine hK.c0 rfl rfl rfl (cloneL_fc [2] (by simp) _ (x.rules.getD r default).l (hne hl1.1) (by omega)) rfl rfl rfl ?_|(with_reducible refine And.intro (by first|omega|(simp only[lens];omega)) ?_)|fail
  all_goals first|exact absurd hh.2 (by assumption)|exact absurd (by assumption) hPA.2|exact⟨rfl,rfl,rfl,rfl⟩|skip
 ·rw[atR_no hPA]
  refine fc_body Tryz.func107 rfl (by kernel_rfl) (by simp[Tryz.f107]) fun B=>?_
  simp only[Tryz.ntmps107,enumD,lst0,Nat.reduceAdd]
  repeat' first|refine sw_seq ?_|refine sw_skip ?_|refine sw_go 0 kp107 fun K hK=>?_|refine sw_goD kp107 (by kernel_rfl) fun K hK=>?_|((first|refine runL_go ?_|refine runQ_go ?_|refine sw_ret (ret0 ?_)|refine sw_ret ?_);simp (disch:=(refine Om.mk ?_;omega)) only[go_sem,Tryz.results107])|(refine hK.nil ?_;clear hK K;simp only[go_sem])|((first|refine runG_fork rfl rfl rfl rfl rfl ?_ ?_|refine runQG_fork rfl rfl rfl rfl rfl ?_ ?_|refine sw_cond rfl ?_ ?_)<;>intro h<;>try simp (disch:=(refine Om.mk ?_;omega)) only[go_sem] at h)|refine hK.skp rfl rfl ?_|refine hK.c0 rfl rfl rfl (isDefined_fc x _ h0) rfl rfl rfl ?_|refine hK.c0 rfl rfl rfl (subAt_fc .any .any x.sig (x.rules.getD r default).r a hT ha) rfl rfl rfl ?_|refine hK.c0 rfl rfl rfl (hasSub_fc x.sig (x.rules.getD r default).l (subS x.sig (x.rules.getD r default).r a) hR.1.1) rfl rfl rfl ?_|refine hK.c0 rfl rfl rfl (cloneL_fc [1] (by simp) _ (subS x.sig (x.rules.getD r default).r a) (hne hsl.1) (by omega)) rfl rfl rfl ?_|refine hK.c0 rfl rfl rfl (cloneL_fc [2] (by simp) _ (x.rules.getD r default).l (hne hl1.1) (by omega)) rfl rfl rfl ?_|(with_reducible refine And.intro (by first|omega|(simp only[lens];omega)) ?_)|fail
  all_goals first|exact absurd (show PairP x r a from⟨⟨(by assumption),(by assumption)⟩,(by assumption)⟩) hPA|skip
end Go.Proofs.YtpennhjjnlkbiaaGreat
end
section
namespace Go.Proofs.YtpennhjjnlkbiaaGreat
open Go Go.Lg
set_option linter.unusedSimpArgs false
set_option linter.unusedVariables false
set_option maxHeartbeats 4000000
attribute [local irreducible] SW runL runQ runG runQG FC Ret1 toF redoL anyB addJ sumF formM
def kp74:List (Nat×List Nat):=[(0,[1]),(1,[1,4]),(2,[1,4,11,12,13]),(3,[1,4,11,12,13,14]),(4,[1,4,5,6,11,12,13]),(5,[1,4,5,11,12,13,20,21]),(6,[1,4,5,11,12,13,20,21,22]),(7,[1,4,5,7,11,12,13,20,21]),(8,[1,4,5,8,9,11,12,13,20,21]),(9,[1,4,5,8,11,12,13,20,21,31]),(10,[1,4,5,11,12,13,20,21]),(11,[1,4,5,11,12,13,20,21]),(12,[1,4,11,12,13]),(13,[4,40]),(14,[2,3]),(15,[2,3])]
attribute [go_sem] kp74
theorem pairs_fc (x:SystemT) (hx:SystemOkP x):FC S 74 [] [] [] [SystemD x] (.tup [.sl .any ((pairsR x).1.map DepPairD),.bool (pairsR x).2]) [] []:=by
 have h12:=hx.1.2
 have hA:(prA x x.rules.length).length≤64→pairsR x=(allP x,true):=fun h=>pairsR_yes ⟨hx,h⟩
 have hB:¬(prA x x.rules.length).length≤64→pairsR x=([],false):=fun h=>pairsR_no fun e=>h e.2
 refine fc_body Tryz.func74 rfl (by kernel_rfl) (by simp[Tryz.f74]) fun B=>?_
 simp only[Tryz.ntmps74,enumD,lst0,Nat.reduceAdd]
 repeat' first|refine sw_seq ?_|refine sw_block ?_|refine sw_go 0 kp74 fun K hK=>?_|((first|refine runL_go ?_|refine sw_ret (ret0 ?_)|refine sw_ret ?_);simp (disch:=(refine Om.mk ?_;omega)) only[go_sem,Tryz.results74])|(refine hK.nil ?_;clear hK K;simp only[go_sem])|fail
 refine sw_tok 4 36000 94 4 rfl (.inl rfl) rfl ?_
 simp only[go_sem]
 refine sw_loopT (ι:=Nat) (fun r=>[(13,.int .i64 r),(4,.sl (.own 36000 94 4) ((prA x r).map DepPairD))]) (fun _=>[]) (fun _=>[36000]) (fun r=>r≤x.rules.length) (fun r=>x.rules.length-r) 0 (by(refine covers_mk0 rfl rfl ?_ ?_ ?_ ?_<;>simp (disch:=(refine Om.mk ?_;omega)) only[go_sem]<;>(try omega));all_goals exact⟨rfl,rfl⟩) (by omega) (fun r hr=>?_)
 simp only[go_sem]
 have hl1:=prA_len hx r hr
 by_cases hrl:r<x.rules.length
 ·have hT:=(hx.2 r hrl).1.2.1
  have hTl:=hT.2.1
  repeat' first|((exfalso;omega))|refine sw_seq ?_|refine sw_block ?_|refine sw_skip ?_|refine sw_go 0 kp74 fun K hK=>?_|((first|refine runL_go ?_|refine sw_ret (ret0 ?_)|refine sw_ret ?_);simp (disch:=(refine Om.mk ?_;omega)) only[go_sem,Tryz.results74])|(refine hK.nil ?_;clear hK K;simp only[go_sem])|((first|refine sw_cond rfl ?_ ?_)<;>intro h<;>try simp (disch:=(refine Om.mk ?_;omega)) only[go_sem] at h)|(with_reducible refine And.intro (by first|omega|(simp only[lens];omega)) ?_)|fail
  refine sw_loopT (ι:=Nat) (fun a=>[(21,.int .i64 a),(4,.sl (.own 36000 94 4) ((prA x r++prR x r a).map DepPairD))]) (fun _=>[]) (fun _=>[36000]) (fun a=>a≤(x.rules.getD r default).r.length) (fun a=>(x.rules.getD r default).r.length-a) 0 (by(refine covers_mk0 rfl rfl ?_ ?_ ?_ ?_<;>simp (disch:=(refine Om.mk ?_;omega)) only[go_sem]<;>(try omega));all_goals first|rfl|(rw[show prR x r 0=[] from rfl,List.append_nil];exact⟨rfl,rfl⟩)|(rw[show prR x r 0=[] from rfl,List.append_nil])) (by omega) (fun a ha=>?_)
  simp only[go_sem]
  have hl2:=prR_len x r a
  have hl3:(prA x r++prR x r a).length≤60*r+a:=by rw[List.length_append];omega
  by_cases hal:a<(x.rules.getD r default).r.length
  ·have hst:=@prR_at x r a
   repeat' first|((exfalso;omega))|refine sw_seq ?_|refine sw_block ?_|refine sw_inBlock ?_|refine sw_skip ?_|refine sw_go 0 kp74 fun K hK=>?_|((first|refine runL_go ?_|refine sw_ret (ret0 ?_)|refine sw_ret ?_);simp (disch:=(refine Om.mk ?_;omega)) only[go_sem,Tryz.results74])|(refine hK.nil ?_;clear hK K;simp only[go_sem])|((first|refine sw_cond rfl ?_ ?_)<;>intro h<;>try simp (disch:=(refine Om.mk ?_;omega)) only[go_sem] at h)|refine sw_loopEnd ?_|refine hK.c0 rfl rfl rfl (pairAt_fc x hx r a hrl hal) rfl rfl rfl ?_|(with_reducible refine And.intro (by first|omega|(simp only[lens];omega)) ?_)|((with_reducible refine And.intro ?_ ?_);· first|(intro x hx;subst hx;rfl)|(intro x;refine And.intro ?_ ?_<;>(intros;subst_vars;rfl)))|fail
   ·exact⟨a+1,(by(refine covers_mk0 rfl rfl ?_ ?_ ?_ ?_<;>simp (disch:=(refine Om.mk ?_;omega)) only[go_sem]<;>(try omega));rw[hst.1 h,←List.append_assoc,List.map_append (l₁:=prA x r++prR x r a),List.map_append (l₁:=prA x r)];exact⟨rfl,by omega⟩),by omega,by omega⟩
   ·exact⟨a+1,(by(refine covers_mk0 rfl rfl ?_ ?_ ?_ ?_<;>simp (disch:=(refine Om.mk ?_;omega)) only[go_sem]<;>(try omega));rw[hst.2 h];exact⟨rfl,by omega⟩),by omega,by omega⟩
  ·repeat' first|((exfalso;omega))|refine sw_seq ?_|refine sw_inBlock ?_|refine sw_go 0 kp74 fun K hK=>?_|((first|refine runL_go ?_|refine sw_ret (ret0 ?_)|refine sw_ret ?_);simp (disch:=(refine Om.mk ?_;omega)) only[go_sem,Tryz.results74])|(refine hK.nil ?_;clear hK K;simp only[go_sem])|((first|refine sw_cond rfl ?_ ?_)<;>intro h<;>try simp (disch:=(refine Om.mk ?_;omega)) only[go_sem] at h)|refine sw_exit rfl ?_|refine sw_loopEnd ?_|fail
   exact⟨r+1,(by(refine covers_mk0 rfl rfl ?_ ?_ ?_ ?_<;>simp (disch:=(refine Om.mk ?_;omega)) only[go_sem]<;>(try omega));rw[show prA x (r+1)=prA x r++prR x r (x.rules.getD r default).r.length from rfl,show a=(x.rules.getD r default).r.length by omega];exact⟨rfl,by omega⟩),by omega,by omega⟩
 ·obtain rfl:r=x.rules.length:=by omega
  repeat' first|((exfalso;omega))|refine sw_seq ?_|refine sw_skip ?_|refine sw_go 0 kp74 fun K hK=>?_|((first|refine runL_go ?_|refine sw_ret (ret0 ?_)|refine sw_ret ?_);simp (disch:=(refine Om.mk ?_;omega)) only[go_sem,Tryz.results74])|(refine hK.nil ?_;clear hK K;simp only[go_sem])|((first|refine sw_cond rfl ?_ ?_)<;>intro h<;>try simp (disch:=(refine Om.mk ?_;omega)) only[go_sem] at h)|refine sw_exit rfl ?_|fail
  ·rw[hB (by omega)];exact⟨rfl,rfl⟩
  ·rw[hA (by omega)];exact⟨rfl,rfl⟩
def kp38:List (Nat×List Nat):=[(0,[1]),(1,[1,6]),(2,[2,3]),(3,[2,3])]
attribute [go_sem] kp38
theorem implPairsOf_fc (x:SystemT):FC S 38 [] [] [] [SystemD x] (.tup [.sl .any ((pairsR x).1.map DepPairD),.bool (pairsR x).2]) [] []:=by
 rcases Classical.em (SystemOkP x) with hx|hx
 ·skip
  refine fc_body Tryz.func38 rfl (by kernel_rfl) (by simp[Tryz.f38]) fun B=>?_
  simp only[Tryz.ntmps38,enumD,lst0,Nat.reduceAdd]
  repeat' first|((exact absurd hx (by assumption)))|refine sw_seq ?_|refine sw_skip ?_|refine sw_go 0 kp38 fun K hK=>?_|((first|refine runL_go ?_|refine sw_ret (ret0 ?_)|refine sw_ret ?_);simp (disch:=(refine Om.mk ?_;omega)) only[go_sem,Tryz.results38])|(refine hK.nil ?_;clear hK K;simp only[go_sem])|((first|refine sw_cond rfl ?_ ?_)<;>intro h<;>try simp (disch:=(refine Om.mk ?_;omega)) only[go_sem] at h)|refine hK.c0 rfl rfl rfl (implSystemOk_fc _) rfl rfl rfl ?_|refine hK.c0 rfl rfl rfl (pairs_fc x hx) rfl rfl rfl ?_|fail
 ·rw[pairsR_no fun h=>hx h.1]
  refine fc_body Tryz.func38 rfl (by kernel_rfl) (by simp[Tryz.f38]) fun B=>?_
  simp only[Tryz.ntmps38,enumD,lst0,Nat.reduceAdd]
  repeat' first|((exact absurd (by assumption) hx))|refine sw_seq ?_|refine sw_go 0 kp38 fun K hK=>?_|((first|refine runL_go ?_|refine sw_ret (ret0 ?_)|refine sw_ret ?_);simp (disch:=(refine Om.mk ?_;omega)) only[go_sem,Tryz.results38])|(refine hK.nil ?_;clear hK K;simp only[go_sem])|((first|refine sw_cond rfl ?_ ?_)<;>intro h<;>try simp (disch:=(refine Om.mk ?_;omega)) only[go_sem] at h)|refine hK.c0 rfl rfl rfl (implSystemOk_fc _) rfl rfl rfl ?_|fail
  all_goals exact⟨rfl,rfl⟩
end Go.Proofs.YtpennhjjnlkbiaaGreat
end
