/-
  Lg, part 27: the equations by which a state is reckoned, as one set.
-/
import Derived.Test.YtenjmepbaajkjaaLgLe
namespace Go.Lg
open Go Go.RowKit
attribute [go_sem] runL_nil runL_call runL_move runL_assign runL_pick runL_load runL_nilCheck runL_binOp runL_unOp runL_convert runL_makeFunc runL_fieldAddr
  runL_field runL_indexAddr runL_index runL_slice runL_build runL_buildSlice runL_extract runL_len runL_min runL_max runL_box runL_alloc
  runL_store runL_makeSlice runL_append runQ_nil runQ_call runQ_alloc runQ_store runQ_move runQ_assign runQ_pick runQ_load runQ_nilCheck runQ_binOp runQ_unOp
  runQ_convert runQ_makeFunc runQ_fieldAddr runQ_field runQ_indexAddr runQ_index runQ_slice runQ_build runQ_buildSlice runQ_extract runQ_makeSlice runQ_len
  runQ_min runQ_max nextQ_some nextQ_none runQG_t runQG_f runQ_g_move runQ_g_assign runQ_g_pick runQ_g_build runQ_g_buildSlice runQ_g_load
  runQ_g_nilCheck runQ_g_binOp runQ_g_unOp runQ_g_convert runQ_g_makeFunc runQ_g_makeSlice runQ_g_slice runQ_g_fieldAddr runQ_g_field runQ_g_indexAddr runQ_g_index runQ_g_extract
  runQ_g_call nextL_some nextL_none evalO_tmp evalO_const evalO_func constD_int constD_bool constD_str constD_nil constD_ptr guardY_none
  guardY_some guardT_tt guardT_tf guardT_ft guardT_ff guardT_undef guardT_undef' runG_t runG_f runL_g_move runL_g_assign runL_g_pick
  runL_g_alloc runL_g_box runL_g_build runL_g_buildSlice runL_g_load runL_g_store runL_g_nilCheck runL_g_binOp runL_g_unOp runL_g_convert runL_g_makeFunc runL_g_makeSlice
  runL_g_slice runL_g_fieldAddr runL_g_field runL_g_indexAddr runL_g_index runL_g_extract runL_g_call pickY_t pickY_f someK_some someK_none LS.put
  LS.putO LS.get LS.getBox LS.keep LS.keepAt keepK setA Lg.look mapO zipO enumD dstOk
  binY_int intYY_add intYY_sub intYY_mul intYY_quo intYY_rem intYY_eql intYY_neq intYY_lss intYY_leq intYY_gtr intYY_geq
  intYY_and intYY_or intYY_shl intYY_shr intY_and intY_or binY_bool binY_str binY_nil intY_add intY_sub intY_mul
  intY_quo intY_rem intY_eql intY_neq intY_lss intY_leq intY_gtr intY_geq strY_eql strY_neq strY_lss strY_add
  boolY_eql boolY_neq nilY_eql_nil nilY_neq_nil nilY_eql_nl nilY_neq_nl nilY_eql_nn nilY_neq_nn nilY_eql_any nilY_neq_any unY_not unY_neg
  convK_int convY_int loadY_imm loadY_box cellsY_eq cellsK_int cellsK_bool cellsK_string cellsK_slice cellsK_array exists_tkslice cellsK_other
  cellsK_struct faK_imm faK_box faKK_struct fieldAddrY_eq fdKK_struct fieldY_eq iaKK_sl iaKK_abox iaKK_aimm iaKK_ms indexAddrY_eq
  ixKK_str indexY_eq lenKK_sl lenKK_ms lenKK_str lenY_eq slK_sl slK_sl3 slK_ms slK_str sliceY_eq mqKK_int
  makeQ_eq strip1 buildKK_array buildKK_struct buildY_eq bsKK_slice buildSliceY_eq nilcY_box nilcY_imm nilcY_fn extrY_tup storeY_box
  mkK_same mkK_diff makeY_int apK_slice appendY_sl buildP minD maxD intOfD appendable killed putC_one
  putC_more putCells_zero putCells_succ TyI.size D.cells D.strip strip1 D.one D.memOk ZK.d sameOp LS.newBox
  LS.forget keepA eraseK LS.thawed noId noIdL D.ids D.idsL D.tks D.tksL LS.purge LS.clean
  mapA D.pu D.pu1 flat List.length_cons List.length_nil List.map_cons List.map_nil List.getElem?_cons_zero List.getElem?_cons_succ List.head?_cons List.drop_zero
  List.drop_succ_cons List.drop_nil List.take_succ_cons List.take_zero List.take_nil List.contains_nil List.contains_cons List.elem_cons List.elem_nil List.append_nil List.nil_append List.cons_append
  List.all_cons List.all_nil List.set_cons_zero List.set_cons_succ List.not_mem_nil List.mem_cons List.getElem?_toArray Option.bind_some Option.bind_none Option.isSome_some Option.isSome_none Option.map_some
  Option.map_none Option.some.injEq Bool.or_false Bool.or_true Bool.false_or Bool.true_or Bool.not_true Bool.not_false Bool.and_true Bool.true_and Bool.and_false Bool.false_and
  true_and and_true and_self false_and not_false_eq_true not_true_eq_false beq_self_eq_true ne_eq if_true if_false Nat.zero_add Nat.add_zero
  List.getD_cons_zero List.getD_cons_succ Nat.succ_ne_zero decide_true decide_false map_getDm wrap64m wrapU64m int_toNat toNat_sub1 toNat_add1 fillL_length
  Nat.mul_one Int.one_mul List.length_map Int.natCast_nonneg LS.upd_mk LS.updT_mk setAs_nil setAs_cons fillF_len2 fillF_len3 fillF_len4 fillF_len5
  fillF_len6 fillF_len7 fillF_len8 decide_eq_true_eq decide_eq_false_iff_not bne_iff_ne beq_iff_eq beq_eq_false_iff_ne bne_eq_false_iff_eq Bool.not_eq_true' Bool.not_eq_false' Int.not_lt
  Int.not_le Decidable.not_not tst_iff tst_not Bool.not_eq_eq_eq_not Int.ofNat_inj envLe_nil envLe_cons boxLe_nil boxLe_cons le_self le_int
  le_bool le_any forall_const implies_true false_implies setAs csum_zero resY resYs resY1 tupD true_eq_tst
  false_eq_tst tst_eq_tst decide_eq_tst beq_eq_tst bne_eq_tst nott_eq_tst notd_eq_tst tst_eq_nott decide_eq_nott Ret_def or_false or_true
  false_or true_or forall_eq_or_imp forall_eq List.range_zero Option.getD_none Option.getD_some List.mem_map forall_exists_index and_imp forall_apply_eq_imp_iff₂ Int.toNat_zero
  take_mapr drop_mapr append_mapr le0_any le0_tk le0_own le0_lab le0_int le0_bool le0_agg le0_tup le0L_nil
  le0L_cons le0_self envLe0_nil envLe0_cons Ret0 map_int_inj app_int List.take_length List.forall_mem_append Int.add_sub_cancel leL_nil leL_cons
  leL_self le_agg le_tup List.cons.injEq D.int.injEq head_mapdrop set_map_int getD_set_self List.length_set LS.after eraseKs D.shT
  D.shTL List.filter_nil inTok
end Go.Lg
