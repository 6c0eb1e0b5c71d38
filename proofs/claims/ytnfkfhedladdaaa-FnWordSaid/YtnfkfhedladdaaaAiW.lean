/- The words by which runs are walked through, as one set. -/
import Derived.Test.YtnfkfhedladdaaaAiTyp4
import Derived.Attr
namespace Go.AI
attribute [go_sem ↓] br_true br_false
attribute [go_sem] Run_nil Run_blk Run_skip Run_exit Run_ret Run_seq Run_block Run_cond condR_bool Run_ghost ghR_some goR_normal
attribute [go_sem] goR_exit goR_ret Unw_nil Unw_code Unw_blk Run_region Run_drawn Run_steps_nil Run_steps aft_some aft_br aft_bind
attribute [go_sem] Run_guard gd_true gd_false gd_tuple Run_dr_nil Run_dr aftD_quiet aftD_br aftD_bind Run_dr_guard gdD_true gdD_false
attribute [go_sem] gdD_tuple Run_loopX goL_some outG_normal outG_exit outG_ret ogM_some aftD_some aft_none aftD_none eI_esz eI_enc
attribute [go_sem] eU8_esz eU8_enc eU64_esz eU64_enc eB_esz eB_enc eS_esz eS_enc eL_esz eL_enc nrows_rws app_rws
attribute [go_sem] mkR_cons consI consS consL consL0 consB consU64 consU8 consU8k consU8w setI setU64 setB
attribute [go_sem] setStr setL setU8 setU8w drop0 sl_cz sl_czA sl_czR sl_cell sl_cl sl_cells sl_refA
attribute [go_sem] sl_refC sl_snap sl_locCell sl_locArg sl_unV sl_unArg sl_unRes sl_flatC sl_flatA sl_flatR sl_fzC sl_fzA
attribute [go_sem] sl_finC sl_finA sl_okC sl_rowsOf sl_isStr bleD bltD beqD o_mv o_pick pickS_b o_bin
attribute [go_sem] b_add b_sub b_mul b_quo b_rem b_and b_or b_xor b_andn b_shl b_shr b_eql
attribute [go_sem] b_neq b_lss b_leq b_gtr b_geq b_sadd b_seql b_sneq o_eqAgg eqS_agg eqN_t eqN_f
attribute [go_sem] eqN_br eqC_nil eqC_i eqC_s o_beq beqS_t beqS_f o_un u_not u_neg u_xor o_toInt
attribute [go_sem] tiS_i o_same sameS_s o_makeFunc o_len lenS_sl lenS_own lenS_nil lenS_imm lenS_str o_lenArr o_ext
attribute [go_sem] extS_0 extS_s o_off offS_p offS_i ldS_some ldS_bind part_n0 part_ns part_s o_field fieldS_a
attribute [go_sem] o_ixAgg ixaS_a o_load rowOf_p rowOf_i rowB_op rowB_ty o_idx idxS_sl idxS_own idxO_ty idxO_op
attribute [go_sem] o_idxArr idxaS_p idxaS_i o_ixStr ixsS_s frO_none o_alloc o_box o_build aggS_some snap_own snO_ty
attribute [go_sem] snap_int snap_bool snap_str snap_nil snap_imm snaps_nil snaps_cons snC_some cz_int cz_bool cz_str cz_tup
attribute [go_sem] cz_nil cz_emp cz_ptr cz_own cz_iptr cz_fn cz_undef czA_agg czA_int czA_bool czA_str czA_nil
attribute [go_sem] czA_imm czA_ptr czA_own czA_iptr czA_fn czA_undef czR_tup czR_agg czR_int czR_bool czR_str czR_nil
attribute [go_sem] czR_imm czR_ptr czR_own czR_iptr czR_fn blkcz_op blkcz_ty zc_int zc_bool zc_str zc_nil o_store
attribute [go_sem] storeS_p stO_op stT_some stO_ty partsSnap_nil partsSnap_cons psC_some addU_some addU_br addU_none o_buildSlice bsS_some
attribute [go_sem] fp_appendN od_appendN o_appendN apNS_own
attribute [go_sem] fp_isNil od_isNil o_isNil inS_nil inS_lit inS_cons
attribute [go_sem] o_bytesOwn boS_own boO_ty fp_bytesOwn od_bytesOwn
attribute [go_sem] bsR_some o_toBytes tbS_s o_toStr tsR_ty tsS_sl rowsOf_own rowsOf_str tsS_own tsS_nil tsS_emp o_makeSlice
attribute [go_sem] mksS_i o_slice slS_nn slS_sn slS_ns slS_ss slS_own slO_ty o_sliceStr ssS_nn ssS_sn ssS_ns
attribute [go_sem] ssS_ss o_append selfB_sl selfB_own selfB_str selfB_nil selfB_imm apS_own apO_ty apS_nil o_copy cpS_own
attribute [go_sem] cpO_eq o_nilCheck ncS_p ncO_op ncS_i ncS_f o_max2 mxS_i o_min2 mnS_i o_call o_dyn
attribute [go_sem] dynS_fn cprep_some cprep_br callPrep_eq prep1_some prep2_some locArgs_nil locArgs_cons la1_some la2_some lc_lit lc_imm
attribute [go_sem] lc_iptr lc_undef lc_ptr lc_own lg_lit lg_imm lg_iptr lg_ptr lg_own lg_agg lg_fn lcA_some
attribute [go_sem] locCells_nil locCells_cons lcs1_some lcP_op lcO_t lcO_f locBlks_eq lbN_none lbN_some lb0_ty lb0_op lb1_some
attribute [go_sem] lb2_some cpost_some unRes_tup unRes_agg unRes_lit unRes_imm unRes_undef unRes_ptr unRes_own unArg_agg unArg_lit unArg_imm
attribute [go_sem] unArg_ptr unArg_own unV_lit unV_imm unV_ptr unV_own unBlk_ty unBlk_opr fl_lit fl_undef fl_imm fl_agg
attribute [go_sem] fl_tup fl_ptr fl_own flA_lit flA_imm flA_agg flA_ptr flA_own flC_lit flC_imm flC_ptr flC_own
attribute [go_sem] flB_ty flB_op endK_ret endK_normal fin1_some fin2_some ress_nil ress_cons rs1_some res_tmp res_cell finAs_nil
attribute [go_sem] finAs_cons finCs_nil finCs_cons finA_agg fag_some finA_lit finA_imm finA_undef finA_fn finC_lit finC_imm finC_undef
attribute [go_sem] finC_own finA_own fcO_eq fst1_some finC_ptr finA_ptr fcP_eq finBs_nil finBs_cons fb1_some fb2_some finB_ty
attribute [go_sem] finB_op fbO_some get_cons get_nil heap_cons heap_nil put_some put_none upd_eq upd_nil updL_nil updL_cons
attribute [go_sem] aset_nil aset_cons ev_t ev_c ev_f trim_eq number_nil number_cons start_eq partsEv_nil partsEv_cons fillS_nil
attribute [go_sem] fillS_cons fillT_nil fillT_cons cells_agg cells_lit cells_imm cells_own cells_ptr cells_iptr cells_fn cell_int cell_bool
attribute [go_sem] cell_str cell_nil cell_imm cell_own cell_ptr cell_iptr cell_fn lit_int lit_bool lit_str lit_nil lit_ptr
attribute [go_sem] dropB_nil dropB_cons zip_nil zip_cons posOf_eq withId_nil withId_eq range1 range2 range3 range4 oneV_one
attribute [go_sem] oneV_nil oneV_two canArgs_eq canBlks_eq getD_zero getD_succ gh_close closeS_eq mapE_nil mapE_cons fz_lit fz_imm
attribute [go_sem] fz_iptr fz_undef fz_tup fz_own fz_ptr fzO_some fz_agg fz_fn fzc_lit fzc_imm fzc_iptr fzc_own
attribute [go_sem] fzc_ptr fzM_nil fzM_cons fzK_ty fzK_op nn_eq nz_eq inb_eq roO_ty cz_rws
attribute [go_sem] List.map_cons List.map_nil List.all_cons List.all_nil Bool.and_true Bool.true_and Bool.and_false Bool.false_and Bool.or_true Bool.true_or Bool.or_false Bool.false_or
attribute [go_sem] List.length_cons List.length_nil List.nil_append List.cons_append List.append_nil List.drop_zero List.drop_succ_cons List.take_succ_cons List.take_zero List.take_nil List.drop_nil List.getElem?_cons_zero
attribute [go_sem] List.getElem?_cons_succ List.getElem?_nil Option.bind_some Option.bind_assoc List.contains_cons List.contains_nil List.any_cons List.any_nil List.isEmpty_nil List.isEmpty_cons Option.isNone_none Option.isNone_some
attribute [go_sem] Option.toList_none Option.toList_some List.flatMap_cons List.flatMap_nil List.find?_cons List.find?_nil List.set_cons_zero List.set_cons_succ Bool.not_true Bool.not_false decide_true decide_false
attribute [go_sem] Option.map_some Option.map_none ne_eq not_false_eq_true not_true_eq_false Nat.zero_add Nat.add_zero Nat.zero_mul Nat.mul_one Nat.mul_zero Option.none_beq_some Option.some_beq_some
attribute [go_sem] List.filter_cons List.filter_nil beq_self_eq_true and_self and_true true_and
attribute [go_sem] fp_mv od_mv fp_pick od_pick fp_alloc od_alloc fp_box od_box fp_build od_build fp_buildSlice od_buildSlice
attribute [go_sem] fp_load od_load fp_store od_store fp_nilCheck od_nilCheck fp_bin od_bin fp_eqAgg od_eqAgg fp_beq od_beq
attribute [go_sem] fp_un od_un fp_toInt od_toInt fp_same od_same fp_toBytes od_toBytes fp_toStr od_toStr fp_makeFunc od_makeFunc
attribute [go_sem] fp_makeSlice od_makeSlice fp_sliceStr od_sliceStr fp_slice od_slice fp_off od_off fp_field od_field fp_idx od_idx
attribute [go_sem] fp_idxArr od_idxArr fp_ixStr od_ixStr fp_ixAgg od_ixAgg fp_ext od_ext fp_len od_len fp_lenArr od_lenArr
attribute [go_sem] fp_append od_append fp_copy od_copy fp_max2 od_max2 fp_min2 od_min2 fp_arrOf od_arrOf optL_s optL_n
attribute [go_sem] fpC_some fp_call fp_dyn fpD_fn rfA_agg rfA_fn rfA_tup rfA_lit rfA_imm rfA_iptr rfA_ptr rfA_own
attribute [go_sem] rfA_undef rfC_lit rfC_imm rfC_iptr rfC_ptr rfC_own rfC_fn rfC_undef restrict_eq recs_eq pairs_nil pairs_cons
attribute [go_sem] okW_nil okW_cons getDl_zero getDl_succ boxS_eq range0 toNat_lit
attribute [go_sem] List.length_set lc_fn finC_fn unV_fn unArg_fn flC_fn flA_fn fl_fn fzc_fn okc_ptr okc_own okc_lit okc_imm okc_fn wrap_lit wrap_litu wrap_lit8 natbeq keepOf_eq keepL_nil keepL_cons nf_nn nf_nc nf_cc cpw_eq locDs_nil locDs_cons ld1_some ld2_some finDs_nil finDs_cons fnR_some finD_fn0 finD_fn finD_lit finD_imm finD_undef finD_iptr finD_own finD_ptr sl_finD ar_finDs ar_locD List.replicate_succ List.replicate_zero
attribute [go_sem high] o_allocA o_buildA0 o_buildA fp_buildA stO_ar stO_arw part_ar part_ars
attribute [go_sem] set8_or64 cons8_or64 set8_and64 cons8_and64 set8_xor64 cons8_xor64 set8_shl64 cons8_shl64 rs1_br rs1_br2 fin1_br fzK_dead copyL_len copyL_len0 ar_len ar_cz ar_unV ar_unArg ar_fzC ar_cell ar_flatC ar_refC ar_finCs ar_loc ldS_br
end Go.AI
