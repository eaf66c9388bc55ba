import Derived.Test.YtkiajanddmgmnaaGreatDoorA39
/- The abstract machine, part 36: the rewriting rules of a run, in one. -/
set_option linter.defProp false
namespace Go.Abs

def RUN0 := And.intro @int_beq (And.intro @int_bne (And.intro @str_beq (And.intro @str_bne (And.intro @arun_nil (And.intro @arun_cons (And.intro @astep.eq_1 (And.intro @aop.eq_1 (And.intro @qval.eq_1 (And.intro @qval.eq_2 (And.intro @qval.eq_3 (And.intro @qval.eq_4 (And.intro @qval.eq_5 (And.intro @qval.eq_6 (And.intro @qval.eq_7 (And.intro @qval.eq_8 (And.intro @qval.eq_9 (And.intro @qval.eq_10 (And.intro @qval.eq_11 (@qval.eq_12)))))))))))))))))))

def RUN1 := And.intro @qval.eq_13 (And.intro @qval.eq_14 (And.intro @qval.eq_15 (And.intro @qval.eq_16 (And.intro @qval.eq_17 (And.intro @upd_sl (And.intro @sl_cons (And.intro @sl_nil (And.intro @ev.eq_1 (And.intro @ev.eq_2 (And.intro @ev.eq_3 (And.intro @put.eq_1 (And.intro @put.eq_2 (And.intro @bind_some (And.intro @leaves_some (And.intro @keeps_cons (And.intro @keeps_nil (And.intro @enum.eq_1 (And.intro @enum.eq_2 (@Option.map_some.{0, 0})))))))))))))))))))

def RUN2 := And.intro @Option.bind_some.{0, 0} (And.intro @constAV.eq_1 (And.intro @constAV.eq_2 (And.intro @constAV.eq_3 (And.intro @constAV.eq_4 (And.intro @constAV.eq_5 (And.intro @constAV.eq_6 (And.intro @pbin.eq_1 (And.intro @pbin.eq_2 (And.intro @pbin.eq_3 (And.intro @pbin.eq_4 (And.intro @pbin.eq_5 (And.intro @pbin.eq_6 (And.intro @pbin.eq_7 (And.intro @pbin.eq_8 (And.intro @pbin.eq_9 (And.intro @pbin.eq_10 (And.intro @pbin.eq_11 (And.intro @pbin.eq_12 (@pbin.eq_13)))))))))))))))))))

def RUN3 := And.intro @pbin.eq_14 (And.intro @pbin.eq_15 (And.intro @pbin.eq_16 (And.intro @pbin.eq_17 (And.intro @pbin.eq_18 (And.intro @pbin.eq_19 (And.intro @pbin.eq_20 (And.intro @pbin.eq_21 (And.intro @pbin.eq_22 (And.intro @pbin.eq_23 (And.intro @pbin.eq_24 (And.intro @pbin.eq_25 (And.intro @pbin.eq_26 (And.intro @qbin.eq_1 (And.intro @qbin.eq_2 (And.intro @qbin.eq_3 (And.intro @qbin.eq_4 (And.intro @qbin.eq_5 (And.intro @qun.eq_1 (@qun.eq_2)))))))))))))))))))

def RUN4 := And.intro @qun.eq_3 (And.intro @qun.eq_4 (And.intro @qun.eq_5 (And.intro @nrm.eq_1 (And.intro @nrm.eq_2 (And.intro @nrm.eq_3 (And.intro @qlen.eq_1 (And.intro @qlen.eq_2 (And.intro @qlen.eq_3 (And.intro @qlen.eq_4 (And.intro @qlen.eq_5 (And.intro @qindex.eq_1 (And.intro @qindex.eq_2 (And.intro @qextract.eq_1 (And.intro @qextract.eq_2 (And.intro @qindexAddr.eq_1 (And.intro @qload.eq_1 (And.intro @rdCells.eq_1 (And.intro @qfieldAddr.eq_1 (@qslice.eq_1)))))))))))))))))))

def RUN5 := And.intro @qslice.eq_2 (And.intro @boundOr.eq_1 (And.intro @boundOr.eq_2 (And.intro @boundOr.eq_3 (And.intro @toPV.eq_1 (And.intro @toPV.eq_2 (And.intro @toPV.eq_3 (And.intro @toPV.eq_4 (And.intro @toPV.eq_5 (And.intro @ealloc.eq_1 (And.intro @ebox.eq_1 (And.intro @ebox.eq_2 (And.intro @ebox.eq_3 (And.intro @ebox.eq_4 (And.intro @ebox.eq_5 (And.intro @ebox.eq_6 (And.intro @ebox.eq_7 (And.intro @estore.eq_1 (And.intro @zAV.eq_1 (@zAV.eq_2)))))))))))))))))))

def RUN6 := And.intro @one1.eq_1 (And.intro @one1.eq_2 (And.intro @one1.eq_3 (And.intro @one1.eq_4 (And.intro @one1.eq_5 (And.intro @one1.eq_6 (And.intro @one1.eq_7 (And.intro @allPV.eq_1 (And.intro @allPV.eq_2 (And.intro @allPV.eq_3 (And.intro @PV.one.eq_1 (And.intro @PV.one.eq_2 (And.intro @emakeMap.eq_1 (And.intro @List.set_cons_zero.{0} (And.intro @List.set_cons_succ.{0} (And.intro @List.map_cons.{0, 0} (And.intro @List.map_nil.{0, 0} (And.intro @List.cons_append.{0} (And.intro @List.nil_append.{0} (@List.append_nil.{0})))))))))))))))))))

def RUN7 := And.intro @Option.some.injEq.{0} (And.intro @Nat.add_zero (And.intro @Nat.zero_le (And.intro @decide_true (And.intro @decide_false (And.intro @List.length_map.{0, 0} (And.intro @List.drop_zero.{0} (And.intro @List.drop_succ_cons.{0} (And.intro @List.drop_nil.{0} (And.intro @List.length_cons.{0} (And.intro @List.length_nil.{0} (And.intro @Nat.zero_add (And.intro @List.take_succ_cons.{0} (And.intro @List.take_zero.{0} (And.intro @List.take_nil.{0} (And.intro @Nat.le_refl (And.intro @List.getElem?_toArray.{0} (And.intro @List.getElem?_cons_zero.{0} (And.intro @List.getElem?_cons_succ.{0} (@decide_eq_true_eq)))))))))))))))))))

def RUN8 := And.intro @and_true (And.intro @true_and (And.intro @and_self (And.intro @Bool.not_true (And.intro @Bool.not_false (And.intro @List.size_toArray.{0} (And.intro @Int.toNat_natCast (And.intro @Int.natCast_nonneg (And.intro @Bool.true_eq_false (And.intro @Bool.false_eq_true (And.intro @ge_iff_le.{0} (And.intro @gt_iff_lt.{0} (And.intro @List.getElem?_map.{0, 0} (And.intro @cells_agg (And.intro @cells_str (And.intro @cells_int (And.intro @cells_bool (And.intro @cells_slice (And.intro @qbuild.eq_1 (@qfill.eq_1)))))))))))))))))))

def RUN9 := And.intro @qfill.eq_2 (And.intro @putCells.eq_1 (And.intro @ebuildSlice.eq_1 (And.intro @eparts.eq_1 (And.intro @eparts.eq_2 (And.intro @eappend.eq_1 (And.intro @Option.isSome_some.{0} (And.intro @not_false_eq_true (And.intro @List.all_cons.{0} (And.intro @List.all_nil.{0} (And.intro @beq_self_eq_true.{0} (And.intro @Bool.and_true (And.intro @Nat.succ_ne_self (And.intro @Nat.one_ne_zero (And.intro @Nat.add_one_ne_zero (And.intro @retAV.eq_1 (And.intro @retAV.eq_2 (And.intro @qcall.eq_1 (And.intro @argsPV.eq_1 (@argsPV.eq_2)))))))))))))))))))

def RUN10 := And.intro @List.length_append.{0} (And.intro @List.map_append.{0, 0} (And.intro @mp_nil (And.intro @List.isEmpty_cons.{0} (And.intro @Bool.true_and (And.intro @Bool.false_and (And.intro @Bool.and_false (And.intro @Bool.true_or (And.intro @Bool.false_or (And.intro @Bool.or_true (@Bool.or_false))))))))))

def RUN11 := And.intro @qeq.eq_1 (And.intro @qeq.eq_2 (And.intro @pvEq.eq_1 (And.intro @pvEq.eq_2 (And.intro @pvEq.eq_3 (And.intro @cellsEq.eq_1 (And.intro @cellsEq.eq_2 @Option.map_none.{0, 0}))))))

def RUN12 := And.intro @isNil_tmp (And.intro @isNil_func (And.intro @isNil_int (And.intro @isNil_bool (And.intro @isNil_str (And.intro @isNil_slice (And.intro isNil_nil (And.intro @qmm.eq_1 (And.intro @mmL.eq_1 (And.intro @mmL.eq_2 (And.intro @mm2_f (And.intro @mm2_t (And.intro @qbuildA.eq_1 (And.intro @qfillA.eq_1 (And.intro @qfillA.eq_2 (And.intro @cellsAV.eq_1 (And.intro @cellsAV.eq_2 (And.intro @cellsAV.eq_3 (And.intro @cellsAV.eq_4 (And.intro @cellsAV.eq_5 (And.intro @cellsAV.eq_6 (And.intro @ebox_agg (And.intro @ebuildOwn.eq_1 (And.intro @qnil_ref (And.intro @qnil_pptr (And.intro @qnil_vptr (And.intro @List.length_set.{0} (And.intro @List.map_set.{0, 0} @List.append_eq.{0})))))))))))))))))))))))))))

def RUN13 := And.intro @qconv2_pv (And.intro @rowAt.eq_1 (And.intro @rowLike.eq_1 (And.intro @rowLike.eq_2 (And.intro @rowLike.eq_3 (And.intro @allPV.eq_3 (And.intro @refsOf.eq_1 (And.intro @refsOf.eq_2 @Option.map_some.{0, 0})))))))

def RUNS := And.intro RUN13 (And.intro RUN0 (And.intro RUN1 (And.intro RUN2 (And.intro RUN3 (And.intro RUN4 (And.intro RUN5 (And.intro RUN6 (And.intro RUN7 (And.intro RUN8 (And.intro RUN9 (And.intro RUN11 (And.intro RUN12 (@RUN10)))))))))))))

def BOOLS := And.intro Bool.true_and (And.intro Bool.false_and (And.intro Bool.true_or (And.intro Bool.false_or (And.intro Bool.and_true (And.intro Bool.and_false (And.intro Bool.or_true Bool.or_false))))))

def HBS := And.intro @Bool.not_eq_false (And.intro @Bool.not_eq_true (And.intro @Bool.not_eq_true' (And.intro @Bool.not_eq_false' (And.intro @decide_eq_false_iff_not (And.intro @decide_eq_true_eq @Decidable.not_not)))))

def CLOS := And.intro pvb_eq (And.intro pvi_eq (And.intro BOOLS (And.intro @Bool.or_eq_true (And.intro @Bool.and_eq_true (And.intro @Bool.not_eq_true' (And.intro @Bool.or_eq_false_iff (And.intro @Bool.and_eq_false_imp (And.intro @decide_eq_true_eq (And.intro @decide_eq_false_iff_not (And.intro @true_and (And.intro Bool.true_eq_false (And.intro Bool.false_eq_true (And.intro @false_iff (And.intro @true_iff (And.intro @iff_true @iff_false)))))))))))))))

end Go.Abs
