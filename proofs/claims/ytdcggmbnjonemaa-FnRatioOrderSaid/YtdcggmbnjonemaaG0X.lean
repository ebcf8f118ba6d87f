/- Walks: fractions of the program: sums, products, order. -/
import Derived.Test.YtdcggmbnjonemaaG0W

namespace Go.Proofs.Ytdcggmbnjonemaa
open Go Go.RowKit
set_option linter.unusedSimpArgs false
set_option linter.unusedVariables false
set_option maxRecDepth 100000
attribute [local simp] List.getElem?_cons_zero List.getElem?_cons_succ List.getElem?_toArray runOps stepOp.eq_def agd.eq_def dstOk.eq_def opVal.eq_def opNew.eq_def opSto.eq_def ev.eq_def cv.eq_def puts_some puts_none upd_ap lst.eq_def aBin.eq_def aUn.eq_def aBi_str aBi_isl aBi_osl aBi_nsl aBi_max aBi_min aBi_max3 aConv.eq_def aLd.eq_def aLoad.eq_def aField.eq_def aFld.eq_def aIdx_isl aIdx_osl aSlc_isl aSlc_osl aSlc_str aSlc_nsl bnd.eq_def evs_nil evs_cons aBuild.eq_def aFill splice.eq_def cells_agg cells_int cells_bool cells_str cells_nil cells_nsl cells_isl cells_osl cells_ptr cells_ip cells_fn cells_Wd one_int one_bool one_str one_nil one_nsl one_isl one_osl one_ptr one_ip one_fn one_Wd aSets hupd_eq hupd_ne wrap_i64s wrap_u64s wrap_u32s wrap_u8s wd_getD wd_set wd_len wd_replicate wd_one wd_fold fz_osl hupd_same aSix.eq_def aEqS.eq_def aEqB_bool aEqB_nsl aEqB_nil
attribute [local simp] szT4 byT4 agT4 unT4 zoT4 szT31 byT31 agT31 unT31 zoT31 szT33 byT33 agT33 flT33 fdT33_0 fdT33_1 fdT33_2 fdT33_3 zoT33 szT40 byT40 agT40 flT40 fdT40_0 fdT40_1 zoT40 szT97 byT97 agT97 elT97 unT97 zoT97 szT99 byT99 agT99 flT99 fdT99_0 fdT99_1 zoT99 szT101 byT101 agT101 flT101 fdT101_0 fdT101_1 zoT101

theorem wideNum4_fc (x : W4) (hx : x.ok) : FC Try.prog 59 [wdI x.a x.b x.c x.d] (numI x.v) := wideNum_fc x.a x.b x.c x.d hx.1 hx.2.1 hx.2.2.1 hx.2.2.2

set_option maxHeartbeats 2000000 in
theorem ratioAddI_fc (a b : Rt) (ha : a.ok) (hb : b.ok) : FC Try.prog 19 [a.av, b.av] (.tup [.agg [.int .u64 ((addF a b).1).up.a, .int .u64 ((addF a b).1).up.b, .int .u64 ((addF a b).1).up.c, .int .u64 ((addF a b).1).up.d, .int .u64 ((addF a b).1).down.a, .int .u64 ((addF a b).1).down.b, .int .u64 ((addF a b).1).down.c, .int .u64 ((addF a b).1).down.d], .bool (addF a b).2]) := by
  have aU := W4.bg ha.1
  have aD := W4.bg ha.2
  have bU := W4.bg hb.1
  have bD := W4.bg hb.2
  have bdd := aD.mul bD
  refine FC.body Try.func19 rfl (by simp [idfL, idf, idfLL_iff, idf_Wd', idf_numI, cells_numI, numI_fold, Rt.av, Rt.cells, rtA, rtC]) (by simp [idfL, idf, idfLL_iff, idf_Wd', idf_numI, cells_numI, numI_fold, Rt.av, Rt.cells, rtA, rtC]) 23 rfl fun nx K hK => ?_
  refine AWP.seqk fun K1 hK1 => ?_
  refine AWP.region (AOPS.all (by simp (disch := first|omega|(simp only[ln];omega)) [idf_Wd', idf_numI, cells_numI, numI_fold, Rt.av, Rt.cells, rtA, rtC]; rfl) ?_)
  refine hK1 _ ?_
  refine AWP.seqk fun K2 hK2 => ?_
  refine AWP.seqk fun K3 hK3 => ?_
  cases hga : a.good
  · refine AWP.region ?_
    refine AOPS.runk 1 (by simp (disch := first|omega|(simp only[ln];omega)) [List.take_succ_cons, List.take_zero, idf_Wd', idf_numI, cells_numI, numI_fold, Rt.av, Rt.cells, rtA, rtC, hga]; rfl) ?_
    simp only [List.drop_succ_cons, List.drop_zero]
    refine AOPS.fcall (ratioOkI_fc a ha) rfl rfl rfl hb25 (by simp (disch := first|omega|(simp only[ln];omega)) [idf_Wd', hga, idf_numI, cells_numI, numI_fold, Rt.av, Rt.cells, rtA, rtC]) (by simp (disch := first|omega|(simp only[ln];omega)) [hga]) (by simp) ?_
    simp only [puts_some, updo]
    refine AOPS.all (by simp (disch := first|omega|(simp only[ln];omega)) [idf_Wd', idf_numI, cells_numI, numI_fold, Rt.av, Rt.cells, rtA, rtC, hga]; rfl) ?_
    refine hK3 _ ?_
    refine cond_ok _ (by simp (disch := first|omega|(simp only[ln];omega)); rfl) (fun h13 => ?_) (fun h13 => ?_)
    · try simp only [decide_eq_true_eq, decide_eq_false_iff_not] at h13
      refine AWP.seqk fun K4 hK4 => ?_
      refine AWP.region (AOPS.all (by simp (disch := first|omega|(simp only[ln];omega)) [idf_Wd', idf_numI, cells_numI, numI_fold, Rt.av, Rt.cells, rtA, rtC]; rfl) ?_)
      refine hK4 _ ?_
      refine AWP.ret ?_
      exact hK _ _ _ _ trivial ((Fin.mk (by simp [aRes, aResL, aRes1, idf_Wd', idf_numI, cells_numI, numI_fold, Rt.av, Rt.cells, rtA, rtC]; rfl)).cast (by unfold addF; rw [hga]; rfl))
    · simp at h13
  · refine AWP.region ?_
    refine AOPS.runk 1 (by simp (disch := first|omega|(simp only[ln];omega)) [List.take_succ_cons, List.take_zero, idf_Wd', idf_numI, cells_numI, numI_fold, Rt.av, Rt.cells, rtA, rtC, hga]; rfl) ?_
    simp only [List.drop_succ_cons, List.drop_zero]
    refine AOPS.fcall (ratioOkI_fc a ha) rfl rfl rfl hb25 (by simp (disch := first|omega|(simp only[ln];omega)) [idf_Wd', hga, idf_numI, cells_numI, numI_fold, Rt.av, Rt.cells, rtA, rtC]) (by simp (disch := first|omega|(simp only[ln];omega)) [hga]) (by simp) ?_
    simp only [puts_some, updo]
    refine AOPS.runk 3 (by simp (disch := first|omega|(simp only[ln];omega)) [List.take_succ_cons, List.take_zero, idf_Wd', idf_numI, cells_numI, numI_fold, Rt.av, Rt.cells, rtA, rtC, hga]; rfl) ?_
    simp only [List.drop_succ_cons, List.drop_zero]
    refine AOPS.fcall (ratioOkI_fc b hb) rfl rfl rfl hb25 (by simp (disch := first|omega|(simp only[ln];omega)) [idf_Wd', hga, idf_numI, cells_numI, numI_fold, Rt.av, Rt.cells, rtA, rtC]) (by simp (disch := first|omega|(simp only[ln];omega)) [hga]) (by simp) ?_
    simp only [puts_some, updo]
    refine AOPS.all (by simp (disch := first|omega|(simp only[ln];omega)) [idf_Wd', idf_numI, cells_numI, numI_fold, Rt.av, Rt.cells, rtA, rtC, hga]; rfl) ?_
    refine hK3 _ ?_
    refine cond_ok (!b.good) (by simp (disch := first|omega|(simp only[ln];omega))) (fun h13 => ?_) (fun h13 => ?_)
    · try simp only [decide_eq_true_eq, decide_eq_false_iff_not] at h13
      have hgb : b.good = false := by simpa using h13
      refine AWP.seqk fun K5 hK5 => ?_
      refine AWP.region (AOPS.all (by simp (disch := first|omega|(simp only[ln];omega)) [idf_Wd', idf_numI, cells_numI, numI_fold, Rt.av, Rt.cells, rtA, rtC]; rfl) ?_)
      refine hK5 _ ?_
      refine AWP.ret ?_
      exact hK _ _ _ _ trivial ((Fin.mk (by simp [aRes, aResL, aRes1, idf_Wd', idf_numI, cells_numI, numI_fold, Rt.av, Rt.cells, rtA, rtC]; rfl)).cast (by unfold addF; rw [hga, hgb]; rfl))
    · try simp only [decide_eq_true_eq, decide_eq_false_iff_not] at h13
      have hgb : b.good = true := by simpa using h13
      refine AWP.skip ?_
      refine hK2 _ ?_
      refine AWP.seqk fun K6 hK6 => ?_
      refine AWP.draw 8 Try.checked.mixed (by kernel_rfl) (by simp) ?_
      simp only [List.take_succ_cons, List.take_zero, List.drop_succ_cons, List.drop_zero]
      refine DP.runFk 1 (by simp (disch := first|omega|(simp only[ln];omega)) [runDf.eq_def, runF1, runF2, stepF.eq_def, updo.eq_def, hupo.eq_def, opSto1.eq_def, List.take_succ_cons, List.take_zero, idf_Wd', idf_numI, cells_numI, numI_fold, Rt.av, Rt.cells, rtA, rtC]; rfl) fun fs7 hfs7 => ?_
      replace hfs7 : fs7.length = 1 := hfs7.trans rfl
      simp only [List.drop_succ_cons, List.drop_zero]
      refine DP.fcall (ratio_fc a ha) rfl rfl rfl hb52 (by simp (disch := first|omega|(simp only[ln];omega)) [idf_Wd', idf_numI, cells_numI, numI_fold, Rt.av, Rt.cells, rtA, rtC]) (by simp (disch := first|omega|(simp only[ln];omega))) (by simp) ?_
      simp only [updo]
      refine DP.runFk 1 (by simp (disch := first|omega|(simp only[ln];omega)) [runDf.eq_def, runF1, runF2, stepF.eq_def, updo.eq_def, hupo.eq_def, opSto1.eq_def, List.take_succ_cons, List.take_zero, idf_Wd', idf_numI, cells_numI, numI_fold, Rt.av, Rt.cells, rtA, rtC]; rfl) fun fs8 hfs8 => ?_
      replace hfs8 : fs8.length = 1 := hfs8.trans rfl
      simp only [List.drop_succ_cons, List.drop_zero]
      refine DP.fcall (ratio_fc b hb) rfl rfl rfl hb52 (by simp (disch := first|omega|(simp only[ln];omega)) [idf_Wd', idf_numI, cells_numI, numI_fold, Rt.av, Rt.cells, rtA, rtC]) (by simp (disch := first|omega|(simp only[ln];omega))) (by simp) ?_
      simp only [updo]
      refine DP.fcall (rplus_fc (j := 4) a.up.v a.down.v b.up.v b.down.v aU aD bU bD (by omega)) rfl rfl rfl hb53 (by simp (disch := first|omega|(simp only[ln];omega)) [idf_Wd', idf_numI, cells_numI, numI_fold, Rt.av, Rt.cells, rtA, rtC]) (by simp (disch := first|omega|(simp only[ln];omega))) (by simp) ?_
      simp only [updo]
      refine DP.fcall (told_fc (j := 9) (a.up.v * b.down.v + b.up.v * a.down.v) (a.down.v * b.down.v) (((aU.mul bD).add (bU.mul aD)).le (by omega)) (bdd.le (by omega)) (by omega)) rfl rfl rfl hb54 (by simp (disch := first|omega|(simp only[ln];omega)) [idf_Wd', idf_numI, cells_numI, numI_fold, Rt.av, Rt.cells, rtA, rtC]) (by simp (disch := first|omega|(simp only[ln];omega))) (by simp) ?_
      simp only [updo]
      refine DP.runFk 2 (by simp (disch := first|omega|(simp only[ln];omega)) [runDf.eq_def, runF1, runF2, stepF.eq_def, updo.eq_def, hupo.eq_def, opSto1.eq_def, List.take_succ_cons, List.take_zero, idf_Wd', idf_numI, cells_numI, numI_fold, Rt.av, Rt.cells, rtA, rtC]; rfl) fun fs9 hfs9 => ?_
      replace hfs9 : fs9.length = 2 := hfs9.trans rfl
      simp only [List.drop_succ_cons, List.drop_zero]
      refine DQ.runF (m := 8) (by simp only [List.length_append, List.length_cons, List.length_nil, hfs7, hfs8, hfs9]; omega) _ _ _ (by kernel_rfl) rfl (by simp (disch := first|omega|(simp only[ln];omega)) [runDf.eq_def, runF1, runF2, stepF.eq_def, updo.eq_def, hupo.eq_def, opSto1.eq_def, idf_Wd', idf_numI, cells_numI, numI_fold, Rt.av, Rt.cells, rtA, rtC]; rfl) ?_
      refine hK6 _ ?_
      refine AWP.ret ?_
      exact hK _ _ _ _ trivial ((Fin.mk (by simp [aRes, aResL, aRes1, idf_Wd', idf_numI, cells_numI, numI_fold, Rt.av, Rt.cells, rtA, rtC]; rfl)).cast (by unfold addF; rw [hga, hgb]; rfl))

set_option maxHeartbeats 2000000 in
theorem ratioCmpI_fc (a b : Rt) (ha : a.ok) (hb : b.ok) : FC Try.prog 27 [a.av, b.av] (.tup [.int .i64 (cmpF a b).1, .bool (cmpF a b).2]) := by
  have aU := W4.bg ha.1
  have aD := W4.bg ha.2
  have bU := W4.bg hb.1
  have bD := W4.bg hb.2
  have bdd := aD.mul bD
  refine FC.body Try.func27 rfl (by simp [idfL, idf, idfLL_iff, idf_Wd', idf_numI, cells_numI, numI_fold, Rt.av, Rt.cells, rtA, rtC]) (by simp [idfL, idf, idfLL_iff, idf_Wd', idf_numI, cells_numI, numI_fold, Rt.av, Rt.cells, rtA, rtC]) 19 rfl fun nx K hK => ?_
  refine AWP.seqk fun K1 hK1 => ?_
  refine AWP.region (AOPS.all (by simp (disch := first|omega|(simp only[ln];omega)) [idf_Wd', idf_numI, cells_numI, numI_fold, Rt.av, Rt.cells, rtA, rtC]; rfl) ?_)
  refine hK1 _ ?_
  refine AWP.seqk fun K2 hK2 => ?_
  refine AWP.seqk fun K3 hK3 => ?_
  cases hga : a.good
  · refine AWP.region ?_
    refine AOPS.runk 1 (by simp (disch := first|omega|(simp only[ln];omega)) [List.take_succ_cons, List.take_zero, idf_Wd', idf_numI, cells_numI, numI_fold, Rt.av, Rt.cells, rtA, rtC, hga]; rfl) ?_
    simp only [List.drop_succ_cons, List.drop_zero]
    refine AOPS.fcall (ratioOkI_fc a ha) rfl rfl rfl hb25 (by simp (disch := first|omega|(simp only[ln];omega)) [idf_Wd', hga, idf_numI, cells_numI, numI_fold, Rt.av, Rt.cells, rtA, rtC]) (by simp (disch := first|omega|(simp only[ln];omega)) [hga]) (by simp) ?_
    simp only [puts_some, updo]
    refine AOPS.all (by simp (disch := first|omega|(simp only[ln];omega)) [idf_Wd', idf_numI, cells_numI, numI_fold, Rt.av, Rt.cells, rtA, rtC, hga]; rfl) ?_
    refine hK3 _ ?_
    refine cond_ok _ (by simp (disch := first|omega|(simp only[ln];omega)); rfl) (fun h13 => ?_) (fun h13 => ?_)
    · try simp only [decide_eq_true_eq, decide_eq_false_iff_not] at h13
      refine AWP.seqk fun K4 hK4 => ?_
      refine AWP.region (AOPS.all (by simp (disch := first|omega|(simp only[ln];omega)) [idf_Wd', idf_numI, cells_numI, numI_fold, Rt.av, Rt.cells, rtA, rtC]; rfl) ?_)
      refine hK4 _ ?_
      refine AWP.ret ?_
      exact hK _ _ _ _ trivial ((Fin.mk (by simp [aRes, aResL, aRes1, idf_Wd', idf_numI, cells_numI, numI_fold, Rt.av, Rt.cells, rtA, rtC]; rfl)).cast (by unfold cmpF; rw [hga]; rfl))
    · simp at h13
  · refine AWP.region ?_
    refine AOPS.runk 1 (by simp (disch := first|omega|(simp only[ln];omega)) [List.take_succ_cons, List.take_zero, idf_Wd', idf_numI, cells_numI, numI_fold, Rt.av, Rt.cells, rtA, rtC, hga]; rfl) ?_
    simp only [List.drop_succ_cons, List.drop_zero]
    refine AOPS.fcall (ratioOkI_fc a ha) rfl rfl rfl hb25 (by simp (disch := first|omega|(simp only[ln];omega)) [idf_Wd', hga, idf_numI, cells_numI, numI_fold, Rt.av, Rt.cells, rtA, rtC]) (by simp (disch := first|omega|(simp only[ln];omega)) [hga]) (by simp) ?_
    simp only [puts_some, updo]
    refine AOPS.runk 3 (by simp (disch := first|omega|(simp only[ln];omega)) [List.take_succ_cons, List.take_zero, idf_Wd', idf_numI, cells_numI, numI_fold, Rt.av, Rt.cells, rtA, rtC, hga]; rfl) ?_
    simp only [List.drop_succ_cons, List.drop_zero]
    refine AOPS.fcall (ratioOkI_fc b hb) rfl rfl rfl hb25 (by simp (disch := first|omega|(simp only[ln];omega)) [idf_Wd', hga, idf_numI, cells_numI, numI_fold, Rt.av, Rt.cells, rtA, rtC]) (by simp (disch := first|omega|(simp only[ln];omega)) [hga]) (by simp) ?_
    simp only [puts_some, updo]
    refine AOPS.all (by simp (disch := first|omega|(simp only[ln];omega)) [idf_Wd', idf_numI, cells_numI, numI_fold, Rt.av, Rt.cells, rtA, rtC, hga]; rfl) ?_
    refine hK3 _ ?_
    refine cond_ok (!b.good) (by simp (disch := first|omega|(simp only[ln];omega))) (fun h13 => ?_) (fun h13 => ?_)
    · try simp only [decide_eq_true_eq, decide_eq_false_iff_not] at h13
      have hgb : b.good = false := by simpa using h13
      refine AWP.seqk fun K5 hK5 => ?_
      refine AWP.region (AOPS.all (by simp (disch := first|omega|(simp only[ln];omega)) [idf_Wd', idf_numI, cells_numI, numI_fold, Rt.av, Rt.cells, rtA, rtC]; rfl) ?_)
      refine hK5 _ ?_
      refine AWP.ret ?_
      exact hK _ _ _ _ trivial ((Fin.mk (by simp [aRes, aResL, aRes1, idf_Wd', idf_numI, cells_numI, numI_fold, Rt.av, Rt.cells, rtA, rtC]; rfl)).cast (by unfold cmpF; rw [hga, hgb]; rfl))
    · try simp only [decide_eq_true_eq, decide_eq_false_iff_not] at h13
      have hgb : b.good = true := by simpa using h13
      refine AWP.skip ?_
      refine hK2 _ ?_
      refine AWP.seqk fun K6 hK6 => ?_
      refine AWP.draw 5 Try.checked.mixed (by kernel_rfl) (by simp) ?_
      simp only [List.take_succ_cons, List.take_zero, List.drop_succ_cons, List.drop_zero]
      refine DP.runFk 1 (by simp (disch := first|omega|(simp only[ln];omega)) [runDf.eq_def, runF1, runF2, stepF.eq_def, updo.eq_def, hupo.eq_def, opSto1.eq_def, List.take_succ_cons, List.take_zero, idf_Wd', idf_numI, cells_numI, numI_fold, Rt.av, Rt.cells, rtA, rtC]; rfl) fun fs7 hfs7 => ?_
      replace hfs7 : fs7.length = 1 := hfs7.trans rfl
      simp only [List.drop_succ_cons, List.drop_zero]
      refine DP.fcall (ratio_fc a ha) rfl rfl rfl hb52 (by simp (disch := first|omega|(simp only[ln];omega)) [idf_Wd', idf_numI, cells_numI, numI_fold, Rt.av, Rt.cells, rtA, rtC]) (by simp (disch := first|omega|(simp only[ln];omega))) (by simp) ?_
      simp only [updo]
      refine DP.runFk 1 (by simp (disch := first|omega|(simp only[ln];omega)) [runDf.eq_def, runF1, runF2, stepF.eq_def, updo.eq_def, hupo.eq_def, opSto1.eq_def, List.take_succ_cons, List.take_zero, idf_Wd', idf_numI, cells_numI, numI_fold, Rt.av, Rt.cells, rtA, rtC]; rfl) fun fs8 hfs8 => ?_
      replace hfs8 : fs8.length = 1 := hfs8.trans rfl
      simp only [List.drop_succ_cons, List.drop_zero]
      refine DP.fcall (ratio_fc b hb) rfl rfl rfl hb52 (by simp (disch := first|omega|(simp only[ln];omega)) [idf_Wd', idf_numI, cells_numI, numI_fold, Rt.av, Rt.cells, rtA, rtC]) (by simp (disch := first|omega|(simp only[ln];omega))) (by simp) ?_
      simp only [updo]
      refine DP.fcall (rcmp_fc (j := 4) a.up.v a.down.v b.up.v b.down.v aU aD bU bD (by omega)) rfl rfl rfl hb67 (by simp (disch := first|omega|(simp only[ln];omega)) [idf_Wd', idf_numI, cells_numI, numI_fold, Rt.av, Rt.cells, rtA, rtC]) (by simp (disch := first|omega|(simp only[ln];omega))) (by simp) ?_
      simp only [updo]
      refine DQ.runF (m := 5) (by simp only [List.length_append, List.length_cons, List.length_nil, hfs7, hfs8]; omega) _ _ _ (by kernel_rfl) rfl (by simp (disch := first|omega|(simp only[ln];omega)) [runDf.eq_def, runF1, runF2, stepF.eq_def, updo.eq_def, hupo.eq_def, opSto1.eq_def, idf_Wd', idf_numI, cells_numI, numI_fold, Rt.av, Rt.cells, rtA, rtC]; rfl) ?_
      refine hK6 _ ?_
      refine AWP.ret ?_
      exact hK _ _ _ _ trivial ((Fin.mk (by simp [aRes, aResL, aRes1, idf_Wd', idf_numI, cells_numI, numI_fold, Rt.av, Rt.cells, rtA, rtC]; rfl)).cast (by unfold cmpF; rw [hga, hgb]; rfl))

set_option maxHeartbeats 2000000 in
theorem ratioFloorI_fc (a : Rt) (ha : a.ok) : FC Try.prog 30 [a.av] (.tup [.agg [.int .u64 ((flrF a).1).a, .int .u64 ((flrF a).1).b, .int .u64 ((flrF a).1).c, .int .u64 ((flrF a).1).d], .bool (flrF a).2]) := by
  have aU := W4.bg ha.1
  have aD := W4.bg ha.2
  refine FC.body Try.func30 rfl (by simp [idfL, idf, idfLL_iff, idf_Wd', idf_numI, cells_numI, numI_fold, Rt.av, Rt.cells, wdI]) (by simp [idfL, idf, idfLL_iff, idf_Wd', idf_numI, cells_numI, numI_fold, Rt.av, Rt.cells, wdI]) 24 rfl fun nx K hK => ?_
  refine AWP.seqk fun K1 hK1 => ?_
  refine AWP.region (AOPS.all (by simp (disch := first|omega|(simp only[ln];omega)) [idf_Wd', idf_numI, cells_numI, numI_fold, Rt.av, Rt.cells, wdI]; rfl) ?_)
  refine hK1 _ ?_
  refine AWP.seqk fun K2 hK2 => ?_
  refine AWP.seqk fun K3 hK3 => ?_
  refine AWP.region ?_
  refine AOPS.runk 1 (by simp (disch := first|omega|(simp only[ln];omega)) [List.take_succ_cons, List.take_zero, idf_Wd', idf_numI, cells_numI, numI_fold, Rt.av, Rt.cells, wdI]; rfl) ?_
  simp only [List.drop_succ_cons, List.drop_zero]
  refine AOPS.fcall (ratioOkI_fc a ha) rfl rfl rfl hb25 (by simp (disch := first|omega|(simp only[ln];omega)) [idf_Wd', idf_numI, cells_numI, numI_fold, Rt.av, Rt.cells, wdI]) (by simp (disch := first|omega|(simp only[ln];omega))) (by simp) ?_
  simp only [puts_some, updo]
  refine AOPS.all (by simp (disch := first|omega|(simp only[ln];omega)) [idf_Wd', idf_numI, cells_numI, numI_fold, Rt.av, Rt.cells, wdI]; rfl) ?_
  refine hK3 _ ?_
  refine cond_ok (!a.good) (by simp (disch := first|omega|(simp only[ln];omega))) (fun h8 => ?_) (fun h8 => ?_)
  · try simp only [decide_eq_true_eq, decide_eq_false_iff_not] at h8
    have hga : a.good = false := by simpa using h8
    refine AWP.seqk fun K4 hK4 => ?_
    refine AWP.region (AOPS.all (by simp (disch := first|omega|(simp only[ln];omega)) [idf_Wd', idf_numI, cells_numI, numI_fold, Rt.av, Rt.cells, wdI]; rfl) ?_)
    refine hK4 _ ?_
    refine AWP.ret ?_
    exact hK _ _ _ _ trivial ((Fin.mk (by simp [aRes, aResL, aRes1, idf_Wd', idf_numI, cells_numI, numI_fold, Rt.av, Rt.cells, wdI]; rfl)).cast (by unfold flrF; rw [hga]; rfl))
  · try simp only [decide_eq_true_eq, decide_eq_false_iff_not] at h8
    have hga : a.good = true := by simpa using h8
    have hdp := good_down hga
    have w1 := wide_fc (z := a.up.v / a.down.v) (aU.div hdp) (by omega)
    rw [wdT_l] at w1
    unfold W4.l at w1
    refine AWP.skip ?_
    refine hK2 _ ?_
    refine AWP.seqk fun K5 hK5 => ?_
    refine AWP.old fun hold => ?_
    refine AWP.draw 12 Try.checked.mixed (by kernel_rfl) (by simp) ?_
    simp only [List.take_succ_cons, List.take_zero, List.drop_succ_cons, List.drop_zero]
    refine DP.runFk 2 (by simp (disch := first|omega|(simp only[ln];omega)) [runDf.eq_def, runF1, runF2, stepF.eq_def, updo.eq_def, hupo.eq_def, opSto1.eq_def, List.take_succ_cons, List.take_zero, idf_Wd', idf_numI, cells_numI, numI_fold, Rt.av, Rt.cells, wdI]; rfl) fun fs6 hfs6 => ?_
    replace hfs6 : fs6.length = 2 := hfs6.trans rfl
    simp only [List.drop_succ_cons, List.drop_zero]
    refine DP.fcall (wideNum4_fc a.up (ha.1)) rfl rfl rfl hb59 (by simp (disch := first|omega|(simp only[ln];omega)) [idf_Wd', idf_numI, cells_numI, numI_fold, Rt.av, Rt.cells, wdI]) (by simp (disch := first|omega|(simp only[ln];omega))) (by simp) ?_
    simp only [updo]
    refine DP.runFk 2 (by simp (disch := first|omega|(simp only[ln];omega)) [runDf.eq_def, runF1, runF2, stepF.eq_def, updo.eq_def, hupo.eq_def, opSto1.eq_def, List.take_succ_cons, List.take_zero, idf_Wd', idf_numI, cells_numI, numI_fold, Rt.av, Rt.cells, wdI]; rfl) fun fs7 hfs7 => ?_
    replace hfs7 : fs7.length = 2 := hfs7.trans rfl
    simp only [List.drop_succ_cons, List.drop_zero]
    refine DP.fcall (wideNum4_fc a.down (ha.2)) rfl rfl rfl hb59 (by simp (disch := first|omega|(simp only[ln];omega)) [idf_Wd', idf_numI, cells_numI, numI_fold, Rt.av, Rt.cells, wdI]) (by simp (disch := first|omega|(simp only[ln];omega))) (by simp) ?_
    simp only [updo]
    refine DP.fcall (over_fc (j := 4) a.up.v a.down.v (by omega) aU aD (by omega)) rfl rfl rfl hb69 (by simp (disch := first|omega|(simp only[ln];omega)) [idf_Wd', idf_numI, cells_numI, numI_fold, Rt.av, Rt.cells, wdI]) (by simp (disch := first|omega|(simp only[ln];omega))) (by simp) ?_
    simp only [updo]
    refine DP.runFk 2 (by simp (disch := first|omega|(simp only[ln];omega)) [runDf.eq_def, runF1, runF2, stepF.eq_def, updo.eq_def, hupo.eq_def, opSto1.eq_def, List.take_succ_cons, List.take_zero, idf_Wd', idf_numI, cells_numI, numI_fold, Rt.av, Rt.cells, wdI]; rfl) fun fs8 hfs8 => ?_
    replace hfs8 : fs8.length = 2 := hfs8.trans rfl
    simp only [List.drop_succ_cons, List.drop_zero]
    refine DP.runF1q (by simp (disch := first|omega|(simp only[ln];omega)) [runDf.eq_def, runF1, runF2, stepF.eq_def, updo.eq_def, hupo.eq_def, opSto1.eq_def, idf_Wd', idf_numI, cells_numI, numI_fold, Rt.av, Rt.cells, wdI]; rfl) fun fq9 hfq9 => ?_
    simp [qids, Op.operands, topId] at hfq9
    simp only [updo]
    refine DP.runFk 2 (by simp (disch := first|omega|(simp only[ln];omega)) [runDf.eq_def, runF1, runF2, stepF.eq_def, updo.eq_def, hupo.eq_def, opSto1.eq_def, List.take_succ_cons, List.take_zero, idf_Wd', idf_numI, cells_numI, numI_fold, Rt.av, Rt.cells, wdI]; rfl) fun fs10 hfs10 => ?_
    replace hfs10 : fs10.length = 2 := hfs10.trans rfl
    simp only [List.drop_succ_cons, List.drop_zero]
    refine DQ.sto1 (m := 12) [9] _ (by simp (disch := first|omega|(simp only[ln];omega)) [runDf.eq_def, runF1, runF2, stepF.eq_def, updo.eq_def, hupo.eq_def, opSto1.eq_def, idf_Wd', idf_numI, cells_numI, numI_fold, Rt.av, Rt.cells, wdI]; rfl) rfl (by simp only [List.length_append, List.length_cons, List.length_nil, hfs6, hfs7, hfs8, hfs10]; omega) (by kernel_rfl) (by intro k f hk hex; simp only [List.mem_cons, List.not_mem_nil, or_false] at hex; rcases hex with rfl <;> (simp [List.getElem?_append, hfs6, hfs7, hfs8, hfs10] at hk; subst hk; refine ⟨?_, by first | omega | (simp; done) | (simp; omega)⟩; simp [qids, Op.operands, Call.operands, topId, numS, numI, Wd, hfq9]; try omega)) ?_
    try simp only []
    refine DQ.sto1 (m := 12) [] _ (by simp (disch := first|omega|(simp only[ln];omega)) [runDf.eq_def, runF1, runF2, stepF.eq_def, updo.eq_def, hupo.eq_def, opSto1.eq_def, idf_Wd', idf_numI, cells_numI, numI_fold, Rt.av, Rt.cells, wdI]; rfl) rfl (by simp only [List.length_append, List.length_cons, List.length_nil, hfs6, hfs7, hfs8, hfs10]; omega) (by kernel_rfl) (by intro k f hk hex; simp only [List.not_mem_nil] at hex) ?_
    try simp only []
    refine hK5 _ ?_
    refine AWP.seqk fun K11 hK11 => ?_
    refine AWP.region ?_
    refine AOPS.runk 1 (by simp (disch := first|omega|(simp only[ln];omega)) [List.take_succ_cons, List.take_zero, idf_Wd', idf_numI, cells_numI, numI_fold, Rt.av, Rt.cells, wdI]; rfl) ?_
    simp only [List.drop_succ_cons, List.drop_zero]
    refine AOPS.fcall (w1) rfl rfl rfl hb61 (by simp (disch := first|omega|(simp only[ln];omega)) [idf_Wd', idf_numI, cells_numI, numI_fold, Rt.av, Rt.cells, wdI]) (by simp (disch := first|omega|(simp only[ln];omega))) (by simp) ?_
    simp only [puts_some, updo]
    refine AOPS.all (by simp (disch := first|omega|(simp only[ln];omega)) [idf_Wd', idf_numI, cells_numI, numI_fold, Rt.av, Rt.cells, wdI]; rfl) ?_
    refine hK11 _ ?_
    refine AWP.ret ?_
    exact hK _ _ _ _ trivial ((Fin.mk (by simp [aRes, aResL, aRes1, idf_Wd', idf_numI, cells_numI, numI_fold, Rt.av, Rt.cells, wdI]; rfl)).cast (by unfold flrF; rw [hga]; rfl))

theorem wideNegI_fc (x : W4) (hx : x.ok) : FC Try.prog 21 [wdI x.a x.b x.c x.d] (.tup [.agg [.int .u64 (W4z (-x.v)).a, .int .u64 (W4z (-x.v)).b, .int .u64 (W4z (-x.v)).c, .int .u64 (W4z (-x.v)).d], .bool (fits (-x.v))]) := by
  have bx := W4.bg hx
  have w1 := wide_fc (z := -x.v) (bx.neg) (by omega)
  rw [wdT_l] at w1
  unfold W4.l at w1
  refine FC.body Try.func21 rfl (by simp [idfL, idf, idfLL_iff, idf_Wd', idf_numI, cells_numI, numI_fold, wdI]) (by simp [idfL, idf, idfLL_iff, idf_Wd', idf_numI, cells_numI, numI_fold, wdI]) 10 rfl fun nx K hK => ?_
  refine AWP.seqk fun K1 hK1 => ?_
  refine AWP.region (AOPS.all (by simp (disch := first|omega|(simp only[ln];omega)) [idf_Wd', idf_numI, cells_numI, numI_fold, wdI]; rfl) ?_)
  refine hK1 _ ?_
  refine AWP.seqk fun K2 hK2 => ?_
  refine AWP.region ?_
  refine AOPS.runk 1 (by simp (disch := first|omega|(simp only[ln];omega)) [List.take_succ_cons, List.take_zero, idf_Wd', idf_numI, cells_numI, numI_fold, wdI]; rfl) ?_
  simp only [List.drop_succ_cons, List.drop_zero]
  refine AOPS.fcall (wideNum4_fc x (hx)) rfl rfl rfl hb59 (by simp (disch := first|omega|(simp only[ln];omega)) [idf_Wd', idf_numI, cells_numI, numI_fold, wdI]) (by simp (disch := first|omega|(simp only[ln];omega))) (by simp) ?_
  simp only [puts_some, updo]
  refine AOPS.fcall (minus_fc bx (by omega)) rfl rfl rfl hb60 (by simp (disch := first|omega|(simp only[ln];omega)) [idf_Wd', idf_numI, cells_numI, numI_fold, wdI]) (by simp (disch := first|omega|(simp only[ln];omega))) (by simp) ?_
  simp only [puts_some, updo]
  refine AOPS.fcall (w1) rfl rfl rfl hb61 (by simp (disch := first|omega|(simp only[ln];omega)) [idf_Wd', idf_numI, cells_numI, numI_fold, wdI]) (by simp (disch := first|omega|(simp only[ln];omega))) (by simp) ?_
  simp only [puts_some, updo]
  refine AOPS.all (by simp (disch := first|omega|(simp only[ln];omega)) [idf_Wd', idf_numI, cells_numI, numI_fold, wdI]; rfl) ?_
  refine hK2 _ ?_
  refine AWP.ret ?_
  exact hK _ _ _ _ trivial (Fin.mk (by simp (disch := first|omega|(simp only[ln];omega)) [aRes, aResL, aRes1, idf_Wd', idf_numI, cells_numI, numI_fold, wdI]))

theorem wideSignI_fc (x : W4) (hx : x.ok) : FC Try.prog 23 [wdI x.a x.b x.c x.d] (.int .i64 (sg3 x.v)) := by
  have hs : FC Try.prog 63 [numI x.v] (.int .i64 (sg3 x.v)) := sign_fc x.v
  refine FC.body Try.func23 rfl (by simp [idfL, idf, idfLL_iff, idf_Wd', idf_numI, cells_numI, numI_fold, wdI]) (by simp [idfL, idf, idfLL_iff, idf_Wd', idf_numI, cells_numI, numI_fold, wdI]) 6 rfl fun nx K hK => ?_
  refine AWP.seqk fun K1 hK1 => ?_
  refine AWP.region (AOPS.all (by simp (disch := first|omega|(simp only[ln];omega)) [idf_Wd', idf_numI, cells_numI, numI_fold, wdI]; rfl) ?_)
  refine hK1 _ ?_
  refine AWP.seqk fun K2 hK2 => ?_
  refine AWP.region ?_
  refine AOPS.runk 1 (by simp (disch := first|omega|(simp only[ln];omega)) [List.take_succ_cons, List.take_zero, idf_Wd', idf_numI, cells_numI, numI_fold, wdI]; rfl) ?_
  simp only [List.drop_succ_cons, List.drop_zero]
  refine AOPS.fcall (wideNum4_fc x (hx)) rfl rfl rfl hb59 (by simp (disch := first|omega|(simp only[ln];omega)) [idf_Wd', idf_numI, cells_numI, numI_fold, wdI]) (by simp (disch := first|omega|(simp only[ln];omega))) (by simp) ?_
  simp only [puts_some, updo]
  refine AOPS.fcall (hs) rfl rfl rfl hb63 (by simp (disch := first|omega|(simp only[ln];omega)) [idf_Wd', idf_numI, cells_numI, numI_fold, wdI]) (by simp (disch := first|omega|(simp only[ln];omega))) (by simp) ?_
  simp only [puts_some, updo]
  refine AOPS.all (by simp (disch := first|omega|(simp only[ln];omega)) [idf_Wd', idf_numI, cells_numI, numI_fold, wdI]; rfl) ?_
  refine hK2 _ ?_
  refine AWP.ret ?_
  exact hK _ _ _ _ trivial (Fin.mk (by simp (disch := first|omega|(simp only[ln];omega)) [aRes, aResL, aRes1, idf_Wd', idf_numI, cells_numI, numI_fold, wdI]))

theorem wideAddI_fc (x y : W4) (hx : x.ok) (hy : y.ok) : FC Try.prog 31 [wdI x.a x.b x.c x.d, wdI y.a y.b y.c y.d] (.tup [.agg [.int .u64 (W4z (x.v + y.v)).a, .int .u64 (W4z (x.v + y.v)).b, .int .u64 (W4z (x.v + y.v)).c, .int .u64 (W4z (x.v + y.v)).d], .bool (fits (x.v + y.v))]) := by
  have bx := W4.bg hx
  have by' := W4.bg hy
  have w1 := wide_fc (z := x.v + y.v) (bx.add by') (by omega)
  rw [wdT_l] at w1
  unfold W4.l at w1
  refine FC.body Try.func31 rfl (by simp [idfL, idf, idfLL_iff, idf_Wd', idf_numI, cells_numI, numI_fold, wdI]) (by simp [idfL, idf, idfLL_iff, idf_Wd', idf_numI, cells_numI, numI_fold, wdI]) 14 rfl fun nx K hK => ?_
  refine AWP.seqk fun K1 hK1 => ?_
  refine AWP.region (AOPS.all (by simp (disch := first|omega|(simp only[ln];omega)) [idf_Wd', idf_numI, cells_numI, numI_fold, wdI]; rfl) ?_)
  refine hK1 _ ?_
  refine AWP.seqk fun K2 hK2 => ?_
  refine AWP.draw 8 Try.checked.mixed (by kernel_rfl) (by simp) ?_
  simp only [List.take_succ_cons, List.take_zero, List.drop_succ_cons, List.drop_zero]
  refine DP.runFk 1 (by simp (disch := first|omega|(simp only[ln];omega)) [runDf.eq_def, runF1, runF2, stepF.eq_def, updo.eq_def, hupo.eq_def, opSto1.eq_def, List.take_succ_cons, List.take_zero, idf_Wd', idf_numI, cells_numI, numI_fold, wdI]; rfl) fun fs3 hfs3 => ?_
  replace hfs3 : fs3.length = 1 := hfs3.trans rfl
  simp only [List.drop_succ_cons, List.drop_zero]
  refine DP.fcall (wideNum4_fc x (hx)) rfl rfl rfl hb59 (by simp (disch := first|omega|(simp only[ln];omega)) [idf_Wd', idf_numI, cells_numI, numI_fold, wdI]) (by simp (disch := first|omega|(simp only[ln];omega))) (by simp) ?_
  simp only [updo]
  refine DP.runFk 1 (by simp (disch := first|omega|(simp only[ln];omega)) [runDf.eq_def, runF1, runF2, stepF.eq_def, updo.eq_def, hupo.eq_def, opSto1.eq_def, List.take_succ_cons, List.take_zero, idf_Wd', idf_numI, cells_numI, numI_fold, wdI]; rfl) fun fs4 hfs4 => ?_
  replace hfs4 : fs4.length = 1 := hfs4.trans rfl
  simp only [List.drop_succ_cons, List.drop_zero]
  refine DP.fcall (wideNum4_fc y (hy)) rfl rfl rfl hb59 (by simp (disch := first|omega|(simp only[ln];omega)) [idf_Wd', idf_numI, cells_numI, numI_fold, wdI]) (by simp (disch := first|omega|(simp only[ln];omega))) (by simp) ?_
  simp only [updo]
  refine DP.fcall (plus_fc bx by' (by omega) (by omega)) rfl rfl rfl hb70 (by simp (disch := first|omega|(simp only[ln];omega)) [idf_Wd', idf_numI, cells_numI, numI_fold, wdI]) (by simp (disch := first|omega|(simp only[ln];omega))) (by simp) ?_
  simp only [updo]
  refine DP.fcall (w1) rfl rfl rfl hb61 (by simp (disch := first|omega|(simp only[ln];omega)) [idf_Wd', idf_numI, cells_numI, numI_fold, wdI]) (by simp (disch := first|omega|(simp only[ln];omega))) (by simp) ?_
  simp only [updo]
  refine DP.runFk 2 (by simp (disch := first|omega|(simp only[ln];omega)) [runDf.eq_def, runF1, runF2, stepF.eq_def, updo.eq_def, hupo.eq_def, opSto1.eq_def, List.take_succ_cons, List.take_zero, idf_Wd', idf_numI, cells_numI, numI_fold, wdI]; rfl) fun fs5 hfs5 => ?_
  replace hfs5 : fs5.length = 2 := hfs5.trans rfl
  simp only [List.drop_succ_cons, List.drop_zero]
  refine DQ.runF (m := 8) (by simp only [List.length_append, List.length_cons, List.length_nil, hfs3, hfs4, hfs5]; omega) _ _ _ (by kernel_rfl) rfl (by simp (disch := first|omega|(simp only[ln];omega)) [runDf.eq_def, runF1, runF2, stepF.eq_def, updo.eq_def, hupo.eq_def, opSto1.eq_def, idf_Wd', idf_numI, cells_numI, numI_fold, wdI]; rfl) ?_
  refine hK2 _ ?_
  refine AWP.ret ?_
  exact hK _ _ _ _ trivial (Fin.mk (by simp (disch := first|omega|(simp only[ln];omega)) [aRes, aResL, aRes1, idf_Wd', idf_numI, cells_numI, numI_fold, wdI]))

end Go.Proofs.Ytdcggmbnjonemaa

/- Walks: fractions of the reference. -/
namespace Go.Proofs.Ytdcggmbnjonemaa
open Go Go.RowKit
set_option linter.unusedSimpArgs false
set_option linter.unusedVariables false
set_option maxRecDepth 100000
attribute [local simp] List.getElem?_cons_zero List.getElem?_cons_succ List.getElem?_toArray runOps stepOp.eq_def agd.eq_def dstOk.eq_def opVal.eq_def opNew.eq_def opSto.eq_def ev.eq_def cv.eq_def puts_some puts_none upd_ap lst.eq_def aBin.eq_def aUn.eq_def aBi_str aBi_isl aBi_osl aBi_nsl aBi_max aBi_min aBi_max3 aConv.eq_def aLd.eq_def aLoad.eq_def aField.eq_def aFld.eq_def aIdx_isl aIdx_osl aSlc_isl aSlc_osl aSlc_str aSlc_nsl bnd.eq_def evs_nil evs_cons aBuild.eq_def aFill splice.eq_def cells_agg cells_int cells_bool cells_str cells_nil cells_nsl cells_isl cells_osl cells_ptr cells_ip cells_fn cells_Wd one_int one_bool one_str one_nil one_nsl one_isl one_osl one_ptr one_ip one_fn one_Wd aSets hupd_eq hupd_ne wrap_i64s wrap_u64s wrap_u32s wrap_u8s wd_getD wd_set wd_len wd_replicate wd_one wd_fold fz_osl hupd_same aSix.eq_def aEqS.eq_def aEqB_bool aEqB_nsl aEqB_nil
attribute [local simp] szT2 byT2 agT2 unT2 zoT2 szT4 byT4 agT4 unT4 zoT4 szT31 byT31 agT31 unT31 zoT31 szT33 byT33 agT33 flT33 fdT33_0 fdT33_1 fdT33_2 fdT33_3 zoT33 szT40 byT40 agT40 flT40 fdT40_0 fdT40_1 zoT40 szT90 byT90 agT90 elT90 unT90 zoT90 szT92 byT92 agT92 flT92 fdT92_0 fdT92_1 zoT92 szT107 byT107 agT107 flT107 fdT107_0 fdT107_1 zoT107

theorem l1From4_fc (x : W4) (hx : x.ok) : FC Try.prog 106 [wdI x.a x.b x.c x.d] (numS x.v) := l1From_fc x.a x.b x.c x.d hx.1 hx.2.1 hx.2.2.1 hx.2.2.2
theorem eqW40 (y : W4) : eqW Try.prog 8 33 [.int .u64 y.a, .int .u64 y.b, .int .u64 y.c, .int .u64 y.d] [.int .u64 0, .int .u64 0, .int .u64 0, .int .u64 0] = some (decide (y = W40)) := by
  rw [eqW4]
  obtain ⟨a, b, c, d⟩ := y
  congr 1
  rw [Bool.eq_iff_iff]
  simp [W40]

set_option maxHeartbeats 2000000 in
theorem l2Make_fc {j : Nat} (u d : Int) (hd : d ≠ 0) (bu : Bg j u) (bd : Bg j d) (hj0 : 1 ≤ j) (hj : j ≤ 16777216) : FC Try.prog 110 [numS u, numS d] (l2A (lowU u d) (lowD u d)) := by
  have hgp := gg_pos (u := u) hd
  have hg3 := gg_nrm u d
  have bG := gg_bg bu bd
  have eU : lowU u d = nrm d u / gg u d := rfl
  have eD : lowD u d = nrm d d / gg u d := rfl
  refine FC.body Try.func110 rfl (by simp [idfL, idf, idfLL_iff, idf_Wd', idf_numS, cells_numS, numS_fold]) (by simp [idfL, idf, l2A, l2C, idf_Wd']) 34 rfl fun nx K hK => ?_
  refine AWP.seqk fun K1 hK1 => ?_
  refine AWP.region (AOPS.all (by simp (disch := first|omega|(simp only[ln];omega)) [idf_Wd', idf_numS, cells_numS, numS_fold]; rfl) ?_)
  refine hK1 _ ?_
  refine AWP.seqk fun K2 hK2 => ?_
  have J2 : ∀ s : St, (∃ X Y : Int, X = nrm d u ∧ Y = nrm d d ∧ s.env 2 = .ptr nx 0 0 ∧ s.env 3 = .ptr (nx + 1) 0 0 ∧ s.env 4 = .ptr (nx + 1 + 1) 0 0 ∧ s.heap nx = some (2, [[.bool (decide (X < 0)), Wd .u32 (dg X)]]) ∧ s.heap (nx + 1) = some (2, [[.bool (decide (Y < 0)), Wd .u32 (dg Y)]]) ∧ s.heap (nx + 1 + 1) = some (4, [[.bool false, .nsl, .bool false, .nsl]]) ∧ nx + 1 + 1 < s.nx ∧ s.nt = 34) → K2 s := by
    rintro ⟨e, H, mm, nt⟩ ⟨X, Y, hX, hY, h2, h3, h4, hA, hB, hD, hm, rfl⟩
    simp only [] at h2 h3 h4 hA hB hD hm
    rw [← hX] at hg3 eU
    rw [← hY] at hg3 eD
    have cX : Bg j X := by rw [hX]; exact bu.nrm
    have cY : Bg j Y := by rw [hY]; exact bd.nrm
    have hg2 : FC Try.prog 88 [numS X, numS Y] (numS (gg u d)) := by
      have h := l1Gcd_fc X Y cX cY hj
      rw [← hg3]; exact h
    obtain ⟨cc, hcf, hce⟩ : ∃ c : Int, FC Try.prog 87 [numS (gg u d), numS 1] (.int .i64 c) ∧ (c == 0) = decide (gg u d = 1) := ⟨_, l1Cmp_fc bG (Bg.i64 (n := 1) (by omega) (by omega)) (by omega) (by omega), one_cmp _⟩
    generalize hgg : gg u d = g at *
    refine hK2 _ ?_
    refine AWP.seqk fun K3 hK3 => ?_
    refine AWP.region ?_
    refine AOPS.runk 2 (by simp (disch := first|omega|(simp only[ln];omega)) [List.take_succ_cons, List.take_zero, idf_Wd', idf_numS, cells_numS, numS_fold, h2, h3, hA, hB, Nat.ne_of_lt hm]; rfl) ?_
    simp only [List.drop_succ_cons, List.drop_zero]
    refine AOPS.fcall (hg2) rfl rfl rfl hb88 (by simp (disch := first|omega|(simp only[ln];omega)) [idf_Wd', h2, h3, hA, hB, Nat.ne_of_lt hm, idf_numS, cells_numS, numS_fold]) (by simp (disch := first|omega|(simp only[ln];omega)) [h2, h3, hA, hB, Nat.ne_of_lt hm]) (by simp) ?_
    simp only [puts_some, updo]
    refine AOPS.all (by simp (disch := first|omega|(simp only[ln];omega)) [idf_Wd', idf_numS, cells_numS, numS_fold, h2, h3, hA, hB, Nat.ne_of_lt hm]; rfl) ?_
    refine hK3 _ ?_
    refine AWP.seqk fun K4 hK4 => ?_
    refine AWP.seqk fun K5 hK5 => ?_
    refine AWP.draw 4 Try.checked.mixed (by kernel_rfl) (by simp) ?_
    simp only [List.take_succ_cons, List.take_zero, List.drop_succ_cons, List.drop_zero]
    refine DP.runFk 1 (by simp (disch := first|omega|(simp only[ln];omega)) [runDf.eq_def, runF1, runF2, stepF.eq_def, updo.eq_def, hupo.eq_def, opSto1.eq_def, List.take_succ_cons, List.take_zero, idf_Wd', idf_numS, cells_numS, numS_fold]; rfl) fun fs6 hfs6 => ?_
    replace hfs6 : fs6.length = 1 := hfs6.trans rfl
    simp only [List.drop_succ_cons, List.drop_zero]
    refine DP.fcall (l1Int_fc 1 (by omega) (by omega)) rfl rfl rfl hb89 (by simp (disch := first|omega|(simp only[ln];omega)) [idf_Wd', idf_numS, cells_numS, numS_fold]) (by simp (disch := first|omega|(simp only[ln];omega))) (by simp) ?_
    simp only [updo]
    refine DP.fcall (hcf) rfl rfl rfl hb87 (by simp (disch := first|omega|(simp only[ln];omega)) [idf_Wd', idf_numS, cells_numS, numS_fold]) (by simp (disch := first|omega|(simp only[ln];omega))) (by simp) ?_
    simp only [updo]
    refine DP.runFk 1 (by simp (disch := first|omega|(simp only[ln];omega)) [runDf.eq_def, runF1, runF2, stepF.eq_def, updo.eq_def, hupo.eq_def, opSto1.eq_def, List.take_succ_cons, List.take_zero, idf_Wd', idf_numS, cells_numS, numS_fold]; rfl) fun fs7 hfs7 => ?_
    replace hfs7 : fs7.length = 1 := hfs7.trans rfl
    simp only [List.drop_succ_cons, List.drop_zero]
    refine DQ.runF (m := 4) (by simp only [List.length_append, List.length_cons, List.length_nil, hfs6, hfs7]; omega) _ _ _ (by kernel_rfl) rfl (by simp (disch := first|omega|(simp only[ln];omega)) [runDf.eq_def, runF1, runF2, stepF.eq_def, updo.eq_def, hupo.eq_def, opSto1.eq_def, idf_Wd', idf_numS, cells_numS, numS_fold]; rfl) ?_
    refine hK5 _ ?_
    refine cond_ok (!decide (g = 1)) (by simp (disch := first|omega|(simp only[ln];omega)) [bne, hce]) (fun h18 => ?_) (fun h18 => ?_)
    · try simp only [decide_eq_true_eq, decide_eq_false_iff_not] at h18
      refine AWP.seqk fun K8 hK8 => ?_
      refine AWP.region ?_
      refine AOPS.runk 2 (by simp (disch := first|omega|(simp only[ln];omega)) [List.take_succ_cons, List.take_zero, idf_Wd', idf_numS, cells_numS, numS_fold, h2, hA]; rfl) ?_
      simp only [List.drop_succ_cons, List.drop_zero]
      refine AOPS.fcall (l1Div_fc X g (by omega) cX bG hj) rfl rfl rfl hb142 (by simp (disch := first|omega|(simp only[ln];omega)) [idf_Wd', h2, hA, idf_numS, cells_numS, numS_fold]) (by simp (disch := first|omega|(simp only[ln];omega)) [h2, hA]) (by simp) ?_
      simp only [puts_some, updo]
      refine AOPS.all (by simp (disch := first|omega|(simp only[ln];omega)) [idf_Wd', idf_numS, cells_numS, numS_fold, h2, hA]; rfl) ?_
      refine hK8 _ ?_
      refine AWP.region ?_
      refine AOPS.runk 2 (by simp (disch := first|omega|(simp only[ln];omega)) [List.take_succ_cons, List.take_zero, idf_Wd', idf_numS, cells_numS, numS_fold, h3, hB]; rfl) ?_
      simp only [List.drop_succ_cons, List.drop_zero]
      refine AOPS.fcall (l1Div_fc Y g (by omega) cY bG hj) rfl rfl rfl hb142 (by simp (disch := first|omega|(simp only[ln];omega)) [idf_Wd', h3, hB, idf_numS, cells_numS, numS_fold]) (by simp (disch := first|omega|(simp only[ln];omega)) [h3, hB]) (by simp) ?_
      simp only [puts_some, updo]
      refine AOPS.all (by simp (disch := first|omega|(simp only[ln];omega)) [idf_Wd', idf_numS, cells_numS, numS_fold, h3, hB]; rfl) ?_
      refine hK4 _ ?_
      refine AWP.seqk fun K9 hK9 => ?_
      refine AWP.region (AOPS.all (by simp (disch := first|omega|(simp only[ln];omega)) [idf_Wd', idf_numS, cells_numS, numS_fold, h2, h3, h4, hD]; rfl) ?_)
      refine hK9 _ ?_
      refine AWP.ret ?_
      exact hK _ _ _ _ trivial ((Fin.mk (by simp (disch := omega) [aRes, aResL, aRes1, h4, idf_Wd', idf_numS, cells_numS, numS_fold]; rfl)).cast (by rw [eU, eD]; rfl))
    · try simp only [decide_eq_true_eq, decide_eq_false_iff_not] at h18
      have hg1 : g = 1 := by simpa using h18
      refine AWP.skip ?_
      refine hK4 _ ?_
      refine AWP.seqk fun K10 hK10 => ?_
      refine AWP.region (AOPS.all (by simp (disch := first|omega|(simp only[ln];omega)) [idf_Wd', idf_numS, cells_numS, numS_fold, h2, h3, h4, hA, hB, hD]; rfl) ?_)
      refine hK10 _ ?_
      refine AWP.ret ?_
      exact hK _ _ _ _ trivial ((Fin.mk (by simp (disch := omega) [aRes, aResL, aRes1, h4, idf_Wd', idf_numS, cells_numS, numS_fold]; rfl)).cast (by rw [eU, eD, hg1, Int.ediv_one, Int.ediv_one]; rfl))
  refine AWP.seqk fun K11 hK11 => ?_
  refine AWP.region (AOPS.all (by simp (disch := first|omega|(simp only[ln];omega)) [idf_Wd', idf_numS, cells_numS, numS_fold]; rfl) ?_)
  refine hK11 _ ?_
  refine cond_ok (decide (d < 0)) (by simp (disch := first|omega|(simp only[ln];omega))) (fun h7 => ?_) (fun h7 => ?_)
  · try simp only [decide_eq_true_eq, decide_eq_false_iff_not] at h7
    refine AWP.old fun hold => ?_
    refine AWP.draw 4 Try.checked.mixed (by kernel_rfl) (by simp) ?_
    simp only [List.take_succ_cons, List.take_zero, List.drop_succ_cons, List.drop_zero]
    refine DP.runFk 1 (by simp (disch := first|omega|(simp only[ln];omega)) [runDf.eq_def, runF1, runF2, stepF.eq_def, updo.eq_def, hupo.eq_def, opSto1.eq_def, List.take_succ_cons, List.take_zero, idf_Wd', idf_numS, cells_numS, numS_fold]; rfl) fun fs12 hfs12 => ?_
    replace hfs12 : fs12.length = 1 := hfs12.trans rfl
    simp only [List.drop_succ_cons, List.drop_zero]
    refine DP.fcall (l1Neg_fc u) rfl rfl rfl hb141 (by simp (disch := first|omega|(simp only[ln];omega)) [idf_Wd', idf_numS, cells_numS, numS_fold]) (by simp (disch := first|omega|(simp only[ln];omega))) (by simp) ?_
    simp only [updo]
    refine DP.runF1q (by simp (disch := first|omega|(simp only[ln];omega)) [runDf.eq_def, runF1, runF2, stepF.eq_def, updo.eq_def, hupo.eq_def, opSto1.eq_def, idf_Wd', idf_numS, cells_numS, numS_fold]; rfl) fun fq13 hfq13 => ?_
    simp [qids, Op.operands, topId] at hfq13
    simp only [updo]
    refine DP.fcall (l1Neg_fc d) rfl rfl rfl hb141 (by simp (disch := first|omega|(simp only[ln];omega)) [idf_Wd', idf_numS, cells_numS, numS_fold]) (by simp (disch := first|omega|(simp only[ln];omega))) (by simp) ?_
    simp only [updo]
    refine DQ.sto1 (m := 4) [2] _ (by simp (disch := first|omega|(simp only[ln];omega)) [runDf.eq_def, runF1, runF2, stepF.eq_def, updo.eq_def, hupo.eq_def, opSto1.eq_def, idf_Wd', idf_numS, cells_numS, numS_fold]; rfl) rfl (by simp only [List.length_append, List.length_cons, List.length_nil, hfs12]; omega) (by kernel_rfl) (by intro k f hk hex; simp only [List.mem_cons, List.not_mem_nil, or_false] at hex; rcases hex with rfl <;> (simp [List.getElem?_append, hfs12] at hk; subst hk; refine ⟨?_, by first | omega | (simp; done) | (simp; omega)⟩; simp [qids, Op.operands, Call.operands, topId, numS, numI, Wd, hfq13]; try omega)) ?_
    try simp only []
    refine DQ.sto1 (m := 4) [] _ (by simp (disch := first|omega|(simp only[ln];omega)) [runDf.eq_def, runF1, runF2, stepF.eq_def, updo.eq_def, hupo.eq_def, opSto1.eq_def, idf_Wd', idf_numS, cells_numS, numS_fold]; rfl) rfl (by simp only [List.length_append, List.length_cons, List.length_nil, hfs12]; omega) (by kernel_rfl) (by intro k f hk hex; simp only [List.not_mem_nil] at hex) ?_
    try simp only []
    refine J2 _ ?_
    exact ⟨-u, -d, by simp [nrm, h7], by simp [nrm, h7], by simp, by simp, by simp, by simp (disch := omega), by simp (disch := omega), by simp (disch := omega), by simp, rfl⟩
  · try simp only [decide_eq_true_eq, decide_eq_false_iff_not] at h7
    refine AWP.skip ?_
    refine J2 _ ?_
    exact ⟨u, d, by simp [nrm, h7], by simp [nrm, h7], by simp, by simp, by simp, by simp (disch := omega), by simp (disch := omega), by simp (disch := omega), by simp, rfl⟩

theorem l2Of_fc (a : Rt) (ha : a.ok) : FC Try.prog 58 [a.av] (l2A a.up.v a.down.v) := by
  refine FC.body Try.func58 rfl (by simp [idfL, idf, idfLL_iff, idf_Wd', idf_numS, cells_numS, numS_fold, Rt.av, Rt.cells, wdI]) (by simp [idfL, idf, l2A, l2C, idf_Wd']) 10 rfl fun nx K hK => ?_
  refine AWP.seqk fun K1 hK1 => ?_
  refine AWP.region (AOPS.all (by simp (disch := first|omega|(simp only[ln];omega)) [idf_Wd', idf_numS, cells_numS, numS_fold, Rt.av, Rt.cells, wdI]; rfl) ?_)
  refine hK1 _ ?_
  refine AWP.seqk fun K2 hK2 => ?_
  refine AWP.draw 7 Try.checked.mixed (by kernel_rfl) (by simp) ?_
  simp only [List.take_succ_cons, List.take_zero, List.drop_succ_cons, List.drop_zero]
  refine DP.runFk 2 (by simp (disch := first|omega|(simp only[ln];omega)) [runDf.eq_def, runF1, runF2, stepF.eq_def, updo.eq_def, hupo.eq_def, opSto1.eq_def, List.take_succ_cons, List.take_zero, idf_Wd', idf_numS, cells_numS, numS_fold, Rt.av, Rt.cells, wdI]; rfl) fun fs3 hfs3 => ?_
  replace hfs3 : fs3.length = 2 := hfs3.trans rfl
  simp only [List.drop_succ_cons, List.drop_zero]
  refine DP.fcall (l1From4_fc a.up (ha.1)) rfl rfl rfl hb106 (by simp (disch := first|omega|(simp only[ln];omega)) [idf_Wd', idf_numS, cells_numS, numS_fold, Rt.av, Rt.cells, wdI]) (by simp (disch := first|omega|(simp only[ln];omega))) (by simp) ?_
  simp only [updo]
  refine DP.runFk 2 (by simp (disch := first|omega|(simp only[ln];omega)) [runDf.eq_def, runF1, runF2, stepF.eq_def, updo.eq_def, hupo.eq_def, opSto1.eq_def, List.take_succ_cons, List.take_zero, idf_Wd', idf_numS, cells_numS, numS_fold, Rt.av, Rt.cells, wdI]; rfl) fun fs4 hfs4 => ?_
  replace hfs4 : fs4.length = 2 := hfs4.trans rfl
  simp only [List.drop_succ_cons, List.drop_zero]
  refine DP.fcall (l1From4_fc a.down (ha.2)) rfl rfl rfl hb106 (by simp (disch := first|omega|(simp only[ln];omega)) [idf_Wd', idf_numS, cells_numS, numS_fold, Rt.av, Rt.cells, wdI]) (by simp (disch := first|omega|(simp only[ln];omega))) (by simp) ?_
  simp only [updo]
  refine DP.runFk 1 (by simp (disch := first|omega|(simp only[ln];omega)) [runDf.eq_def, runF1, runF2, stepF.eq_def, updo.eq_def, hupo.eq_def, opSto1.eq_def, List.take_succ_cons, List.take_zero, idf_Wd', idf_numS, cells_numS, numS_fold, Rt.av, Rt.cells, wdI]; rfl) fun fs5 hfs5 => ?_
  replace hfs5 : fs5.length = 1 := hfs5.trans rfl
  simp only [List.drop_succ_cons, List.drop_zero]
  refine DQ.runF (m := 7) (by simp only [List.length_append, List.length_cons, List.length_nil, hfs3, hfs4, hfs5]; omega) _ _ _ (by kernel_rfl) rfl (by simp (disch := first|omega|(simp only[ln];omega)) [runDf.eq_def, runF1, runF2, stepF.eq_def, updo.eq_def, hupo.eq_def, opSto1.eq_def, idf_Wd', idf_numS, cells_numS, numS_fold, Rt.av, Rt.cells, wdI]; rfl) ?_
  refine hK2 _ ?_
  refine AWP.ret ?_
  exact hK _ _ _ _ trivial ((Fin.mk (by simp [aRes, aResL, aRes1, idf_Wd', idf_numS, cells_numS, numS_fold, Rt.av, Rt.cells, wdI]; rfl)).cast (by rfl))

set_option maxHeartbeats 2000000 in
theorem l2Cmp_fc {j : Nat} (a b c d : Int) (ba : Bg j a) (bb : Bg j b) (bc : Bg j c) (bd : Bg j d) (hj : j ≤ 1048576) : FC Try.prog 68 [l2A a b, l2A c d] (.int .i64 (cm (a * d) (c * b))) := by
  have hc : FC Try.prog 87 [numS (a * d), numS (c * b)] (.int .i64 (cm (a * d) (c * b))) := l1Cmp_fc (ba.mul bd) (bc.mul bb) (by omega) (by omega)
  refine FC.body Try.func68 rfl (by simp [idfL, idf, idfLL_iff, idf_Wd', idf_numS, cells_numS, numS_fold, l2A, l2C]) (by simp [idfL, idf, idfLL_iff, idf_Wd', idf_numS, cells_numS, numS_fold, l2A, l2C]) 16 rfl fun nx K hK => ?_
  refine AWP.seqk fun K1 hK1 => ?_
  refine AWP.region (AOPS.all (by simp (disch := first|omega|(simp only[ln];omega)) [idf_Wd', idf_numS, cells_numS, numS_fold, l2A, l2C]; rfl) ?_)
  refine hK1 _ ?_
  refine AWP.seqk fun K2 hK2 => ?_
  refine AWP.draw 11 Try.checked.mixed (by kernel_rfl) (by simp) ?_
  simp only [List.take_succ_cons, List.take_zero, List.drop_succ_cons, List.drop_zero]
  refine DP.runFk 4 (by simp (disch := first|omega|(simp only[ln];omega)) [runDf.eq_def, runF1, runF2, stepF.eq_def, updo.eq_def, hupo.eq_def, opSto1.eq_def, List.take_succ_cons, List.take_zero, idf_Wd', idf_numS, cells_numS, numS_fold, l2A, l2C]; rfl) fun fs3 hfs3 => ?_
  replace hfs3 : fs3.length = 4 := hfs3.trans rfl
  simp only [List.drop_succ_cons, List.drop_zero]
  refine DP.fcall (l1Mul_fc ba bd (by omega) (by omega)) rfl rfl rfl hb102 (by simp (disch := first|omega|(simp only[ln];omega)) [idf_Wd', idf_numS, cells_numS, numS_fold, l2A, l2C]) (by simp (disch := first|omega|(simp only[ln];omega))) (by simp) ?_
  simp only [updo]
  refine DP.runFk 4 (by simp (disch := first|omega|(simp only[ln];omega)) [runDf.eq_def, runF1, runF2, stepF.eq_def, updo.eq_def, hupo.eq_def, opSto1.eq_def, List.take_succ_cons, List.take_zero, idf_Wd', idf_numS, cells_numS, numS_fold, l2A, l2C]; rfl) fun fs4 hfs4 => ?_
  replace hfs4 : fs4.length = 4 := hfs4.trans rfl
  simp only [List.drop_succ_cons, List.drop_zero]
  refine DP.fcall (l1Mul_fc bc bb (by omega) (by omega)) rfl rfl rfl hb102 (by simp (disch := first|omega|(simp only[ln];omega)) [idf_Wd', idf_numS, cells_numS, numS_fold, l2A, l2C]) (by simp (disch := first|omega|(simp only[ln];omega))) (by simp) ?_
  simp only [updo]
  refine DP.fcall (hc) rfl rfl rfl hb87 (by simp (disch := first|omega|(simp only[ln];omega)) [idf_Wd', idf_numS, cells_numS, numS_fold, l2A, l2C]) (by simp (disch := first|omega|(simp only[ln];omega))) (by simp) ?_
  simp only [updo]
  refine DQ.runF (m := 11) (by simp only [List.length_append, List.length_cons, List.length_nil, hfs3, hfs4]; omega) _ _ _ (by kernel_rfl) rfl (by simp (disch := first|omega|(simp only[ln];omega)) [runDf.eq_def, runF1, runF2, stepF.eq_def, updo.eq_def, hupo.eq_def, opSto1.eq_def, idf_Wd', idf_numS, cells_numS, numS_fold, l2A, l2C]; rfl) ?_
  refine hK2 _ ?_
  refine AWP.ret ?_
  exact hK _ _ _ _ trivial (Fin.mk (by simp (disch := first|omega|(simp only[ln];omega)) [aRes, aResL, aRes1, idf_Wd', idf_numS, cells_numS, numS_fold, l2A, l2C]))

set_option maxHeartbeats 2000000 in
theorem l2Ratio_fc {j : Nat} (u d : Int) (hd : d ≠ 0) (bu : Bg j u) (bd : Bg j d) (hj : j ≤ 16777216) : FC Try.prog 56 [l2A (lowU u d) (lowD u d)] (.tup [.agg [.int .u64 ((told u d).1).up.a, .int .u64 ((told u d).1).up.b, .int .u64 ((told u d).1).up.c, .int .u64 ((told u d).1).up.d, .int .u64 ((told u d).1).down.a, .int .u64 ((told u d).1).down.b, .int .u64 ((told u d).1).down.c, .int .u64 ((told u d).1).down.d], .bool (told u d).2]) := by
  have w1 := l1Wide_fc (lowU_bg (u := u) hd bu) (by omega)
  have w2 := l1Wide_fc (lowD_bg (u := u) hd bd) (by omega)
  rw [wdT_l] at w1 w2
  unfold W4.l at w1 w2
  have ht := told_fit (u := u) hd
  refine FC.body Try.func56 rfl (by simp [idfL, idf, idfLL_iff, idf_Wd', idf_numS, cells_numS, numS_fold, l2A, l2C]) (by simp [idfL, idf, idfLL_iff, idf_Wd', idf_numS, cells_numS, numS_fold, l2A, l2C]) 30 rfl fun nx K hK => ?_
  refine AWP.seqk fun K1 hK1 => ?_
  refine AWP.region (AOPS.all (by simp (disch := first|omega|(simp only[ln];omega)) [idf_Wd', idf_numS, cells_numS, numS_fold, l2A, l2C]; rfl) ?_)
  refine hK1 _ ?_
  refine AWP.seqk fun K2 hK2 => ?_
  refine AWP.region ?_
  refine AOPS.runk 2 (by simp (disch := first|omega|(simp only[ln];omega)) [List.take_succ_cons, List.take_zero, idf_Wd', idf_numS, cells_numS, numS_fold, l2A, l2C]; rfl) ?_
  simp only [List.drop_succ_cons, List.drop_zero]
  refine AOPS.fcall (w1) rfl rfl rfl hb109 (by simp (disch := first|omega|(simp only[ln];omega)) [idf_Wd', idf_numS, cells_numS, numS_fold, l2A, l2C]) (by simp (disch := first|omega|(simp only[ln];omega))) (by simp) ?_
  simp only [puts_some, updo]
  refine AOPS.all (by simp (disch := first|omega|(simp only[ln];omega)) [idf_Wd', idf_numS, cells_numS, numS_fold, l2A, l2C]; rfl) ?_
  refine hK2 _ ?_
  refine AWP.seqk fun K3 hK3 => ?_
  refine AWP.region ?_
  refine AOPS.runk 2 (by simp (disch := first|omega|(simp only[ln];omega)) [List.take_succ_cons, List.take_zero, idf_Wd', idf_numS, cells_numS, numS_fold, l2A, l2C]; rfl) ?_
  simp only [List.drop_succ_cons, List.drop_zero]
  refine AOPS.fcall (w2) rfl rfl rfl hb109 (by simp (disch := first|omega|(simp only[ln];omega)) [idf_Wd', idf_numS, cells_numS, numS_fold, l2A, l2C]) (by simp (disch := first|omega|(simp only[ln];omega))) (by simp) ?_
  simp only [puts_some, updo]
  refine AOPS.all (by simp (disch := first|omega|(simp only[ln];omega)) [idf_Wd', idf_numS, cells_numS, numS_fold, l2A, l2C]; rfl) ?_
  refine hK3 _ ?_
  refine AWP.seqk fun K4 hK4 => ?_
  refine AWP.seqk fun K5 hK5 => ?_
  cases hf : fits (lowU u d)
  · refine AWP.region (AOPS.all (by simp (disch := first|omega|(simp only[ln];omega)) [idf_Wd', idf_numS, cells_numS, numS_fold, l2A, l2C, hf]; rfl) ?_)
    refine hK5 _ ?_
    refine cond_ok _ (by simp (disch := first|omega|(simp only[ln];omega)); rfl) (fun h25 => ?_) (fun h25 => ?_)
    · try simp only [decide_eq_true_eq, decide_eq_false_iff_not] at h25
      refine AWP.seqk fun K6 hK6 => ?_
      refine AWP.region (AOPS.all (by simp (disch := first|omega|(simp only[ln];omega)) [idf_Wd', idf_numS, cells_numS, numS_fold, l2A, l2C]; rfl) ?_)
      refine hK6 _ ?_
      refine AWP.ret ?_
      exact hK _ _ _ _ trivial ((Fin.mk (by simp [aRes, aResL, aRes1, idf_Wd', idf_numS, cells_numS, numS_fold, l2A, l2C]; rfl)).cast (by rw [ht, hf]; rfl))
    · simp at h25
  · refine AWP.region (AOPS.all (by simp (disch := first|omega|(simp only[ln];omega)) [idf_Wd', idf_numS, cells_numS, numS_fold, l2A, l2C, hf]; rfl) ?_)
    refine hK5 _ ?_
    refine cond_ok (!fits (lowD u d)) (by simp (disch := first|omega|(simp only[ln];omega))) (fun h25 => ?_) (fun h25 => ?_)
    · try simp only [decide_eq_true_eq, decide_eq_false_iff_not] at h25
      have hf2 : fits (lowD u d) = false := by simpa using h25
      refine AWP.seqk fun K7 hK7 => ?_
      refine AWP.region (AOPS.all (by simp (disch := first|omega|(simp only[ln];omega)) [idf_Wd', idf_numS, cells_numS, numS_fold, l2A, l2C]; rfl) ?_)
      refine hK7 _ ?_
      refine AWP.ret ?_
      exact hK _ _ _ _ trivial ((Fin.mk (by simp [aRes, aResL, aRes1, idf_Wd', idf_numS, cells_numS, numS_fold, l2A, l2C]; rfl)).cast (by rw [ht, hf, hf2]; rfl))
    · try simp only [decide_eq_true_eq, decide_eq_false_iff_not] at h25
      have hf2 : fits (lowD u d) = true := by simpa using h25
      refine AWP.skip ?_
      refine hK4 _ ?_
      refine AWP.seqk fun K8 hK8 => ?_
      refine AWP.region (AOPS.all (by simp (disch := first|omega|(simp only[ln];omega)) [idf_Wd', idf_numS, cells_numS, numS_fold, l2A, l2C]; rfl) ?_)
      refine hK8 _ ?_
      refine AWP.ret ?_
      exact hK _ _ _ _ trivial ((Fin.mk (by simp [aRes, aResL, aRes1, idf_Wd', idf_numS, cells_numS, numS_fold, l2A, l2C]; rfl)).cast (by rw [ht, hf, hf2]; rfl))

set_option maxHeartbeats 2000000 in
theorem ratioOkS_fc (a : Rt) (ha : a.ok) : FC Try.prog 55 [a.av] (.bool a.good) := by
  have hra := l2Of_fc a ha
  have bU := W4.bg ha.1
  have bD := W4.bg ha.2
  have hgd : a.good = (decide (0 < a.down.v) && decide (gg a.up.v a.down.v = 1)) := by unfold Rt.good gg; congr 1; apply Bool.eq_iff_iff.2; simp; omega
  generalize a.up.v = u at *
  generalize a.down.v = d at *
  have hs1 : 0 < d → FC Try.prog 85 [numS d] (.int .i64 1) := fun h => by
    have h1 := l1Sign_fc d
    rw [if_neg (by omega), if_pos h] at h1; exact h1
  have hs0 : ¬ 0 < d → ∃ c : Int, FC Try.prog 85 [numS d] (.int .i64 c) ∧ c ≤ 0 := fun h => ⟨_, l1Sign_fc d, by split <;> (try split) <;> omega⟩
  have bG := gg_bg bU bD
  obtain ⟨cc, hcf, hce⟩ : ∃ c : Int, FC Try.prog 87 [numS (gg u d), numS 1] (.int .i64 c) ∧ (c == 0) = decide (gg u d = 1) := ⟨_, l1Cmp_fc bG (Bg.i64 (n := 1) (by omega) (by omega)) (by omega) (by omega), one_cmp _⟩
  have hg2 : FC Try.prog 88 [numS u, numS d] (numS (gg u d)) := l1Gcd_fc u d bU bD (by omega)
  refine FC.body Try.func55 rfl (by simp [idfL, idf, idfLL_iff, idf_Wd', idf_numS, cells_numS, numS_fold, Rt.av, Rt.cells, l2A, l2C]) (by simp [idfL, idf, idfLL_iff, idf_Wd', idf_numS, cells_numS, numS_fold, Rt.av, Rt.cells, l2A, l2C]) 20 rfl fun nx K hK => ?_
  refine AWP.seqk fun K1 hK1 => ?_
  refine AWP.region (AOPS.all (by simp (disch := first|omega|(simp only[ln];omega)) [idf_Wd', idf_numS, cells_numS, numS_fold, Rt.av, Rt.cells, l2A, l2C]; rfl) ?_)
  refine hK1 _ ?_
  refine AWP.seqk fun K2 hK2 => ?_
  refine AWP.region ?_
  refine AOPS.runk 1 (by simp (disch := first|omega|(simp only[ln];omega)) [List.take_succ_cons, List.take_zero, idf_Wd', idf_numS, cells_numS, numS_fold, Rt.av, Rt.cells, l2A, l2C]; rfl) ?_
  simp only [List.drop_succ_cons, List.drop_zero]
  refine AOPS.fcall (hra) rfl rfl rfl hb58 (by simp (disch := first|omega|(simp only[ln];omega)) [idf_Wd', idf_numS, cells_numS, numS_fold, Rt.av, Rt.cells, l2A, l2C]) (by simp (disch := first|omega|(simp only[ln];omega))) (by simp) ?_
  simp only [puts_some, updo]
  refine AOPS.all (by simp (disch := first|omega|(simp only[ln];omega)) [idf_Wd', idf_numS, cells_numS, numS_fold, Rt.av, Rt.cells, l2A, l2C]; rfl) ?_
  refine hK2 _ ?_
  refine AWP.seqk fun K3 hK3 => ?_
  by_cases hw : 0 < d
  · refine AWP.region ?_
    refine AOPS.runk 2 (by simp (disch := first|omega|(simp only[ln];omega)) [List.take_succ_cons, List.take_zero, idf_Wd', idf_numS, cells_numS, numS_fold, Rt.av, Rt.cells, l2A, l2C]; rfl) ?_
    simp only [List.drop_succ_cons, List.drop_zero]
    refine AOPS.fcall (hs1 hw) rfl rfl rfl hb85 (by simp (disch := first|omega|(simp only[ln];omega)) [idf_Wd', idf_numS, cells_numS, numS_fold, Rt.av, Rt.cells, l2A, l2C]) (by simp (disch := first|omega|(simp only[ln];omega))) (by simp) ?_
    simp only [puts_some, updo]
    refine AOPS.runk 6 (by simp (disch := first|omega|(simp only[ln];omega)) [List.take_succ_cons, List.take_zero, idf_Wd', idf_numS, cells_numS, numS_fold, Rt.av, Rt.cells, l2A, l2C]; rfl) ?_
    simp only [List.drop_succ_cons, List.drop_zero]
    refine AOPS.fcall (hg2) rfl rfl rfl hb88 (by simp (disch := first|omega|(simp only[ln];omega)) [idf_Wd', idf_numS, cells_numS, numS_fold, Rt.av, Rt.cells, l2A, l2C]) (by simp (disch := first|omega|(simp only[ln];omega))) (by simp) ?_
    simp only [puts_some, updo]
    refine AOPS.fcall (l1Int_fc 1 (by omega) (by omega)) rfl rfl rfl hb89 (by simp (disch := first|omega|(simp only[ln];omega)) [idf_Wd', idf_numS, cells_numS, numS_fold, Rt.av, Rt.cells, l2A, l2C]) (by simp (disch := first|omega|(simp only[ln];omega))) (by simp) ?_
    simp only [puts_some, updo]
    refine AOPS.fcall (hcf) rfl rfl rfl hb87 (by simp (disch := first|omega|(simp only[ln];omega)) [idf_Wd', idf_numS, cells_numS, numS_fold, Rt.av, Rt.cells, l2A, l2C]) (by simp (disch := first|omega|(simp only[ln];omega))) (by simp) ?_
    simp only [puts_some, updo]
    refine AOPS.all (by simp (disch := first|omega|(simp only[ln];omega)) [idf_Wd', idf_numS, cells_numS, numS_fold, Rt.av, Rt.cells, l2A, l2C]; rfl) ?_
    refine hK3 _ ?_
    refine AWP.ret ?_
    exact hK _ _ _ _ trivial ((Fin.mk (by simp [aRes, aResL, aRes1, idf_Wd', idf_numS, cells_numS, numS_fold, Rt.av, Rt.cells, l2A, l2C]; rfl)).cast (by rw [hgd]; simp [hw, hce]))
  · obtain ⟨c0, hc0, hc1⟩ := hs0 hw
    have c1 : decide (0 < c0) = false := by simp; omega
    refine AWP.region ?_
    refine AOPS.runk 2 (by simp (disch := first|omega|(simp only[ln];omega)) [List.take_succ_cons, List.take_zero, idf_Wd', idf_numS, cells_numS, numS_fold, Rt.av, Rt.cells, l2A, l2C, c1]; rfl) ?_
    simp only [List.drop_succ_cons, List.drop_zero]
    refine AOPS.fcall (hc0) rfl rfl rfl hb85 (by simp (disch := first|omega|(simp only[ln];omega)) [idf_Wd', c1, idf_numS, cells_numS, numS_fold, Rt.av, Rt.cells, l2A, l2C]) (by simp (disch := first|omega|(simp only[ln];omega)) [c1]) (by simp) ?_
    simp only [puts_some, updo]
    refine AOPS.all (by simp (disch := first|omega|(simp only[ln];omega)) [idf_Wd', idf_numS, cells_numS, numS_fold, Rt.av, Rt.cells, l2A, l2C, c1]; rfl) ?_
    refine hK3 _ ?_
    refine AWP.ret ?_
    exact hK _ _ _ _ trivial ((Fin.mk (by simp [aRes, aResL, aRes1, idf_Wd', idf_numS, cells_numS, numS_fold, Rt.av, Rt.cells, l2A, l2C]; rfl)).cast (by rw [hgd]; simp [hw]))

set_option maxHeartbeats 2000000 in
theorem ratioOfS_fc (x y : W4) (hx : x.ok) (hy : y.ok) : FC Try.prog 107 [wdI x.a x.b x.c x.d, wdI y.a y.b y.c y.d] (.tup [.agg [.int .u64 ((told x.v y.v).1).up.a, .int .u64 ((told x.v y.v).1).up.b, .int .u64 ((told x.v y.v).1).up.c, .int .u64 ((told x.v y.v).1).up.d, .int .u64 ((told x.v y.v).1).down.a, .int .u64 ((told x.v y.v).1).down.b, .int .u64 ((told x.v y.v).1).down.c, .int .u64 ((told x.v y.v).1).down.d], .bool (told x.v y.v).2]) := by
  have bx := W4.bg hx
  have by' := W4.bg hy
  have hyz : y.v = 0 ↔ y = W40 := ⟨fun h => W4.inj hy W40_ok (h.trans W40_v.symm), fun h => by rw [h, W40_v]⟩
  refine FC.body Try.func107 rfl (by simp [idfL, idf, idfLL_iff, idf_Wd', idf_numS, cells_numS, numS_fold, wdI]) (by simp [idfL, idf, idfLL_iff, idf_Wd', idf_numS, cells_numS, numS_fold, wdI]) 18 rfl fun nx K hK => ?_
  refine AWP.seqk fun K1 hK1 => ?_
  refine AWP.region (AOPS.all (by simp (disch := first|omega|(simp only[ln];omega)) [idf_Wd', idf_numS, cells_numS, numS_fold, wdI]; rfl) ?_)
  refine hK1 _ ?_
  refine AWP.seqk fun K2 hK2 => ?_
  refine AWP.seqk fun K3 hK3 => ?_
  refine AWP.region (AOPS.all (by simp (disch := first|omega|(simp only[ln];omega)) [idf_Wd', idf_numS, cells_numS, numS_fold, wdI, eqW40]; rfl) ?_)
  refine hK3 _ ?_
  refine cond_ok (decide (y = W40)) (by simp (disch := first|omega|(simp only[ln];omega))) (fun h8 => ?_) (fun h8 => ?_)
  · try simp only [decide_eq_true_eq, decide_eq_false_iff_not] at h8
    refine AWP.seqk fun K4 hK4 => ?_
    refine AWP.region (AOPS.all (by simp (disch := first|omega|(simp only[ln];omega)) [idf_Wd', idf_numS, cells_numS, numS_fold, wdI]; rfl) ?_)
    refine hK4 _ ?_
    refine AWP.ret ?_
    exact hK _ _ _ _ trivial ((Fin.mk (by simp [aRes, aResL, aRes1, idf_Wd', idf_numS, cells_numS, numS_fold, wdI]; rfl)).cast (by rw [hyz.2 h8, told_zero]; rfl))
  · try simp only [decide_eq_true_eq, decide_eq_false_iff_not] at h8
    have hyn : y.v ≠ 0 := fun h => h8 (hyz.1 h)
    refine AWP.skip ?_
    refine hK2 _ ?_
    refine AWP.seqk fun K5 hK5 => ?_
    refine AWP.draw 8 Try.checked.mixed (by kernel_rfl) (by simp) ?_
    simp only [List.take_succ_cons, List.take_zero, List.drop_succ_cons, List.drop_zero]
    refine DP.runFk 1 (by simp (disch := first|omega|(simp only[ln];omega)) [runDf.eq_def, runF1, runF2, stepF.eq_def, updo.eq_def, hupo.eq_def, opSto1.eq_def, List.take_succ_cons, List.take_zero, idf_Wd', idf_numS, cells_numS, numS_fold, wdI]; rfl) fun fs6 hfs6 => ?_
    replace hfs6 : fs6.length = 1 := hfs6.trans rfl
    simp only [List.drop_succ_cons, List.drop_zero]
    refine DP.fcall (l1From4_fc x (hx)) rfl rfl rfl hb106 (by simp (disch := first|omega|(simp only[ln];omega)) [idf_Wd', idf_numS, cells_numS, numS_fold, wdI]) (by simp (disch := first|omega|(simp only[ln];omega))) (by simp) ?_
    simp only [updo]
    refine DP.runFk 1 (by simp (disch := first|omega|(simp only[ln];omega)) [runDf.eq_def, runF1, runF2, stepF.eq_def, updo.eq_def, hupo.eq_def, opSto1.eq_def, List.take_succ_cons, List.take_zero, idf_Wd', idf_numS, cells_numS, numS_fold, wdI]; rfl) fun fs7 hfs7 => ?_
    replace hfs7 : fs7.length = 1 := hfs7.trans rfl
    simp only [List.drop_succ_cons, List.drop_zero]
    refine DP.fcall (l1From4_fc y (hy)) rfl rfl rfl hb106 (by simp (disch := first|omega|(simp only[ln];omega)) [idf_Wd', idf_numS, cells_numS, numS_fold, wdI]) (by simp (disch := first|omega|(simp only[ln];omega))) (by simp) ?_
    simp only [updo]
    refine DP.fcall (l2Make_fc (j := 4) x.v y.v hyn bx by' (by omega) (by omega)) rfl rfl rfl hb110 (by simp (disch := first|omega|(simp only[ln];omega)) [idf_Wd', idf_numS, cells_numS, numS_fold, wdI]) (by simp (disch := first|omega|(simp only[ln];omega))) (by simp) ?_
    simp only [updo]
    refine DP.fcall (l2Ratio_fc (j := 4) x.v y.v hyn bx by' (by omega)) rfl rfl rfl hb56 (by simp (disch := first|omega|(simp only[ln];omega)) [idf_Wd', idf_numS, cells_numS, numS_fold, wdI]) (by simp (disch := first|omega|(simp only[ln];omega))) (by simp) ?_
    simp only [updo]
    refine DP.runFk 2 (by simp (disch := first|omega|(simp only[ln];omega)) [runDf.eq_def, runF1, runF2, stepF.eq_def, updo.eq_def, hupo.eq_def, opSto1.eq_def, List.take_succ_cons, List.take_zero, idf_Wd', idf_numS, cells_numS, numS_fold, wdI]; rfl) fun fs8 hfs8 => ?_
    replace hfs8 : fs8.length = 2 := hfs8.trans rfl
    simp only [List.drop_succ_cons, List.drop_zero]
    refine DQ.runF (m := 8) (by simp only [List.length_append, List.length_cons, List.length_nil, hfs6, hfs7, hfs8]; omega) _ _ _ (by kernel_rfl) rfl (by simp (disch := first|omega|(simp only[ln];omega)) [runDf.eq_def, runF1, runF2, stepF.eq_def, updo.eq_def, hupo.eq_def, opSto1.eq_def, idf_Wd', idf_numS, cells_numS, numS_fold, wdI]; rfl) ?_
    refine hK5 _ ?_
    refine AWP.ret ?_
    exact hK _ _ _ _ trivial (Fin.mk (by simp (disch := first|omega|(simp only[ln];omega)) [aRes, aResL, aRes1, idf_Wd', idf_numS, cells_numS, numS_fold, wdI]))

set_option maxHeartbeats 2000000 in
theorem ratioCmpS_fc (a b : Rt) (ha : a.ok) (hb : b.ok) : FC Try.prog 28 [a.av, b.av] (.tup [.int .i64 (cmpF a b).1, .bool (cmpF a b).2]) := by
  have aU := W4.bg ha.1
  have aD := W4.bg ha.2
  have bU := W4.bg hb.1
  have bD := W4.bg hb.2
  have bdd := aD.mul bD
  refine FC.body Try.func28 rfl (by simp [idfL, idf, idfLL_iff, idf_Wd', idf_numS, cells_numS, numS_fold, Rt.av, Rt.cells, l2A, l2C]) (by simp [idfL, idf, idfLL_iff, idf_Wd', idf_numS, cells_numS, numS_fold, Rt.av, Rt.cells, l2A, l2C]) 19 rfl fun nx K hK => ?_
  refine AWP.seqk fun K1 hK1 => ?_
  refine AWP.region (AOPS.all (by simp (disch := first|omega|(simp only[ln];omega)) [idf_Wd', idf_numS, cells_numS, numS_fold, Rt.av, Rt.cells, l2A, l2C]; rfl) ?_)
  refine hK1 _ ?_
  refine AWP.seqk fun K2 hK2 => ?_
  refine AWP.seqk fun K3 hK3 => ?_
  cases hga : a.good
  · refine AWP.region ?_
    refine AOPS.runk 1 (by simp (disch := first|omega|(simp only[ln];omega)) [List.take_succ_cons, List.take_zero, idf_Wd', idf_numS, cells_numS, numS_fold, Rt.av, Rt.cells, l2A, l2C, hga]; rfl) ?_
    simp only [List.drop_succ_cons, List.drop_zero]
    refine AOPS.fcall (ratioOkS_fc a ha) rfl rfl rfl hb55 (by simp (disch := first|omega|(simp only[ln];omega)) [idf_Wd', hga, idf_numS, cells_numS, numS_fold, Rt.av, Rt.cells, l2A, l2C]) (by simp (disch := first|omega|(simp only[ln];omega)) [hga]) (by simp) ?_
    simp only [puts_some, updo]
    refine AOPS.all (by simp (disch := first|omega|(simp only[ln];omega)) [idf_Wd', idf_numS, cells_numS, numS_fold, Rt.av, Rt.cells, l2A, l2C, hga]; rfl) ?_
    refine hK3 _ ?_
    refine cond_ok _ (by simp (disch := first|omega|(simp only[ln];omega)); rfl) (fun h13 => ?_) (fun h13 => ?_)
    · try simp only [decide_eq_true_eq, decide_eq_false_iff_not] at h13
      refine AWP.seqk fun K4 hK4 => ?_
      refine AWP.region (AOPS.all (by simp (disch := first|omega|(simp only[ln];omega)) [idf_Wd', idf_numS, cells_numS, numS_fold, Rt.av, Rt.cells, l2A, l2C]; rfl) ?_)
      refine hK4 _ ?_
      refine AWP.ret ?_
      exact hK _ _ _ _ trivial ((Fin.mk (by simp [aRes, aResL, aRes1, idf_Wd', idf_numS, cells_numS, numS_fold, Rt.av, Rt.cells, l2A, l2C]; rfl)).cast (by unfold cmpF; rw [hga]; rfl))
    · simp at h13
  · refine AWP.region ?_
    refine AOPS.runk 1 (by simp (disch := first|omega|(simp only[ln];omega)) [List.take_succ_cons, List.take_zero, idf_Wd', idf_numS, cells_numS, numS_fold, Rt.av, Rt.cells, l2A, l2C, hga]; rfl) ?_
    simp only [List.drop_succ_cons, List.drop_zero]
    refine AOPS.fcall (ratioOkS_fc a ha) rfl rfl rfl hb55 (by simp (disch := first|omega|(simp only[ln];omega)) [idf_Wd', hga, idf_numS, cells_numS, numS_fold, Rt.av, Rt.cells, l2A, l2C]) (by simp (disch := first|omega|(simp only[ln];omega)) [hga]) (by simp) ?_
    simp only [puts_some, updo]
    refine AOPS.runk 3 (by simp (disch := first|omega|(simp only[ln];omega)) [List.take_succ_cons, List.take_zero, idf_Wd', idf_numS, cells_numS, numS_fold, Rt.av, Rt.cells, l2A, l2C, hga]; rfl) ?_
    simp only [List.drop_succ_cons, List.drop_zero]
    refine AOPS.fcall (ratioOkS_fc b hb) rfl rfl rfl hb55 (by simp (disch := first|omega|(simp only[ln];omega)) [idf_Wd', hga, idf_numS, cells_numS, numS_fold, Rt.av, Rt.cells, l2A, l2C]) (by simp (disch := first|omega|(simp only[ln];omega)) [hga]) (by simp) ?_
    simp only [puts_some, updo]
    refine AOPS.all (by simp (disch := first|omega|(simp only[ln];omega)) [idf_Wd', idf_numS, cells_numS, numS_fold, Rt.av, Rt.cells, l2A, l2C, hga]; rfl) ?_
    refine hK3 _ ?_
    refine cond_ok (!b.good) (by simp (disch := first|omega|(simp only[ln];omega))) (fun h13 => ?_) (fun h13 => ?_)
    · try simp only [decide_eq_true_eq, decide_eq_false_iff_not] at h13
      have hgb : b.good = false := by simpa using h13
      refine AWP.seqk fun K5 hK5 => ?_
      refine AWP.region (AOPS.all (by simp (disch := first|omega|(simp only[ln];omega)) [idf_Wd', idf_numS, cells_numS, numS_fold, Rt.av, Rt.cells, l2A, l2C]; rfl) ?_)
      refine hK5 _ ?_
      refine AWP.ret ?_
      exact hK _ _ _ _ trivial ((Fin.mk (by simp [aRes, aResL, aRes1, idf_Wd', idf_numS, cells_numS, numS_fold, Rt.av, Rt.cells, l2A, l2C]; rfl)).cast (by unfold cmpF; rw [hga, hgb]; rfl))
    · try simp only [decide_eq_true_eq, decide_eq_false_iff_not] at h13
      have hgb : b.good = true := by simpa using h13
      have hdz : a.down.v * b.down.v ≠ 0 := Int.ne_of_gt (Int.mul_pos (good_down hga) (good_down hgb))
      refine AWP.skip ?_
      refine hK2 _ ?_
      refine AWP.seqk fun K6 hK6 => ?_
      refine AWP.draw 5 Try.checked.mixed (by kernel_rfl) (by simp) ?_
      simp only [List.take_succ_cons, List.take_zero, List.drop_succ_cons, List.drop_zero]
      refine DP.runFk 1 (by simp (disch := first|omega|(simp only[ln];omega)) [runDf.eq_def, runF1, runF2, stepF.eq_def, updo.eq_def, hupo.eq_def, opSto1.eq_def, List.take_succ_cons, List.take_zero, idf_Wd', idf_numS, cells_numS, numS_fold, Rt.av, Rt.cells, l2A, l2C]; rfl) fun fs7 hfs7 => ?_
      replace hfs7 : fs7.length = 1 := hfs7.trans rfl
      simp only [List.drop_succ_cons, List.drop_zero]
      refine DP.fcall (l2Of_fc a ha) rfl rfl rfl hb58 (by simp (disch := first|omega|(simp only[ln];omega)) [idf_Wd', idf_numS, cells_numS, numS_fold, Rt.av, Rt.cells, l2A, l2C]) (by simp (disch := first|omega|(simp only[ln];omega))) (by simp) ?_
      simp only [updo]
      refine DP.runFk 1 (by simp (disch := first|omega|(simp only[ln];omega)) [runDf.eq_def, runF1, runF2, stepF.eq_def, updo.eq_def, hupo.eq_def, opSto1.eq_def, List.take_succ_cons, List.take_zero, idf_Wd', idf_numS, cells_numS, numS_fold, Rt.av, Rt.cells, l2A, l2C]; rfl) fun fs8 hfs8 => ?_
      replace hfs8 : fs8.length = 1 := hfs8.trans rfl
      simp only [List.drop_succ_cons, List.drop_zero]
      refine DP.fcall (l2Of_fc b hb) rfl rfl rfl hb58 (by simp (disch := first|omega|(simp only[ln];omega)) [idf_Wd', idf_numS, cells_numS, numS_fold, Rt.av, Rt.cells, l2A, l2C]) (by simp (disch := first|omega|(simp only[ln];omega))) (by simp) ?_
      simp only [updo]
      refine DP.fcall (l2Cmp_fc (j := 4) a.up.v a.down.v b.up.v b.down.v aU aD bU bD (by omega)) rfl rfl rfl hb68 (by simp (disch := first|omega|(simp only[ln];omega)) [idf_Wd', idf_numS, cells_numS, numS_fold, Rt.av, Rt.cells, l2A, l2C]) (by simp (disch := first|omega|(simp only[ln];omega))) (by simp) ?_
      simp only [updo]
      refine DQ.runF (m := 5) (by simp only [List.length_append, List.length_cons, List.length_nil, hfs7, hfs8]; omega) _ _ _ (by kernel_rfl) rfl (by simp (disch := first|omega|(simp only[ln];omega)) [runDf.eq_def, runF1, runF2, stepF.eq_def, updo.eq_def, hupo.eq_def, opSto1.eq_def, idf_Wd', idf_numS, cells_numS, numS_fold, Rt.av, Rt.cells, l2A, l2C]; rfl) ?_
      refine hK6 _ ?_
      refine AWP.ret ?_
      exact hK _ _ _ _ trivial ((Fin.mk (by simp [aRes, aResL, aRes1, idf_Wd', idf_numS, cells_numS, numS_fold, Rt.av, Rt.cells, l2A, l2C]; rfl)).cast (by unfold cmpF; rw [hga, hgb]; rfl))

end Go.Proofs.Ytdcggmbnjonemaa

/- Walks: drawn fractions. -/
namespace Go.Proofs.Ytdcggmbnjonemaa
open Go Go.RowKit
set_option linter.unusedSimpArgs false
set_option linter.unusedVariables false
set_option maxRecDepth 100000
attribute [local simp] List.getElem?_cons_zero List.getElem?_cons_succ List.getElem?_toArray runOps stepOp.eq_def agd.eq_def dstOk.eq_def opVal.eq_def opNew.eq_def opSto.eq_def ev.eq_def cv.eq_def puts_some puts_none upd_ap lst.eq_def aBin.eq_def aUn.eq_def aBi_str aBi_isl aBi_osl aBi_nsl aBi_max aBi_min aBi_max3 aConv.eq_def aLd.eq_def aLoad.eq_def aField.eq_def aFld.eq_def aIdx_isl aIdx_osl aSlc_isl aSlc_osl aSlc_str aSlc_nsl bnd.eq_def evs_nil evs_cons aBuild.eq_def aFill splice.eq_def cells_agg cells_int cells_bool cells_str cells_nil cells_nsl cells_isl cells_osl cells_ptr cells_ip cells_fn cells_Wd one_int one_bool one_str one_nil one_nsl one_isl one_osl one_ptr one_ip one_fn one_Wd aSets hupd_eq hupd_ne wrap_i64s wrap_u64s wrap_u32s wrap_u8s wd_getD wd_set wd_len wd_replicate wd_one wd_fold fz_osl hupd_same aSix.eq_def aEqS.eq_def aEqB_bool aEqB_nsl aEqB_nil
attribute [local simp] szT2 byT2 agT2 unT2 zoT2 szT33 byT33 agT33 flT33 fdT33_0 fdT33_1 fdT33_2 fdT33_3 zoT33 szT40 byT40 agT40 flT40 fdT40_0 fdT40_1 zoT40

set_option maxHeartbeats 8000000 in
theorem ratio_ac (l : List Int) (p id : Nat) (H : Heap) (nx : Nat) (dl : Dig 256 l) (hl : l.length ≤ 1048576) (hp : p ≤ l.length) (hH : H id = some (2, [[Wd .u8 l, .int .i64 (p : Int)]])) (hd : ∀ i q, H i = some q → i < nx) : ACall Try.prog 51 [.ptr id 0 0] H nx (fun r H' nx' => (∃ x : Rt, r = .agg [.int .u64 (x).up.a, .int .u64 (x).up.b, .int .u64 (x).up.c, .int .u64 (x).up.d, .int .u64 (x).down.a, .int .u64 (x).down.b, .int .u64 (x).down.c, .int .u64 (x).down.d] ∧ x.ok) ∧ (∃ p' : Nat, p' ≤ l.length ∧ H' = hupd H id (some (2, [[Wd .u8 l, .int .i64 (p' : Int)]]))) ∧ nx ≤ nx') := by
  have hid := hd id _ hH
  refine ACall.body Try.func51 rfl 38 rfl fun K hK => ?_
  refine AWP.seqk fun K1 hK1 => ?_
  refine AWP.region (AOPS.all (by simp (disch := first|omega|(simp only[ln];omega)) [idf_Wd', wdI]; rfl) ?_)
  refine hK1 _ ?_
  refine AWP.seqk fun K2 hK2 => ?_
  refine AWP.seqk fun K3 hK3 => ?_
  refine AWP.region ?_
  refine AOPS.runk 1 (by simp (disch := first|omega|(simp only[ln];omega)) [List.take_succ_cons, List.take_zero, idf_Wd', wdI, hH]; rfl) ?_
  simp only [List.drop_succ_cons, List.drop_zero]
  refine AOPS.old fun hold1 => ?_
  refine AOPS.acall (once_ac 12 (by omega) (by omega) l p id _ _ dl hl hp (by simp (disch := omega) [hH]) hold1) rfl rfl rfl hb46 (by simp (disch := first|omega|(simp only[ln];omega)) [idf_Wd', hH, wdI]) (by simp (disch := first|omega|(simp only[ln];omega)) [hH]) (by simp) ?_
  rintro _ _ nx2 ⟨⟨b0, rfl⟩, ⟨p2, hp2, rfl⟩, hnx2⟩
  try simp only [] at hnx2
  clear hold1
  simp only [puts_some, updo]
  refine AOPS.nil ?_
  refine hK3 _ ?_
  refine cond_ok (b0) (by simp (disch := first|omega|(simp only[ln];omega))) (fun h6 => ?_) (fun h6 => ?_)
  · try simp only [decide_eq_true_eq, decide_eq_false_iff_not] at h6
    refine AWP.seqk fun K4 hK4 => ?_
    refine AWP.region ?_
    refine AOPS.runk 1 (by simp (disch := first|omega|(simp only[ln];omega)) [List.take_succ_cons, List.take_zero, idf_Wd', wdI]; rfl) ?_
    simp only [List.drop_succ_cons, List.drop_zero]
    refine AOPS.old fun hold1 => ?_
    refine AOPS.acall (wide_ac l p2 id _ _ dl hl hp2 (by simp (disch := omega) [hH]) hold1) rfl rfl rfl hb94 (by simp (disch := first|omega|(simp only[ln];omega)) [idf_Wd', wdI]) (by simp (disch := first|omega|(simp only[ln];omega))) (by simp) ?_
    rintro _ _ nx3 ⟨⟨xa, rfl, xao⟩, ⟨p3, hp3, rfl⟩, hnx3⟩
    try simp only [] at hnx3
    clear hold1
    simp only [puts_some, updo]
    refine AOPS.runk 1 (by simp (disch := first|omega|(simp only[ln];omega)) [List.take_succ_cons, List.take_zero, idf_Wd', wdI]; rfl) ?_
    simp only [List.drop_succ_cons, List.drop_zero]
    refine AOPS.old fun hold3 => ?_
    refine AOPS.acall (wide_ac l p3 id _ _ dl hl hp3 (by simp (disch := omega) [hH]) hold3) rfl rfl rfl hb94 (by simp (disch := first|omega|(simp only[ln];omega)) [idf_Wd', wdI]) (by simp (disch := first|omega|(simp only[ln];omega))) (by simp) ?_
    rintro _ _ nx4 ⟨⟨xb, rfl, xbo⟩, ⟨p4, hp4, rfl⟩, hnx4⟩
    try simp only [] at hnx4
    clear hold3
    simp only [puts_some, updo]
    refine AOPS.all (by simp (disch := first|omega|(simp only[ln];omega)) [idf_Wd', wdI]; rfl) ?_
    refine hK4 _ ?_
    refine AWP.ret ?_
    exact hK _ _ _ _ _ trivial ((Fin.mk (r := .agg [.int .u64 ((⟨xa, xb⟩ : Rt)).up.a, .int .u64 ((⟨xa, xb⟩ : Rt)).up.b, .int .u64 ((⟨xa, xb⟩ : Rt)).up.c, .int .u64 ((⟨xa, xb⟩ : Rt)).up.d, .int .u64 ((⟨xa, xb⟩ : Rt)).down.a, .int .u64 ((⟨xa, xb⟩ : Rt)).down.b, .int .u64 ((⟨xa, xb⟩ : Rt)).down.c, .int .u64 ((⟨xa, xb⟩ : Rt)).down.d]) (by simp (disch := omega) [aRes, aResL, aRes1, idf_Wd', wdI])).restr (fun i => decide (i < nx))) (⟨⟨(⟨xa, xb⟩ : Rt), rfl, ⟨xao, xbo⟩⟩, ⟨p4, hp4, by simp (disch := first | omega | (simp; done) | (simp; omega)) [hrestr_in, hrestr_out, hrestr_all hd, hupd_same]⟩, by first | omega | (simp at *; omega)⟩)
  · try simp only [decide_eq_true_eq, decide_eq_false_iff_not] at h6
    refine AWP.skip ?_
    refine hK2 _ ?_
    refine AWP.seqk fun K5 hK5 => ?_
    refine AWP.region ?_
    refine AOPS.runk 1 (by simp (disch := first|omega|(simp only[ln];omega)) [List.take_succ_cons, List.take_zero, idf_Wd', wdI]; rfl) ?_
    simp only [List.drop_succ_cons, List.drop_zero]
    refine AOPS.old fun hold1 => ?_
    refine AOPS.acall (wide_ac l p2 id _ _ dl hl hp2 (by simp (disch := omega) [hH]) hold1) rfl rfl rfl hb94 (by simp (disch := first|omega|(simp only[ln];omega)) [idf_Wd', wdI]) (by simp (disch := first|omega|(simp only[ln];omega))) (by simp) ?_
    rintro _ _ nx3 ⟨⟨xa, rfl, xao⟩, ⟨p3, hp3, rfl⟩, hnx3⟩
    try simp only [] at hnx3
    clear hold1
    simp only [puts_some, updo]
    refine AOPS.runk 1 (by simp (disch := first|omega|(simp only[ln];omega)) [List.take_succ_cons, List.take_zero, idf_Wd', wdI]; rfl) ?_
    simp only [List.drop_succ_cons, List.drop_zero]
    refine AOPS.old fun hold3 => ?_
    refine AOPS.acall (wide_ac l p3 id _ _ dl hl hp3 (by simp (disch := omega) [hH]) hold3) rfl rfl rfl hb94 (by simp (disch := first|omega|(simp only[ln];omega)) [idf_Wd', wdI]) (by simp (disch := first|omega|(simp only[ln];omega))) (by simp) ?_
    rintro _ _ nx4 ⟨⟨xb, rfl, xbo⟩, ⟨p4, hp4, rfl⟩, hnx4⟩
    try simp only [] at hnx4
    clear hold3
    have ho := told_ok xa.v xb.v
    have hrf := ratioOfS_fc xa xb xao xbo
    generalize told xa.v xb.v = o at *
    simp only [puts_some, updo]
    refine AOPS.fcall (hrf) rfl rfl rfl hb107 (by simp (disch := first|omega|(simp only[ln];omega)) [idf_Wd', wdI]) (by simp (disch := first|omega|(simp only[ln];omega))) (by simp) ?_
    simp only [puts_some, updo]
    refine AOPS.all (by simp (disch := first|omega|(simp only[ln];omega)) [idf_Wd', wdI]; rfl) ?_
    refine hK5 _ ?_
    refine AWP.seqk fun K6 hK6 => ?_
    refine AWP.seqk fun K7 hK7 => ?_
    cases hO : o.2
    · refine AWP.region (AOPS.all (by simp (disch := first|omega|(simp only[ln];omega)) [idf_Wd', wdI, hO]; rfl) ?_)
      refine hK7 _ ?_
      refine cond_ok _ (by simp (disch := first|omega|(simp only[ln];omega)); rfl) (fun h25 => ?_) (fun h25 => ?_)
      · try simp only [decide_eq_true_eq, decide_eq_false_iff_not] at h25
        refine AWP.region ?_
        refine AOPS.runk 1 (by simp (disch := first|omega|(simp only[ln];omega)) [List.take_succ_cons, List.take_zero, idf_Wd', wdI]; rfl) ?_
        simp only [List.drop_succ_cons, List.drop_zero]
        refine AOPS.old fun hold1 => ?_
        refine AOPS.acall (near_ac (-20) (20) (by omega) (by omega) (by omega) l p4 id _ _ dl hl hp4 (by simp (disch := omega) [hH]) hold1) rfl rfl rfl hb97 (by simp (disch := first|omega|(simp only[ln];omega)) [idf_Wd', wdI]) (by simp (disch := first|omega|(simp only[ln];omega))) (by simp) ?_
        rintro _ _ nx5 ⟨⟨na, rfl, na0, na1⟩, ⟨p5, hp5, rfl⟩, hnx5⟩
        try simp only [] at hnx5
        clear hold1
        simp only [puts_some, updo]
        refine AOPS.fcall (wideOfS_fc na (by omega) (by omega)) rfl rfl rfl hb95 (by simp (disch := first|omega|(simp only[ln];omega)) [idf_Wd', wdI]) (by simp (disch := first|omega|(simp only[ln];omega))) (by simp) ?_
        simp only [puts_some, updo]
        refine AOPS.runk 1 (by simp (disch := first|omega|(simp only[ln];omega)) [List.take_succ_cons, List.take_zero, idf_Wd', wdI]; rfl) ?_
        simp only [List.drop_succ_cons, List.drop_zero]
        refine AOPS.old fun hold4 => ?_
        refine AOPS.acall (near_ac (0) (11) (by omega) (by omega) (by omega) l p5 id _ _ dl hl hp5 (by simp (disch := omega) [hH]) hold4) rfl rfl rfl hb97 (by simp (disch := first|omega|(simp only[ln];omega)) [idf_Wd', wdI]) (by simp (disch := first|omega|(simp only[ln];omega))) (by simp) ?_
        rintro _ _ nx6 ⟨⟨nb, rfl, nb0, nb1⟩, ⟨p6, hp6, rfl⟩, hnx6⟩
        try simp only [] at hnx6
        clear hold4
        simp only [puts_some, updo]
        refine AOPS.runk 1 (by simp (disch := first|omega|(simp only[ln];omega)) [List.take_succ_cons, List.take_zero, idf_Wd', wdI]; rfl) ?_
        simp only [List.drop_succ_cons, List.drop_zero]
        refine AOPS.fcall (wideOfS_fc (1 + nb) (by omega) (by omega)) rfl rfl rfl hb95 (by simp (disch := first|omega|(simp only[ln];omega)) [idf_Wd', wdI]) (by simp (disch := first|omega|(simp only[ln];omega))) (by simp) ?_
        simp only [puts_some, updo]
        refine AOPS.fcall (ratioOfS_fc (W4z na) (W4z (1 + nb)) (W4z_ok _) (W4z_ok _)) rfl rfl rfl hb107 (by simp (disch := first|omega|(simp only[ln];omega)) [idf_Wd', wdI]) (by simp (disch := first|omega|(simp only[ln];omega))) (by simp) ?_
        simp only [puts_some, updo]
        refine AOPS.all (by simp (disch := first|omega|(simp only[ln];omega)) [idf_Wd', wdI]; rfl) ?_
        refine hK6 _ ?_
        refine AWP.seqk fun K8 hK8 => ?_
        refine AWP.region (AOPS.all (by simp (disch := first|omega|(simp only[ln];omega)) [idf_Wd', wdI]; rfl) ?_)
        refine hK8 _ ?_
        refine AWP.ret ?_
        exact hK _ _ _ _ _ trivial ((Fin.mk (r := .agg [.int .u64 ((told (W4z na).v (W4z (1 + nb)).v).1).up.a, .int .u64 ((told (W4z na).v (W4z (1 + nb)).v).1).up.b, .int .u64 ((told (W4z na).v (W4z (1 + nb)).v).1).up.c, .int .u64 ((told (W4z na).v (W4z (1 + nb)).v).1).up.d, .int .u64 ((told (W4z na).v (W4z (1 + nb)).v).1).down.a, .int .u64 ((told (W4z na).v (W4z (1 + nb)).v).1).down.b, .int .u64 ((told (W4z na).v (W4z (1 + nb)).v).1).down.c, .int .u64 ((told (W4z na).v (W4z (1 + nb)).v).1).down.d]) (by simp (disch := omega) [aRes, aResL, aRes1, idf_Wd', wdI])).restr (fun i => decide (i < nx))) (⟨⟨(told (W4z na).v (W4z (1 + nb)).v).1, rfl, told_ok _ _⟩, ⟨p6, hp6, by simp (disch := first | omega | (simp; done) | (simp; omega)) [hrestr_in, hrestr_out, hrestr_all hd, hupd_same]⟩, by first | omega | (simp at *; omega)⟩)
      · simp at h25
    · refine AWP.region ?_
      refine AOPS.runk 4 (by simp (disch := first|omega|(simp only[ln];omega)) [List.take_succ_cons, List.take_zero, idf_Wd', wdI, hO]; rfl) ?_
      simp only [List.drop_succ_cons, List.drop_zero]
      refine AOPS.old fun hold4 => ?_
      refine AOPS.acall (once_ac 2 (by omega) (by omega) l p4 id _ _ dl hl hp4 (by simp (disch := omega) [hH]) hold4) rfl rfl rfl hb46 (by simp (disch := first|omega|(simp only[ln];omega)) [idf_Wd', hO, wdI]) (by simp (disch := first|omega|(simp only[ln];omega)) [hO]) (by simp) ?_
      rintro _ _ nx5 ⟨⟨b, rfl⟩, ⟨p5, hp5, rfl⟩, hnx5⟩
      try simp only [] at hnx5
      clear hold4
      simp only [puts_some, updo]
      refine AOPS.all (by simp (disch := first|omega|(simp only[ln];omega)) [idf_Wd', wdI, hO]; rfl) ?_
      refine hK7 _ ?_
      refine cond_ok (b) (by simp (disch := first|omega|(simp only[ln];omega))) (fun h25 => ?_) (fun h25 => ?_)
      · try simp only [decide_eq_true_eq, decide_eq_false_iff_not] at h25
        refine AWP.region ?_
        refine AOPS.runk 1 (by simp (disch := first|omega|(simp only[ln];omega)) [List.take_succ_cons, List.take_zero, idf_Wd', wdI]; rfl) ?_
        simp only [List.drop_succ_cons, List.drop_zero]
        refine AOPS.old fun hold1 => ?_
        refine AOPS.acall (near_ac (-20) (20) (by omega) (by omega) (by omega) l p5 id _ _ dl hl hp5 (by simp (disch := omega) [hH]) hold1) rfl rfl rfl hb97 (by simp (disch := first|omega|(simp only[ln];omega)) [idf_Wd', wdI]) (by simp (disch := first|omega|(simp only[ln];omega))) (by simp) ?_
        rintro _ _ nx6 ⟨⟨na, rfl, na0, na1⟩, ⟨p6, hp6, rfl⟩, hnx6⟩
        try simp only [] at hnx6
        clear hold1
        simp only [puts_some, updo]
        refine AOPS.fcall (wideOfS_fc na (by omega) (by omega)) rfl rfl rfl hb95 (by simp (disch := first|omega|(simp only[ln];omega)) [idf_Wd', wdI]) (by simp (disch := first|omega|(simp only[ln];omega))) (by simp) ?_
        simp only [puts_some, updo]
        refine AOPS.runk 1 (by simp (disch := first|omega|(simp only[ln];omega)) [List.take_succ_cons, List.take_zero, idf_Wd', wdI]; rfl) ?_
        simp only [List.drop_succ_cons, List.drop_zero]
        refine AOPS.old fun hold4 => ?_
        refine AOPS.acall (near_ac (0) (11) (by omega) (by omega) (by omega) l p6 id _ _ dl hl hp6 (by simp (disch := omega) [hH]) hold4) rfl rfl rfl hb97 (by simp (disch := first|omega|(simp only[ln];omega)) [idf_Wd', wdI]) (by simp (disch := first|omega|(simp only[ln];omega))) (by simp) ?_
        rintro _ _ nx7 ⟨⟨nb, rfl, nb0, nb1⟩, ⟨p7, hp7, rfl⟩, hnx7⟩
        try simp only [] at hnx7
        clear hold4
        simp only [puts_some, updo]
        refine AOPS.runk 1 (by simp (disch := first|omega|(simp only[ln];omega)) [List.take_succ_cons, List.take_zero, idf_Wd', wdI]; rfl) ?_
        simp only [List.drop_succ_cons, List.drop_zero]
        refine AOPS.fcall (wideOfS_fc (1 + nb) (by omega) (by omega)) rfl rfl rfl hb95 (by simp (disch := first|omega|(simp only[ln];omega)) [idf_Wd', wdI]) (by simp (disch := first|omega|(simp only[ln];omega))) (by simp) ?_
        simp only [puts_some, updo]
        refine AOPS.fcall (ratioOfS_fc (W4z na) (W4z (1 + nb)) (W4z_ok _) (W4z_ok _)) rfl rfl rfl hb107 (by simp (disch := first|omega|(simp only[ln];omega)) [idf_Wd', wdI]) (by simp (disch := first|omega|(simp only[ln];omega))) (by simp) ?_
        simp only [puts_some, updo]
        refine AOPS.all (by simp (disch := first|omega|(simp only[ln];omega)) [idf_Wd', wdI]; rfl) ?_
        refine hK6 _ ?_
        refine AWP.seqk fun K9 hK9 => ?_
        refine AWP.region (AOPS.all (by simp (disch := first|omega|(simp only[ln];omega)) [idf_Wd', wdI]; rfl) ?_)
        refine hK9 _ ?_
        refine AWP.ret ?_
        exact hK _ _ _ _ _ trivial ((Fin.mk (r := .agg [.int .u64 ((told (W4z na).v (W4z (1 + nb)).v).1).up.a, .int .u64 ((told (W4z na).v (W4z (1 + nb)).v).1).up.b, .int .u64 ((told (W4z na).v (W4z (1 + nb)).v).1).up.c, .int .u64 ((told (W4z na).v (W4z (1 + nb)).v).1).up.d, .int .u64 ((told (W4z na).v (W4z (1 + nb)).v).1).down.a, .int .u64 ((told (W4z na).v (W4z (1 + nb)).v).1).down.b, .int .u64 ((told (W4z na).v (W4z (1 + nb)).v).1).down.c, .int .u64 ((told (W4z na).v (W4z (1 + nb)).v).1).down.d]) (by simp (disch := omega) [aRes, aResL, aRes1, idf_Wd', wdI])).restr (fun i => decide (i < nx))) (⟨⟨(told (W4z na).v (W4z (1 + nb)).v).1, rfl, told_ok _ _⟩, ⟨p7, hp7, by simp (disch := first | omega | (simp; done) | (simp; omega)) [hrestr_in, hrestr_out, hrestr_all hd, hupd_same]⟩, by first | omega | (simp at *; omega)⟩)
      · try simp only [decide_eq_true_eq, decide_eq_false_iff_not] at h25
        refine AWP.skip ?_
        refine hK6 _ ?_
        refine AWP.seqk fun K10 hK10 => ?_
        refine AWP.region (AOPS.all (by simp (disch := first|omega|(simp only[ln];omega)) [idf_Wd', wdI]; rfl) ?_)
        refine hK10 _ ?_
        refine AWP.ret ?_
        exact hK _ _ _ _ _ trivial ((Fin.mk (r := .agg [.int .u64 (o.1).up.a, .int .u64 (o.1).up.b, .int .u64 (o.1).up.c, .int .u64 (o.1).up.d, .int .u64 (o.1).down.a, .int .u64 (o.1).down.b, .int .u64 (o.1).down.c, .int .u64 (o.1).down.d]) (by simp (disch := omega) [aRes, aResL, aRes1, idf_Wd', wdI])).restr (fun i => decide (i < nx))) (⟨⟨o.1, rfl, ho⟩, ⟨p5, hp5, by simp (disch := first | omega | (simp; done) | (simp; omega)) [hrestr_in, hrestr_out, hrestr_all hd, hupd_same]⟩, by first | omega | (simp at *; omega)⟩)

set_option maxHeartbeats 4000000 in
theorem drawRatioCmp_ac (l : List Int) (H : Heap) (nx : Nat) (dl : Dig 256 l) (hl : l.length ≤ 1048576) (hd : ∀ i q, H i = some q → i < nx) : ACall Try.prog 26 [Wd .u8 l] H nx (fun r H' nx' => (∃ p q : Rt, p.ok ∧ q.ok ∧ r = .tup [.agg [.int .u64 (p).up.a, .int .u64 (p).up.b, .int .u64 (p).up.c, .int .u64 (p).up.d, .int .u64 (p).down.a, .int .u64 (p).down.b, .int .u64 (p).down.c, .int .u64 (p).down.d], .agg [.int .u64 (q).up.a, .int .u64 (q).up.b, .int .u64 (q).up.c, .int .u64 (q).up.d, .int .u64 (q).down.a, .int .u64 (q).down.b, .int .u64 (q).down.c, .int .u64 (q).down.d]]) ∧ H' = H ∧ nx ≤ nx') := by
  refine ACall.body Try.func26 rfl 17 rfl fun K hK => ?_
  refine AWP.seqk fun K1 hK1 => ?_
  refine AWP.region (AOPS.all (by simp (disch := first|omega|(simp only[ln];omega)) [idf_Wd']; rfl) ?_)
  refine hK1 _ ?_
  refine AWP.seqk fun K2 hK2 => ?_
  refine AWP.region ?_
  refine AOPS.runk 1 (by simp (disch := first|omega|(simp only[ln];omega)) [List.take_succ_cons, List.take_zero, idf_Wd']; rfl) ?_
  simp only [List.drop_succ_cons, List.drop_zero]
  refine AOPS.old fun hold1 => ?_
  refine AOPS.acall (open_ac l _ _) rfl rfl rfl hb44 (by simp (disch := first|omega|(simp only[ln];omega)) [idf_Wd']) (by simp (disch := first|omega|(simp only[ln];omega))) (by simp) ?_
  rintro _ _ nx1 ⟨rfl, rfl, rfl⟩
  clear hold1
  obtain ⟨id, hid⟩ : ∃ id, id = nx + 1 + 1 := ⟨_, rfl⟩
  obtain ⟨p, hH⟩ : ∃ p : Nat, p = 0 := ⟨_, rfl⟩
  have hp : p ≤ l.length := by omega
  simp only []
  rw [← hid]
  simp only [puts_some, updo]
  refine AOPS.all (by simp (disch := first|omega|(simp only[ln];omega)) [idf_Wd']; rfl) ?_
  refine hK2 _ ?_
  refine AWP.seqk fun K3 hK3 => ?_
  refine AWP.region ?_
  refine AOPS.runk 1 (by simp (disch := first|omega|(simp only[ln];omega)) [List.take_succ_cons, List.take_zero, idf_Wd']; rfl) ?_
  simp only [List.drop_succ_cons, List.drop_zero]
  refine AOPS.old fun hold1 => ?_
  refine AOPS.acall (ratio_ac l p id _ _ dl hl hp (by simp (disch := omega) [hH]) hold1) rfl rfl rfl hb51 (by simp (disch := first|omega|(simp only[ln];omega)) [idf_Wd']) (by simp (disch := first|omega|(simp only[ln];omega))) (by simp) ?_
  rintro _ _ nx2 ⟨⟨P1, rfl, P1o⟩, ⟨p2, hp2, rfl⟩, hnx2⟩
  try simp only [] at hnx2
  clear hold1
  simp only [puts_some, updo]
  refine AOPS.all (by simp (disch := first|omega|(simp only[ln];omega)) [idf_Wd']; rfl) ?_
  refine hK3 _ ?_
  refine AWP.seqk fun K4 hK4 => ?_
  refine AWP.seqk fun K5 hK5 => ?_
  refine AWP.region ?_
  refine AOPS.runk 1 (by simp (disch := first|omega|(simp only[ln];omega)) [List.take_succ_cons, List.take_zero, idf_Wd']; rfl) ?_
  simp only [List.drop_succ_cons, List.drop_zero]
  refine AOPS.old fun hold1 => ?_
  refine AOPS.acall (once_ac 5 (by omega) (by omega) l p2 id _ _ dl hl hp2 (by simp (disch := omega) [hH]) hold1) rfl rfl rfl hb46 (by simp (disch := first|omega|(simp only[ln];omega)) [idf_Wd']) (by simp (disch := first|omega|(simp only[ln];omega))) (by simp) ?_
  rintro _ _ nx3 ⟨⟨b, rfl⟩, ⟨p3, hp3, rfl⟩, hnx3⟩
  try simp only [] at hnx3
  clear hold1
  simp only [puts_some, updo]
  refine AOPS.nil ?_
  refine hK5 _ ?_
  refine cond_ok (b) (by simp (disch := first|omega|(simp only[ln];omega))) (fun h11 => ?_) (fun h11 => ?_)
  · try simp only [decide_eq_true_eq, decide_eq_false_iff_not] at h11
    refine AWP.seqk fun K6 hK6 => ?_
    refine AWP.old fun hold => ?_
    refine AWP.draw 2 Try.checked.mixed (by kernel_rfl) (by simp) ?_
    simp only [List.take_succ_cons, List.take_zero, List.drop_succ_cons, List.drop_zero]
    refine DP.runFk 1 (by simp (disch := first|omega|(simp only[ln];omega)) [runDf.eq_def, runF1, runF2, stepF.eq_def, updo.eq_def, hupo.eq_def, opSto1.eq_def, List.take_succ_cons, List.take_zero, idf_Wd']; rfl) fun fs7 hfs7 => ?_
    replace hfs7 : fs7.length = 1 := hfs7.trans rfl
    simp only [List.drop_succ_cons, List.drop_zero]
    refine DP.runF1q (by simp (disch := first|omega|(simp only[ln];omega)) [runDf.eq_def, runF1, runF2, stepF.eq_def, updo.eq_def, hupo.eq_def, opSto1.eq_def, idf_Wd']; rfl) fun fq8 hfq8 => ?_
    simp [qids, Op.operands, topId] at hfq8
    simp only [updo]
    refine DQ.sto1 (m := 2) [1] _ (by simp (disch := first|omega|(simp only[ln];omega)) [runDf.eq_def, runF1, runF2, stepF.eq_def, updo.eq_def, hupo.eq_def, opSto1.eq_def, idf_Wd']; rfl) rfl (by simp only [List.length_append, List.length_cons, List.length_nil, hfs7]; omega) (by kernel_rfl) (by intro k f hk hex; simp only [List.mem_cons, List.not_mem_nil, or_false] at hex; rcases hex with rfl <;> (simp [List.getElem?_append, hfs7] at hk; subst hk; refine ⟨?_, by first | omega | (simp; done) | (simp; omega)⟩; simp [qids, Op.operands, Call.operands, topId, numS, numI, Wd, hfq8]; try omega)) ?_
    try simp only []
    refine DQ.sto1 (m := 2) [] _ (by simp (disch := first|omega|(simp only[ln];omega)) [runDf.eq_def, runF1, runF2, stepF.eq_def, updo.eq_def, hupo.eq_def, opSto1.eq_def, idf_Wd']; rfl) rfl (by simp only [List.length_append, List.length_cons, List.length_nil, hfs7]; omega) (by kernel_rfl) (by intro k f hk hex; simp only [List.not_mem_nil] at hex) ?_
    try simp only []
    refine hK6 _ ?_
    refine AWP.ret ?_
    exact hK _ _ _ _ _ trivial ((Fin.mk (r := .tup [.agg [.int .u64 (P1).up.a, .int .u64 (P1).up.b, .int .u64 (P1).up.c, .int .u64 (P1).up.d, .int .u64 (P1).down.a, .int .u64 (P1).down.b, .int .u64 (P1).down.c, .int .u64 (P1).down.d], .agg [.int .u64 (P1).up.a, .int .u64 (P1).up.b, .int .u64 (P1).up.c, .int .u64 (P1).up.d, .int .u64 (P1).down.a, .int .u64 (P1).down.b, .int .u64 (P1).down.c, .int .u64 (P1).down.d]]) (by simp (disch := omega) [aRes, aResL, aRes1, idf_Wd'])).restr (fun i => decide (i < nx))) (⟨⟨P1, P1, P1o, P1o, rfl⟩, by simp (disch := first | omega | (simp; done) | (simp; omega)) [hrestr_in, hrestr_out, hrestr_all hd, hupd_same], by first | omega | (simp at *; omega)⟩)
  · try simp only [decide_eq_true_eq, decide_eq_false_iff_not] at h11
    refine AWP.skip ?_
    refine hK4 _ ?_
    refine AWP.seqk fun K9 hK9 => ?_
    refine AWP.any Try.checked.mixed ?_
    refine AAny.step [0, 1] (by kernel_rfl) (by simp) ?_
    intro i hi o ho
    simp only [List.mem_cons, List.not_mem_nil, or_false] at hi
    rcases hi with rfl | rfl
    · simp only [List.getElem?_toArray, List.getElem?_cons_zero, List.getElem?_cons_succ, Option.some.injEq] at ho
      subst ho
      refine AOPS.all (by simp (disch := first|omega|(simp only[ln];omega)) [idf_Wd']; rfl) ?_
      refine AAny.step [1] (by kernel_rfl) (by simp) ?_
      intro i hi o ho
      simp only [List.mem_cons, List.not_mem_nil, or_false] at hi
      subst hi
      · simp only [List.getElem?_toArray, List.getElem?_cons_zero, List.getElem?_cons_succ, Option.some.injEq] at ho
        subst ho
        refine AOPS.all (by simp (disch := first|omega|(simp only[ln];omega)) [idf_Wd']; rfl) ?_
        refine AAny.step [2] (by kernel_rfl) (by simp) ?_
        intro i hi o ho
        simp only [List.mem_cons, List.not_mem_nil, or_false] at hi
        subst hi
        · simp only [List.getElem?_toArray, List.getElem?_cons_zero, List.getElem?_cons_succ, Option.some.injEq] at ho
          subst ho
          refine AOPS.old fun hold2 => ?_
          refine AOPS.acall (ratio_ac l p3 id _ _ dl hl hp3 (by simp (disch := omega) [hH]) hold2) rfl rfl rfl hb51 (by simp (disch := first|omega|(simp only[ln];omega)) [idf_Wd']) (by simp (disch := first|omega|(simp only[ln];omega))) (by simp) ?_
          rintro _ _ nx4 ⟨⟨P2, rfl, P2o⟩, ⟨p4, hp4, rfl⟩, hnx4⟩
          try simp only [] at hnx4
          clear hold2
          simp only [puts_some, updo]
          refine AOPS.nil ?_
          refine AAny.step [3] (by kernel_rfl) (by simp) ?_
          intro i hi o ho
          simp only [List.mem_cons, List.not_mem_nil, or_false] at hi
          subst hi
          · simp only [List.getElem?_toArray, List.getElem?_cons_zero, List.getElem?_cons_succ, Option.some.injEq] at ho
            subst ho
            refine AOPS.all (by simp (disch := first|omega|(simp only[ln];omega)) [idf_Wd']; rfl) ?_
            refine AAny.step [4] (by kernel_rfl) (by simp) ?_
            intro i hi o ho
            simp only [List.mem_cons, List.not_mem_nil, or_false] at hi
            subst hi
            · simp only [List.getElem?_toArray, List.getElem?_cons_zero, List.getElem?_cons_succ, Option.some.injEq] at ho
              subst ho
              refine AOPS.all (by simp (disch := first|omega|(simp only[ln];omega)) [idf_Wd']; rfl) ?_
              refine AAny.done (by kernel_rfl) ?_
              refine hK9 _ ?_
              refine AWP.ret ?_
              exact hK _ _ _ _ _ trivial ((Fin.mk (r := .tup [.agg [.int .u64 (P1).up.a, .int .u64 (P1).up.b, .int .u64 (P1).up.c, .int .u64 (P1).up.d, .int .u64 (P1).down.a, .int .u64 (P1).down.b, .int .u64 (P1).down.c, .int .u64 (P1).down.d], .agg [.int .u64 (P2).up.a, .int .u64 (P2).up.b, .int .u64 (P2).up.c, .int .u64 (P2).up.d, .int .u64 (P2).down.a, .int .u64 (P2).down.b, .int .u64 (P2).down.c, .int .u64 (P2).down.d]]) (by simp (disch := omega) [aRes, aResL, aRes1, idf_Wd'])).restr (fun i => decide (i < nx))) (⟨⟨P1, P2, P1o, P2o, rfl⟩, by simp (disch := first | omega | (simp; done) | (simp; omega)) [hrestr_in, hrestr_out, hrestr_all hd, hupd_same], by first | omega | (simp at *; omega)⟩)
    · simp only [List.getElem?_toArray, List.getElem?_cons_zero, List.getElem?_cons_succ, Option.some.injEq] at ho
      subst ho
      refine AOPS.all (by simp (disch := first|omega|(simp only[ln];omega)) [idf_Wd']; rfl) ?_
      refine AAny.step [0, 2] (by kernel_rfl) (by simp) ?_
      intro i hi o ho
      simp only [List.mem_cons, List.not_mem_nil, or_false] at hi
      rcases hi with rfl | rfl
      · simp only [List.getElem?_toArray, List.getElem?_cons_zero, List.getElem?_cons_succ, Option.some.injEq] at ho
        subst ho
        refine AOPS.all (by simp (disch := first|omega|(simp only[ln];omega)) [idf_Wd']; rfl) ?_
        refine AAny.step [2] (by kernel_rfl) (by simp) ?_
        intro i hi o ho
        simp only [List.mem_cons, List.not_mem_nil, or_false] at hi
        subst hi
        · simp only [List.getElem?_toArray, List.getElem?_cons_zero, List.getElem?_cons_succ, Option.some.injEq] at ho
          subst ho
          refine AOPS.old fun hold2 => ?_
          refine AOPS.acall (ratio_ac l p3 id _ _ dl hl hp3 (by simp (disch := omega) [hH]) hold2) rfl rfl rfl hb51 (by simp (disch := first|omega|(simp only[ln];omega)) [idf_Wd']) (by simp (disch := first|omega|(simp only[ln];omega))) (by simp) ?_
          rintro _ _ nx4 ⟨⟨P2, rfl, P2o⟩, ⟨p4, hp4, rfl⟩, hnx4⟩
          try simp only [] at hnx4
          clear hold2
          simp only [puts_some, updo]
          refine AOPS.nil ?_
          refine AAny.step [3] (by kernel_rfl) (by simp) ?_
          intro i hi o ho
          simp only [List.mem_cons, List.not_mem_nil, or_false] at hi
          subst hi
          · simp only [List.getElem?_toArray, List.getElem?_cons_zero, List.getElem?_cons_succ, Option.some.injEq] at ho
            subst ho
            refine AOPS.all (by simp (disch := first|omega|(simp only[ln];omega)) [idf_Wd']; rfl) ?_
            refine AAny.step [4] (by kernel_rfl) (by simp) ?_
            intro i hi o ho
            simp only [List.mem_cons, List.not_mem_nil, or_false] at hi
            subst hi
            · simp only [List.getElem?_toArray, List.getElem?_cons_zero, List.getElem?_cons_succ, Option.some.injEq] at ho
              subst ho
              refine AOPS.all (by simp (disch := first|omega|(simp only[ln];omega)) [idf_Wd']; rfl) ?_
              refine AAny.done (by kernel_rfl) ?_
              refine hK9 _ ?_
              refine AWP.ret ?_
              exact hK _ _ _ _ _ trivial ((Fin.mk (r := .tup [.agg [.int .u64 (P1).up.a, .int .u64 (P1).up.b, .int .u64 (P1).up.c, .int .u64 (P1).up.d, .int .u64 (P1).down.a, .int .u64 (P1).down.b, .int .u64 (P1).down.c, .int .u64 (P1).down.d], .agg [.int .u64 (P2).up.a, .int .u64 (P2).up.b, .int .u64 (P2).up.c, .int .u64 (P2).up.d, .int .u64 (P2).down.a, .int .u64 (P2).down.b, .int .u64 (P2).down.c, .int .u64 (P2).down.d]]) (by simp (disch := omega) [aRes, aResL, aRes1, idf_Wd'])).restr (fun i => decide (i < nx))) (⟨⟨P1, P2, P1o, P2o, rfl⟩, by simp (disch := first | omega | (simp; done) | (simp; omega)) [hrestr_in, hrestr_out, hrestr_all hd, hupd_same], by first | omega | (simp at *; omega)⟩)
      · simp only [List.getElem?_toArray, List.getElem?_cons_zero, List.getElem?_cons_succ, Option.some.injEq] at ho
        subst ho
        refine AOPS.old fun hold2 => ?_
        refine AOPS.acall (ratio_ac l p3 id _ _ dl hl hp3 (by simp (disch := omega) [hH]) hold2) rfl rfl rfl hb51 (by simp (disch := first|omega|(simp only[ln];omega)) [idf_Wd']) (by simp (disch := first|omega|(simp only[ln];omega))) (by simp) ?_
        rintro _ _ nx4 ⟨⟨P2, rfl, P2o⟩, ⟨p4, hp4, rfl⟩, hnx4⟩
        try simp only [] at hnx4
        clear hold2
        simp only [puts_some, updo]
        refine AOPS.nil ?_
        refine AAny.step [0] (by kernel_rfl) (by simp) ?_
        intro i hi o ho
        simp only [List.mem_cons, List.not_mem_nil, or_false] at hi
        subst hi
        · simp only [List.getElem?_toArray, List.getElem?_cons_zero, List.getElem?_cons_succ, Option.some.injEq] at ho
          subst ho
          refine AOPS.all (by simp (disch := first|omega|(simp only[ln];omega)) [idf_Wd']; rfl) ?_
          refine AAny.step [3] (by kernel_rfl) (by simp) ?_
          intro i hi o ho
          simp only [List.mem_cons, List.not_mem_nil, or_false] at hi
          subst hi
          · simp only [List.getElem?_toArray, List.getElem?_cons_zero, List.getElem?_cons_succ, Option.some.injEq] at ho
            subst ho
            refine AOPS.all (by simp (disch := first|omega|(simp only[ln];omega)) [idf_Wd']; rfl) ?_
            refine AAny.step [4] (by kernel_rfl) (by simp) ?_
            intro i hi o ho
            simp only [List.mem_cons, List.not_mem_nil, or_false] at hi
            subst hi
            · simp only [List.getElem?_toArray, List.getElem?_cons_zero, List.getElem?_cons_succ, Option.some.injEq] at ho
              subst ho
              refine AOPS.all (by simp (disch := first|omega|(simp only[ln];omega)) [idf_Wd']; rfl) ?_
              refine AAny.done (by kernel_rfl) ?_
              refine hK9 _ ?_
              refine AWP.ret ?_
              exact hK _ _ _ _ _ trivial ((Fin.mk (r := .tup [.agg [.int .u64 (P1).up.a, .int .u64 (P1).up.b, .int .u64 (P1).up.c, .int .u64 (P1).up.d, .int .u64 (P1).down.a, .int .u64 (P1).down.b, .int .u64 (P1).down.c, .int .u64 (P1).down.d], .agg [.int .u64 (P2).up.a, .int .u64 (P2).up.b, .int .u64 (P2).up.c, .int .u64 (P2).up.d, .int .u64 (P2).down.a, .int .u64 (P2).down.b, .int .u64 (P2).down.c, .int .u64 (P2).down.d]]) (by simp (disch := omega) [aRes, aResL, aRes1, idf_Wd'])).restr (fun i => decide (i < nx))) (⟨⟨P1, P2, P1o, P2o, rfl⟩, by simp (disch := first | omega | (simp; done) | (simp; omega)) [hrestr_in, hrestr_out, hrestr_all hd, hupd_same], by first | omega | (simp at *; omega)⟩)

end Go.Proofs.Ytdcggmbnjonemaa

/- Walks: FnRatioSums, walked. -/
namespace Go.Proofs.Ytdcggmbnjonemaa
open Go Go.RowKit
set_option linter.unusedSimpArgs false
set_option linter.unusedVariables false
set_option maxRecDepth 100000
attribute [local simp] List.getElem?_cons_zero List.getElem?_cons_succ List.getElem?_toArray runOps stepOp.eq_def agd.eq_def dstOk.eq_def opVal.eq_def opNew.eq_def opSto.eq_def ev.eq_def cv.eq_def puts_some puts_none upd_ap lst.eq_def aBin.eq_def aUn.eq_def aBi_str aBi_isl aBi_osl aBi_nsl aBi_max aBi_min aBi_max3 aConv.eq_def aLd.eq_def aLoad.eq_def aField.eq_def aFld.eq_def aIdx_isl aIdx_osl aSlc_isl aSlc_osl aSlc_str aSlc_nsl bnd.eq_def evs_nil evs_cons aBuild.eq_def aFill splice.eq_def cells_agg cells_int cells_bool cells_str cells_nil cells_nsl cells_isl cells_osl cells_ptr cells_ip cells_fn cells_Wd one_int one_bool one_str one_nil one_nsl one_isl one_osl one_ptr one_ip one_fn one_Wd aSets hupd_eq hupd_ne wrap_i64s wrap_u64s wrap_u32s wrap_u8s wd_getD wd_set wd_len wd_replicate wd_one wd_fold fz_osl hupd_same aSix.eq_def aEqS.eq_def aEqB_bool aEqB_nsl aEqB_nil
attribute [local simp] szT2 byT2 agT2 unT2 zoT2 szT4 byT4 agT4 unT4 zoT4 szT31 byT31 agT31 unT31 zoT31 szT33 byT33 agT33 flT33 fdT33_0 fdT33_1 fdT33_2 fdT33_3 zoT33 szT40 byT40 agT40 flT40 fdT40_0 fdT40_1 zoT40

theorem eqRt (p q : Rt) : eqW Try.prog 8 40 [.int .u64 p.up.a, .int .u64 p.up.b, .int .u64 p.up.c, .int .u64 p.up.d, .int .u64 p.down.a, .int .u64 p.down.b, .int .u64 p.down.c, .int .u64 p.down.d] [.int .u64 q.up.a, .int .u64 q.up.b, .int .u64 q.up.c, .int .u64 q.up.d, .int .u64 q.down.a, .int .u64 q.down.b, .int .u64 q.down.c, .int .u64 q.down.d] = some (decide (p = q)) := by
  have hs : Try.prog.stoodInHeld 40 = false := by kernel_rfl
  have hz : szOf Try.prog 33 = some 4 := by kernel_rfl
  have ha : aggT Try.prog 33 = some true := by kernel_rfl
  unfold eqW
  simp only [Try.underlying40, hs]
  simp [eqF, hz, ha, eqW4n]
  obtain ⟨⟨a1, a2, a3, a4⟩, ⟨b1, b2, b3, b4⟩⟩ := p
  obtain ⟨⟨d1, d2, d3, d4⟩, ⟨e1, e2, e3, e4⟩⟩ := q
  rw [Bool.eq_iff_iff]
  simp [Rt.mk.injEq, W4.mk.injEq, and_assoc]

end Go.Proofs.Ytdcggmbnjonemaa

/- Walks: FnRatioOrder, walked. -/
namespace Go.Proofs.Ytdcggmbnjonemaa
open Go Go.RowKit
set_option linter.unusedSimpArgs false
set_option linter.unusedVariables false
set_option maxRecDepth 100000
attribute [local simp] List.getElem?_cons_zero List.getElem?_cons_succ List.getElem?_toArray runOps stepOp.eq_def agd.eq_def dstOk.eq_def opVal.eq_def opNew.eq_def opSto.eq_def ev.eq_def cv.eq_def puts_some puts_none upd_ap lst.eq_def aBin.eq_def aUn.eq_def aBi_str aBi_isl aBi_osl aBi_nsl aBi_max aBi_min aBi_max3 aConv.eq_def aLd.eq_def aLoad.eq_def aField.eq_def aFld.eq_def aIdx_isl aIdx_osl aSlc_isl aSlc_osl aSlc_str aSlc_nsl bnd.eq_def evs_nil evs_cons aBuild.eq_def aFill splice.eq_def cells_agg cells_int cells_bool cells_str cells_nil cells_nsl cells_isl cells_osl cells_ptr cells_ip cells_fn cells_Wd one_int one_bool one_str one_nil one_nsl one_isl one_osl one_ptr one_ip one_fn one_Wd aSets hupd_eq hupd_ne wrap_i64s wrap_u64s wrap_u32s wrap_u8s wd_getD wd_set wd_len wd_replicate wd_one wd_fold fz_osl hupd_same aSix.eq_def aEqS.eq_def aEqB_bool aEqB_nsl aEqB_nil
attribute [local simp] szT2 byT2 agT2 unT2 zoT2 szT4 byT4 agT4 unT4 zoT4 szT31 byT31 agT31 unT31 zoT31 szT33 byT33 agT33 flT33 fdT33_0 fdT33_1 fdT33_2 fdT33_3 zoT33 szT40 byT40 agT40 flT40 fdT40_0 fdT40_1 zoT40

theorem wideOf4_fc (n : Int) (h1 : -9223372036854775808 ≤ n) (h2 : n ≤ 9223372036854775807) (hf : fits n = true) : FC Try.prog 29 [.int .i64 n] (.agg (W4z n).l) := by
  have h := wideOf_fc n h1 h2
  have e := wdT_l n
  unfold wdT at e
  rw [if_pos hf] at e
  rw [e] at h; exact h

set_option maxHeartbeats 8000000 in
theorem fnRatioOrder_fc (l : List Int) (dl : Dig 256 l) : FC Try.prog 6 [Wd .u8 l] (.bool true) := by
  refine FC.body Try.func6 rfl (by simp [idfL, idf, idfLL_iff, idf_Wd', wdI, Rt.av, Rt.cells, W4.l]) (by simp [idfL, idf, idfLL_iff, idf_Wd', wdI, Rt.av, Rt.cells, W4.l]) 150 rfl fun nx K hK => ?_
  refine AWP.seqk fun K1 hK1 => ?_
  refine AWP.region (AOPS.all (by simp (disch := first|omega|(simp only[ln];omega)) [idf_Wd', wdI, Rt.av, Rt.cells, W4.l]; rfl) ?_)
  refine hK1 _ ?_
  refine AWP.seqk fun K2 hK2 => ?_
  refine AWP.seqk fun K3 hK3 => ?_
  refine AWP.region ?_
  refine AOPS.runk 1 (by simp (disch := first|omega|(simp only[ln];omega)) [List.take_succ_cons, List.take_zero, idf_Wd', wdI, Rt.av, Rt.cells, W4.l]; rfl) ?_
  simp only [List.drop_succ_cons, List.drop_zero]
  refine AOPS.fcall (big_fc l) rfl rfl rfl hb14 (by simp (disch := first|omega|(simp only[ln];omega)) [idf_Wd', wdI, Rt.av, Rt.cells, W4.l]) (by simp (disch := first|omega|(simp only[ln];omega))) (by simp) ?_
  simp only [puts_some, updo]
  refine AOPS.nil ?_
  refine hK3 _ ?_
  refine cond_ok (decide (1048576 < (l.length : Int))) (by simp (disch := first|omega|(simp only[ln];omega))) (fun h25 => ?_) (fun h25 => ?_)
  · try simp only [decide_eq_true_eq, decide_eq_false_iff_not] at h25
    refine AWP.seqk fun K4 hK4 => ?_
    refine AWP.region (AOPS.all (by simp (disch := first|omega|(simp only[ln];omega)) [idf_Wd', wdI, Rt.av, Rt.cells, W4.l]; rfl) ?_)
    refine hK4 _ ?_
    refine AWP.ret ?_
    exact hK _ _ _ _ trivial (Fin.mk (by simp (disch := first|omega|(simp only[ln];omega)) [aRes, aResL, aRes1, idf_Wd', wdI, Rt.av, Rt.cells, W4.l]))
  · try simp only [decide_eq_true_eq, decide_eq_false_iff_not] at h25
    have hl : l.length ≤ 1048576 := by omega
    refine AWP.skip ?_
    refine hK2 _ ?_
    refine AWP.seqk fun K5 hK5 => ?_
    refine AWP.region ?_
    refine AOPS.runk 1 (by simp (disch := first|omega|(simp only[ln];omega)) [List.take_succ_cons, List.take_zero, idf_Wd', wdI, Rt.av, Rt.cells, W4.l]; rfl) ?_
    simp only [List.drop_succ_cons, List.drop_zero]
    refine AOPS.old fun hold1 => ?_
    refine AOPS.acall (drawRatioCmp_ac l _ _ dl hl hold1) rfl rfl rfl hb26 (by simp (disch := first|omega|(simp only[ln];omega)) [idf_Wd', wdI, Rt.av, Rt.cells, W4.l]) (by simp (disch := first|omega|(simp only[ln];omega))) (by simp) ?_
    rintro _ _ nx1 ⟨⟨P1, P2, P1o, P2o, rfl⟩, rfl, hnx1⟩
    clear hold1
    have o1 := ratioCmpI_fc P1 P2 P1o P2o
    have o2 := ratioCmpS_fc P1 P2 P1o P2o
    have o3 := ratioCmpI_fc P2 P1 P2o P1o
    rw [(cmpF_anti P1 P2).1, (cmpF_anti P1 P2).2] at o3
    have hb := cmpF_b P1 P2
    have hgd := fun h => cmpF_good (a := P1) (b := P2) h
    have heq := fun h => cmpF_eq (a := P1) (b := P2) P1o P2o h
    have hsg := fun h hf hs => cmp_sign (a := P1) (b := P2) h hf hs
    generalize cmpF P1 P2 = N at *
    have hn : IntKind.i64.wrap (- -N.1) = N.1 := by rw [Int.neg_neg]; exact wrap_i64s (by omega) (by omega)
    simp only [puts_some, updo]
    refine AOPS.all (by simp (disch := first|omega|(simp only[ln];omega)) [idf_Wd', wdI, Rt.av, Rt.cells, W4.l]; rfl) ?_
    refine hK5 _ ?_
    refine AWP.seqk fun K6 hK6 => ?_
    refine AWP.region ?_
    refine AOPS.runk 2 (by simp (disch := first|omega|(simp only[ln];omega)) [List.take_succ_cons, List.take_zero, idf_Wd', wdI, Rt.av, Rt.cells, W4.l]; rfl) ?_
    simp only [List.drop_succ_cons, List.drop_zero]
    refine AOPS.fcall (o1) rfl rfl rfl hb27 (by simp (disch := first|omega|(simp only[ln];omega)) [idf_Wd', wdI, Rt.av, Rt.cells, W4.l]) (by simp (disch := first|omega|(simp only[ln];omega))) (by simp) ?_
    simp only [puts_some, updo]
    refine AOPS.all (by simp (disch := first|omega|(simp only[ln];omega)) [idf_Wd', wdI, Rt.av, Rt.cells, W4.l]; rfl) ?_
    refine hK6 _ ?_
    refine AWP.seqk fun K7 hK7 => ?_
    refine AWP.region ?_
    refine AOPS.runk 2 (by simp (disch := first|omega|(simp only[ln];omega)) [List.take_succ_cons, List.take_zero, idf_Wd', wdI, Rt.av, Rt.cells, W4.l]; rfl) ?_
    simp only [List.drop_succ_cons, List.drop_zero]
    refine AOPS.fcall (o2) rfl rfl rfl hb28 (by simp (disch := first|omega|(simp only[ln];omega)) [idf_Wd', wdI, Rt.av, Rt.cells, W4.l]) (by simp (disch := first|omega|(simp only[ln];omega))) (by simp) ?_
    simp only [puts_some, updo]
    refine AOPS.all (by simp (disch := first|omega|(simp only[ln];omega)) [idf_Wd', wdI, Rt.av, Rt.cells, W4.l]; rfl) ?_
    refine hK7 _ ?_
    refine AWP.seqk fun K8 hK8 => ?_
    refine AWP.region ?_
    refine AOPS.runk 2 (by simp (disch := first|omega|(simp only[ln];omega)) [List.take_succ_cons, List.take_zero, idf_Wd', wdI, Rt.av, Rt.cells, W4.l]; rfl) ?_
    simp only [List.drop_succ_cons, List.drop_zero]
    refine AOPS.fcall (o3) rfl rfl rfl hb27 (by simp (disch := first|omega|(simp only[ln];omega)) [idf_Wd', wdI, Rt.av, Rt.cells, W4.l]) (by simp (disch := first|omega|(simp only[ln];omega))) (by simp) ?_
    simp only [puts_some, updo]
    refine AOPS.all (by simp (disch := first|omega|(simp only[ln];omega)) [idf_Wd', wdI, Rt.av, Rt.cells, W4.l]; rfl) ?_
    refine hK8 _ ?_
    refine AWP.seqk fun K9 hK9 => ?_
    refine AWP.seqk fun K10 hK10 => ?_
    cases hN : N.2
    · refine AWP.region (AOPS.all (by simp (disch := first|omega|(simp only[ln];omega)) [idf_Wd', wdI, Rt.av, Rt.cells, W4.l, hn, hN]; rfl) ?_)
      refine hK10 _ ?_
      refine cond_ok _ (by simp (disch := first|omega|(simp only[ln];omega)); rfl) (fun h78 => ?_) (fun h78 => ?_)
      · simp at h78
      · try simp only [decide_eq_true_eq, decide_eq_false_iff_not] at h78
        refine AWP.skip ?_
        refine hK9 _ ?_
        refine AWP.seqk fun K11 hK11 => ?_
        refine AWP.seqk fun K12 hK12 => ?_
        refine AWP.region (AOPS.all (by simp (disch := first|omega|(simp only[ln];omega)) [idf_Wd', wdI, Rt.av, Rt.cells, W4.l]; rfl) ?_)
        refine hK12 _ ?_
        refine cond_ok _ (by simp (disch := first|omega|(simp only[ln];omega)); rfl) (fun h80 => ?_) (fun h80 => ?_)
        · try simp only [decide_eq_true_eq, decide_eq_false_iff_not] at h80
          refine AWP.seqk fun K13 hK13 => ?_
          refine AWP.region (AOPS.all (by simp (disch := first|omega|(simp only[ln];omega)) [idf_Wd', wdI, Rt.av, Rt.cells, W4.l]; rfl) ?_)
          refine hK13 _ ?_
          refine AWP.ret ?_
          exact hK _ _ _ _ trivial (Fin.mk (by simp (disch := first|omega|(simp only[ln];omega)) [aRes, aResL, aRes1, idf_Wd', wdI, Rt.av, Rt.cells, W4.l]))
        · simp at h80
    · have hz : (N.1 == 0) = decide (P1 = P2) := by
        rw [Bool.eq_iff_iff]; simp [heq hN]
      refine AWP.region (AOPS.all (by simp (disch := first|omega|(simp only[ln];omega)) [idf_Wd', wdI, Rt.av, Rt.cells, W4.l, hn, hN, eqRt, hz]; rfl) ?_)
      refine hK10 _ ?_
      refine cond_ok _ (by simp (disch := first|omega|(simp only[ln];omega)); rfl) (fun h78 => ?_) (fun h78 => ?_)
      · simp at h78
      · try simp only [decide_eq_true_eq, decide_eq_false_iff_not] at h78
        refine AWP.skip ?_
        refine hK9 _ ?_
        refine AWP.seqk fun K14 hK14 => ?_
        refine AWP.seqk fun K15 hK15 => ?_
        refine AWP.region (AOPS.all (by simp (disch := first|omega|(simp only[ln];omega)) [idf_Wd', wdI, Rt.av, Rt.cells, W4.l]; rfl) ?_)
        refine hK15 _ ?_
        refine cond_ok _ (by simp (disch := first|omega|(simp only[ln];omega)); rfl) (fun h80 => ?_) (fun h80 => ?_)
        · simp at h80
        · try simp only [decide_eq_true_eq, decide_eq_false_iff_not] at h80
          obtain ⟨g1, g2, hNe⟩ := hgd hN
          have hfl := flr_fits P1o g1
          have hf1 : fits 1 = true := by decide
          have r1 := wideOf4_fc 1 (by omega) (by omega) hf1
          rw [W4z_one] at r1
          have r2 := ratioFloorI_fc P1 P1o
          have e2 : flrF P1 = (W4z (P1.up.v / P1.down.v), true) := by unfold flrF; rw [if_pos g1, hfl]
          rw [e2] at r2
          have r3 := ratioCmpI_fc (whl (W4z (P1.up.v / P1.down.v))) P1 (whl_ok (W4z_ok _)) P1o
          have c3 := flr_le P1o g1
          have r4 := wideAddI_fc (W4z (P1.up.v / P1.down.v)) W41 (W4z_ok _) W41_ok
          rw [W4z_v hfl, W41_v] at r4
          have r5 := ratioCmpI_fc (whl (W4z (P1.up.v / P1.down.v + 1))) P1 (whl_ok (W4z_ok _)) P1o
          have c5 := fun h => flr_next (a := P1) g1 h
          generalize cmpF (whl (W4z (P1.up.v / P1.down.v))) P1 = N3 at *
          generalize cmpF (whl (W4z (P1.up.v / P1.down.v + 1))) P1 = N5 at *
          generalize W4z (P1.up.v / P1.down.v) = F at *
          generalize W4z (P1.up.v / P1.down.v + 1) = F1 at *
          have c3' : decide (0 < N3.1) = false := by simp; omega
          have r6 := wideNegI_fc P2.up P2o.1
          have r7 := ratioAddI_fc P1 (negU P2) P1o (negU_ok P2o)
          have So := addF_ok P1 (negU P2)
          have hsg' := fun hf hs => hsg hN hf hs
          generalize addF P1 (negU P2) = S at *
          refine AWP.skip ?_
          refine hK14 _ ?_
          refine AWP.seqk fun K16 hK16 => ?_
          refine AWP.region ?_
          refine AOPS.fcall (r1) rfl rfl rfl hb29 (by simp (disch := first|omega|(simp only[ln];omega)) [idf_Wd', wdI, Rt.av, Rt.cells, W4.l]) (by simp (disch := first|omega|(simp only[ln];omega))) (by simp) ?_
          simp only [puts_some, updo]
          refine AOPS.all (by simp (disch := first|omega|(simp only[ln];omega)) [idf_Wd', wdI, Rt.av, Rt.cells, W4.l]; rfl) ?_
          refine hK16 _ ?_
          refine AWP.seqk fun K17 hK17 => ?_
          refine AWP.region ?_
          refine AOPS.runk 1 (by simp (disch := first|omega|(simp only[ln];omega)) [List.take_succ_cons, List.take_zero, idf_Wd', wdI, Rt.av, Rt.cells, W4.l]; rfl) ?_
          simp only [List.drop_succ_cons, List.drop_zero]
          refine AOPS.fcall (r2) rfl rfl rfl hb30 (by simp (disch := first|omega|(simp only[ln];omega)) [idf_Wd', wdI, Rt.av, Rt.cells, W4.l]) (by simp (disch := first|omega|(simp only[ln];omega))) (by simp) ?_
          simp only [puts_some, updo]
          refine AOPS.all (by simp (disch := first|omega|(simp only[ln];omega)) [idf_Wd', wdI, Rt.av, Rt.cells, W4.l]; rfl) ?_
          refine hK17 _ ?_
          refine AWP.seqk fun K18 hK18 => ?_
          refine AWP.region ?_
          refine AOPS.runk 4 (by simp (disch := first|omega|(simp only[ln];omega)) [List.take_succ_cons, List.take_zero, idf_Wd', wdI, Rt.av, Rt.cells, W4.l, whl, W41]; rfl) ?_
          simp only [List.drop_succ_cons, List.drop_zero]
          refine AOPS.fcall (r3) rfl rfl rfl hb27 (by simp (disch := first|omega|(simp only[ln];omega)) [idf_Wd', whl, W41, wdI, Rt.av, Rt.cells, W4.l]) (by simp (disch := first|omega|(simp only[ln];omega)) [whl, W41]) (by simp) ?_
          simp only [puts_some, updo]
          refine AOPS.all (by simp (disch := first|omega|(simp only[ln];omega)) [idf_Wd', wdI, Rt.av, Rt.cells, W4.l, whl, W41]; rfl) ?_
          refine hK18 _ ?_
          refine AWP.seqk fun K19 hK19 => ?_
          refine AWP.region ?_
          refine AOPS.runk 2 (by simp (disch := first|omega|(simp only[ln];omega)) [List.take_succ_cons, List.take_zero, idf_Wd', wdI, Rt.av, Rt.cells, W4.l, W41]; rfl) ?_
          simp only [List.drop_succ_cons, List.drop_zero]
          refine AOPS.fcall (r4) rfl rfl rfl hb31 (by simp (disch := first|omega|(simp only[ln];omega)) [idf_Wd', W41, wdI, Rt.av, Rt.cells, W4.l]) (by simp (disch := first|omega|(simp only[ln];omega)) [W41]) (by simp) ?_
          simp only [puts_some, updo]
          refine AOPS.all (by simp (disch := first|omega|(simp only[ln];omega)) [idf_Wd', wdI, Rt.av, Rt.cells, W4.l, W41]; rfl) ?_
          refine hK19 _ ?_
          refine AWP.seqk fun K20 hK20 => ?_
          refine AWP.region ?_
          refine AOPS.runk 4 (by simp (disch := first|omega|(simp only[ln];omega)) [List.take_succ_cons, List.take_zero, idf_Wd', wdI, Rt.av, Rt.cells, W4.l, whl, W41]; rfl) ?_
          simp only [List.drop_succ_cons, List.drop_zero]
          refine AOPS.fcall (r5) rfl rfl rfl hb27 (by simp (disch := first|omega|(simp only[ln];omega)) [idf_Wd', whl, W41, wdI, Rt.av, Rt.cells, W4.l]) (by simp (disch := first|omega|(simp only[ln];omega)) [whl, W41]) (by simp) ?_
          simp only [puts_some, updo]
          refine AOPS.all (by simp (disch := first|omega|(simp only[ln];omega)) [idf_Wd', wdI, Rt.av, Rt.cells, W4.l, whl, W41]; rfl) ?_
          refine hK20 _ ?_
          refine AWP.seqk fun K21 hK21 => ?_
          refine AWP.seqk fun K22 hK22 => ?_
          cases ht : fits (P1.up.v / P1.down.v + 1)
          · refine AWP.region (AOPS.all (by simp (disch := first|omega|(simp only[ln];omega)) [idf_Wd', wdI, Rt.av, Rt.cells, W4.l, c3', ht]; rfl) ?_)
            refine hK22 _ ?_
            refine cond_ok _ (by simp (disch := first|omega|(simp only[ln];omega)); rfl) (fun h121 => ?_) (fun h121 => ?_)
            · simp at h121
            · try simp only [decide_eq_true_eq, decide_eq_false_iff_not] at h121
              refine AWP.skip ?_
              refine hK21 _ ?_
              refine AWP.seqk fun K23 hK23 => ?_
              refine AWP.region ?_
              refine AOPS.runk 2 (by simp (disch := first|omega|(simp only[ln];omega)) [List.take_succ_cons, List.take_zero, idf_Wd', wdI, Rt.av, Rt.cells, W4.l]; rfl) ?_
              simp only [List.drop_succ_cons, List.drop_zero]
              refine AOPS.fcall (r6) rfl rfl rfl hb21 (by simp (disch := first|omega|(simp only[ln];omega)) [idf_Wd', wdI, Rt.av, Rt.cells, W4.l]) (by simp (disch := first|omega|(simp only[ln];omega))) (by simp) ?_
              simp only [puts_some, updo]
              refine AOPS.all (by simp (disch := first|omega|(simp only[ln];omega)) [idf_Wd', wdI, Rt.av, Rt.cells, W4.l]; rfl) ?_
              refine hK23 _ ?_
              refine AWP.seqk fun K24 hK24 => ?_
              refine AWP.region ?_
              refine AOPS.runk 5 (by simp (disch := first|omega|(simp only[ln];omega)) [List.take_succ_cons, List.take_zero, idf_Wd', wdI, Rt.av, Rt.cells, W4.l, negU]; rfl) ?_
              simp only [List.drop_succ_cons, List.drop_zero]
              refine AOPS.fcall (r7) rfl rfl rfl hb19 (by simp (disch := first|omega|(simp only[ln];omega)) [idf_Wd', negU, wdI, Rt.av, Rt.cells, W4.l]) (by simp (disch := first|omega|(simp only[ln];omega)) [negU]) (by simp) ?_
              simp only [puts_some, updo]
              refine AOPS.all (by simp (disch := first|omega|(simp only[ln];omega)) [idf_Wd', wdI, Rt.av, Rt.cells, W4.l, negU]; rfl) ?_
              refine hK24 _ ?_
              refine AWP.seqk fun K25 hK25 => ?_
              cases hq : fits (-P2.up.v)
              · refine AWP.region (AOPS.all (by simp (disch := first|omega|(simp only[ln];omega)) [idf_Wd', wdI, Rt.av, Rt.cells, W4.l, hq]; rfl) ?_)
                refine hK25 _ ?_
                refine AWP.ret ?_
                exact hK _ _ _ _ trivial (Fin.mk (by simp (disch := first|omega|(simp only[ln];omega)) [aRes, aResL, aRes1, idf_Wd', wdI, Rt.av, Rt.cells, W4.l]))
              · cases hs : S.2
                · refine AWP.region (AOPS.all (by simp (disch := first|omega|(simp only[ln];omega)) [idf_Wd', wdI, Rt.av, Rt.cells, W4.l, hq, hs]; rfl) ?_)
                  refine hK25 _ ?_
                  refine AWP.ret ?_
                  exact hK _ _ _ _ trivial (Fin.mk (by simp (disch := first|omega|(simp only[ln];omega)) [aRes, aResL, aRes1, idf_Wd', wdI, Rt.av, Rt.cells, W4.l]))
                · have hsn := hsg' hq hs
                  refine AWP.region ?_
                  refine AOPS.runk 9 (by simp (disch := first|omega|(simp only[ln];omega)) [List.take_succ_cons, List.take_zero, idf_Wd', wdI, Rt.av, Rt.cells, W4.l, hq, hs, hsn]; rfl) ?_
                  simp only [List.drop_succ_cons, List.drop_zero]
                  refine AOPS.fcall (wideSignI_fc S.1.up So.1) rfl rfl rfl hb23 (by simp (disch := first|omega|(simp only[ln];omega)) [idf_Wd', hq, hs, hsn, wdI, Rt.av, Rt.cells, W4.l]) (by simp (disch := first|omega|(simp only[ln];omega)) [hq, hs, hsn]) (by simp) ?_
                  simp only [puts_some, updo]
                  refine AOPS.all (by simp (disch := first|omega|(simp only[ln];omega)) [idf_Wd', wdI, Rt.av, Rt.cells, W4.l, hq, hs, hsn]; rfl) ?_
                  refine hK25 _ ?_
                  refine AWP.ret ?_
                  exact hK _ _ _ _ trivial (Fin.mk (by simp (disch := first|omega|(simp only[ln];omega)) [aRes, aResL, aRes1, idf_Wd', wdI, Rt.av, Rt.cells, W4.l]))
          · have c5' : decide (N5.1 ≤ 0) = false := by
              have := c5 ht
              simp; omega
            refine AWP.region (AOPS.all (by simp (disch := first|omega|(simp only[ln];omega)) [idf_Wd', wdI, Rt.av, Rt.cells, W4.l, c3', ht, c5']; rfl) ?_)
            refine hK22 _ ?_
            refine cond_ok _ (by simp (disch := first|omega|(simp only[ln];omega)); rfl) (fun h121 => ?_) (fun h121 => ?_)
            · simp at h121
            · try simp only [decide_eq_true_eq, decide_eq_false_iff_not] at h121
              refine AWP.skip ?_
              refine hK21 _ ?_
              refine AWP.seqk fun K26 hK26 => ?_
              refine AWP.region ?_
              refine AOPS.runk 2 (by simp (disch := first|omega|(simp only[ln];omega)) [List.take_succ_cons, List.take_zero, idf_Wd', wdI, Rt.av, Rt.cells, W4.l]; rfl) ?_
              simp only [List.drop_succ_cons, List.drop_zero]
              refine AOPS.fcall (r6) rfl rfl rfl hb21 (by simp (disch := first|omega|(simp only[ln];omega)) [idf_Wd', wdI, Rt.av, Rt.cells, W4.l]) (by simp (disch := first|omega|(simp only[ln];omega))) (by simp) ?_
              simp only [puts_some, updo]
              refine AOPS.all (by simp (disch := first|omega|(simp only[ln];omega)) [idf_Wd', wdI, Rt.av, Rt.cells, W4.l]; rfl) ?_
              refine hK26 _ ?_
              refine AWP.seqk fun K27 hK27 => ?_
              refine AWP.region ?_
              refine AOPS.runk 5 (by simp (disch := first|omega|(simp only[ln];omega)) [List.take_succ_cons, List.take_zero, idf_Wd', wdI, Rt.av, Rt.cells, W4.l, negU]; rfl) ?_
              simp only [List.drop_succ_cons, List.drop_zero]
              refine AOPS.fcall (r7) rfl rfl rfl hb19 (by simp (disch := first|omega|(simp only[ln];omega)) [idf_Wd', negU, wdI, Rt.av, Rt.cells, W4.l]) (by simp (disch := first|omega|(simp only[ln];omega)) [negU]) (by simp) ?_
              simp only [puts_some, updo]
              refine AOPS.all (by simp (disch := first|omega|(simp only[ln];omega)) [idf_Wd', wdI, Rt.av, Rt.cells, W4.l, negU]; rfl) ?_
              refine hK27 _ ?_
              refine AWP.seqk fun K28 hK28 => ?_
              cases hq : fits (-P2.up.v)
              · refine AWP.region (AOPS.all (by simp (disch := first|omega|(simp only[ln];omega)) [idf_Wd', wdI, Rt.av, Rt.cells, W4.l, hq]; rfl) ?_)
                refine hK28 _ ?_
                refine AWP.ret ?_
                exact hK _ _ _ _ trivial (Fin.mk (by simp (disch := first|omega|(simp only[ln];omega)) [aRes, aResL, aRes1, idf_Wd', wdI, Rt.av, Rt.cells, W4.l]))
              · cases hs : S.2
                · refine AWP.region (AOPS.all (by simp (disch := first|omega|(simp only[ln];omega)) [idf_Wd', wdI, Rt.av, Rt.cells, W4.l, hq, hs]; rfl) ?_)
                  refine hK28 _ ?_
                  refine AWP.ret ?_
                  exact hK _ _ _ _ trivial (Fin.mk (by simp (disch := first|omega|(simp only[ln];omega)) [aRes, aResL, aRes1, idf_Wd', wdI, Rt.av, Rt.cells, W4.l]))
                · have hsn := hsg' hq hs
                  refine AWP.region ?_
                  refine AOPS.runk 9 (by simp (disch := first|omega|(simp only[ln];omega)) [List.take_succ_cons, List.take_zero, idf_Wd', wdI, Rt.av, Rt.cells, W4.l, hq, hs, hsn]; rfl) ?_
                  simp only [List.drop_succ_cons, List.drop_zero]
                  refine AOPS.fcall (wideSignI_fc S.1.up So.1) rfl rfl rfl hb23 (by simp (disch := first|omega|(simp only[ln];omega)) [idf_Wd', hq, hs, hsn, wdI, Rt.av, Rt.cells, W4.l]) (by simp (disch := first|omega|(simp only[ln];omega)) [hq, hs, hsn]) (by simp) ?_
                  simp only [puts_some, updo]
                  refine AOPS.all (by simp (disch := first|omega|(simp only[ln];omega)) [idf_Wd', wdI, Rt.av, Rt.cells, W4.l, hq, hs, hsn]; rfl) ?_
                  refine hK28 _ ?_
                  refine AWP.ret ?_
                  exact hK _ _ _ _ trivial (Fin.mk (by simp (disch := first|omega|(simp only[ln];omega)) [aRes, aResL, aRes1, idf_Wd', wdI, Rt.av, Rt.cells, W4.l]))

end Go.Proofs.Ytdcggmbnjonemaa
