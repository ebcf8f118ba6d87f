/- Walks: points in order, between, crossings (both). -/
import Derived.Test.YtdcggmbnjonemaaG0W

namespace Go.Proofs.Ytdcggmbnjonemaa
open Go Go.RowKit
set_option linter.unusedSimpArgs false
set_option linter.unusedVariables false
set_option maxRecDepth 100000
attribute [local simp] List.getElem?_cons_zero List.getElem?_cons_succ List.getElem?_toArray runOps stepOp.eq_def agd.eq_def dstOk.eq_def opVal.eq_def opNew.eq_def opSto.eq_def ev.eq_def cv.eq_def puts_some puts_none upd_ap lst.eq_def aBin.eq_def aUn.eq_def aBi_str aBi_isl aBi_osl aBi_nsl aBi_max aBi_min aBi_max3 aConv.eq_def aLd.eq_def aLoad.eq_def aField.eq_def aFld.eq_def aIdx_isl aIdx_osl aSlc_isl aSlc_osl aSlc_str aSlc_nsl bnd.eq_def evs_nil evs_cons aBuild.eq_def aFill splice.eq_def cells_agg cells_int cells_bool cells_str cells_nil cells_nsl cells_isl cells_osl cells_ptr cells_ip cells_fn cells_Wd one_int one_bool one_str one_nil one_nsl one_isl one_osl one_ptr one_ip one_fn one_Wd aSets hupd_eq hupd_ne wrap_i64s wrap_u64s wrap_u32s wrap_u8s wd_getD wd_set wd_len wd_replicate wd_one wd_fold fz_osl hupd_same aSix.eq_def aEqS.eq_def aEqB_bool aEqB_nsl aEqB_nil
attribute [local simp] szT2 byT2 agT2 unT2 zoT2 szT4 byT4 agT4 unT4 zoT4 szT33 byT33 agT33 flT33 fdT33_0 fdT33_1 fdT33_2 fdT33_3 zoT33 szT35 byT35 agT35 flT35 fdT35_0 fdT35_1 fdT35_2 zoT35 szT90 byT90 agT90 elT90 unT90 zoT90 szT92 byT92 agT92 flT92 fdT92_0 fdT92_1 zoT92 szT94 byT94 agT94 flT94 fdT94_0 fdT94_1 fdT94_2 zoT94 szT97 byT97 agT97 elT97 unT97 zoT97 szT99 byT99 agT99 flT99 fdT99_0 fdT99_1 zoT99 szT150 byT150 agT150 flT150 fdT150_0 fdT150_1 fdT150_2 zoT150

theorem beqd (a b : Int) : (a == b) = decide (a = b) := by rw [Bool.eq_iff_iff]; simp
theorem eqW4n (n : Nat) (a b c d a' b' c' d' : Int) : eqW Try.prog (n + 2) 33 [.int .u64 a, .int .u64 b, .int .u64 c, .int .u64 d] [.int .u64 a', .int .u64 b', .int .u64 c', .int .u64 d'] = some ((a == a') && ((b == b') && ((c == c') && ((d == d') && true)))) := by
  have hs : Try.prog.stoodInHeld 33 = false := by kernel_rfl
  have hz : szOf Try.prog 31 = some 1 := by kernel_rfl
  have ha : aggT Try.prog 31 = some false := by kernel_rfl
  unfold eqW
  simp only [Try.underlying33, hs]
  simp [eqF, hz, ha, eqW1]
theorem eqPt (p q : Pt) : eqW Try.prog 8 35 [.int .u64 p.x.a, .int .u64 p.x.b, .int .u64 p.x.c, .int .u64 p.x.d, .int .u64 p.y.a, .int .u64 p.y.b, .int .u64 p.y.c, .int .u64 p.y.d, .int .u64 p.w.a, .int .u64 p.w.b, .int .u64 p.w.c, .int .u64 p.w.d] [.int .u64 q.x.a, .int .u64 q.x.b, .int .u64 q.x.c, .int .u64 q.x.d, .int .u64 q.y.a, .int .u64 q.y.b, .int .u64 q.y.c, .int .u64 q.y.d, .int .u64 q.w.a, .int .u64 q.w.b, .int .u64 q.w.c, .int .u64 q.w.d] = some (decide (p = q)) := by
  have hs : Try.prog.stoodInHeld 35 = false := by kernel_rfl
  have hz : szOf Try.prog 33 = some 4 := by kernel_rfl
  have ha : aggT Try.prog 33 = some true := by kernel_rfl
  unfold eqW
  simp only [Try.underlying35, hs]
  simp [eqF, hz, ha, eqW4n]
  obtain ⟨⟨a1, a2, a3, a4⟩, ⟨b1, b2, b3, b4⟩, ⟨c1, c2, c3, c4⟩⟩ := p
  obtain ⟨⟨d1, d2, d3, d4⟩, ⟨e1, e2, e3, e4⟩, ⟨f1, f2, f3, f4⟩⟩ := q
  rw [Bool.eq_iff_iff]
  simp [Pt.mk.injEq, W4.mk.injEq, and_assoc]
theorem cmV_self (p : Pt) : cmV p p = 0 := by
  have := cmV_anti p p; omega
theorem pteq_iff {p q : Pt} (hp : p.ok) (hq : q.ok) (gp : p.good = true) (gq : q.good = true) : pteq p q = decide (p = q) := by
  unfold pteq
  by_cases h : p = q
  · subst h; simp [cmV_self]
  · have : cmV p q ≠ 0 := fun e => h (cmV_zero hp hq gp gq e)
    simp [h, this]

set_option maxHeartbeats 2000000 in
theorem cmpPoints_fc (p q : Pt) (hp : p.ok) (hq : q.ok) : FC Try.prog 135 [p.av, q.av] (.int .i64 (cmV p q)) := by
  have pX := W4.bg hp.1
  have pY := W4.bg hp.2.1
  have pW := W4.bg hp.2.2
  have qX := W4.bg hq.1
  have qY := W4.bg hq.2.1
  have qW := W4.bg hq.2.2
  have hcx : FC Try.prog 65 [numI (p.x.v * q.w.v), numI (q.x.v * p.w.v)] (.int .i64 (cmX p q)) := cmp_fc (pX.mul qW) (qX.mul pW) (by omega) (by omega)
  have hcy : FC Try.prog 65 [numI (p.y.v * q.w.v), numI (q.y.v * p.w.v)] (.int .i64 (cmY p q)) := cmp_fc (pY.mul qW) (qY.mul pW) (by omega) (by omega)
  refine FC.body Try.func135 rfl (by simp [idfL, idf, Pt.av, Pt.cells]) (by simp [idfL, idf, idfLL_iff, idf_Wd', idf_numS, cells_numS, numS_fold, idf_numI, cells_numI, numI_fold, Pt.av, Pt.cells, spA, spC]) 40 rfl fun nx K hK => ?_
  refine AWP.seqk fun K1 hK1 => ?_
  refine AWP.region (AOPS.all (by simp (disch := first|omega|(simp only[ln];omega)) [idf_Wd', idf_numS, cells_numS, numS_fold, idf_numI, cells_numI, numI_fold, Pt.av, Pt.cells, spA, spC]; rfl) ?_)
  refine hK1 _ ?_
  refine AWP.seqk fun K2 hK2 => ?_
  refine AWP.seqk fun K3 hK3 => ?_
  refine AWP.region (AOPS.all (by simp (disch := first|omega|(simp only[ln];omega)) [idf_Wd', idf_numS, cells_numS, numS_fold, idf_numI, cells_numI, numI_fold, Pt.av, Pt.cells, spA, spC, eqPt]; rfl) ?_)
  refine hK3 _ ?_
  refine cond_ok (decide (p = q)) (by simp (disch := first|omega|(simp only[ln];omega))) (fun h10 => ?_) (fun h10 => ?_)
  · try simp only [decide_eq_true_eq, decide_eq_false_iff_not] at h10
    subst h10
    refine AWP.seqk fun K4 hK4 => ?_
    refine AWP.region (AOPS.all (by simp (disch := first|omega|(simp only[ln];omega)) [idf_Wd', idf_numS, cells_numS, numS_fold, idf_numI, cells_numI, numI_fold, Pt.av, Pt.cells, spA, spC]; rfl) ?_)
    refine hK4 _ ?_
    refine AWP.ret ?_
    exact hK _ _ _ _ trivial ((Fin.mk (by simp [aRes, aResL, aRes1, idf_Wd', idf_numS, cells_numS, numS_fold, idf_numI, cells_numI, numI_fold, Pt.av, Pt.cells, spA, spC]; rfl)).cast (by rw [cmV_self]))
  · try simp only [decide_eq_true_eq, decide_eq_false_iff_not] at h10
    refine AWP.skip ?_
    refine hK2 _ ?_
    refine AWP.seqk fun K5 hK5 => ?_
    refine AWP.old fun hold => ?_
    refine AWP.draw 6 Try.checked.mixed (by kernel_rfl) (by simp) ?_
    simp only [List.take_succ_cons, List.take_zero, List.drop_succ_cons, List.drop_zero]
    refine DP.runFk 1 (by simp (disch := first|omega|(simp only[ln];omega)) [runDf.eq_def, runF1, runF2, stepF.eq_def, updo.eq_def, hupo.eq_def, opSto1.eq_def, List.take_succ_cons, List.take_zero, idf_Wd', idf_numS, cells_numS, numS_fold, idf_numI, cells_numI, numI_fold, Pt.av, Pt.cells, spA, spC]; rfl) fun fs6 hfs6 => ?_
    replace hfs6 : fs6.length = 1 := hfs6.trans rfl
    simp only [List.drop_succ_cons, List.drop_zero]
    refine DP.fcall (spot_fc p hp) rfl rfl rfl hb103 (by simp (disch := first|omega|(simp only[ln];omega)) [idf_Wd', idf_numS, cells_numS, numS_fold, idf_numI, cells_numI, numI_fold, Pt.av, Pt.cells, spA, spC]) (by simp (disch := first|omega|(simp only[ln];omega))) (by simp) ?_
    simp only [updo]
    refine DP.runF1q (by simp (disch := first|omega|(simp only[ln];omega)) [runDf.eq_def, runF1, runF2, stepF.eq_def, updo.eq_def, hupo.eq_def, opSto1.eq_def, idf_Wd', idf_numS, cells_numS, numS_fold, idf_numI, cells_numI, numI_fold, Pt.av, Pt.cells, spA, spC]; rfl) fun fq7 hfq7 => ?_
    simp [qids, Op.operands, topId] at hfq7
    simp only [updo]
    refine DP.fcall (spot_fc q hq) rfl rfl rfl hb103 (by simp (disch := first|omega|(simp only[ln];omega)) [idf_Wd', idf_numS, cells_numS, numS_fold, idf_numI, cells_numI, numI_fold, Pt.av, Pt.cells, spA, spC]) (by simp (disch := first|omega|(simp only[ln];omega))) (by simp) ?_
    simp only [updo]
    refine DP.runFk 2 (by simp (disch := first|omega|(simp only[ln];omega)) [runDf.eq_def, runF1, runF2, stepF.eq_def, updo.eq_def, hupo.eq_def, opSto1.eq_def, List.take_succ_cons, List.take_zero, idf_Wd', idf_numS, cells_numS, numS_fold, idf_numI, cells_numI, numI_fold, Pt.av, Pt.cells, spA, spC]; rfl) fun fs8 hfs8 => ?_
    replace hfs8 : fs8.length = 2 := hfs8.trans rfl
    simp only [List.drop_succ_cons, List.drop_zero]
    refine DQ.sto1 (m := 6) [2] _ (by simp (disch := first|omega|(simp only[ln];omega)) [runDf.eq_def, runF1, runF2, stepF.eq_def, updo.eq_def, hupo.eq_def, opSto1.eq_def, idf_Wd', idf_numS, cells_numS, numS_fold, idf_numI, cells_numI, numI_fold, Pt.av, Pt.cells, spA, spC]; rfl) rfl (by simp only [List.length_append, List.length_cons, List.length_nil, hfs6, hfs8]; omega) (by kernel_rfl) (by intro k f hk hex; simp only [List.mem_cons, List.not_mem_nil, or_false] at hex; rcases hex with rfl <;> (simp [List.getElem?_append, hfs6, hfs8] at hk; subst hk; refine ⟨?_, by first | omega | (simp; done) | (simp; omega)⟩; simp [qids, Op.operands, Call.operands, topId, numS, numI, Wd, hfq7]; try omega)) ?_
    try simp only []
    refine DQ.sto1 (m := 6) [] _ (by simp (disch := first|omega|(simp only[ln];omega)) [runDf.eq_def, runF1, runF2, stepF.eq_def, updo.eq_def, hupo.eq_def, opSto1.eq_def, idf_Wd', idf_numS, cells_numS, numS_fold, idf_numI, cells_numI, numI_fold, Pt.av, Pt.cells, spA, spC]; rfl) rfl (by simp only [List.length_append, List.length_cons, List.length_nil, hfs6, hfs8]; omega) (by kernel_rfl) (by intro k f hk hex; simp only [List.not_mem_nil] at hex) ?_
    try simp only []
    refine hK5 _ ?_
    refine AWP.seqk fun K9 hK9 => ?_
    refine AWP.seqk fun K10 hK10 => ?_
    refine AWP.draw 11 Try.checked.mixed (by kernel_rfl) (by simp) ?_
    simp only [List.take_succ_cons, List.take_zero, List.drop_succ_cons, List.drop_zero]
    refine DP.runFk 4 (by simp (disch := first|omega|(simp only[ln];omega)) [runDf.eq_def, runF1, runF2, stepF.eq_def, updo.eq_def, hupo.eq_def, opSto1.eq_def, List.take_succ_cons, List.take_zero, idf_Wd', idf_numS, cells_numS, numS_fold, idf_numI, cells_numI, numI_fold, Pt.av, Pt.cells, spA, spC]; rfl) fun fs11 hfs11 => ?_
    replace hfs11 : fs11.length = 4 := hfs11.trans rfl
    simp only [List.drop_succ_cons, List.drop_zero]
    refine DP.fcall (by_fc pX qW (by omega) (by omega)) rfl rfl rfl hb62 (by simp (disch := first|omega|(simp only[ln];omega)) [idf_Wd', idf_numS, cells_numS, numS_fold, idf_numI, cells_numI, numI_fold, Pt.av, Pt.cells, spA, spC]) (by simp (disch := first|omega|(simp only[ln];omega))) (by simp) ?_
    simp only [updo]
    refine DP.runFk 4 (by simp (disch := first|omega|(simp only[ln];omega)) [runDf.eq_def, runF1, runF2, stepF.eq_def, updo.eq_def, hupo.eq_def, opSto1.eq_def, List.take_succ_cons, List.take_zero, idf_Wd', idf_numS, cells_numS, numS_fold, idf_numI, cells_numI, numI_fold, Pt.av, Pt.cells, spA, spC]; rfl) fun fs12 hfs12 => ?_
    replace hfs12 : fs12.length = 4 := hfs12.trans rfl
    simp only [List.drop_succ_cons, List.drop_zero]
    refine DP.fcall (by_fc qX pW (by omega) (by omega)) rfl rfl rfl hb62 (by simp (disch := first|omega|(simp only[ln];omega)) [idf_Wd', idf_numS, cells_numS, numS_fold, idf_numI, cells_numI, numI_fold, Pt.av, Pt.cells, spA, spC]) (by simp (disch := first|omega|(simp only[ln];omega))) (by simp) ?_
    simp only [updo]
    refine DP.fcall (hcx) rfl rfl rfl hb65 (by simp (disch := first|omega|(simp only[ln];omega)) [idf_Wd', idf_numS, cells_numS, numS_fold, idf_numI, cells_numI, numI_fold, Pt.av, Pt.cells, spA, spC]) (by simp (disch := first|omega|(simp only[ln];omega))) (by simp) ?_
    simp only [updo]
    refine DQ.runF (m := 11) (by simp only [List.length_append, List.length_cons, List.length_nil, hfs11, hfs12]; omega) _ _ _ (by kernel_rfl) rfl (by simp (disch := first|omega|(simp only[ln];omega)) [runDf.eq_def, runF1, runF2, stepF.eq_def, updo.eq_def, hupo.eq_def, opSto1.eq_def, idf_Wd', idf_numS, cells_numS, numS_fold, idf_numI, cells_numI, numI_fold, Pt.av, Pt.cells, spA, spC]; rfl) ?_
    refine hK10 _ ?_
    refine AWP.seqk fun K13 hK13 => ?_
    refine AWP.region (AOPS.all (by simp (disch := first|omega|(simp only[ln];omega)) [idf_Wd', idf_numS, cells_numS, numS_fold, idf_numI, cells_numI, numI_fold, Pt.av, Pt.cells, spA, spC]; rfl) ?_)
    refine hK13 _ ?_
    refine cond_ok (cmX p q != 0) (by simp (disch := first|omega|(simp only[ln];omega)) [bne]) (fun h27 => ?_) (fun h27 => ?_)
    · try simp only [decide_eq_true_eq, decide_eq_false_iff_not] at h27
      have hne : cmX p q ≠ 0 := by simpa using h27
      refine AWP.seqk fun K14 hK14 => ?_
      refine AWP.region (AOPS.all (by simp (disch := first|omega|(simp only[ln];omega)) [idf_Wd', idf_numS, cells_numS, numS_fold, idf_numI, cells_numI, numI_fold, Pt.av, Pt.cells, spA, spC]; rfl) ?_)
      refine hK14 _ ?_
      refine AWP.ret ?_
      exact hK _ _ _ _ trivial ((Fin.mk (by simp [aRes, aResL, aRes1, idf_Wd', idf_numS, cells_numS, numS_fold, idf_numI, cells_numI, numI_fold, Pt.av, Pt.cells, spA, spC]; rfl)).cast (by rw [cmV, if_pos hne]))
    · try simp only [decide_eq_true_eq, decide_eq_false_iff_not] at h27
      have hne : ¬ cmX p q ≠ 0 := by simpa using h27
      refine AWP.skip ?_
      refine hK9 _ ?_
      refine AWP.seqk fun K15 hK15 => ?_
      refine AWP.draw 11 Try.checked.mixed (by kernel_rfl) (by simp) ?_
      simp only [List.take_succ_cons, List.take_zero, List.drop_succ_cons, List.drop_zero]
      refine DP.runFk 4 (by simp (disch := first|omega|(simp only[ln];omega)) [runDf.eq_def, runF1, runF2, stepF.eq_def, updo.eq_def, hupo.eq_def, opSto1.eq_def, List.take_succ_cons, List.take_zero, idf_Wd', idf_numS, cells_numS, numS_fold, idf_numI, cells_numI, numI_fold, Pt.av, Pt.cells, spA, spC]; rfl) fun fs16 hfs16 => ?_
      replace hfs16 : fs16.length = 4 := hfs16.trans rfl
      simp only [List.drop_succ_cons, List.drop_zero]
      refine DP.fcall (by_fc pY qW (by omega) (by omega)) rfl rfl rfl hb62 (by simp (disch := first|omega|(simp only[ln];omega)) [idf_Wd', idf_numS, cells_numS, numS_fold, idf_numI, cells_numI, numI_fold, Pt.av, Pt.cells, spA, spC]) (by simp (disch := first|omega|(simp only[ln];omega))) (by simp) ?_
      simp only [updo]
      refine DP.runFk 4 (by simp (disch := first|omega|(simp only[ln];omega)) [runDf.eq_def, runF1, runF2, stepF.eq_def, updo.eq_def, hupo.eq_def, opSto1.eq_def, List.take_succ_cons, List.take_zero, idf_Wd', idf_numS, cells_numS, numS_fold, idf_numI, cells_numI, numI_fold, Pt.av, Pt.cells, spA, spC]; rfl) fun fs17 hfs17 => ?_
      replace hfs17 : fs17.length = 4 := hfs17.trans rfl
      simp only [List.drop_succ_cons, List.drop_zero]
      refine DP.fcall (by_fc qY pW (by omega) (by omega)) rfl rfl rfl hb62 (by simp (disch := first|omega|(simp only[ln];omega)) [idf_Wd', idf_numS, cells_numS, numS_fold, idf_numI, cells_numI, numI_fold, Pt.av, Pt.cells, spA, spC]) (by simp (disch := first|omega|(simp only[ln];omega))) (by simp) ?_
      simp only [updo]
      refine DP.fcall (hcy) rfl rfl rfl hb65 (by simp (disch := first|omega|(simp only[ln];omega)) [idf_Wd', idf_numS, cells_numS, numS_fold, idf_numI, cells_numI, numI_fold, Pt.av, Pt.cells, spA, spC]) (by simp (disch := first|omega|(simp only[ln];omega))) (by simp) ?_
      simp only [updo]
      refine DQ.runF (m := 11) (by simp only [List.length_append, List.length_cons, List.length_nil, hfs16, hfs17]; omega) _ _ _ (by kernel_rfl) rfl (by simp (disch := first|omega|(simp only[ln];omega)) [runDf.eq_def, runF1, runF2, stepF.eq_def, updo.eq_def, hupo.eq_def, opSto1.eq_def, idf_Wd', idf_numS, cells_numS, numS_fold, idf_numI, cells_numI, numI_fold, Pt.av, Pt.cells, spA, spC]; rfl) ?_
      refine hK15 _ ?_
      refine AWP.ret ?_
      exact hK _ _ _ _ trivial ((Fin.mk (by simp [aRes, aResL, aRes1, idf_Wd', idf_numS, cells_numS, numS_fold, idf_numI, cells_numI, numI_fold, Pt.av, Pt.cells, spA, spC]; rfl)).cast (by rw [cmV, if_neg hne]))

set_option maxHeartbeats 2000000 in
theorem between_fc (p q r : Pt) (hp : p.ok) (hq : q.ok) (hr : r.ok) (gp : p.good = true) (gq : q.good = true) (gr : r.good = true) : FC Try.prog 82 [p.av, q.av, r.av] (.bool (btI p q r)) := by
  have e1 := pteq_iff hp hr gp gr
  have e2 := pteq_iff hq hr gq gr
  have b1 := cmV_b p r
  have b2 := cmV_b r q
  have hb : btI p q r = (decide (p = r) || decide (q = r) || (decide (0 < cmV p r * cmV r q) && decide (sg3 (det p q r) = 0))) := by unfold btI; rw [e1, e2]
  have hm : IntKind.i64.wrap (cmV p r * cmV r q) = cmV p r * cmV r q := by
    rcases (show cmV p r = -1 ∨ cmV p r = 0 ∨ cmV p r = 1 by omega) with h | h | h <;> rw [h] <;> exact wrap_i64s (by omega) (by omega)
  refine FC.body Try.func82 rfl (by simp [idfL, idf, Pt.av, Pt.cells]) (by simp [idfL, idf, idfLL_iff, idf_Wd', idf_numS, cells_numS, numS_fold, idf_numI, cells_numI, numI_fold, Pt.av, Pt.cells]) 30 rfl fun nx K hK => ?_
  refine AWP.seqk fun K1 hK1 => ?_
  refine AWP.region (AOPS.all (by simp (disch := first|omega|(simp only[ln];omega)) [idf_Wd', idf_numS, cells_numS, numS_fold, idf_numI, cells_numI, numI_fold, Pt.av, Pt.cells]; rfl) ?_)
  refine hK1 _ ?_
  refine AWP.seqk fun K2 hK2 => ?_
  refine AWP.seqk fun K3 hK3 => ?_
  by_cases hpr : p = r
  · have c1 : decide (p = r) = true := by simp [hpr]
    refine AWP.region (AOPS.all (by simp (disch := first|omega|(simp only[ln];omega)) [idf_Wd', idf_numS, cells_numS, numS_fold, idf_numI, cells_numI, numI_fold, Pt.av, Pt.cells, eqPt, c1]; rfl) ?_)
    refine hK3 _ ?_
    refine cond_ok _ (by simp (disch := first|omega|(simp only[ln];omega)); rfl) (fun h14 => ?_) (fun h14 => ?_)
    · try simp only [decide_eq_true_eq, decide_eq_false_iff_not] at h14
      refine AWP.seqk fun K4 hK4 => ?_
      refine AWP.region (AOPS.all (by simp (disch := first|omega|(simp only[ln];omega)) [idf_Wd', idf_numS, cells_numS, numS_fold, idf_numI, cells_numI, numI_fold, Pt.av, Pt.cells]; rfl) ?_)
      refine hK4 _ ?_
      refine AWP.ret ?_
      exact hK _ _ _ _ trivial ((Fin.mk (by simp [aRes, aResL, aRes1, idf_Wd', idf_numS, cells_numS, numS_fold, idf_numI, cells_numI, numI_fold, Pt.av, Pt.cells]; rfl)).cast (by rw [hb, c1]; rfl))
    · simp at h14
  · have c1 : decide (p = r) = false := by simp [hpr]
    refine AWP.region (AOPS.all (by simp (disch := first|omega|(simp only[ln];omega)) [idf_Wd', idf_numS, cells_numS, numS_fold, idf_numI, cells_numI, numI_fold, Pt.av, Pt.cells, eqPt, c1]; rfl) ?_)
    refine hK3 _ ?_
    refine cond_ok (decide (q = r)) (by simp (disch := first|omega|(simp only[ln];omega))) (fun h14 => ?_) (fun h14 => ?_)
    · try simp only [decide_eq_true_eq, decide_eq_false_iff_not] at h14
      refine AWP.seqk fun K5 hK5 => ?_
      refine AWP.region (AOPS.all (by simp (disch := first|omega|(simp only[ln];omega)) [idf_Wd', idf_numS, cells_numS, numS_fold, idf_numI, cells_numI, numI_fold, Pt.av, Pt.cells]; rfl) ?_)
      refine hK5 _ ?_
      refine AWP.ret ?_
      exact hK _ _ _ _ trivial ((Fin.mk (by simp [aRes, aResL, aRes1, idf_Wd', idf_numS, cells_numS, numS_fold, idf_numI, cells_numI, numI_fold, Pt.av, Pt.cells]; rfl)).cast (by rw [hb, decide_eq_true h14]; simp))
    · try simp only [decide_eq_true_eq, decide_eq_false_iff_not] at h14
      have c2 : decide (q = r) = false := decide_eq_false h14
      refine AWP.skip ?_
      refine hK2 _ ?_
      refine AWP.seqk fun K6 hK6 => ?_
      cases hc : decide (0 < cmV p r * cmV r q)
      · refine AWP.draw 15 Try.checked.mixed (by kernel_rfl) (by simp) ?_
        simp only [List.take_succ_cons, List.take_zero, List.drop_succ_cons, List.drop_zero]
        refine DP.runFk 2 (by simp (disch := first|omega|(simp only[ln];omega)) [runDf.eq_def, runF1, runF2, stepF.eq_def, updo.eq_def, hupo.eq_def, opSto1.eq_def, List.take_succ_cons, List.take_zero, idf_Wd', idf_numS, cells_numS, numS_fold, idf_numI, cells_numI, numI_fold, Pt.av, Pt.cells, hm, hc]; rfl) fun fs7 hfs7 => ?_
        replace hfs7 : fs7.length = 2 := hfs7.trans rfl
        simp only [List.drop_succ_cons, List.drop_zero]
        refine DP.fcall (cmpPoints_fc p r hp hr) rfl rfl rfl hb135 (by simp (disch := first|omega|(simp only[ln];omega)) [idf_Wd', hm, hc, idf_numS, cells_numS, numS_fold, idf_numI, cells_numI, numI_fold, Pt.av, Pt.cells]) (by simp (disch := first|omega|(simp only[ln];omega)) [hm, hc]) (by simp) ?_
        simp only [updo]
        refine DP.runFk 2 (by simp (disch := first|omega|(simp only[ln];omega)) [runDf.eq_def, runF1, runF2, stepF.eq_def, updo.eq_def, hupo.eq_def, opSto1.eq_def, List.take_succ_cons, List.take_zero, idf_Wd', idf_numS, cells_numS, numS_fold, idf_numI, cells_numI, numI_fold, Pt.av, Pt.cells, hm, hc]; rfl) fun fs8 hfs8 => ?_
        replace hfs8 : fs8.length = 2 := hfs8.trans rfl
        simp only [List.drop_succ_cons, List.drop_zero]
        refine DP.fcall (cmpPoints_fc r q hr hq) rfl rfl rfl hb135 (by simp (disch := first|omega|(simp only[ln];omega)) [idf_Wd', hm, hc, idf_numS, cells_numS, numS_fold, idf_numI, cells_numI, numI_fold, Pt.av, Pt.cells]) (by simp (disch := first|omega|(simp only[ln];omega)) [hm, hc]) (by simp) ?_
        simp only [updo]
        refine DP.runFk 9 (by simp (disch := first|omega|(simp only[ln];omega)) [runDf.eq_def, runF1, runF2, stepF.eq_def, updo.eq_def, hupo.eq_def, opSto1.eq_def, List.take_succ_cons, List.take_zero, idf_Wd', idf_numS, cells_numS, numS_fold, idf_numI, cells_numI, numI_fold, Pt.av, Pt.cells, hm, hc]; rfl) fun fs9 hfs9 => ?_
        replace hfs9 : fs9.length = 9 := hfs9.trans rfl
        simp only [List.drop_succ_cons, List.drop_zero]
        refine DQ.runF (m := 15) (by simp only [List.length_append, List.length_cons, List.length_nil, hfs7, hfs8, hfs9]; omega) _ _ _ (by kernel_rfl) rfl (by simp (disch := first|omega|(simp only[ln];omega)) [runDf.eq_def, runF1, runF2, stepF.eq_def, updo.eq_def, hupo.eq_def, opSto1.eq_def, idf_Wd', idf_numS, cells_numS, numS_fold, idf_numI, cells_numI, numI_fold, Pt.av, Pt.cells, hm, hc]; rfl) ?_
        refine hK6 _ ?_
        refine AWP.ret ?_
        exact hK _ _ _ _ trivial ((Fin.mk (by simp [aRes, aResL, aRes1, idf_Wd', idf_numS, cells_numS, numS_fold, idf_numI, cells_numI, numI_fold, Pt.av, Pt.cells]; rfl)).cast (by rw [hb, c1, c2, hc]; rfl))
      · refine AWP.draw 15 Try.checked.mixed (by kernel_rfl) (by simp) ?_
        simp only [List.take_succ_cons, List.take_zero, List.drop_succ_cons, List.drop_zero]
        refine DP.runFk 2 (by simp (disch := first|omega|(simp only[ln];omega)) [runDf.eq_def, runF1, runF2, stepF.eq_def, updo.eq_def, hupo.eq_def, opSto1.eq_def, List.take_succ_cons, List.take_zero, idf_Wd', idf_numS, cells_numS, numS_fold, idf_numI, cells_numI, numI_fold, Pt.av, Pt.cells, hm, hc]; rfl) fun fs10 hfs10 => ?_
        replace hfs10 : fs10.length = 2 := hfs10.trans rfl
        simp only [List.drop_succ_cons, List.drop_zero]
        refine DP.fcall (cmpPoints_fc p r hp hr) rfl rfl rfl hb135 (by simp (disch := first|omega|(simp only[ln];omega)) [idf_Wd', hm, hc, idf_numS, cells_numS, numS_fold, idf_numI, cells_numI, numI_fold, Pt.av, Pt.cells]) (by simp (disch := first|omega|(simp only[ln];omega)) [hm, hc]) (by simp) ?_
        simp only [updo]
        refine DP.runFk 2 (by simp (disch := first|omega|(simp only[ln];omega)) [runDf.eq_def, runF1, runF2, stepF.eq_def, updo.eq_def, hupo.eq_def, opSto1.eq_def, List.take_succ_cons, List.take_zero, idf_Wd', idf_numS, cells_numS, numS_fold, idf_numI, cells_numI, numI_fold, Pt.av, Pt.cells, hm, hc]; rfl) fun fs11 hfs11 => ?_
        replace hfs11 : fs11.length = 2 := hfs11.trans rfl
        simp only [List.drop_succ_cons, List.drop_zero]
        refine DP.fcall (cmpPoints_fc r q hr hq) rfl rfl rfl hb135 (by simp (disch := first|omega|(simp only[ln];omega)) [idf_Wd', hm, hc, idf_numS, cells_numS, numS_fold, idf_numI, cells_numI, numI_fold, Pt.av, Pt.cells]) (by simp (disch := first|omega|(simp only[ln];omega)) [hm, hc]) (by simp) ?_
        simp only [updo]
        refine DP.runFk 6 (by simp (disch := first|omega|(simp only[ln];omega)) [runDf.eq_def, runF1, runF2, stepF.eq_def, updo.eq_def, hupo.eq_def, opSto1.eq_def, List.take_succ_cons, List.take_zero, idf_Wd', idf_numS, cells_numS, numS_fold, idf_numI, cells_numI, numI_fold, Pt.av, Pt.cells, hm, hc]; rfl) fun fs12 hfs12 => ?_
        replace hfs12 : fs12.length = 6 := hfs12.trans rfl
        simp only [List.drop_succ_cons, List.drop_zero]
        refine DP.fcall (turn_fc p q r hp hq hr) rfl rfl rfl hb48 (by simp (disch := first|omega|(simp only[ln];omega)) [idf_Wd', hm, hc, idf_numS, cells_numS, numS_fold, idf_numI, cells_numI, numI_fold, Pt.av, Pt.cells]) (by simp (disch := first|omega|(simp only[ln];omega)) [hm, hc]) (by simp) ?_
        simp only [updo]
        refine DP.runFk 2 (by simp (disch := first|omega|(simp only[ln];omega)) [runDf.eq_def, runF1, runF2, stepF.eq_def, updo.eq_def, hupo.eq_def, opSto1.eq_def, List.take_succ_cons, List.take_zero, idf_Wd', idf_numS, cells_numS, numS_fold, idf_numI, cells_numI, numI_fold, Pt.av, Pt.cells, hm, hc]; rfl) fun fs13 hfs13 => ?_
        replace hfs13 : fs13.length = 2 := hfs13.trans rfl
        simp only [List.drop_succ_cons, List.drop_zero]
        refine DQ.runF (m := 15) (by simp only [List.length_append, List.length_cons, List.length_nil, hfs10, hfs11, hfs12, hfs13]; omega) _ _ _ (by kernel_rfl) rfl (by simp (disch := first|omega|(simp only[ln];omega)) [runDf.eq_def, runF1, runF2, stepF.eq_def, updo.eq_def, hupo.eq_def, opSto1.eq_def, idf_Wd', idf_numS, cells_numS, numS_fold, idf_numI, cells_numI, numI_fold, Pt.av, Pt.cells, hm, hc]; rfl) ?_
        refine hK6 _ ?_
        refine AWP.ret ?_
        exact hK _ _ _ _ trivial ((Fin.mk (r := .bool (sg3 (det p q r) == 0)) (by simp [aRes, aResL, aRes1, idf_Wd', idf_numS, cells_numS, numS_fold, idf_numI, cells_numI, numI_fold, Pt.av, Pt.cells])).cast (by rw [hb, c1, c2, hc]; simp [beqd]))

set_option maxHeartbeats 2000000 in
theorem crosses_fc (a b p : Pt) (ha : a.ok) (hb : b.ok) (hp : p.ok) : FC Try.prog 83 [a.av, b.av, p.av] (.bool (cuI a b p)) := by
  have aX := W4.bg ha.1
  have aY := W4.bg ha.2.1
  have aW := W4.bg ha.2.2
  have bX := W4.bg hb.1
  have bY := W4.bg hb.2.1
  have bW := W4.bg hb.2.2
  have pX := W4.bg hp.1
  have pY := W4.bg hp.2.1
  have pW := W4.bg hp.2.2
  have hca : FC Try.prog 65 [numI (a.y.v * p.w.v), numI (p.y.v * a.w.v)] (.int .i64 (cmY a p)) := cmp_fc (aY.mul pW) (pY.mul aW) (by omega) (by omega)
  have hcb : FC Try.prog 65 [numI (b.y.v * p.w.v), numI (p.y.v * b.w.v)] (.int .i64 (cmY b p)) := cmp_fc (bY.mul pW) (pY.mul bW) (by omega) (by omega)
  refine FC.body Try.func83 rfl (by simp [idfL, idf, Pt.av, Pt.cells]) (by simp [idfL, idf, idfLL_iff, idf_Wd', idf_numS, cells_numS, numS_fold, idf_numI, cells_numI, numI_fold, Pt.av, Pt.cells, spA, spC]) 58 rfl fun nx K hK => ?_
  refine AWP.seqk fun K1 hK1 => ?_
  refine AWP.region (AOPS.all (by simp (disch := first|omega|(simp only[ln];omega)) [idf_Wd', idf_numS, cells_numS, numS_fold, idf_numI, cells_numI, numI_fold, Pt.av, Pt.cells, spA, spC]; rfl) ?_)
  refine hK1 _ ?_
  refine AWP.seqk fun K2 hK2 => ?_
  refine AWP.old fun hold => ?_
  refine AWP.draw 9 Try.checked.mixed (by kernel_rfl) (by simp) ?_
  simp only [List.take_succ_cons, List.take_zero, List.drop_succ_cons, List.drop_zero]
  refine DP.runFk 1 (by simp (disch := first|omega|(simp only[ln];omega)) [runDf.eq_def, runF1, runF2, stepF.eq_def, updo.eq_def, hupo.eq_def, opSto1.eq_def, List.take_succ_cons, List.take_zero, idf_Wd', idf_numS, cells_numS, numS_fold, idf_numI, cells_numI, numI_fold, Pt.av, Pt.cells, spA, spC]; rfl) fun fs3 hfs3 => ?_
  replace hfs3 : fs3.length = 1 := hfs3.trans rfl
  simp only [List.drop_succ_cons, List.drop_zero]
  refine DP.fcall (spot_fc a ha) rfl rfl rfl hb103 (by simp (disch := first|omega|(simp only[ln];omega)) [idf_Wd', idf_numS, cells_numS, numS_fold, idf_numI, cells_numI, numI_fold, Pt.av, Pt.cells, spA, spC]) (by simp (disch := first|omega|(simp only[ln];omega))) (by simp) ?_
  simp only [updo]
  refine DP.runF1q (by simp (disch := first|omega|(simp only[ln];omega)) [runDf.eq_def, runF1, runF2, stepF.eq_def, updo.eq_def, hupo.eq_def, opSto1.eq_def, idf_Wd', idf_numS, cells_numS, numS_fold, idf_numI, cells_numI, numI_fold, Pt.av, Pt.cells, spA, spC]; rfl) fun fq4 hfq4 => ?_
  simp [qids, Op.operands, topId] at hfq4
  simp only [updo]
  refine DP.fcall (spot_fc b hb) rfl rfl rfl hb103 (by simp (disch := first|omega|(simp only[ln];omega)) [idf_Wd', idf_numS, cells_numS, numS_fold, idf_numI, cells_numI, numI_fold, Pt.av, Pt.cells, spA, spC]) (by simp (disch := first|omega|(simp only[ln];omega))) (by simp) ?_
  simp only [updo]
  refine DP.runF1q (by simp (disch := first|omega|(simp only[ln];omega)) [runDf.eq_def, runF1, runF2, stepF.eq_def, updo.eq_def, hupo.eq_def, opSto1.eq_def, idf_Wd', idf_numS, cells_numS, numS_fold, idf_numI, cells_numI, numI_fold, Pt.av, Pt.cells, spA, spC]; rfl) fun fq5 hfq5 => ?_
  simp [qids, Op.operands, topId] at hfq5
  simp only [updo]
  refine DP.fcall (spot_fc p hp) rfl rfl rfl hb103 (by simp (disch := first|omega|(simp only[ln];omega)) [idf_Wd', idf_numS, cells_numS, numS_fold, idf_numI, cells_numI, numI_fold, Pt.av, Pt.cells, spA, spC]) (by simp (disch := first|omega|(simp only[ln];omega))) (by simp) ?_
  simp only [updo]
  refine DP.runFk 3 (by simp (disch := first|omega|(simp only[ln];omega)) [runDf.eq_def, runF1, runF2, stepF.eq_def, updo.eq_def, hupo.eq_def, opSto1.eq_def, List.take_succ_cons, List.take_zero, idf_Wd', idf_numS, cells_numS, numS_fold, idf_numI, cells_numI, numI_fold, Pt.av, Pt.cells, spA, spC]; rfl) fun fs6 hfs6 => ?_
  replace hfs6 : fs6.length = 3 := hfs6.trans rfl
  simp only [List.drop_succ_cons, List.drop_zero]
  refine DQ.sto1 (m := 9) [2, 3, 4] _ (by simp (disch := first|omega|(simp only[ln];omega)) [runDf.eq_def, runF1, runF2, stepF.eq_def, updo.eq_def, hupo.eq_def, opSto1.eq_def, idf_Wd', idf_numS, cells_numS, numS_fold, idf_numI, cells_numI, numI_fold, Pt.av, Pt.cells, spA, spC]; rfl) rfl (by simp only [List.length_append, List.length_cons, List.length_nil, hfs3, hfs6]; omega) (by kernel_rfl) (by intro k f hk hex; simp only [List.mem_cons, List.not_mem_nil, or_false] at hex; rcases hex with rfl | rfl | rfl <;> (simp [List.getElem?_append, hfs3, hfs6] at hk; subst hk; refine ⟨?_, by first | omega | (simp; done) | (simp; omega)⟩; simp [qids, Op.operands, Call.operands, topId, numS, numI, Wd, hfq4, hfq5]; try omega)) ?_
  try simp only []
  refine DQ.sto1 (m := 9) [4, 5] _ (by simp (disch := first|omega|(simp only[ln];omega)) [runDf.eq_def, runF1, runF2, stepF.eq_def, updo.eq_def, hupo.eq_def, opSto1.eq_def, idf_Wd', idf_numS, cells_numS, numS_fold, idf_numI, cells_numI, numI_fold, Pt.av, Pt.cells, spA, spC]; rfl) rfl (by simp only [List.length_append, List.length_cons, List.length_nil, hfs3, hfs6]; omega) (by kernel_rfl) (by intro k f hk hex; simp only [List.mem_cons, List.not_mem_nil, or_false] at hex; rcases hex with rfl | rfl <;> (simp [List.getElem?_append, hfs3, hfs6] at hk; subst hk; refine ⟨?_, by first | omega | (simp; done) | (simp; omega)⟩; simp [qids, Op.operands, Call.operands, topId, numS, numI, Wd, hfq4, hfq5]; try omega)) ?_
  try simp only []
  refine DQ.sto1 (m := 9) [] _ (by simp (disch := first|omega|(simp only[ln];omega)) [runDf.eq_def, runF1, runF2, stepF.eq_def, updo.eq_def, hupo.eq_def, opSto1.eq_def, idf_Wd', idf_numS, cells_numS, numS_fold, idf_numI, cells_numI, numI_fold, Pt.av, Pt.cells, spA, spC]; rfl) rfl (by simp only [List.length_append, List.length_cons, List.length_nil, hfs3, hfs6]; omega) (by kernel_rfl) (by intro k f hk hex; simp only [List.not_mem_nil] at hex) ?_
  try simp only []
  refine hK2 _ ?_
  refine AWP.seqk fun K7 hK7 => ?_
  refine AWP.draw 24 Try.checked.mixed (by kernel_rfl) (by simp) ?_
  simp only [List.take_succ_cons, List.take_zero, List.drop_succ_cons, List.drop_zero]
  refine DP.runFk 4 (by simp (disch := first|omega|(simp only[ln];omega)) [runDf.eq_def, runF1, runF2, stepF.eq_def, updo.eq_def, hupo.eq_def, opSto1.eq_def, List.take_succ_cons, List.take_zero, idf_Wd', idf_numS, cells_numS, numS_fold, idf_numI, cells_numI, numI_fold, Pt.av, Pt.cells, spA, spC]; rfl) fun fs8 hfs8 => ?_
  replace hfs8 : fs8.length = 4 := hfs8.trans rfl
  simp only [List.drop_succ_cons, List.drop_zero]
  refine DP.fcall (by_fc aY pW (by omega) (by omega)) rfl rfl rfl hb62 (by simp (disch := first|omega|(simp only[ln];omega)) [idf_Wd', idf_numS, cells_numS, numS_fold, idf_numI, cells_numI, numI_fold, Pt.av, Pt.cells, spA, spC]) (by simp (disch := first|omega|(simp only[ln];omega))) (by simp) ?_
  simp only [updo]
  refine DP.runFk 4 (by simp (disch := first|omega|(simp only[ln];omega)) [runDf.eq_def, runF1, runF2, stepF.eq_def, updo.eq_def, hupo.eq_def, opSto1.eq_def, List.take_succ_cons, List.take_zero, idf_Wd', idf_numS, cells_numS, numS_fold, idf_numI, cells_numI, numI_fold, Pt.av, Pt.cells, spA, spC]; rfl) fun fs9 hfs9 => ?_
  replace hfs9 : fs9.length = 4 := hfs9.trans rfl
  simp only [List.drop_succ_cons, List.drop_zero]
  refine DP.fcall (by_fc pY aW (by omega) (by omega)) rfl rfl rfl hb62 (by simp (disch := first|omega|(simp only[ln];omega)) [idf_Wd', idf_numS, cells_numS, numS_fold, idf_numI, cells_numI, numI_fold, Pt.av, Pt.cells, spA, spC]) (by simp (disch := first|omega|(simp only[ln];omega))) (by simp) ?_
  simp only [updo]
  refine DP.fcall (hca) rfl rfl rfl hb65 (by simp (disch := first|omega|(simp only[ln];omega)) [idf_Wd', idf_numS, cells_numS, numS_fold, idf_numI, cells_numI, numI_fold, Pt.av, Pt.cells, spA, spC]) (by simp (disch := first|omega|(simp only[ln];omega))) (by simp) ?_
  simp only [updo]
  refine DP.runFk 5 (by simp (disch := first|omega|(simp only[ln];omega)) [runDf.eq_def, runF1, runF2, stepF.eq_def, updo.eq_def, hupo.eq_def, opSto1.eq_def, List.take_succ_cons, List.take_zero, idf_Wd', idf_numS, cells_numS, numS_fold, idf_numI, cells_numI, numI_fold, Pt.av, Pt.cells, spA, spC]; rfl) fun fs10 hfs10 => ?_
  replace hfs10 : fs10.length = 5 := hfs10.trans rfl
  simp only [List.drop_succ_cons, List.drop_zero]
  refine DP.fcall (by_fc bY pW (by omega) (by omega)) rfl rfl rfl hb62 (by simp (disch := first|omega|(simp only[ln];omega)) [idf_Wd', idf_numS, cells_numS, numS_fold, idf_numI, cells_numI, numI_fold, Pt.av, Pt.cells, spA, spC]) (by simp (disch := first|omega|(simp only[ln];omega))) (by simp) ?_
  simp only [updo]
  refine DP.runFk 4 (by simp (disch := first|omega|(simp only[ln];omega)) [runDf.eq_def, runF1, runF2, stepF.eq_def, updo.eq_def, hupo.eq_def, opSto1.eq_def, List.take_succ_cons, List.take_zero, idf_Wd', idf_numS, cells_numS, numS_fold, idf_numI, cells_numI, numI_fold, Pt.av, Pt.cells, spA, spC]; rfl) fun fs11 hfs11 => ?_
  replace hfs11 : fs11.length = 4 := hfs11.trans rfl
  simp only [List.drop_succ_cons, List.drop_zero]
  refine DP.fcall (by_fc pY bW (by omega) (by omega)) rfl rfl rfl hb62 (by simp (disch := first|omega|(simp only[ln];omega)) [idf_Wd', idf_numS, cells_numS, numS_fold, idf_numI, cells_numI, numI_fold, Pt.av, Pt.cells, spA, spC]) (by simp (disch := first|omega|(simp only[ln];omega))) (by simp) ?_
  simp only [updo]
  refine DP.fcall (hcb) rfl rfl rfl hb65 (by simp (disch := first|omega|(simp only[ln];omega)) [idf_Wd', idf_numS, cells_numS, numS_fold, idf_numI, cells_numI, numI_fold, Pt.av, Pt.cells, spA, spC]) (by simp (disch := first|omega|(simp only[ln];omega))) (by simp) ?_
  simp only [updo]
  refine DP.runFk 1 (by simp (disch := first|omega|(simp only[ln];omega)) [runDf.eq_def, runF1, runF2, stepF.eq_def, updo.eq_def, hupo.eq_def, opSto1.eq_def, List.take_succ_cons, List.take_zero, idf_Wd', idf_numS, cells_numS, numS_fold, idf_numI, cells_numI, numI_fold, Pt.av, Pt.cells, spA, spC]; rfl) fun fs12 hfs12 => ?_
  replace hfs12 : fs12.length = 1 := hfs12.trans rfl
  simp only [List.drop_succ_cons, List.drop_zero]
  refine DQ.runF (m := 24) (by simp only [List.length_append, List.length_cons, List.length_nil, hfs8, hfs9, hfs10, hfs11, hfs12]; omega) _ _ _ (by kernel_rfl) rfl (by simp (disch := first|omega|(simp only[ln];omega)) [runDf.eq_def, runF1, runF2, stepF.eq_def, updo.eq_def, hupo.eq_def, opSto1.eq_def, idf_Wd', idf_numS, cells_numS, numS_fold, idf_numI, cells_numI, numI_fold, Pt.av, Pt.cells, spA, spC]; rfl) ?_
  refine hK7 _ ?_
  refine AWP.seqk fun K13 hK13 => ?_
  refine AWP.block ?_
  refine AWP.seqk fun K14 hK14 => ?_
  refine AWP.region (AOPS.all (by simp (disch := first|omega|(simp only[ln];omega)) [idf_Wd', idf_numS, cells_numS, numS_fold, idf_numI, cells_numI, numI_fold, Pt.av, Pt.cells, spA, spC]; rfl) ?_)
  refine hK14 _ ?_
  refine cond_ok (decide (0 < cmY a p) == decide (0 < cmY b p)) (by simp (disch := first|omega|(simp only[ln];omega))) (fun h42 => ?_) (fun h42 => ?_)
  · try simp only [decide_eq_true_eq, decide_eq_false_iff_not] at h42
    refine AWP.seqk fun K15 hK15 => ?_
    refine AWP.region (AOPS.all (by simp (disch := first|omega|(simp only[ln];omega)) [idf_Wd', idf_numS, cells_numS, numS_fold, idf_numI, cells_numI, numI_fold, Pt.av, Pt.cells, spA, spC]; rfl) ?_)
    refine hK15 _ ?_
    refine AWP.ret ?_
    exact hK _ _ _ _ trivial ((Fin.mk (by simp [aRes, aResL, aRes1, idf_Wd', idf_numS, cells_numS, numS_fold, idf_numI, cells_numI, numI_fold, Pt.av, Pt.cells, spA, spC]; rfl)).cast (by unfold cuI; rw [if_pos h42]))
  · try simp only [decide_eq_true_eq, decide_eq_false_iff_not] at h42
    refine AWP.seqk fun K16 hK16 => ?_
    refine AWP.region (AOPS.all (by simp (disch := first|omega|(simp only[ln];omega)) [idf_Wd', idf_numS, cells_numS, numS_fold, idf_numI, cells_numI, numI_fold, Pt.av, Pt.cells, spA, spC]; rfl) ?_)
    refine hK16 _ ?_
    refine cond_ok (decide (0 < cmY a p)) (by simp (disch := first|omega|(simp only[ln];omega))) (fun h46 => ?_) (fun h46 => ?_)
    · try simp only [decide_eq_true_eq, decide_eq_false_iff_not] at h46
      refine AWP.seqk fun K17 hK17 => ?_
      refine AWP.region ?_
      refine AOPS.runk 3 (by simp (disch := first|omega|(simp only[ln];omega)) [List.take_succ_cons, List.take_zero, idf_Wd', idf_numS, cells_numS, numS_fold, idf_numI, cells_numI, numI_fold, Pt.av, Pt.cells, spA, spC]; rfl) ?_
      simp only [List.drop_succ_cons, List.drop_zero]
      refine AOPS.fcall (turn_fc b a p hb ha hp) rfl rfl rfl hb48 (by simp (disch := first|omega|(simp only[ln];omega)) [idf_Wd', idf_numS, cells_numS, numS_fold, idf_numI, cells_numI, numI_fold, Pt.av, Pt.cells, spA, spC]) (by simp (disch := first|omega|(simp only[ln];omega))) (by simp) ?_
      simp only [puts_some, updo]
      refine AOPS.all (by simp (disch := first|omega|(simp only[ln];omega)) [idf_Wd', idf_numS, cells_numS, numS_fold, idf_numI, cells_numI, numI_fold, Pt.av, Pt.cells, spA, spC]; rfl) ?_
      refine hK17 _ ?_
      refine AWP.ret ?_
      exact hK _ _ _ _ trivial ((Fin.mk (by simp [aRes, aResL, aRes1, idf_Wd', idf_numS, cells_numS, numS_fold, idf_numI, cells_numI, numI_fold, Pt.av, Pt.cells, spA, spC]; rfl)).cast (by unfold cuI; rw [if_neg (by rw [h42]; simp), if_pos (by simpa using h46)]))
    · try simp only [decide_eq_true_eq, decide_eq_false_iff_not] at h46
      refine AWP.skip ?_
      refine hK13 _ ?_
      refine AWP.seqk fun K18 hK18 => ?_
      refine AWP.region ?_
      refine AOPS.runk 3 (by simp (disch := first|omega|(simp only[ln];omega)) [List.take_succ_cons, List.take_zero, idf_Wd', idf_numS, cells_numS, numS_fold, idf_numI, cells_numI, numI_fold, Pt.av, Pt.cells, spA, spC]; rfl) ?_
      simp only [List.drop_succ_cons, List.drop_zero]
      refine AOPS.fcall (turn_fc a b p ha hb hp) rfl rfl rfl hb48 (by simp (disch := first|omega|(simp only[ln];omega)) [idf_Wd', idf_numS, cells_numS, numS_fold, idf_numI, cells_numI, numI_fold, Pt.av, Pt.cells, spA, spC]) (by simp (disch := first|omega|(simp only[ln];omega))) (by simp) ?_
      simp only [puts_some, updo]
      refine AOPS.all (by simp (disch := first|omega|(simp only[ln];omega)) [idf_Wd', idf_numS, cells_numS, numS_fold, idf_numI, cells_numI, numI_fold, Pt.av, Pt.cells, spA, spC]; rfl) ?_
      refine hK18 _ ?_
      refine AWP.ret ?_
      exact hK _ _ _ _ trivial ((Fin.mk (by simp [aRes, aResL, aRes1, idf_Wd', idf_numS, cells_numS, numS_fold, idf_numI, cells_numI, numI_fold, Pt.av, Pt.cells, spA, spC]; rfl)).cast (by unfold cuI; rw [if_neg (by rw [h42]; simp), if_neg (by simpa using h46)]))

theorem l3CmpX_fc (p q : Pt) (hp : p.ok) (hq : q.ok) : FC Try.prog 152 [l3A p.x.v p.y.v p.w.v, l3A q.x.v q.y.v q.w.v] (.int .i64 (cmX p q)) := by
  have pX := W4.bg hp.1
  have pY := W4.bg hp.2.1
  have pW := W4.bg hp.2.2
  have qX := W4.bg hq.1
  have qY := W4.bg hq.2.1
  have qW := W4.bg hq.2.2
  have hcx : FC Try.prog 87 [numS (p.x.v * q.w.v), numS (q.x.v * p.w.v)] (.int .i64 (cmX p q)) := l1Cmp_fc (pX.mul qW) (qX.mul pW) (by omega) (by omega)
  refine FC.body Try.func152 rfl (by simp [idfL, idf, l3A, l3C, idf_Wd']) (by simp [idfL, idf, idfLL_iff, idf_Wd', idf_numS, cells_numS, numS_fold, idf_numI, cells_numI, numI_fold, l3A, l3C]) 16 rfl fun nx K hK => ?_
  refine AWP.seqk fun K1 hK1 => ?_
  refine AWP.region (AOPS.all (by simp (disch := first|omega|(simp only[ln];omega)) [idf_Wd', idf_numS, cells_numS, numS_fold, idf_numI, cells_numI, numI_fold, l3A, l3C]; rfl) ?_)
  refine hK1 _ ?_
  refine AWP.seqk fun K2 hK2 => ?_
  refine AWP.draw 11 Try.checked.mixed (by kernel_rfl) (by simp) ?_
  simp only [List.take_succ_cons, List.take_zero, List.drop_succ_cons, List.drop_zero]
  refine DP.runFk 4 (by simp (disch := first|omega|(simp only[ln];omega)) [runDf.eq_def, runF1, runF2, stepF.eq_def, updo.eq_def, hupo.eq_def, opSto1.eq_def, List.take_succ_cons, List.take_zero, idf_Wd', idf_numS, cells_numS, numS_fold, idf_numI, cells_numI, numI_fold, l3A, l3C]; rfl) fun fs3 hfs3 => ?_
  replace hfs3 : fs3.length = 4 := hfs3.trans rfl
  simp only [List.drop_succ_cons, List.drop_zero]
  refine DP.fcall (l1Mul_fc pX qW (by omega) (by omega)) rfl rfl rfl hb102 (by simp (disch := first|omega|(simp only[ln];omega)) [idf_Wd', idf_numS, cells_numS, numS_fold, idf_numI, cells_numI, numI_fold, l3A, l3C]) (by simp (disch := first|omega|(simp only[ln];omega))) (by simp) ?_
  simp only [updo]
  refine DP.runFk 4 (by simp (disch := first|omega|(simp only[ln];omega)) [runDf.eq_def, runF1, runF2, stepF.eq_def, updo.eq_def, hupo.eq_def, opSto1.eq_def, List.take_succ_cons, List.take_zero, idf_Wd', idf_numS, cells_numS, numS_fold, idf_numI, cells_numI, numI_fold, l3A, l3C]; rfl) fun fs4 hfs4 => ?_
  replace hfs4 : fs4.length = 4 := hfs4.trans rfl
  simp only [List.drop_succ_cons, List.drop_zero]
  refine DP.fcall (l1Mul_fc qX pW (by omega) (by omega)) rfl rfl rfl hb102 (by simp (disch := first|omega|(simp only[ln];omega)) [idf_Wd', idf_numS, cells_numS, numS_fold, idf_numI, cells_numI, numI_fold, l3A, l3C]) (by simp (disch := first|omega|(simp only[ln];omega))) (by simp) ?_
  simp only [updo]
  refine DP.fcall (hcx) rfl rfl rfl hb87 (by simp (disch := first|omega|(simp only[ln];omega)) [idf_Wd', idf_numS, cells_numS, numS_fold, idf_numI, cells_numI, numI_fold, l3A, l3C]) (by simp (disch := first|omega|(simp only[ln];omega))) (by simp) ?_
  simp only [updo]
  refine DQ.runF (m := 11) (by simp only [List.length_append, List.length_cons, List.length_nil, hfs3, hfs4]; omega) _ _ _ (by kernel_rfl) rfl (by simp (disch := first|omega|(simp only[ln];omega)) [runDf.eq_def, runF1, runF2, stepF.eq_def, updo.eq_def, hupo.eq_def, opSto1.eq_def, idf_Wd', idf_numS, cells_numS, numS_fold, idf_numI, cells_numI, numI_fold, l3A, l3C]; rfl) ?_
  refine hK2 _ ?_
  refine AWP.ret ?_
  exact hK _ _ _ _ trivial (Fin.mk (by simp (disch := first|omega|(simp only[ln];omega)) [aRes, aResL, aRes1, idf_Wd', idf_numS, cells_numS, numS_fold, idf_numI, cells_numI, numI_fold, l3A, l3C]))

theorem l3CmpY_fc (p q : Pt) (hp : p.ok) (hq : q.ok) : FC Try.prog 134 [l3A p.x.v p.y.v p.w.v, l3A q.x.v q.y.v q.w.v] (.int .i64 (cmY p q)) := by
  have pX := W4.bg hp.1
  have pY := W4.bg hp.2.1
  have pW := W4.bg hp.2.2
  have qX := W4.bg hq.1
  have qY := W4.bg hq.2.1
  have qW := W4.bg hq.2.2
  have hcy : FC Try.prog 87 [numS (p.y.v * q.w.v), numS (q.y.v * p.w.v)] (.int .i64 (cmY p q)) := l1Cmp_fc (pY.mul qW) (qY.mul pW) (by omega) (by omega)
  refine FC.body Try.func134 rfl (by simp [idfL, idf, l3A, l3C, idf_Wd']) (by simp [idfL, idf, idfLL_iff, idf_Wd', idf_numS, cells_numS, numS_fold, idf_numI, cells_numI, numI_fold, l3A, l3C]) 16 rfl fun nx K hK => ?_
  refine AWP.seqk fun K1 hK1 => ?_
  refine AWP.region (AOPS.all (by simp (disch := first|omega|(simp only[ln];omega)) [idf_Wd', idf_numS, cells_numS, numS_fold, idf_numI, cells_numI, numI_fold, l3A, l3C]; rfl) ?_)
  refine hK1 _ ?_
  refine AWP.seqk fun K2 hK2 => ?_
  refine AWP.draw 11 Try.checked.mixed (by kernel_rfl) (by simp) ?_
  simp only [List.take_succ_cons, List.take_zero, List.drop_succ_cons, List.drop_zero]
  refine DP.runFk 4 (by simp (disch := first|omega|(simp only[ln];omega)) [runDf.eq_def, runF1, runF2, stepF.eq_def, updo.eq_def, hupo.eq_def, opSto1.eq_def, List.take_succ_cons, List.take_zero, idf_Wd', idf_numS, cells_numS, numS_fold, idf_numI, cells_numI, numI_fold, l3A, l3C]; rfl) fun fs3 hfs3 => ?_
  replace hfs3 : fs3.length = 4 := hfs3.trans rfl
  simp only [List.drop_succ_cons, List.drop_zero]
  refine DP.fcall (l1Mul_fc pY qW (by omega) (by omega)) rfl rfl rfl hb102 (by simp (disch := first|omega|(simp only[ln];omega)) [idf_Wd', idf_numS, cells_numS, numS_fold, idf_numI, cells_numI, numI_fold, l3A, l3C]) (by simp (disch := first|omega|(simp only[ln];omega))) (by simp) ?_
  simp only [updo]
  refine DP.runFk 4 (by simp (disch := first|omega|(simp only[ln];omega)) [runDf.eq_def, runF1, runF2, stepF.eq_def, updo.eq_def, hupo.eq_def, opSto1.eq_def, List.take_succ_cons, List.take_zero, idf_Wd', idf_numS, cells_numS, numS_fold, idf_numI, cells_numI, numI_fold, l3A, l3C]; rfl) fun fs4 hfs4 => ?_
  replace hfs4 : fs4.length = 4 := hfs4.trans rfl
  simp only [List.drop_succ_cons, List.drop_zero]
  refine DP.fcall (l1Mul_fc qY pW (by omega) (by omega)) rfl rfl rfl hb102 (by simp (disch := first|omega|(simp only[ln];omega)) [idf_Wd', idf_numS, cells_numS, numS_fold, idf_numI, cells_numI, numI_fold, l3A, l3C]) (by simp (disch := first|omega|(simp only[ln];omega))) (by simp) ?_
  simp only [updo]
  refine DP.fcall (hcy) rfl rfl rfl hb87 (by simp (disch := first|omega|(simp only[ln];omega)) [idf_Wd', idf_numS, cells_numS, numS_fold, idf_numI, cells_numI, numI_fold, l3A, l3C]) (by simp (disch := first|omega|(simp only[ln];omega))) (by simp) ?_
  simp only [updo]
  refine DQ.runF (m := 11) (by simp only [List.length_append, List.length_cons, List.length_nil, hfs3, hfs4]; omega) _ _ _ (by kernel_rfl) rfl (by simp (disch := first|omega|(simp only[ln];omega)) [runDf.eq_def, runF1, runF2, stepF.eq_def, updo.eq_def, hupo.eq_def, opSto1.eq_def, idf_Wd', idf_numS, cells_numS, numS_fold, idf_numI, cells_numI, numI_fold, l3A, l3C]; rfl) ?_
  refine hK2 _ ?_
  refine AWP.ret ?_
  exact hK _ _ _ _ trivial (Fin.mk (by simp (disch := first|omega|(simp only[ln];omega)) [aRes, aResL, aRes1, idf_Wd', idf_numS, cells_numS, numS_fold, idf_numI, cells_numI, numI_fold, l3A, l3C]))

theorem l3Cmp_fc (p q : Pt) (hp : p.ok) (hq : q.ok) : FC Try.prog 133 [l3A p.x.v p.y.v p.w.v, l3A q.x.v q.y.v q.w.v] (.int .i64 (cmV p q)) := by
  refine FC.body Try.func133 rfl (by simp [idfL, idf, l3A, l3C, idf_Wd']) (by simp [idfL, idf, idfLL_iff, idf_Wd', idf_numS, cells_numS, numS_fold, idf_numI, cells_numI, numI_fold, l3A, l3C]) 15 rfl fun nx K hK => ?_
  refine AWP.seqk fun K1 hK1 => ?_
  refine AWP.region (AOPS.all (by simp (disch := first|omega|(simp only[ln];omega)) [idf_Wd', idf_numS, cells_numS, numS_fold, idf_numI, cells_numI, numI_fold, l3A, l3C]; rfl) ?_)
  refine hK1 _ ?_
  refine AWP.seqk fun K2 hK2 => ?_
  refine AWP.region ?_
  refine AOPS.runk 2 (by simp (disch := first|omega|(simp only[ln];omega)) [List.take_succ_cons, List.take_zero, idf_Wd', idf_numS, cells_numS, numS_fold, idf_numI, cells_numI, numI_fold, l3A, l3C]; rfl) ?_
  simp only [List.drop_succ_cons, List.drop_zero]
  refine AOPS.fcall (l3CmpX_fc p q hp hq) rfl rfl rfl hb152 (by simp (disch := first|omega|(simp only[ln];omega)) [idf_Wd', idf_numS, cells_numS, numS_fold, idf_numI, cells_numI, numI_fold, l3A, l3C]) (by simp (disch := first|omega|(simp only[ln];omega))) (by simp) ?_
  simp only [puts_some, updo]
  refine AOPS.all (by simp (disch := first|omega|(simp only[ln];omega)) [idf_Wd', idf_numS, cells_numS, numS_fold, idf_numI, cells_numI, numI_fold, l3A, l3C]; rfl) ?_
  refine hK2 _ ?_
  refine AWP.seqk fun K3 hK3 => ?_
  refine AWP.seqk fun K4 hK4 => ?_
  refine AWP.region (AOPS.all (by simp (disch := first|omega|(simp only[ln];omega)) [idf_Wd', idf_numS, cells_numS, numS_fold, idf_numI, cells_numI, numI_fold, l3A, l3C]; rfl) ?_)
  refine hK4 _ ?_
  refine cond_ok (cmX p q != 0) (by simp (disch := first|omega|(simp only[ln];omega)) [bne]) (fun h10 => ?_) (fun h10 => ?_)
  · try simp only [decide_eq_true_eq, decide_eq_false_iff_not] at h10
    have hne : cmX p q ≠ 0 := by simpa using h10
    refine AWP.seqk fun K5 hK5 => ?_
    refine AWP.region (AOPS.all (by simp (disch := first|omega|(simp only[ln];omega)) [idf_Wd', idf_numS, cells_numS, numS_fold, idf_numI, cells_numI, numI_fold, l3A, l3C]; rfl) ?_)
    refine hK5 _ ?_
    refine AWP.ret ?_
    exact hK _ _ _ _ trivial ((Fin.mk (by simp [aRes, aResL, aRes1, idf_Wd', idf_numS, cells_numS, numS_fold, idf_numI, cells_numI, numI_fold, l3A, l3C]; rfl)).cast (by rw [cmV, if_pos hne]))
  · try simp only [decide_eq_true_eq, decide_eq_false_iff_not] at h10
    have hne : ¬ cmX p q ≠ 0 := by simpa using h10
    refine AWP.skip ?_
    refine hK3 _ ?_
    refine AWP.seqk fun K6 hK6 => ?_
    refine AWP.region ?_
    refine AOPS.runk 2 (by simp (disch := first|omega|(simp only[ln];omega)) [List.take_succ_cons, List.take_zero, idf_Wd', idf_numS, cells_numS, numS_fold, idf_numI, cells_numI, numI_fold, l3A, l3C]; rfl) ?_
    simp only [List.drop_succ_cons, List.drop_zero]
    refine AOPS.fcall (l3CmpY_fc p q hp hq) rfl rfl rfl hb134 (by simp (disch := first|omega|(simp only[ln];omega)) [idf_Wd', idf_numS, cells_numS, numS_fold, idf_numI, cells_numI, numI_fold, l3A, l3C]) (by simp (disch := first|omega|(simp only[ln];omega))) (by simp) ?_
    simp only [puts_some, updo]
    refine AOPS.all (by simp (disch := first|omega|(simp only[ln];omega)) [idf_Wd', idf_numS, cells_numS, numS_fold, idf_numI, cells_numI, numI_fold, l3A, l3C]; rfl) ?_
    refine hK6 _ ?_
    refine AWP.ret ?_
    exact hK _ _ _ _ trivial ((Fin.mk (by simp [aRes, aResL, aRes1, idf_Wd', idf_numS, cells_numS, numS_fold, idf_numI, cells_numI, numI_fold, l3A, l3C]; rfl)).cast (by rw [cmV, if_neg hne]))

set_option maxHeartbeats 2000000 in
theorem l3Between_fc (p q r : Pt) (hp : p.ok) (hq : q.ok) (hr : r.ok) : FC Try.prog 78 [l3A p.x.v p.y.v p.w.v, l3A q.x.v q.y.v q.w.v, l3A r.x.v r.y.v r.w.v] (.bool (btS p q r)) := by
  refine FC.body Try.func78 rfl (by simp [idfL, idf, l3A, l3C, idf_Wd']) (by simp [idfL, idf, idfLL_iff, idf_Wd', idf_numS, cells_numS, numS_fold, idf_numI, cells_numI, numI_fold, l3A, l3C]) 30 rfl fun nx K hK => ?_
  refine AWP.seqk fun K1 hK1 => ?_
  refine AWP.region (AOPS.all (by simp (disch := first|omega|(simp only[ln];omega)) [idf_Wd', idf_numS, cells_numS, numS_fold, idf_numI, cells_numI, numI_fold, l3A, l3C]; rfl) ?_)
  refine hK1 _ ?_
  refine AWP.seqk fun K2 hK2 => ?_
  refine AWP.seqk fun K3 hK3 => ?_
  refine AWP.region ?_
  refine AOPS.runk 2 (by simp (disch := first|omega|(simp only[ln];omega)) [List.take_succ_cons, List.take_zero, idf_Wd', idf_numS, cells_numS, numS_fold, idf_numI, cells_numI, numI_fold, l3A, l3C]; rfl) ?_
  simp only [List.drop_succ_cons, List.drop_zero]
  refine AOPS.fcall (l3Cmp_fc p q hp hq) rfl rfl rfl hb133 (by simp (disch := first|omega|(simp only[ln];omega)) [idf_Wd', idf_numS, cells_numS, numS_fold, idf_numI, cells_numI, numI_fold, l3A, l3C]) (by simp (disch := first|omega|(simp only[ln];omega))) (by simp) ?_
  simp only [puts_some, updo]
  refine AOPS.all (by simp (disch := first|omega|(simp only[ln];omega)) [idf_Wd', idf_numS, cells_numS, numS_fold, idf_numI, cells_numI, numI_fold, l3A, l3C]; rfl) ?_
  refine hK3 _ ?_
  refine cond_ok (decide (0 < cmV p q)) (by simp (disch := first|omega|(simp only[ln];omega))) (fun h10 => ?_) (fun h10 => ?_)
  · try simp only [decide_eq_true_eq, decide_eq_false_iff_not] at h10
    have hsw : cmV p q > 0 := by simpa using h10
    refine AWP.region (AOPS.all (by simp (disch := first|omega|(simp only[ln];omega)) [idf_Wd', idf_numS, cells_numS, numS_fold, idf_numI, cells_numI, numI_fold, l3A, l3C]; rfl) ?_)
    refine hK2 _ ?_
    refine AWP.seqk fun K4 hK4 => ?_
    cases q1 : decide (cmV q r ≤ 0)
    · refine AWP.region ?_
      refine AOPS.runk 2 (by simp (disch := first|omega|(simp only[ln];omega)) [List.take_succ_cons, List.take_zero, idf_Wd', idf_numS, cells_numS, numS_fold, idf_numI, cells_numI, numI_fold, l3A, l3C, q1]; rfl) ?_
      simp only [List.drop_succ_cons, List.drop_zero]
      refine AOPS.fcall (l3Cmp_fc q r hq hr) rfl rfl rfl hb133 (by simp (disch := first|omega|(simp only[ln];omega)) [idf_Wd', q1, idf_numS, cells_numS, numS_fold, idf_numI, cells_numI, numI_fold, l3A, l3C]) (by simp (disch := first|omega|(simp only[ln];omega)) [q1]) (by simp) ?_
      simp only [puts_some, updo]
      refine AOPS.all (by simp (disch := first|omega|(simp only[ln];omega)) [idf_Wd', idf_numS, cells_numS, numS_fold, idf_numI, cells_numI, numI_fold, l3A, l3C, q1]; rfl) ?_
      refine hK4 _ ?_
      refine AWP.ret ?_
      exact hK _ _ _ _ trivial ((Fin.mk (by simp [aRes, aResL, aRes1, idf_Wd', idf_numS, cells_numS, numS_fold, idf_numI, cells_numI, numI_fold, l3A, l3C]; rfl)).cast (by rw [btS, if_pos hsw, q1]; rfl))
    · cases q2 : decide (cmV r p ≤ 0)
      · refine AWP.region ?_
        refine AOPS.runk 2 (by simp (disch := first|omega|(simp only[ln];omega)) [List.take_succ_cons, List.take_zero, idf_Wd', idf_numS, cells_numS, numS_fold, idf_numI, cells_numI, numI_fold, l3A, l3C, q1, q2]; rfl) ?_
        simp only [List.drop_succ_cons, List.drop_zero]
        refine AOPS.fcall (l3Cmp_fc q r hq hr) rfl rfl rfl hb133 (by simp (disch := first|omega|(simp only[ln];omega)) [idf_Wd', q1, q2, idf_numS, cells_numS, numS_fold, idf_numI, cells_numI, numI_fold, l3A, l3C]) (by simp (disch := first|omega|(simp only[ln];omega)) [q1, q2]) (by simp) ?_
        simp only [puts_some, updo]
        refine AOPS.runk 4 (by simp (disch := first|omega|(simp only[ln];omega)) [List.take_succ_cons, List.take_zero, idf_Wd', idf_numS, cells_numS, numS_fold, idf_numI, cells_numI, numI_fold, l3A, l3C, q1, q2]; rfl) ?_
        simp only [List.drop_succ_cons, List.drop_zero]
        refine AOPS.fcall (l3Cmp_fc r p hr hp) rfl rfl rfl hb133 (by simp (disch := first|omega|(simp only[ln];omega)) [idf_Wd', q1, q2, idf_numS, cells_numS, numS_fold, idf_numI, cells_numI, numI_fold, l3A, l3C]) (by simp (disch := first|omega|(simp only[ln];omega)) [q1, q2]) (by simp) ?_
        simp only [puts_some, updo]
        refine AOPS.all (by simp (disch := first|omega|(simp only[ln];omega)) [idf_Wd', idf_numS, cells_numS, numS_fold, idf_numI, cells_numI, numI_fold, l3A, l3C, q1, q2]; rfl) ?_
        refine hK4 _ ?_
        refine AWP.ret ?_
        exact hK _ _ _ _ trivial ((Fin.mk (by simp [aRes, aResL, aRes1, idf_Wd', idf_numS, cells_numS, numS_fold, idf_numI, cells_numI, numI_fold, l3A, l3C]; rfl)).cast (by rw [btS, if_pos hsw, q1, q2]; rfl))
      · refine AWP.region ?_
        refine AOPS.runk 2 (by simp (disch := first|omega|(simp only[ln];omega)) [List.take_succ_cons, List.take_zero, idf_Wd', idf_numS, cells_numS, numS_fold, idf_numI, cells_numI, numI_fold, l3A, l3C, q1, q2]; rfl) ?_
        simp only [List.drop_succ_cons, List.drop_zero]
        refine AOPS.fcall (l3Cmp_fc q r hq hr) rfl rfl rfl hb133 (by simp (disch := first|omega|(simp only[ln];omega)) [idf_Wd', q1, q2, idf_numS, cells_numS, numS_fold, idf_numI, cells_numI, numI_fold, l3A, l3C]) (by simp (disch := first|omega|(simp only[ln];omega)) [q1, q2]) (by simp) ?_
        simp only [puts_some, updo]
        refine AOPS.runk 4 (by simp (disch := first|omega|(simp only[ln];omega)) [List.take_succ_cons, List.take_zero, idf_Wd', idf_numS, cells_numS, numS_fold, idf_numI, cells_numI, numI_fold, l3A, l3C, q1, q2]; rfl) ?_
        simp only [List.drop_succ_cons, List.drop_zero]
        refine AOPS.fcall (l3Cmp_fc r p hr hp) rfl rfl rfl hb133 (by simp (disch := first|omega|(simp only[ln];omega)) [idf_Wd', q1, q2, idf_numS, cells_numS, numS_fold, idf_numI, cells_numI, numI_fold, l3A, l3C]) (by simp (disch := first|omega|(simp only[ln];omega)) [q1, q2]) (by simp) ?_
        simp only [puts_some, updo]
        refine AOPS.runk 6 (by simp (disch := first|omega|(simp only[ln];omega)) [List.take_succ_cons, List.take_zero, idf_Wd', idf_numS, cells_numS, numS_fold, idf_numI, cells_numI, numI_fold, l3A, l3C, q1, q2]; rfl) ?_
        simp only [List.drop_succ_cons, List.drop_zero]
        refine AOPS.fcall (l3Orient_fc q p r hq hp hr) rfl rfl rfl hb49 (by simp (disch := first|omega|(simp only[ln];omega)) [idf_Wd', q1, q2, idf_numS, cells_numS, numS_fold, idf_numI, cells_numI, numI_fold, l3A, l3C]) (by simp (disch := first|omega|(simp only[ln];omega)) [q1, q2]) (by simp) ?_
        simp only [puts_some, updo]
        refine AOPS.all (by simp (disch := first|omega|(simp only[ln];omega)) [idf_Wd', idf_numS, cells_numS, numS_fold, idf_numI, cells_numI, numI_fold, l3A, l3C, q1, q2]; rfl) ?_
        refine hK4 _ ?_
        refine AWP.ret ?_
        exact hK _ _ _ _ trivial ((Fin.mk (r := .bool (sg3 (det q p r) == 0)) (by simp [aRes, aResL, aRes1, idf_Wd', idf_numS, cells_numS, numS_fold, idf_numI, cells_numI, numI_fold, l3A, l3C])).cast (by rw [btS, if_pos hsw, q1, q2]; simp [beqd]))
  · try simp only [decide_eq_true_eq, decide_eq_false_iff_not] at h10
    have hsw : ¬ cmV p q > 0 := by simpa using h10
    refine AWP.skip ?_
    refine hK2 _ ?_
    refine AWP.seqk fun K5 hK5 => ?_
    cases q1 : decide (cmV p r ≤ 0)
    · refine AWP.region ?_
      refine AOPS.runk 2 (by simp (disch := first|omega|(simp only[ln];omega)) [List.take_succ_cons, List.take_zero, idf_Wd', idf_numS, cells_numS, numS_fold, idf_numI, cells_numI, numI_fold, l3A, l3C, q1]; rfl) ?_
      simp only [List.drop_succ_cons, List.drop_zero]
      refine AOPS.fcall (l3Cmp_fc p r hp hr) rfl rfl rfl hb133 (by simp (disch := first|omega|(simp only[ln];omega)) [idf_Wd', q1, idf_numS, cells_numS, numS_fold, idf_numI, cells_numI, numI_fold, l3A, l3C]) (by simp (disch := first|omega|(simp only[ln];omega)) [q1]) (by simp) ?_
      simp only [puts_some, updo]
      refine AOPS.all (by simp (disch := first|omega|(simp only[ln];omega)) [idf_Wd', idf_numS, cells_numS, numS_fold, idf_numI, cells_numI, numI_fold, l3A, l3C, q1]; rfl) ?_
      refine hK5 _ ?_
      refine AWP.ret ?_
      exact hK _ _ _ _ trivial ((Fin.mk (by simp [aRes, aResL, aRes1, idf_Wd', idf_numS, cells_numS, numS_fold, idf_numI, cells_numI, numI_fold, l3A, l3C]; rfl)).cast (by rw [btS, if_neg hsw, q1]; rfl))
    · cases q2 : decide (cmV r q ≤ 0)
      · refine AWP.region ?_
        refine AOPS.runk 2 (by simp (disch := first|omega|(simp only[ln];omega)) [List.take_succ_cons, List.take_zero, idf_Wd', idf_numS, cells_numS, numS_fold, idf_numI, cells_numI, numI_fold, l3A, l3C, q1, q2]; rfl) ?_
        simp only [List.drop_succ_cons, List.drop_zero]
        refine AOPS.fcall (l3Cmp_fc p r hp hr) rfl rfl rfl hb133 (by simp (disch := first|omega|(simp only[ln];omega)) [idf_Wd', q1, q2, idf_numS, cells_numS, numS_fold, idf_numI, cells_numI, numI_fold, l3A, l3C]) (by simp (disch := first|omega|(simp only[ln];omega)) [q1, q2]) (by simp) ?_
        simp only [puts_some, updo]
        refine AOPS.runk 4 (by simp (disch := first|omega|(simp only[ln];omega)) [List.take_succ_cons, List.take_zero, idf_Wd', idf_numS, cells_numS, numS_fold, idf_numI, cells_numI, numI_fold, l3A, l3C, q1, q2]; rfl) ?_
        simp only [List.drop_succ_cons, List.drop_zero]
        refine AOPS.fcall (l3Cmp_fc r q hr hq) rfl rfl rfl hb133 (by simp (disch := first|omega|(simp only[ln];omega)) [idf_Wd', q1, q2, idf_numS, cells_numS, numS_fold, idf_numI, cells_numI, numI_fold, l3A, l3C]) (by simp (disch := first|omega|(simp only[ln];omega)) [q1, q2]) (by simp) ?_
        simp only [puts_some, updo]
        refine AOPS.all (by simp (disch := first|omega|(simp only[ln];omega)) [idf_Wd', idf_numS, cells_numS, numS_fold, idf_numI, cells_numI, numI_fold, l3A, l3C, q1, q2]; rfl) ?_
        refine hK5 _ ?_
        refine AWP.ret ?_
        exact hK _ _ _ _ trivial ((Fin.mk (by simp [aRes, aResL, aRes1, idf_Wd', idf_numS, cells_numS, numS_fold, idf_numI, cells_numI, numI_fold, l3A, l3C]; rfl)).cast (by rw [btS, if_neg hsw, q1, q2]; rfl))
      · refine AWP.region ?_
        refine AOPS.runk 2 (by simp (disch := first|omega|(simp only[ln];omega)) [List.take_succ_cons, List.take_zero, idf_Wd', idf_numS, cells_numS, numS_fold, idf_numI, cells_numI, numI_fold, l3A, l3C, q1, q2]; rfl) ?_
        simp only [List.drop_succ_cons, List.drop_zero]
        refine AOPS.fcall (l3Cmp_fc p r hp hr) rfl rfl rfl hb133 (by simp (disch := first|omega|(simp only[ln];omega)) [idf_Wd', q1, q2, idf_numS, cells_numS, numS_fold, idf_numI, cells_numI, numI_fold, l3A, l3C]) (by simp (disch := first|omega|(simp only[ln];omega)) [q1, q2]) (by simp) ?_
        simp only [puts_some, updo]
        refine AOPS.runk 4 (by simp (disch := first|omega|(simp only[ln];omega)) [List.take_succ_cons, List.take_zero, idf_Wd', idf_numS, cells_numS, numS_fold, idf_numI, cells_numI, numI_fold, l3A, l3C, q1, q2]; rfl) ?_
        simp only [List.drop_succ_cons, List.drop_zero]
        refine AOPS.fcall (l3Cmp_fc r q hr hq) rfl rfl rfl hb133 (by simp (disch := first|omega|(simp only[ln];omega)) [idf_Wd', q1, q2, idf_numS, cells_numS, numS_fold, idf_numI, cells_numI, numI_fold, l3A, l3C]) (by simp (disch := first|omega|(simp only[ln];omega)) [q1, q2]) (by simp) ?_
        simp only [puts_some, updo]
        refine AOPS.runk 6 (by simp (disch := first|omega|(simp only[ln];omega)) [List.take_succ_cons, List.take_zero, idf_Wd', idf_numS, cells_numS, numS_fold, idf_numI, cells_numI, numI_fold, l3A, l3C, q1, q2]; rfl) ?_
        simp only [List.drop_succ_cons, List.drop_zero]
        refine AOPS.fcall (l3Orient_fc p q r hp hq hr) rfl rfl rfl hb49 (by simp (disch := first|omega|(simp only[ln];omega)) [idf_Wd', q1, q2, idf_numS, cells_numS, numS_fold, idf_numI, cells_numI, numI_fold, l3A, l3C]) (by simp (disch := first|omega|(simp only[ln];omega)) [q1, q2]) (by simp) ?_
        simp only [puts_some, updo]
        refine AOPS.all (by simp (disch := first|omega|(simp only[ln];omega)) [idf_Wd', idf_numS, cells_numS, numS_fold, idf_numI, cells_numI, numI_fold, l3A, l3C, q1, q2]; rfl) ?_
        refine hK5 _ ?_
        refine AWP.ret ?_
        exact hK _ _ _ _ trivial ((Fin.mk (r := .bool (sg3 (det p q r) == 0)) (by simp [aRes, aResL, aRes1, idf_Wd', idf_numS, cells_numS, numS_fold, idf_numI, cells_numI, numI_fold, l3A, l3C])).cast (by rw [btS, if_neg hsw, q1, q2]; simp [beqd]))

set_option maxHeartbeats 2000000 in
theorem l5Cuts_fc (a b p : Pt) (ha : a.ok) (hb : b.ok) (hp : p.ok) : FC Try.prog 79 [l3A a.x.v a.y.v a.w.v, l3A b.x.v b.y.v b.w.v, l3A p.x.v p.y.v p.w.v] (.bool (cuS a b p)) := by
  refine FC.body Try.func79 rfl (by simp [idfL, idf, l3A, l3C, idf_Wd']) (by simp [idfL, idf, idfLL_iff, idf_Wd', idf_numS, cells_numS, numS_fold, idf_numI, cells_numI, numI_fold, l3A, l3C]) 30 rfl fun nx K hK => ?_
  refine AWP.seqk fun K1 hK1 => ?_
  refine AWP.region (AOPS.all (by simp (disch := first|omega|(simp only[ln];omega)) [idf_Wd', idf_numS, cells_numS, numS_fold, idf_numI, cells_numI, numI_fold, l3A, l3C]; rfl) ?_)
  refine hK1 _ ?_
  refine AWP.seqk fun K2 hK2 => ?_
  refine AWP.seqk fun K3 hK3 => ?_
  refine AWP.region ?_
  refine AOPS.runk 2 (by simp (disch := first|omega|(simp only[ln];omega)) [List.take_succ_cons, List.take_zero, idf_Wd', idf_numS, cells_numS, numS_fold, idf_numI, cells_numI, numI_fold, l3A, l3C]; rfl) ?_
  simp only [List.drop_succ_cons, List.drop_zero]
  refine AOPS.fcall (l3CmpY_fc b a hb ha) rfl rfl rfl hb134 (by simp (disch := first|omega|(simp only[ln];omega)) [idf_Wd', idf_numS, cells_numS, numS_fold, idf_numI, cells_numI, numI_fold, l3A, l3C]) (by simp (disch := first|omega|(simp only[ln];omega))) (by simp) ?_
  simp only [puts_some, updo]
  refine AOPS.all (by simp (disch := first|omega|(simp only[ln];omega)) [idf_Wd', idf_numS, cells_numS, numS_fold, idf_numI, cells_numI, numI_fold, l3A, l3C]; rfl) ?_
  refine hK3 _ ?_
  refine cond_ok (decide (cmY b a < 0)) (by simp (disch := first|omega|(simp only[ln];omega))) (fun h10 => ?_) (fun h10 => ?_)
  · try simp only [decide_eq_true_eq, decide_eq_false_iff_not] at h10
    have hsw : cmY b a < 0 := by simpa using h10
    refine AWP.region (AOPS.all (by simp (disch := first|omega|(simp only[ln];omega)) [idf_Wd', idf_numS, cells_numS, numS_fold, idf_numI, cells_numI, numI_fold, l3A, l3C]; rfl) ?_)
    refine hK2 _ ?_
    refine AWP.seqk fun K4 hK4 => ?_
    cases q1 : decide (cmY b p ≤ 0)
    · refine AWP.region ?_
      refine AOPS.runk 2 (by simp (disch := first|omega|(simp only[ln];omega)) [List.take_succ_cons, List.take_zero, idf_Wd', idf_numS, cells_numS, numS_fold, idf_numI, cells_numI, numI_fold, l3A, l3C, q1]; rfl) ?_
      simp only [List.drop_succ_cons, List.drop_zero]
      refine AOPS.fcall (l3CmpY_fc b p hb hp) rfl rfl rfl hb134 (by simp (disch := first|omega|(simp only[ln];omega)) [idf_Wd', q1, idf_numS, cells_numS, numS_fold, idf_numI, cells_numI, numI_fold, l3A, l3C]) (by simp (disch := first|omega|(simp only[ln];omega)) [q1]) (by simp) ?_
      simp only [puts_some, updo]
      refine AOPS.all (by simp (disch := first|omega|(simp only[ln];omega)) [idf_Wd', idf_numS, cells_numS, numS_fold, idf_numI, cells_numI, numI_fold, l3A, l3C, q1]; rfl) ?_
      refine hK4 _ ?_
      refine AWP.ret ?_
      exact hK _ _ _ _ trivial ((Fin.mk (by simp [aRes, aResL, aRes1, idf_Wd', idf_numS, cells_numS, numS_fold, idf_numI, cells_numI, numI_fold, l3A, l3C]; rfl)).cast (by rw [cuS, if_pos hsw, q1]; rfl))
    · cases q2 : decide (cmY p a < 0)
      · refine AWP.region ?_
        refine AOPS.runk 2 (by simp (disch := first|omega|(simp only[ln];omega)) [List.take_succ_cons, List.take_zero, idf_Wd', idf_numS, cells_numS, numS_fold, idf_numI, cells_numI, numI_fold, l3A, l3C, q1, q2]; rfl) ?_
        simp only [List.drop_succ_cons, List.drop_zero]
        refine AOPS.fcall (l3CmpY_fc b p hb hp) rfl rfl rfl hb134 (by simp (disch := first|omega|(simp only[ln];omega)) [idf_Wd', q1, q2, idf_numS, cells_numS, numS_fold, idf_numI, cells_numI, numI_fold, l3A, l3C]) (by simp (disch := first|omega|(simp only[ln];omega)) [q1, q2]) (by simp) ?_
        simp only [puts_some, updo]
        refine AOPS.runk 4 (by simp (disch := first|omega|(simp only[ln];omega)) [List.take_succ_cons, List.take_zero, idf_Wd', idf_numS, cells_numS, numS_fold, idf_numI, cells_numI, numI_fold, l3A, l3C, q1, q2]; rfl) ?_
        simp only [List.drop_succ_cons, List.drop_zero]
        refine AOPS.fcall (l3CmpY_fc p a hp ha) rfl rfl rfl hb134 (by simp (disch := first|omega|(simp only[ln];omega)) [idf_Wd', q1, q2, idf_numS, cells_numS, numS_fold, idf_numI, cells_numI, numI_fold, l3A, l3C]) (by simp (disch := first|omega|(simp only[ln];omega)) [q1, q2]) (by simp) ?_
        simp only [puts_some, updo]
        refine AOPS.all (by simp (disch := first|omega|(simp only[ln];omega)) [idf_Wd', idf_numS, cells_numS, numS_fold, idf_numI, cells_numI, numI_fold, l3A, l3C, q1, q2]; rfl) ?_
        refine hK4 _ ?_
        refine AWP.ret ?_
        exact hK _ _ _ _ trivial ((Fin.mk (by simp [aRes, aResL, aRes1, idf_Wd', idf_numS, cells_numS, numS_fold, idf_numI, cells_numI, numI_fold, l3A, l3C]; rfl)).cast (by rw [cuS, if_pos hsw, q1, q2]; rfl))
      · refine AWP.region ?_
        refine AOPS.runk 2 (by simp (disch := first|omega|(simp only[ln];omega)) [List.take_succ_cons, List.take_zero, idf_Wd', idf_numS, cells_numS, numS_fold, idf_numI, cells_numI, numI_fold, l3A, l3C, q1, q2]; rfl) ?_
        simp only [List.drop_succ_cons, List.drop_zero]
        refine AOPS.fcall (l3CmpY_fc b p hb hp) rfl rfl rfl hb134 (by simp (disch := first|omega|(simp only[ln];omega)) [idf_Wd', q1, q2, idf_numS, cells_numS, numS_fold, idf_numI, cells_numI, numI_fold, l3A, l3C]) (by simp (disch := first|omega|(simp only[ln];omega)) [q1, q2]) (by simp) ?_
        simp only [puts_some, updo]
        refine AOPS.runk 4 (by simp (disch := first|omega|(simp only[ln];omega)) [List.take_succ_cons, List.take_zero, idf_Wd', idf_numS, cells_numS, numS_fold, idf_numI, cells_numI, numI_fold, l3A, l3C, q1, q2]; rfl) ?_
        simp only [List.drop_succ_cons, List.drop_zero]
        refine AOPS.fcall (l3CmpY_fc p a hp ha) rfl rfl rfl hb134 (by simp (disch := first|omega|(simp only[ln];omega)) [idf_Wd', q1, q2, idf_numS, cells_numS, numS_fold, idf_numI, cells_numI, numI_fold, l3A, l3C]) (by simp (disch := first|omega|(simp only[ln];omega)) [q1, q2]) (by simp) ?_
        simp only [puts_some, updo]
        refine AOPS.runk 6 (by simp (disch := first|omega|(simp only[ln];omega)) [List.take_succ_cons, List.take_zero, idf_Wd', idf_numS, cells_numS, numS_fold, idf_numI, cells_numI, numI_fold, l3A, l3C, q1, q2]; rfl) ?_
        simp only [List.drop_succ_cons, List.drop_zero]
        refine AOPS.fcall (l3Orient_fc b a p hb ha hp) rfl rfl rfl hb49 (by simp (disch := first|omega|(simp only[ln];omega)) [idf_Wd', q1, q2, idf_numS, cells_numS, numS_fold, idf_numI, cells_numI, numI_fold, l3A, l3C]) (by simp (disch := first|omega|(simp only[ln];omega)) [q1, q2]) (by simp) ?_
        simp only [puts_some, updo]
        refine AOPS.all (by simp (disch := first|omega|(simp only[ln];omega)) [idf_Wd', idf_numS, cells_numS, numS_fold, idf_numI, cells_numI, numI_fold, l3A, l3C, q1, q2]; rfl) ?_
        refine hK4 _ ?_
        refine AWP.ret ?_
        exact hK _ _ _ _ trivial ((Fin.mk (r := .bool (decide (0 < sg3 (det b a p)))) (by simp [aRes, aResL, aRes1, idf_Wd', idf_numS, cells_numS, numS_fold, idf_numI, cells_numI, numI_fold, l3A, l3C])).cast (by rw [cuS, if_pos hsw, q1, q2]; simp [beqd]))
  · try simp only [decide_eq_true_eq, decide_eq_false_iff_not] at h10
    have hsw : ¬ cmY b a < 0 := by simpa using h10
    refine AWP.skip ?_
    refine hK2 _ ?_
    refine AWP.seqk fun K5 hK5 => ?_
    cases q1 : decide (cmY a p ≤ 0)
    · refine AWP.region ?_
      refine AOPS.runk 2 (by simp (disch := first|omega|(simp only[ln];omega)) [List.take_succ_cons, List.take_zero, idf_Wd', idf_numS, cells_numS, numS_fold, idf_numI, cells_numI, numI_fold, l3A, l3C, q1]; rfl) ?_
      simp only [List.drop_succ_cons, List.drop_zero]
      refine AOPS.fcall (l3CmpY_fc a p ha hp) rfl rfl rfl hb134 (by simp (disch := first|omega|(simp only[ln];omega)) [idf_Wd', q1, idf_numS, cells_numS, numS_fold, idf_numI, cells_numI, numI_fold, l3A, l3C]) (by simp (disch := first|omega|(simp only[ln];omega)) [q1]) (by simp) ?_
      simp only [puts_some, updo]
      refine AOPS.all (by simp (disch := first|omega|(simp only[ln];omega)) [idf_Wd', idf_numS, cells_numS, numS_fold, idf_numI, cells_numI, numI_fold, l3A, l3C, q1]; rfl) ?_
      refine hK5 _ ?_
      refine AWP.ret ?_
      exact hK _ _ _ _ trivial ((Fin.mk (by simp [aRes, aResL, aRes1, idf_Wd', idf_numS, cells_numS, numS_fold, idf_numI, cells_numI, numI_fold, l3A, l3C]; rfl)).cast (by rw [cuS, if_neg hsw, q1]; rfl))
    · cases q2 : decide (cmY p b < 0)
      · refine AWP.region ?_
        refine AOPS.runk 2 (by simp (disch := first|omega|(simp only[ln];omega)) [List.take_succ_cons, List.take_zero, idf_Wd', idf_numS, cells_numS, numS_fold, idf_numI, cells_numI, numI_fold, l3A, l3C, q1, q2]; rfl) ?_
        simp only [List.drop_succ_cons, List.drop_zero]
        refine AOPS.fcall (l3CmpY_fc a p ha hp) rfl rfl rfl hb134 (by simp (disch := first|omega|(simp only[ln];omega)) [idf_Wd', q1, q2, idf_numS, cells_numS, numS_fold, idf_numI, cells_numI, numI_fold, l3A, l3C]) (by simp (disch := first|omega|(simp only[ln];omega)) [q1, q2]) (by simp) ?_
        simp only [puts_some, updo]
        refine AOPS.runk 4 (by simp (disch := first|omega|(simp only[ln];omega)) [List.take_succ_cons, List.take_zero, idf_Wd', idf_numS, cells_numS, numS_fold, idf_numI, cells_numI, numI_fold, l3A, l3C, q1, q2]; rfl) ?_
        simp only [List.drop_succ_cons, List.drop_zero]
        refine AOPS.fcall (l3CmpY_fc p b hp hb) rfl rfl rfl hb134 (by simp (disch := first|omega|(simp only[ln];omega)) [idf_Wd', q1, q2, idf_numS, cells_numS, numS_fold, idf_numI, cells_numI, numI_fold, l3A, l3C]) (by simp (disch := first|omega|(simp only[ln];omega)) [q1, q2]) (by simp) ?_
        simp only [puts_some, updo]
        refine AOPS.all (by simp (disch := first|omega|(simp only[ln];omega)) [idf_Wd', idf_numS, cells_numS, numS_fold, idf_numI, cells_numI, numI_fold, l3A, l3C, q1, q2]; rfl) ?_
        refine hK5 _ ?_
        refine AWP.ret ?_
        exact hK _ _ _ _ trivial ((Fin.mk (by simp [aRes, aResL, aRes1, idf_Wd', idf_numS, cells_numS, numS_fold, idf_numI, cells_numI, numI_fold, l3A, l3C]; rfl)).cast (by rw [cuS, if_neg hsw, q1, q2]; rfl))
      · refine AWP.region ?_
        refine AOPS.runk 2 (by simp (disch := first|omega|(simp only[ln];omega)) [List.take_succ_cons, List.take_zero, idf_Wd', idf_numS, cells_numS, numS_fold, idf_numI, cells_numI, numI_fold, l3A, l3C, q1, q2]; rfl) ?_
        simp only [List.drop_succ_cons, List.drop_zero]
        refine AOPS.fcall (l3CmpY_fc a p ha hp) rfl rfl rfl hb134 (by simp (disch := first|omega|(simp only[ln];omega)) [idf_Wd', q1, q2, idf_numS, cells_numS, numS_fold, idf_numI, cells_numI, numI_fold, l3A, l3C]) (by simp (disch := first|omega|(simp only[ln];omega)) [q1, q2]) (by simp) ?_
        simp only [puts_some, updo]
        refine AOPS.runk 4 (by simp (disch := first|omega|(simp only[ln];omega)) [List.take_succ_cons, List.take_zero, idf_Wd', idf_numS, cells_numS, numS_fold, idf_numI, cells_numI, numI_fold, l3A, l3C, q1, q2]; rfl) ?_
        simp only [List.drop_succ_cons, List.drop_zero]
        refine AOPS.fcall (l3CmpY_fc p b hp hb) rfl rfl rfl hb134 (by simp (disch := first|omega|(simp only[ln];omega)) [idf_Wd', q1, q2, idf_numS, cells_numS, numS_fold, idf_numI, cells_numI, numI_fold, l3A, l3C]) (by simp (disch := first|omega|(simp only[ln];omega)) [q1, q2]) (by simp) ?_
        simp only [puts_some, updo]
        refine AOPS.runk 6 (by simp (disch := first|omega|(simp only[ln];omega)) [List.take_succ_cons, List.take_zero, idf_Wd', idf_numS, cells_numS, numS_fold, idf_numI, cells_numI, numI_fold, l3A, l3C, q1, q2]; rfl) ?_
        simp only [List.drop_succ_cons, List.drop_zero]
        refine AOPS.fcall (l3Orient_fc a b p ha hb hp) rfl rfl rfl hb49 (by simp (disch := first|omega|(simp only[ln];omega)) [idf_Wd', q1, q2, idf_numS, cells_numS, numS_fold, idf_numI, cells_numI, numI_fold, l3A, l3C]) (by simp (disch := first|omega|(simp only[ln];omega)) [q1, q2]) (by simp) ?_
        simp only [puts_some, updo]
        refine AOPS.all (by simp (disch := first|omega|(simp only[ln];omega)) [idf_Wd', idf_numS, cells_numS, numS_fold, idf_numI, cells_numI, numI_fold, l3A, l3C, q1, q2]; rfl) ?_
        refine hK5 _ ?_
        refine AWP.ret ?_
        exact hK _ _ _ _ trivial ((Fin.mk (r := .bool (decide (0 < sg3 (det a b p)))) (by simp [aRes, aResL, aRes1, idf_Wd', idf_numS, cells_numS, numS_fold, idf_numI, cells_numI, numI_fold, l3A, l3C])).cast (by rw [cuS, if_neg hsw, q1, q2]; simp [beqd]))

end Go.Proofs.Ytdcggmbnjonemaa

/- Walks: FnExactLoopsSide, walked. -/
namespace Go.Proofs.Ytdcggmbnjonemaa
open Go Go.RowKit
set_option linter.unusedSimpArgs false
set_option linter.unusedVariables false
set_option maxRecDepth 100000
attribute [local simp] List.getElem?_cons_zero List.getElem?_cons_succ List.getElem?_toArray runOps stepOp.eq_def agd.eq_def dstOk.eq_def opVal.eq_def opNew.eq_def opSto.eq_def ev.eq_def cv.eq_def puts_some puts_none upd_ap lst.eq_def aBin.eq_def aUn.eq_def aBi_str aBi_isl aBi_osl aBi_nsl aBi_max aBi_min aBi_max3 aConv.eq_def aLd.eq_def aLoad.eq_def aField.eq_def aFld.eq_def aIdx_isl aIdx_osl aSlc_isl aSlc_osl aSlc_str aSlc_nsl bnd.eq_def evs_nil evs_cons aBuild.eq_def aFill splice.eq_def cells_agg cells_int cells_bool cells_str cells_nil cells_nsl cells_isl cells_osl cells_ptr cells_ip cells_fn cells_Wd one_int one_bool one_str one_nil one_nsl one_isl one_osl one_ptr one_ip one_fn one_Wd aSets hupd_eq hupd_ne wrap_i64s wrap_u64s wrap_u32s wrap_u8s wd_getD wd_set wd_len wd_replicate wd_one wd_fold fz_osl hupd_same aSix.eq_def aEqS.eq_def aEqB_bool aEqB_nsl aEqB_nil
attribute [local simp] szT2 byT2 agT2 unT2 zoT2 szT3 byT3 agT3 unT3 zoT3 szT25 byT25 agT25 elT25 unT25 zoT25 szT33 byT33 agT33 flT33 fdT33_0 fdT33_1 fdT33_2 fdT33_3 zoT33 szT35 byT35 agT35 flT35 fdT35_0 fdT35_1 fdT35_2 zoT35 szT66 byT66 agT66 flT66 fdT66_0 fdT66_1 fdT66_2 fdT66_3 zoT66 szT68 byT68 agT68 flT68 fdT68_0 fdT68_1 fdT68_2 zoT68 szT76 byT76 agT76 elT76 unT76 zoT76 szT78 byT78 agT78 flT78 fdT78_0 zoT78 szT92 byT92 agT92 flT92 fdT92_0 fdT92_1 zoT92 szT94 byT94 agT94 flT94 fdT94_0 fdT94_1 fdT94_2 zoT94

set_option maxHeartbeats 4000000 in
theorem loopsSideI_fc (L : List (List Pt)) (hL : ∀ l ∈ L, ∀ p ∈ l, p.ok) (hl : L.length ≤ 1099511627776) (hl2 : ∀ l ∈ L, l.length ≤ 1099511627776) (p : Pt) (hp : p.ok) : FC Try.prog 38 [lsA L, p.av] (.int .i64 (lsV btI cuI L p)) := by
  refine FC.body Try.func38 rfl (by simp [idfL, idf, idfLL_iff, lsA, ltC, Pt.av, Pt.cells]) (by simp [idfL, idf, idfLL_iff, idf_Wd', Pt.av, Pt.cells]) 56 rfl fun nx K hK => ?_
  refine AWP.seqk fun K1 hK1 => ?_
  refine AWP.region (AOPS.all (by simp (disch := first|omega|(simp only[ln];omega)) [idf_Wd', Pt.av, Pt.cells]; rfl) ?_)
  refine hK1 _ ?_
  refine AWP.seqk fun K2 hK2 => ?_
  refine AWP.seqk fun K3 hK3 => ?_
  cases hok : lOk L
  · refine AWP.region ?_
    refine AOPS.runk 1 (by simp (disch := first|omega|(simp only[ln];omega)) [List.take_succ_cons, List.take_zero, idf_Wd', Pt.av, Pt.cells, hok]; rfl) ?_
    simp only [List.drop_succ_cons, List.drop_zero]
    refine AOPS.fcall (loopsOkI_fc L hL hl hl2) rfl rfl rfl hb12 (by simp (disch := first|omega|(simp only[ln];omega)) [idf_Wd', hok, Pt.av, Pt.cells]) (by simp (disch := first|omega|(simp only[ln];omega)) [hok]) (by simp) ?_
    simp only [puts_some, updo]
    refine AOPS.all (by simp (disch := first|omega|(simp only[ln];omega)) [idf_Wd', Pt.av, Pt.cells, hok]; rfl) ?_
    refine hK3 _ ?_
    refine cond_ok _ (by simp (disch := first|omega|(simp only[ln];omega)); rfl) (fun h18 => ?_) (fun h18 => ?_)
    · try simp only [decide_eq_true_eq, decide_eq_false_iff_not] at h18
      refine AWP.seqk fun K4 hK4 => ?_
      refine AWP.region (AOPS.all (by simp (disch := first|omega|(simp only[ln];omega)) [idf_Wd', Pt.av, Pt.cells]; rfl) ?_)
      refine hK4 _ ?_
      refine AWP.ret ?_
      exact hK _ _ _ _ trivial ((Fin.mk (by simp [aRes, aResL, aRes1, idf_Wd', Pt.av, Pt.cells]; rfl)).cast (by unfold lsV; rw [hok]; rfl))
    · simp at h18
  · refine AWP.region ?_
    refine AOPS.runk 1 (by simp (disch := first|omega|(simp only[ln];omega)) [List.take_succ_cons, List.take_zero, idf_Wd', Pt.av, Pt.cells, hok]; rfl) ?_
    simp only [List.drop_succ_cons, List.drop_zero]
    refine AOPS.fcall (loopsOkI_fc L hL hl hl2) rfl rfl rfl hb12 (by simp (disch := first|omega|(simp only[ln];omega)) [idf_Wd', hok, Pt.av, Pt.cells]) (by simp (disch := first|omega|(simp only[ln];omega)) [hok]) (by simp) ?_
    simp only [puts_some, updo]
    refine AOPS.runk 3 (by simp (disch := first|omega|(simp only[ln];omega)) [List.take_succ_cons, List.take_zero, idf_Wd', Pt.av, Pt.cells, hok]; rfl) ?_
    simp only [List.drop_succ_cons, List.drop_zero]
    refine AOPS.fcall (pointOkI_fc p hp) rfl rfl rfl hb81 (by simp (disch := first|omega|(simp only[ln];omega)) [idf_Wd', hok, Pt.av, Pt.cells]) (by simp (disch := first|omega|(simp only[ln];omega)) [hok]) (by simp) ?_
    simp only [puts_some, updo]
    refine AOPS.all (by simp (disch := first|omega|(simp only[ln];omega)) [idf_Wd', Pt.av, Pt.cells, hok]; rfl) ?_
    refine hK3 _ ?_
    refine cond_ok (!p.good) (by simp (disch := first|omega|(simp only[ln];omega))) (fun h18 => ?_) (fun h18 => ?_)
    · try simp only [decide_eq_true_eq, decide_eq_false_iff_not] at h18
      have hpg : p.good = false := by simpa using h18
      refine AWP.seqk fun K5 hK5 => ?_
      refine AWP.region (AOPS.all (by simp (disch := first|omega|(simp only[ln];omega)) [idf_Wd', Pt.av, Pt.cells]; rfl) ?_)
      refine hK5 _ ?_
      refine AWP.ret ?_
      exact hK _ _ _ _ trivial ((Fin.mk (by simp [aRes, aResL, aRes1, idf_Wd', Pt.av, Pt.cells]; rfl)).cast (by unfold lsV; rw [hok, hpg]; rfl))
    · try simp only [decide_eq_true_eq, decide_eq_false_iff_not] at h18
      have hpg : p.good = true := by simpa using h18
      have hgd := lOk_good hok
      have hv0 : lsV btI cuI L p = sdv (sdGo btI cuI p (edgs (L.drop 0)) false) := by unfold lsV; rw [hok, hpg]; rfl
      refine AWP.skip ?_
      refine hK2 _ ?_
      refine AWP.seqk fun K6 hK6 => ?_
      refine AWP.region (AOPS.all (by simp (disch := first|omega|(simp only[ln];omega)) [idf_Wd', Pt.av, Pt.cells]; rfl) ?_)
      refine hK6 _ ?_
      refine AWP.seqk fun K7 hK7 => ?_
      refine AWP.seqk fun K8 hK8 => ?_
      refine AWP.region (AOPS.all (by simp (disch := first|omega|(simp only[ln];omega)) [idf_Wd', Pt.av, Pt.cells, lsA, List.length_map]; rfl) ?_)
      refine hK8 _ ?_
      refine AWP.block ?_
      refine AWP.loop (fun N s => ∃ i : Nat, ∃ o : Bool, N = L.length - i ∧ i ≤ L.length ∧ lsV btI cuI L p = sdv (sdGo btI cuI p (edgs (L.drop i)) o) ∧ s.env 3 = .ptr nx 0 0 ∧ s.heap nx = some (12, [p.cells]) ∧ nx < s.nx ∧ s.env 5 = .int .i64 (sgn o) ∧ s.env 19 = lsA L ∧ s.env 20 = .int .i64 (L.length : Int) ∧ s.env 21 = .int .i64 (i : Int) ∧ s.nt = 56) (L.length) (⟨0, false, by omega, by omega, hv0, by simp, by simp (disch := omega) [Pt.cells], by simp, by simp [sgn], by simp [lsA], by simp, by simp, rfl⟩) ?_
      rintro N ⟨e, H, mm, nt⟩ ⟨i, o, rfl, hi, hv, h3, hH, hx, h5, h19, h20, h21, rfl⟩
      simp only [] at h3 hH hx h5 h19 h20 h21
      refine AWP.seqk fun K9 hK9 => ?_
      refine AWP.region (AOPS.all (by simp (disch := first|omega|(simp only[ln];omega)) [idf_Wd', Pt.av, Pt.cells, h20, h21]; rfl) ?_)
      refine hK9 _ ?_
      refine AWP.seqk fun K10 hK10 => ?_
      refine cond_ok _ (by simp (disch := first|omega|(simp only[ln];omega)); rfl) (fun h22 => ?_) (fun h22 => ?_)
      · try simp only [decide_eq_true_eq, decide_eq_false_iff_not] at h22
        have hi' : i < L.length := by omega
        obtain ⟨l, hli⟩ : ∃ l, L[i]? = some l := ⟨L[i], by simp [hi']⟩
        have hmi : (L.map ltC)[i]? = some (ltC l) := by rw [List.getElem?_map, hli]; rfl
        have hmem := List.mem_of_getElem? hli
        have hlo := hL l hmem
        have hll := hl2 l hmem
        rw [edgs_drop hli] at hv
        have hn0 : l.length - 0 = l.length := rfl
        refine AWP.skip ?_
        refine hK10 _ ?_
        refine AWP.seqk fun K11 hK11 => ?_
        refine AWP.block ?_
        refine AWP.seqk fun K12 hK12 => ?_
        refine AWP.region (AOPS.all (by simp (disch := first|omega|(simp only[ln];omega)) [if_pos, idf_Wd', Pt.av, Pt.cells, h19, h21, lsA, hmi, ltC, List.length_map]; rfl) ?_)
        refine hK12 _ ?_
        refine AWP.seqk fun K13 hK13 => ?_
        refine AWP.region (AOPS.all (by simp (disch := first|omega|(simp only[ln];omega)) [idf_Wd', Pt.av, Pt.cells, List.length_map]; rfl) ?_)
        refine hK13 _ ?_
        refine AWP.block ?_
        refine AWP.loop (fun N s => ∃ k : Nat, ∃ o : Bool, ∃ id : Nat, N = l.length - k ∧ k ≤ l.length ∧ lsV btI cuI L p = sdv (sdGo btI cuI p ((edg l).drop k ++ edgs (L.drop (i + 1))) o) ∧ s.env 3 = .ptr nx 0 0 ∧ s.heap nx = some (12, [p.cells]) ∧ nx < s.nx ∧ s.env 5 = .int .i64 (sgn o) ∧ s.env 7 = .ptr id 0 0 ∧ s.heap id = some (1, [ltC l]) ∧ nx < id ∧ id < s.nx ∧ s.env 19 = lsA L ∧ s.env 20 = .int .i64 (L.length : Int) ∧ s.env 21 = .int .i64 (i : Int) ∧ s.env 26 = .isl (l.map Pt.cells) ∧ s.env 27 = .int .i64 (l.length : Int) ∧ s.env 28 = .int .i64 (k : Int) ∧ s.nt = 56) (l.length) (⟨0, o, _, by omega, by omega, hv, by simp [h3], by simp (disch := omega) [hH], by simp; omega, by simp [h5], by simp; rfl, by simp (disch := omega) [ltC], by omega, by simp, by simp [h19], by simp [h20], by simp [h21], by simp, by simp, by simp, rfl⟩) ?_
        clear h3 hH hx h5 h19 h20 h21 hv
        rintro N ⟨e, H, mm, nt⟩ ⟨k, o, id, rfl, hk, hv, h3, hH, hx, h5, h7, hI, hi1, hi2, h19, h20, h21, h26, h27, h28, rfl⟩
        simp only [] at h3 hH hx h5 h7 hI hi2 h19 h20 h21 h26 h27 h28
        refine AWP.seqk fun K14 hK14 => ?_
        refine AWP.region (AOPS.all (by simp (disch := first|omega|(simp only[ln];omega)) [idf_Wd', Pt.av, Pt.cells, h27, h28]; rfl) ?_)
        refine hK14 _ ?_
        refine AWP.seqk fun K15 hK15 => ?_
        refine cond_ok _ (by simp (disch := first|omega|(simp only[ln];omega)); rfl) (fun h29 => ?_) (fun h29 => ?_)
        · try simp only [decide_eq_true_eq, decide_eq_false_iff_not] at h29
          have hk' : k < l.length := by omega
          have hne : ¬ l = [] := by intro h; rw [h] at hk'; simp at hk'
          obtain ⟨a, hai⟩ : ∃ a, l[k]? = some a := ⟨l[k], by simp [hk']⟩
          have ham : (l.map Pt.cells)[k]? = some a.cells := by rw [List.getElem?_map, hai]; rfl
          have hao := hlo a (List.mem_of_getElem? hai)
          obtain ⟨j, hj⟩ : ∃ j : Nat, j = (k + 1) % l.length := ⟨_, rfl⟩
          have hjl : j < l.length := by rw [hj]; exact Nat.mod_lt _ (by omega)
          have hjt : Int.tmod ((k : Int) + 1) (l.length : Int) = (j : Int) := by rw [hj]; exact (Int.ofNat_tmod (k + 1) l.length).symm
          obtain ⟨b, hbi⟩ : ∃ b, l[j]? = some b := ⟨l[j], by simp [hjl]⟩
          have hbm : (l.map Pt.cells)[j]? = some b.cells := by rw [List.getElem?_map, hbi]; rfl
          have hbo := hlo b (List.mem_of_getElem? hbi)
          have hed := edg_drop hai (by rw [← hj]; exact hbi)
          rw [hed, List.cons_append, sdGo] at hv
          have hag := hgd l hmem a (List.mem_of_getElem? hai)
          have hbg := hgd l hmem b (List.mem_of_getElem? hbi)
          have hsw := sgn_not o
          have hsb := sgn_b o
          refine AWP.skip ?_
          refine hK15 _ ?_
          refine AWP.seqk fun K16 hK16 => ?_
          refine AWP.block ?_
          refine AWP.seqk fun K17 hK17 => ?_
          refine AWP.region (AOPS.all (by simp (disch := first|omega|(simp only[ln];omega)) [if_pos, idf_Wd', Pt.av, Pt.cells, h26, h28, ham, List.length_map]; rfl) ?_)
          refine hK17 _ ?_
          refine AWP.seqk fun K18 hK18 => ?_
          refine AWP.drawF 11 Try.checked.mixed (by kernel_rfl) (by simp (disch := first|omega|(simp only[ln];omega)) [runDf.eq_def, runF1, runF2, stepF.eq_def, updo.eq_def, hupo.eq_def, opSto1.eq_def, if_pos, idf_Wd', Pt.av, Pt.cells, h7, hI, h28, ltC, hne, hjt, hbm, List.length_map]; rfl) ?_
          refine hK18 _ ?_
          refine AWP.seqk fun K19 hK19 => ?_
          refine AWP.seqk fun K20 hK20 => ?_
          refine AWP.region ?_
          refine AOPS.runk 3 (by simp (disch := first|omega|(simp only[ln];omega)) [List.take_succ_cons, List.take_zero, idf_Wd', Pt.av, Pt.cells, h3, hH]; rfl) ?_
          simp only [List.drop_succ_cons, List.drop_zero]
          refine AOPS.fcall (between_fc a b p hao hbo hp hag hbg hpg) rfl rfl rfl hb82 (by simp (disch := first|omega|(simp only[ln];omega)) [idf_Wd', h3, hH, Pt.av, Pt.cells]) (by simp (disch := first|omega|(simp only[ln];omega)) [h3, hH]) (by simp) ?_
          simp only [puts_some, updo]
          refine AOPS.nil ?_
          refine hK20 _ ?_
          refine cond_ok (btI a b p) (by simp (disch := first|omega|(simp only[ln];omega))) (fun h46 => ?_) (fun h46 => ?_)
          · try simp only [decide_eq_true_eq, decide_eq_false_iff_not] at h46
            rw [if_pos h46] at hv
            refine AWP.seqk fun K21 hK21 => ?_
            refine AWP.region (AOPS.all (by simp (disch := first|omega|(simp only[ln];omega)) [idf_Wd', Pt.av, Pt.cells]; rfl) ?_)
            refine hK21 _ ?_
            refine AWP.ret ?_
            exact hK _ _ _ _ trivial ((Fin.mk (by simp [aRes, aResL, aRes1, idf_Wd', Pt.av, Pt.cells]; rfl)).cast (by rw [hv]; rfl))
          · try simp only [decide_eq_true_eq, decide_eq_false_iff_not] at h46
            rw [if_neg (by rw [h46]; simp)] at hv
            refine AWP.skip ?_
            refine hK19 _ ?_
            refine AWP.seqk fun K22 hK22 => ?_
            refine AWP.region ?_
            refine AOPS.runk 3 (by simp (disch := first|omega|(simp only[ln];omega)) [List.take_succ_cons, List.take_zero, idf_Wd', Pt.av, Pt.cells, h3, hH]; rfl) ?_
            simp only [List.drop_succ_cons, List.drop_zero]
            refine AOPS.fcall (crosses_fc a b p hao hbo hp) rfl rfl rfl hb83 (by simp (disch := first|omega|(simp only[ln];omega)) [idf_Wd', h3, hH, Pt.av, Pt.cells]) (by simp (disch := first|omega|(simp only[ln];omega)) [h3, hH]) (by simp) ?_
            simp only [puts_some, updo]
            refine AOPS.nil ?_
            refine hK22 _ ?_
            refine cond_ok (cuI a b p) (by simp (disch := first|omega|(simp only[ln];omega))) (fun h50 => ?_) (fun h50 => ?_)
            · try simp only [decide_eq_true_eq, decide_eq_false_iff_not] at h50
              refine AWP.region (AOPS.all (by simp (disch := first|omega|(simp only[ln];omega)) [idf_Wd', Pt.av, Pt.cells, h5, hsw]; rfl) ?_)
              refine hK16 _ ?_
              refine AWP.region (AOPS.all (by simp (disch := first|omega|(simp only[ln];omega)) [idf_Wd', Pt.av, Pt.cells, h28]; rfl) ?_)
              refine ⟨l.length - (k + 1), by omega, k + 1, (o ^^ cuI a b p), id, rfl, by omega, hv, by simp [h3], by simp (disch := omega) [hH], by simp; omega, by simp [h5, h50, hsw], by simp [h7], by simp (disch := omega) [hI], hi1, by simp; omega, by simp [h19], by simp [h20], by simp [h21], by simp [h26], by simp [h27], by simp (disch := omega) [h28], rfl⟩
            · try simp only [decide_eq_true_eq, decide_eq_false_iff_not] at h50
              refine AWP.skip ?_
              refine hK16 _ ?_
              refine AWP.region (AOPS.all (by simp (disch := first|omega|(simp only[ln];omega)) [idf_Wd', Pt.av, Pt.cells, h28]; rfl) ?_)
              refine ⟨l.length - (k + 1), by omega, k + 1, (o ^^ cuI a b p), id, rfl, by omega, hv, by simp [h3], by simp (disch := omega) [hH], by simp; omega, by simp [h5, h50, hsw], by simp [h7], by simp (disch := omega) [hI], hi1, by simp; omega, by simp [h19], by simp [h20], by simp [h21], by simp [h26], by simp [h27], by simp (disch := omega) [h28], rfl⟩
        · try simp only [decide_eq_true_eq, decide_eq_false_iff_not] at h29
          rw [edg_end l (by omega), List.nil_append] at hv
          obtain ⟨o', hv', g3, gH, gx, g5, g19, g20, g21⟩ : ∃ o' : Bool, lsV btI cuI L p = sdv (sdGo btI cuI p (edgs (L.drop (i + 1))) o') ∧ e 3 = .ptr nx 0 0 ∧ H nx = some (12, [p.cells]) ∧ nx < mm ∧ e 5 = .int .i64 (sgn o') ∧ e 19 = lsA L ∧ e 20 = .int .i64 (L.length : Int) ∧ e 21 = .int .i64 (i : Int) := ⟨o, hv, h3, hH, hx, h5, h19, h20, h21⟩
          refine AWP.exit ?_
          refine hK11 _ ?_
          refine AWP.region (AOPS.all (by simp (disch := first|omega|(simp only[ln];omega)) [idf_Wd', Pt.av, Pt.cells, g21]; rfl) ?_)
          refine ⟨L.length - (i + 1), by omega, i + 1, o', rfl, by omega, hv', by simp [g3], by simp (disch := omega) [gH], by simp; omega, by simp [g5], by simp [g19], by simp [g20], by simp (disch := omega) [g21], rfl⟩
      · try simp only [decide_eq_true_eq, decide_eq_false_iff_not] at h22
        have hin : i = L.length := by omega
        rw [hin, edgs_end L (Nat.le_refl _), sdGo, sdv_some] at hv
        refine AWP.exit ?_
        refine hK7 _ ?_
        refine AWP.seqk fun K23 hK23 => ?_
        refine AWP.region (AOPS.all (by simp (disch := first|omega|(simp only[ln];omega)) [idf_Wd', Pt.av, Pt.cells, h5]; rfl) ?_)
        refine hK23 _ ?_
        refine AWP.ret ?_
        exact hK _ _ _ _ trivial ((Fin.mk (by simp [aRes, aResL, aRes1, idf_Wd', Pt.av, Pt.cells]; rfl)).cast (by rw [hv]))

set_option maxHeartbeats 4000000 in
theorem loopsSideS_fc (L : List (List Pt)) (hL : ∀ l ∈ L, ∀ p ∈ l, p.ok) (hl : L.length ≤ 1099511627776) (hl2 : ∀ l ∈ L, l.length ≤ 1099511627776) (p : Pt) (hp : p.ok) : FC Try.prog 36 [lsA L, p.av] (.int .i64 (lsV btS cuS L p)) := by
  refine FC.body Try.func36 rfl (by simp [idfL, idf, idfLL_iff, lsA, ltC, Pt.av, Pt.cells]) (by simp [idfL, idf, idfLL_iff, idf_Wd', Pt.av, Pt.cells, l3A, l3C]) 74 rfl fun nx K hK => ?_
  refine AWP.seqk fun K1 hK1 => ?_
  refine AWP.region (AOPS.all (by simp (disch := first|omega|(simp only[ln];omega)) [idf_Wd', Pt.av, Pt.cells, l3A, l3C]; rfl) ?_)
  refine hK1 _ ?_
  refine AWP.seqk fun K2 hK2 => ?_
  refine AWP.seqk fun K3 hK3 => ?_
  cases hok : lOk L
  · refine AWP.region ?_
    refine AOPS.runk 1 (by simp (disch := first|omega|(simp only[ln];omega)) [List.take_succ_cons, List.take_zero, idf_Wd', Pt.av, Pt.cells, l3A, l3C, hok]; rfl) ?_
    simp only [List.drop_succ_cons, List.drop_zero]
    refine AOPS.fcall (loopsOkS_fc L hL hl hl2) rfl rfl rfl hb10 (by simp (disch := first|omega|(simp only[ln];omega)) [idf_Wd', hok, Pt.av, Pt.cells, l3A, l3C]) (by simp (disch := first|omega|(simp only[ln];omega)) [hok]) (by simp) ?_
    simp only [puts_some, updo]
    refine AOPS.all (by simp (disch := first|omega|(simp only[ln];omega)) [idf_Wd', Pt.av, Pt.cells, l3A, l3C, hok]; rfl) ?_
    refine hK3 _ ?_
    refine cond_ok _ (by simp (disch := first|omega|(simp only[ln];omega)); rfl) (fun h18 => ?_) (fun h18 => ?_)
    · try simp only [decide_eq_true_eq, decide_eq_false_iff_not] at h18
      refine AWP.seqk fun K4 hK4 => ?_
      refine AWP.region (AOPS.all (by simp (disch := first|omega|(simp only[ln];omega)) [idf_Wd', Pt.av, Pt.cells, l3A, l3C]; rfl) ?_)
      refine hK4 _ ?_
      refine AWP.ret ?_
      exact hK _ _ _ _ trivial ((Fin.mk (by simp [aRes, aResL, aRes1, idf_Wd', Pt.av, Pt.cells, l3A, l3C]; rfl)).cast (by unfold lsV; rw [hok]; rfl))
    · simp at h18
  · refine AWP.region ?_
    refine AOPS.runk 1 (by simp (disch := first|omega|(simp only[ln];omega)) [List.take_succ_cons, List.take_zero, idf_Wd', Pt.av, Pt.cells, l3A, l3C, hok]; rfl) ?_
    simp only [List.drop_succ_cons, List.drop_zero]
    refine AOPS.fcall (loopsOkS_fc L hL hl hl2) rfl rfl rfl hb10 (by simp (disch := first|omega|(simp only[ln];omega)) [idf_Wd', hok, Pt.av, Pt.cells, l3A, l3C]) (by simp (disch := first|omega|(simp only[ln];omega)) [hok]) (by simp) ?_
    simp only [puts_some, updo]
    refine AOPS.runk 3 (by simp (disch := first|omega|(simp only[ln];omega)) [List.take_succ_cons, List.take_zero, idf_Wd', Pt.av, Pt.cells, l3A, l3C, hok]; rfl) ?_
    simp only [List.drop_succ_cons, List.drop_zero]
    refine AOPS.fcall (pointOkS_fc p hp) rfl rfl rfl hb40 (by simp (disch := first|omega|(simp only[ln];omega)) [idf_Wd', hok, Pt.av, Pt.cells, l3A, l3C]) (by simp (disch := first|omega|(simp only[ln];omega)) [hok]) (by simp) ?_
    simp only [puts_some, updo]
    refine AOPS.all (by simp (disch := first|omega|(simp only[ln];omega)) [idf_Wd', Pt.av, Pt.cells, l3A, l3C, hok]; rfl) ?_
    refine hK3 _ ?_
    refine cond_ok (!p.good) (by simp (disch := first|omega|(simp only[ln];omega))) (fun h18 => ?_) (fun h18 => ?_)
    · try simp only [decide_eq_true_eq, decide_eq_false_iff_not] at h18
      have hpg : p.good = false := by simpa using h18
      refine AWP.seqk fun K5 hK5 => ?_
      refine AWP.region (AOPS.all (by simp (disch := first|omega|(simp only[ln];omega)) [idf_Wd', Pt.av, Pt.cells, l3A, l3C]; rfl) ?_)
      refine hK5 _ ?_
      refine AWP.ret ?_
      exact hK _ _ _ _ trivial ((Fin.mk (by simp [aRes, aResL, aRes1, idf_Wd', Pt.av, Pt.cells, l3A, l3C]; rfl)).cast (by unfold lsV; rw [hok, hpg]; rfl))
    · try simp only [decide_eq_true_eq, decide_eq_false_iff_not] at h18
      have hpg : p.good = true := by simpa using h18
      have hv0 : lsV btS cuS L p = sdv (sdGo btS cuS p (edgs (L.drop 0)) false) := by unfold lsV; rw [hok, hpg]; rfl
      refine AWP.skip ?_
      refine hK2 _ ?_
      refine AWP.seqk fun K6 hK6 => ?_
      refine AWP.region ?_
      refine AOPS.runk 1 (by simp (disch := first|omega|(simp only[ln];omega)) [List.take_succ_cons, List.take_zero, idf_Wd', Pt.av, Pt.cells, l3A, l3C]; rfl) ?_
      simp only [List.drop_succ_cons, List.drop_zero]
      refine AOPS.fcall (l3Of_fc p hp) rfl rfl rfl hb50 (by simp (disch := first|omega|(simp only[ln];omega)) [idf_Wd', Pt.av, Pt.cells, l3A, l3C]) (by simp (disch := first|omega|(simp only[ln];omega))) (by simp) ?_
      simp only [puts_some, updo]
      refine AOPS.all (by simp (disch := first|omega|(simp only[ln];omega)) [idf_Wd', Pt.av, Pt.cells, l3A, l3C]; rfl) ?_
      refine hK6 _ ?_
      refine AWP.seqk fun K7 hK7 => ?_
      refine AWP.region (AOPS.all (by simp (disch := first|omega|(simp only[ln];omega)) [idf_Wd', Pt.av, Pt.cells, l3A, l3C]; rfl) ?_)
      refine hK7 _ ?_
      refine AWP.seqk fun K8 hK8 => ?_
      refine AWP.seqk fun K9 hK9 => ?_
      refine AWP.region (AOPS.all (by simp (disch := first|omega|(simp only[ln];omega)) [idf_Wd', Pt.av, Pt.cells, l3A, l3C]; rfl) ?_)
      refine hK9 _ ?_
      refine AWP.block ?_
      refine AWP.loop (fun N s => ∃ i : Nat, ∃ o : Bool, N = L.length - i ∧ i ≤ L.length ∧ lsV btS cuS L p = sdv (sdGo btS cuS p (edgs (L.drop i)) o) ∧ s.env 0 = lsA L ∧ s.env 5 = .ptr (nx + 1) 0 0 ∧ s.heap (nx + 1) = some (6, [l3C p.x.v p.y.v p.w.v]) ∧ nx + 1 < s.nx ∧ s.env 6 = .bool o ∧ s.env 7 = .int .i64 (i : Int) ∧ s.nt = 74) (L.length) (⟨0, false, by omega, by omega, hv0, by simp, by simp, by simp (disch := omega) [l3C], by simp, by simp, by simp, rfl⟩) ?_
      rintro N ⟨e, H, mm, nt⟩ ⟨i, o, rfl, hi, hv, h0, h5, hH, hx, h6, h7, rfl⟩
      simp only [] at h0 h5 hH hx h6 h7
      refine AWP.seqk fun K10 hK10 => ?_
      refine AWP.seqk fun K11 hK11 => ?_
      refine AWP.region (AOPS.all (by simp (disch := first|omega|(simp only[ln];omega)) [idf_Wd', Pt.av, Pt.cells, l3A, l3C, h0, h7, lsA, List.length_map]; rfl) ?_)
      refine hK11 _ ?_
      refine cond_ok _ (by simp (disch := first|omega|(simp only[ln];omega)); rfl) (fun h24 => ?_) (fun h24 => ?_)
      · try simp only [decide_eq_true_eq, decide_eq_false_iff_not] at h24
        have hi' : i < L.length := by omega
        obtain ⟨l, hli⟩ : ∃ l, L[i]? = some l := ⟨L[i], by simp [hi']⟩
        have hmi : (L.map ltC)[i]? = some (ltC l) := by rw [List.getElem?_map, hli]; rfl
        have hmem := List.mem_of_getElem? hli
        have hlo := hL l hmem
        have hll := hl2 l hmem
        rw [edgs_drop hli] at hv
        have hn0 : l.length - 0 = l.length := rfl
        refine AWP.skip ?_
        refine hK10 _ ?_
        refine AWP.seqk fun K12 hK12 => ?_
        refine AWP.block ?_
        refine AWP.seqk fun K13 hK13 => ?_
        refine AWP.region (AOPS.all (by simp (disch := first|omega|(simp only[ln];omega)) [idf_Wd', Pt.av, Pt.cells, l3A, l3C]; rfl) ?_)
        refine hK13 _ ?_
        refine AWP.block ?_
        refine AWP.loop (fun N s => ∃ k : Nat, ∃ o : Bool, N = l.length - k ∧ k ≤ l.length ∧ lsV btS cuS L p = sdv (sdGo btS cuS p ((edg l).drop k ++ edgs (L.drop (i + 1))) o) ∧ s.env 0 = lsA L ∧ s.env 5 = .ptr (nx + 1) 0 0 ∧ s.heap (nx + 1) = some (6, [l3C p.x.v p.y.v p.w.v]) ∧ nx + 1 < s.nx ∧ s.env 6 = .bool o ∧ s.env 7 = .int .i64 (i : Int) ∧ s.env 8 = .int .i64 (k : Int) ∧ s.nt = 74) (l.length) (⟨0, o, by omega, by omega, hv, by simp [h0], by simp [h5], by simp (disch := omega) [hH], by simp; omega, by simp [h6], by simp [h7], by simp, rfl⟩) ?_
        clear h0 h5 hH hx h6 h7 hv
        rintro N ⟨e, H, mm, nt⟩ ⟨k, o, rfl, hk, hv, h0, h5, hH, hx, h6, h7, h8, rfl⟩
        simp only [] at h0 h5 hH hx h6 h7 h8
        refine AWP.seqk fun K14 hK14 => ?_
        refine AWP.seqk fun K15 hK15 => ?_
        refine AWP.region (AOPS.all (by simp (disch := first|omega|(simp only[ln];omega)) [if_pos, idf_Wd', Pt.av, Pt.cells, l3A, l3C, h0, h7, h8, lsA, hmi, ltC, List.length_map]; rfl) ?_)
        refine hK15 _ ?_
        refine cond_ok _ (by simp (disch := first|omega|(simp only[ln];omega)); rfl) (fun h34 => ?_) (fun h34 => ?_)
        · try simp only [decide_eq_true_eq, decide_eq_false_iff_not] at h34
          have hk' : k < l.length := by omega
          have hne : ¬ l = [] := by intro h; rw [h] at hk'; simp at hk'
          obtain ⟨a, hai⟩ : ∃ a, l[k]? = some a := ⟨l[k], by simp [hk']⟩
          have ham : (l.map Pt.cells)[k]? = some a.cells := by rw [List.getElem?_map, hai]; rfl
          have hao := hlo a (List.mem_of_getElem? hai)
          obtain ⟨j, hj⟩ : ∃ j : Nat, j = (k + 1) % l.length := ⟨_, rfl⟩
          have hjl : j < l.length := by rw [hj]; exact Nat.mod_lt _ (by omega)
          have hjt : Int.tmod ((k : Int) + 1) (l.length : Int) = (j : Int) := by rw [hj]; exact (Int.ofNat_tmod (k + 1) l.length).symm
          obtain ⟨b, hbi⟩ : ∃ b, l[j]? = some b := ⟨l[j], by simp [hjl]⟩
          have hbm : (l.map Pt.cells)[j]? = some b.cells := by rw [List.getElem?_map, hbi]; rfl
          have hbo := hlo b (List.mem_of_getElem? hbi)
          have hed := edg_drop hai (by rw [← hj]; exact hbi)
          rw [hed, List.cons_append, sdGo] at hv
          refine AWP.skip ?_
          refine hK14 _ ?_
          refine AWP.seqk fun K16 hK16 => ?_
          refine AWP.block ?_
          refine AWP.seqk fun K17 hK17 => ?_
          refine AWP.region ?_
          refine AOPS.runk 8 (by simp (disch := first|omega|(simp only[ln];omega)) [List.take_succ_cons, List.take_zero, if_pos, idf_Wd', Pt.av, Pt.cells, l3A, l3C, h0, h7, h8, lsA, hmi, ltC, ham, List.length_map]; rfl) ?_
          simp only [List.drop_succ_cons, List.drop_zero]
          refine AOPS.fcall (l3Of_fc a hao) rfl rfl rfl hb50 (by simp (disch := first|omega|(simp only[ln];omega)) [idf_Wd', h0, h7, h8, lsA, hmi, ltC, ham, List.length_map, Pt.av, Pt.cells, l3A, l3C]) (by simp (disch := first|omega|(simp only[ln];omega)) [h0, h7, h8, lsA, hmi, ltC, ham, List.length_map]) (by simp) ?_
          simp only [puts_some, updo]
          refine AOPS.all (by simp (disch := first|omega|(simp only[ln];omega)) [if_pos, idf_Wd', Pt.av, Pt.cells, l3A, l3C, h0, h7, h8, lsA, hmi, ltC, ham, List.length_map]; rfl) ?_
          refine hK17 _ ?_
          refine AWP.seqk fun K18 hK18 => ?_
          refine AWP.draw 18 Try.checked.mixed (by kernel_rfl) (by simp) ?_
          simp only [List.take_succ_cons, List.take_zero, List.drop_succ_cons, List.drop_zero]
          refine DP.runFk 16 (by simp (disch := first|omega|(simp only[ln];omega)) [runDf.eq_def, runF1, runF2, stepF.eq_def, updo.eq_def, hupo.eq_def, opSto1.eq_def, List.take_succ_cons, List.take_zero, if_pos, idf_Wd', Pt.av, Pt.cells, l3A, l3C, h0, h7, h8, lsA, hmi, ltC, hne, hjt, hbm, List.length_map]; rfl) fun fs19 hfs19 => ?_
          replace hfs19 : fs19.length = 16 := hfs19.trans rfl
          simp only [List.drop_succ_cons, List.drop_zero]
          refine DP.fcall (l3Of_fc b hbo) rfl rfl rfl hb50 (by simp (disch := first|omega|(simp only[ln];omega)) [idf_Wd', h0, h7, h8, lsA, hmi, ltC, hne, hjt, hbm, List.length_map, Pt.av, Pt.cells, l3A, l3C]) (by simp (disch := first|omega|(simp only[ln];omega)) [h0, h7, h8, lsA, hmi, ltC, hne, hjt, hbm, List.length_map]) (by simp) ?_
          simp only [updo]
          refine DP.runFk 1 (by simp (disch := first|omega|(simp only[ln];omega)) [runDf.eq_def, runF1, runF2, stepF.eq_def, updo.eq_def, hupo.eq_def, opSto1.eq_def, List.take_succ_cons, List.take_zero, if_pos, idf_Wd', Pt.av, Pt.cells, l3A, l3C, h0, h7, h8, lsA, hmi, ltC, hne, hjt, hbm, List.length_map]; rfl) fun fs20 hfs20 => ?_
          replace hfs20 : fs20.length = 1 := hfs20.trans rfl
          simp only [List.drop_succ_cons, List.drop_zero]
          refine DQ.runF (m := 18) (by simp only [List.length_append, List.length_cons, List.length_nil, hfs19, hfs20]; omega) _ _ _ (by kernel_rfl) rfl (by simp (disch := first|omega|(simp only[ln];omega)) [runDf.eq_def, runF1, runF2, stepF.eq_def, updo.eq_def, hupo.eq_def, opSto1.eq_def, if_pos, idf_Wd', Pt.av, Pt.cells, l3A, l3C, h0, h7, h8, lsA, hmi, ltC, hne, hjt, hbm, List.length_map]; rfl) ?_
          refine hK18 _ ?_
          refine AWP.seqk fun K21 hK21 => ?_
          refine AWP.seqk fun K22 hK22 => ?_
          refine AWP.region ?_
          refine AOPS.runk 3 (by simp (disch := first|omega|(simp only[ln];omega)) [List.take_succ_cons, List.take_zero, idf_Wd', Pt.av, Pt.cells, l3A, l3C, h5, hH]; rfl) ?_
          simp only [List.drop_succ_cons, List.drop_zero]
          refine AOPS.fcall (l3Between_fc a b p hao hbo hp) rfl rfl rfl hb78 (by simp (disch := first|omega|(simp only[ln];omega)) [idf_Wd', h5, hH, Pt.av, Pt.cells, l3A, l3C]) (by simp (disch := first|omega|(simp only[ln];omega)) [h5, hH]) (by simp) ?_
          simp only [puts_some, updo]
          refine AOPS.nil ?_
          refine hK22 _ ?_
          refine cond_ok (btS a b p) (by simp (disch := first|omega|(simp only[ln];omega))) (fun h66 => ?_) (fun h66 => ?_)
          · try simp only [decide_eq_true_eq, decide_eq_false_iff_not] at h66
            rw [if_pos h66] at hv
            refine AWP.seqk fun K23 hK23 => ?_
            refine AWP.region (AOPS.all (by simp (disch := first|omega|(simp only[ln];omega)) [idf_Wd', Pt.av, Pt.cells, l3A, l3C]; rfl) ?_)
            refine hK23 _ ?_
            refine AWP.ret ?_
            exact hK _ _ _ _ trivial ((Fin.mk (by simp [aRes, aResL, aRes1, idf_Wd', Pt.av, Pt.cells, l3A, l3C]; rfl)).cast (by rw [hv]; rfl))
          · try simp only [decide_eq_true_eq, decide_eq_false_iff_not] at h66
            rw [if_neg (by rw [h66]; simp)] at hv
            refine AWP.skip ?_
            refine hK21 _ ?_
            refine AWP.seqk fun K24 hK24 => ?_
            refine AWP.region ?_
            refine AOPS.runk 3 (by simp (disch := first|omega|(simp only[ln];omega)) [List.take_succ_cons, List.take_zero, idf_Wd', Pt.av, Pt.cells, l3A, l3C, h5, hH]; rfl) ?_
            simp only [List.drop_succ_cons, List.drop_zero]
            refine AOPS.fcall (l5Cuts_fc a b p hao hbo hp) rfl rfl rfl hb79 (by simp (disch := first|omega|(simp only[ln];omega)) [idf_Wd', h5, hH, Pt.av, Pt.cells, l3A, l3C]) (by simp (disch := first|omega|(simp only[ln];omega)) [h5, hH]) (by simp) ?_
            simp only [puts_some, updo]
            refine AOPS.nil ?_
            refine hK24 _ ?_
            refine cond_ok (cuS a b p) (by simp (disch := first|omega|(simp only[ln];omega))) (fun h70 => ?_) (fun h70 => ?_)
            · try simp only [decide_eq_true_eq, decide_eq_false_iff_not] at h70
              refine AWP.region (AOPS.all (by simp (disch := first|omega|(simp only[ln];omega)) [idf_Wd', Pt.av, Pt.cells, l3A, l3C, h6]; rfl) ?_)
              refine hK16 _ ?_
              refine AWP.region (AOPS.all (by simp (disch := first|omega|(simp only[ln];omega)) [idf_Wd', Pt.av, Pt.cells, l3A, l3C, h8]; rfl) ?_)
              refine ⟨l.length - (k + 1), by omega, k + 1, (o ^^ cuS a b p), rfl, by omega, hv, by simp [h0], by simp [h5], by simp (disch := omega) [hH], by simp; omega, by simp [h6, h70], by simp [h7], by simp (disch := omega) [h8], rfl⟩
            · try simp only [decide_eq_true_eq, decide_eq_false_iff_not] at h70
              refine AWP.skip ?_
              refine hK16 _ ?_
              refine AWP.region (AOPS.all (by simp (disch := first|omega|(simp only[ln];omega)) [idf_Wd', Pt.av, Pt.cells, l3A, l3C, h8]; rfl) ?_)
              refine ⟨l.length - (k + 1), by omega, k + 1, (o ^^ cuS a b p), rfl, by omega, hv, by simp [h0], by simp [h5], by simp (disch := omega) [hH], by simp; omega, by simp [h6, h70], by simp [h7], by simp (disch := omega) [h8], rfl⟩
        · try simp only [decide_eq_true_eq, decide_eq_false_iff_not] at h34
          rw [edg_end l (by omega), List.nil_append] at hv
          refine AWP.exit ?_
          refine hK12 _ ?_
          refine AWP.region (AOPS.all (by simp (disch := first|omega|(simp only[ln];omega)) [idf_Wd', Pt.av, Pt.cells, l3A, l3C, h7]; rfl) ?_)
          refine ⟨L.length - (i + 1), by omega, i + 1, o, rfl, by omega, hv, by simp [h0], by simp [h5], by simp (disch := omega) [hH], by simp; omega, by simp [h6], by simp (disch := omega) [h7], rfl⟩
      · try simp only [decide_eq_true_eq, decide_eq_false_iff_not] at h24
        have hin : i = L.length := by omega
        rw [hin, edgs_end L (Nat.le_refl _), sdGo, sdv_some] at hv
        refine AWP.exit ?_
        refine hK8 _ ?_
        refine AWP.seqk fun K25 hK25 => ?_
        refine AWP.seqk fun K26 hK26 => ?_
        refine AWP.region (AOPS.all (by simp (disch := first|omega|(simp only[ln];omega)) [idf_Wd', Pt.av, Pt.cells, l3A, l3C, h6]; rfl) ?_)
        refine hK26 _ ?_
        refine cond_ok (o) (by simp (disch := first|omega|(simp only[ln];omega))) (fun h73 => ?_) (fun h73 => ?_)
        · try simp only [decide_eq_true_eq, decide_eq_false_iff_not] at h73
          refine AWP.seqk fun K27 hK27 => ?_
          refine AWP.region (AOPS.all (by simp (disch := first|omega|(simp only[ln];omega)) [idf_Wd', Pt.av, Pt.cells, l3A, l3C]; rfl) ?_)
          refine hK27 _ ?_
          refine AWP.ret ?_
          exact hK _ _ _ _ trivial ((Fin.mk (by simp [aRes, aResL, aRes1, idf_Wd', Pt.av, Pt.cells, l3A, l3C]; rfl)).cast (by rw [hv, h73]; rfl))
        · try simp only [decide_eq_true_eq, decide_eq_false_iff_not] at h73
          refine AWP.skip ?_
          refine hK25 _ ?_
          refine AWP.seqk fun K28 hK28 => ?_
          refine AWP.region (AOPS.all (by simp (disch := first|omega|(simp only[ln];omega)) [idf_Wd', Pt.av, Pt.cells, l3A, l3C]; rfl) ?_)
          refine hK28 _ ?_
          refine AWP.ret ?_
          exact hK _ _ _ _ trivial ((Fin.mk (by simp [aRes, aResL, aRes1, idf_Wd', Pt.av, Pt.cells, l3A, l3C]; rfl)).cast (by rw [hv, h73]; rfl))

set_option maxHeartbeats 2000000 in
theorem fnExactLoopsSide_fc (L : List (List Pt)) (hL : ∀ l ∈ L, ∀ p ∈ l, p.ok) (hl : L.length ≤ 9223372036854775807) (hl2 : ∀ l ∈ L, l.length ≤ 9223372036854775807) (p : Pt) (hp : p.ok) : FC Try.prog 8 [lsA L, p.av] (.bool true) := by
  refine FC.body Try.func8 rfl (by simp [idfL, idf, idfLL_iff, lsA, ltC, Pt.av, Pt.cells]) (by simp [idfL, idf, idfLL_iff, idf_Wd', Pt.av, Pt.cells]) 33 rfl fun nx K hK => ?_
  refine AWP.seqk fun K1 hK1 => ?_
  refine AWP.region (AOPS.all (by simp (disch := first|omega|(simp only[ln];omega)) [idf_Wd', Pt.av, Pt.cells]; rfl) ?_)
  refine hK1 _ ?_
  refine AWP.seqk fun K2 hK2 => ?_
  refine AWP.region (AOPS.all (by simp (disch := first|omega|(simp only[ln];omega)) [idf_Wd', Pt.av, Pt.cells]; rfl) ?_)
  refine hK2 _ ?_
  refine AWP.seqk fun K3 hK3 => ?_
  refine AWP.region ?_
  refine AOPS.runk 2 (by simp (disch := first|omega|(simp only[ln];omega)) [List.take_succ_cons, List.take_zero, idf_Wd', Pt.av, Pt.cells]; rfl) ?_
  simp only [List.drop_succ_cons, List.drop_zero]
  refine AOPS.fcall (szLoopS_fc L hl hl2) rfl rfl rfl hb9 (by simp (disch := first|omega|(simp only[ln];omega)) [idf_Wd', Pt.av, Pt.cells]) (by simp (disch := first|omega|(simp only[ln];omega))) (by simp) ?_
  simp only [puts_some, updo]
  refine AOPS.all (by simp (disch := first|omega|(simp only[ln];omega)) [idf_Wd', Pt.av, Pt.cells]; rfl) ?_
  refine hK3 _ ?_
  refine AWP.seqk fun K4 hK4 => ?_
  refine AWP.seqk fun K5 hK5 => ?_
  refine AWP.region (AOPS.all (by simp (disch := first|omega|(simp only[ln];omega)) [idf_Wd', Pt.av, Pt.cells]; rfl) ?_)
  refine hK5 _ ?_
  refine cond_ok _ (by simp (disch := first|omega|(simp only[ln];omega)); rfl) (fun h13 => ?_) (fun h13 => ?_)
  · try simp only [decide_eq_true_eq, decide_eq_false_iff_not] at h13
    refine AWP.seqk fun K6 hK6 => ?_
    refine AWP.region (AOPS.all (by simp (disch := first|omega|(simp only[ln];omega)) [idf_Wd', Pt.av, Pt.cells]; rfl) ?_)
    refine hK6 _ ?_
    refine AWP.ret ?_
    exact hK _ _ _ _ trivial (Fin.mk (by simp (disch := first|omega|(simp only[ln];omega)) [aRes, aResL, aRes1, idf_Wd', Pt.av, Pt.cells]))
  · try simp only [decide_eq_true_eq, decide_eq_false_iff_not] at h13
    obtain ⟨m1, m2⟩ := szA_le (L := L) (n := 1048576) (by omega)
    have k1 : L.length ≤ 1048576 := by omega
    have k2 : ∀ l ∈ L, l.length ≤ 1048576 := fun l hm => by have := m2 l hm; omega
    have q1 : L.length ≤ 1099511627776 := by omega
    have q2 : ∀ l ∈ L, l.length ≤ 1099511627776 := fun l hm => by have := k2 l hm; omega
    refine AWP.skip ?_
    refine hK4 _ ?_
    refine AWP.seqk fun K7 hK7 => ?_
    refine AWP.draw 5 Try.checked.mixed (by kernel_rfl) (by simp) ?_
    simp only [List.take_succ_cons, List.take_zero, List.drop_succ_cons, List.drop_zero]
    refine DP.runFk 1 (by simp (disch := first|omega|(simp only[ln];omega)) [runDf.eq_def, runF1, runF2, stepF.eq_def, updo.eq_def, hupo.eq_def, opSto1.eq_def, List.take_succ_cons, List.take_zero, idf_Wd', Pt.av, Pt.cells]; rfl) fun fs8 hfs8 => ?_
    replace hfs8 : fs8.length = 1 := hfs8.trans rfl
    simp only [List.drop_succ_cons, List.drop_zero]
    refine DP.fcall (toLoopS_fc L k1 k2) rfl rfl rfl hb11 (by simp (disch := first|omega|(simp only[ln];omega)) [idf_Wd', Pt.av, Pt.cells]) (by simp (disch := first|omega|(simp only[ln];omega))) (by simp) ?_
    simp only [updo]
    refine DP.runFk 1 (by simp (disch := first|omega|(simp only[ln];omega)) [runDf.eq_def, runF1, runF2, stepF.eq_def, updo.eq_def, hupo.eq_def, opSto1.eq_def, List.take_succ_cons, List.take_zero, idf_Wd', Pt.av, Pt.cells]; rfl) fun fs9 hfs9 => ?_
    replace hfs9 : fs9.length = 1 := hfs9.trans rfl
    simp only [List.drop_succ_cons, List.drop_zero]
    refine DP.fcall (toPoint_fc p) rfl rfl rfl hb37 (by simp (disch := first|omega|(simp only[ln];omega)) [idf_Wd', Pt.av, Pt.cells]) (by simp (disch := first|omega|(simp only[ln];omega))) (by simp) ?_
    simp only [updo]
    refine DP.fcall (loopsSideS_fc L hL q1 q2 p hp) rfl rfl rfl hb36 (by simp (disch := first|omega|(simp only[ln];omega)) [idf_Wd', Pt.av, Pt.cells]) (by simp (disch := first|omega|(simp only[ln];omega))) (by simp) ?_
    simp only [updo]
    refine DQ.runF (m := 5) (by simp only [List.length_append, List.length_cons, List.length_nil, hfs8, hfs9]; omega) _ _ _ (by kernel_rfl) rfl (by simp (disch := first|omega|(simp only[ln];omega)) [runDf.eq_def, runF1, runF2, stepF.eq_def, updo.eq_def, hupo.eq_def, opSto1.eq_def, idf_Wd', Pt.av, Pt.cells]; rfl) ?_
    refine hK7 _ ?_
    refine AWP.seqk fun K10 hK10 => ?_
    refine AWP.region ?_
    refine AOPS.runk 1 (by simp (disch := first|omega|(simp only[ln];omega)) [List.take_succ_cons, List.take_zero, idf_Wd', Pt.av, Pt.cells]; rfl) ?_
    simp only [List.drop_succ_cons, List.drop_zero]
    refine AOPS.fcall (toLoopS_fc L k1 k2) rfl rfl rfl hb11 (by simp (disch := first|omega|(simp only[ln];omega)) [idf_Wd', Pt.av, Pt.cells]) (by simp (disch := first|omega|(simp only[ln];omega))) (by simp) ?_
    simp only [puts_some, updo]
    refine AOPS.all (by simp (disch := first|omega|(simp only[ln];omega)) [idf_Wd', Pt.av, Pt.cells]; rfl) ?_
    refine hK10 _ ?_
    refine AWP.seqk fun K11 hK11 => ?_
    refine AWP.region ?_
    refine AOPS.runk 2 (by simp (disch := first|omega|(simp only[ln];omega)) [List.take_succ_cons, List.take_zero, idf_Wd', Pt.av, Pt.cells]; rfl) ?_
    simp only [List.drop_succ_cons, List.drop_zero]
    refine AOPS.fcall (toPoint_fc p) rfl rfl rfl hb37 (by simp (disch := first|omega|(simp only[ln];omega)) [idf_Wd', Pt.av, Pt.cells]) (by simp (disch := first|omega|(simp only[ln];omega))) (by simp) ?_
    simp only [puts_some, updo]
    refine AOPS.fcall (loopsSideI_fc L hL q1 q2 p hp) rfl rfl rfl hb38 (by simp (disch := first|omega|(simp only[ln];omega)) [idf_Wd', Pt.av, Pt.cells]) (by simp (disch := first|omega|(simp only[ln];omega))) (by simp) ?_
    simp only [puts_some, updo]
    refine AOPS.all (by simp (disch := first|omega|(simp only[ln];omega)) [idf_Wd', Pt.av, Pt.cells]; rfl) ?_
    refine hK11 _ ?_
    refine AWP.seqk fun K12 hK12 => ?_
    refine AWP.seqk fun K13 hK13 => ?_
    refine AWP.region (AOPS.all (by simp (disch := first|omega|(simp only[ln];omega)) [idf_Wd', Pt.av, Pt.cells]; rfl) ?_)
    refine hK13 _ ?_
    refine cond_ok (lsV btI cuI L p != lsV btS cuS L p) (by simp (disch := first|omega|(simp only[ln];omega))) (fun h27 => ?_) (fun h27 => ?_)
    · rw [lsV_eq hL hp] at h27; simp at h27
    · try simp only [decide_eq_true_eq, decide_eq_false_iff_not] at h27
      refine AWP.skip ?_
      refine hK12 _ ?_
      refine AWP.seqk fun K14 hK14 => ?_
      refine AWP.seqk fun K15 hK15 => ?_
      refine AWP.region ?_
      refine AOPS.runk 2 (by simp (disch := first|omega|(simp only[ln];omega)) [List.take_succ_cons, List.take_zero, idf_Wd', Pt.av, Pt.cells]; rfl) ?_
      simp only [List.drop_succ_cons, List.drop_zero]
      refine AOPS.fcall (toLoopS_fc L k1 k2) rfl rfl rfl hb11 (by simp (disch := first|omega|(simp only[ln];omega)) [idf_Wd', Pt.av, Pt.cells]) (by simp (disch := first|omega|(simp only[ln];omega))) (by simp) ?_
      simp only [puts_some, updo]
      refine AOPS.fcall (eqLoopS_fc L hl hl2) rfl rfl rfl hb13 (by simp (disch := first|omega|(simp only[ln];omega)) [idf_Wd', Pt.av, Pt.cells]) (by simp (disch := first|omega|(simp only[ln];omega))) (by simp) ?_
      simp only [puts_some, updo]
      refine AOPS.all (by simp (disch := first|omega|(simp only[ln];omega)) [idf_Wd', Pt.av, Pt.cells]; rfl) ?_
      refine hK15 _ ?_
      refine cond_ok _ (by simp (disch := first|omega|(simp only[ln];omega)); rfl) (fun h32 => ?_) (fun h32 => ?_)
      · simp at h32
      · try simp only [decide_eq_true_eq, decide_eq_false_iff_not] at h32
        refine AWP.skip ?_
        refine hK14 _ ?_
        refine AWP.seqk fun K16 hK16 => ?_
        refine AWP.region (AOPS.all (by simp (disch := first|omega|(simp only[ln];omega)) [idf_Wd', Pt.av, Pt.cells]; rfl) ?_)
        refine hK16 _ ?_
        refine AWP.ret ?_
        exact hK _ _ _ _ trivial (Fin.mk (by simp (disch := first|omega|(simp only[ln];omega)) [aRes, aResL, aRes1, idf_Wd', Pt.av, Pt.cells]))

end Go.Proofs.Ytdcggmbnjonemaa
