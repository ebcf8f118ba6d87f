/- Walks: fractions of the program. -/
import Derived.Test.YtmaebeknmiomnaaG0Z

namespace Go.Proofs.Ytmaebeknmiomnaa
open Go Go.RowKit
set_option linter.unusedSimpArgs false
set_option linter.unusedVariables false
set_option maxRecDepth 100000
attribute [local simp] List.getElem?_cons_zero List.getElem?_cons_succ List.getElem?_toArray runOps stepOp.eq_def agd.eq_def dstOk.eq_def opVal.eq_def opNew.eq_def opSto.eq_def ev.eq_def cv.eq_def puts_some puts_none upd_ap lst.eq_def aBin.eq_def aUn.eq_def aBi_str aBi_isl aBi_osl aBi_nsl aBi_max aBi_min aBi_max3 aConv.eq_def aLd.eq_def aLoad.eq_def aField.eq_def aFld.eq_def aIdx_isl aIdx_osl aSlc_isl aSlc_osl aSlc_str aSlc_nsl bnd.eq_def evs_nil evs_cons aBuild.eq_def aFill splice.eq_def cells_agg cells_int cells_bool cells_str cells_nil cells_nsl cells_isl cells_osl cells_ptr cells_ip cells_fn cells_Wd one_int one_bool one_str one_nil one_nsl one_isl one_osl one_ptr one_ip one_fn one_Wd aSets hupd_eq hupd_ne wrap_i64s wrap_u64s wrap_u32s wrap_u8s wd_getD wd_set wd_len wd_replicate wd_one wd_fold fz_osl hupd_same aSix.eq_def aEqS.eq_def aEqB_bool aEqB_nsl aEqB_nil
attribute [local simp] szT2 byT2 agT2 unT2 zoT2 szT4 byT4 agT4 unT4 zoT4 szT24 byT24 agT24 unT24 zoT24 szT26 byT26 agT26 flT26 fdT26_0 fdT26_1 fdT26_2 fdT26_3 zoT26 szT51 byT51 agT51 flT51 fdT51_0 fdT51_1 zoT51 szT117 byT117 agT117 elT117 unT117 zoT117 szT119 byT119 agT119 flT119 fdT119_0 fdT119_1 zoT119 szT143 byT143 agT143 flT143 fdT143_0 fdT143_1 zoT143 szT200 byT200 agT200 elT200 unT200 zoT200

set_option maxHeartbeats 2000000 in
theorem over_fc {j : Nat} (a b : Int) (hb0 : b ≠ 0) (ha : Bg j a) (hb : Bg j b) (hj : j ≤ 16777216) : FC Try.prog 180 [numI a, numI b] (.tup [numI (a / b), numI (a % b)]) := by
  have hD := divWords_fc a.natAbs b.natAbs (by omega) (by have := ha.len; rw [mag_abs]; omega) (by have := hb.len; rw [mag_abs]; omega)
  rw [mag_abs, mag_abs] at hD
  have eu := eu_lem a b hb0
  generalize hq : ((a.natAbs / b.natAbs : Nat) : Int) = q0 at *
  generalize hr : ((a.natAbs % b.natAbs : Nat) : Int) = r0 at *
  have q0n : 0 ≤ q0 := by rw [← hq]; exact Int.natCast_nonneg _
  have r0n : 0 ≤ r0 := by rw [← hr]; exact Int.natCast_nonneg _
  have bq : Bg j q0 := by
    rw [← hq]; unfold Bg at *; rw [Int.natAbs_natCast]; have := Nat.div_le_self a.natAbs b.natAbs; omega
  have br : Bg j r0 := by
    rw [← hr]; unfold Bg at *; rw [Int.natAbs_natCast]; have := Nat.mod_le a.natAbs b.natAbs; omega
  have bqs : ∀ s, Bg j (sg s q0) := fun s => by cases s <;> simp only [sg_true, sg_false]; exact bq; exact bq.neg
  have brs : ∀ s, Bg j (sg s r0) := fun s => by cases s <;> simp only [sg_true, sg_false]; exact br; exact br.neg
  have lq := bq.len
  have lr := br.len
  have hT1 := made_fc (decide (a < 0) != decide (b < 0)) (mag q0) (by omega) (mag_dig _)
  rw [mag_val, Int.natAbs_of_nonneg q0n] at hT1
  have hT2 := made_fc (decide (a < 0)) (mag r0) (by omega) (mag_dig _)
  rw [mag_val, Int.natAbs_of_nonneg r0n] at hT2
  obtain ⟨S, hS⟩ : ∃ S, (decide (a < 0) != decide (b < 0)) = S := ⟨_, rfl⟩
  have hS2 : (decide (a < 0) == decide (b < 0)) = !S := by rw [← hS]; cases decide (a < 0) <;> cases decide (b < 0) <;> rfl
  rw [hS] at eu hT1
  refine FC.body Try.func180 rfl (by simp [idfL, idf, idfLL_iff, idf_Wd', idf_numI, cells_numI, numI_fold]) (by simp [idfL, idf, idfLL_iff, idf_Wd', idf_numI, cells_numI, numI_fold]) 45 rfl fun nx K hK => ?_
  refine AWP.seqk fun K1 hK1 => ?_
  refine AWP.region (AOPS.all (by simp (disch := first|omega|(simp only[ln];omega)) [idf_Wd', idf_numI, cells_numI, numI_fold]; rfl) ?_)
  refine hK1 _ ?_
  refine AWP.seqk fun K2 hK2 => ?_
  refine AWP.region ?_
  refine AOPS.runk 4 (by simp (disch := first|omega|(simp only[ln];omega)) [List.take_succ_cons, List.take_zero, idf_Wd', idf_numI, cells_numI, numI_fold]; rfl) ?_
  simp only [List.drop_succ_cons, List.drop_zero]
  refine AOPS.fcall (hD) rfl rfl rfl hb172 (by simp (disch := first|omega|(simp only[ln];omega)) [idf_Wd', idf_numI, cells_numI, numI_fold]) (by simp (disch := first|omega|(simp only[ln];omega))) (by simp) ?_
  simp only [puts_some, updo]
  refine AOPS.all (by simp (disch := first|omega|(simp only[ln];omega)) [idf_Wd', idf_numI, cells_numI, numI_fold]; rfl) ?_
  refine hK2 _ ?_
  refine AWP.seqk fun K3 hK3 => ?_
  refine AWP.old fun hold => ?_
  refine AWP.draw 13 Try.checked.mixed (by kernel_rfl) (by simp) ?_
  simp only [List.take_succ_cons, List.take_zero, List.drop_succ_cons, List.drop_zero]
  refine DP.runFk 6 (by simp (disch := first|omega|(simp only[ln];omega)) [runDf.eq_def, runF1, runF2, stepF.eq_def, updo.eq_def, hupo.eq_def, opSto1.eq_def, List.take_succ_cons, List.take_zero, idf_Wd', idf_numI, cells_numI, numI_fold, hS2]; rfl) fun fs4 hfs4 => ?_
  replace hfs4 : fs4.length = 6 := hfs4.trans rfl
  simp only [List.drop_succ_cons, List.drop_zero]
  refine DP.fcall (hT1) rfl rfl rfl hb174 (by simp (disch := first|omega|(simp only[ln];omega)) [idf_Wd', hS2, idf_numI, cells_numI, numI_fold]) (by simp (disch := first|omega|(simp only[ln];omega)) [hS2]) (by simp) ?_
  simp only [updo]
  refine DP.runF1q (by simp (disch := first|omega|(simp only[ln];omega)) [runDf.eq_def, runF1, runF2, stepF.eq_def, updo.eq_def, hupo.eq_def, opSto1.eq_def, idf_Wd', idf_numI, cells_numI, numI_fold, hS2]; rfl) fun fq5 hfq5 => ?_
  simp [qids, asksB, Op.operands, topId] at hfq5
  simp only [updo]
  refine DP.runF1q (by simp (disch := first|omega|(simp only[ln];omega)) [runDf.eq_def, runF1, runF2, stepF.eq_def, updo.eq_def, hupo.eq_def, opSto1.eq_def, idf_Wd', idf_numI, cells_numI, numI_fold, hS2]; rfl) fun fq6 hfq6 => ?_
  simp [qids, asksB, Op.operands, topId] at hfq6
  simp only [updo]
  refine DP.runF1q (by simp (disch := first|omega|(simp only[ln];omega)) [runDf.eq_def, runF1, runF2, stepF.eq_def, updo.eq_def, hupo.eq_def, opSto1.eq_def, idf_Wd', idf_numI, cells_numI, numI_fold, hS2]; rfl) fun fq7 hfq7 => ?_
  simp [qids, asksB, Op.operands, topId] at hfq7
  simp only [updo]
  refine DP.fcall (hT2) rfl rfl rfl hb174 (by simp (disch := first|omega|(simp only[ln];omega)) [idf_Wd', hS2, idf_numI, cells_numI, numI_fold]) (by simp (disch := first|omega|(simp only[ln];omega)) [hS2]) (by simp) ?_
  simp only [updo]
  refine DP.runFk 2 (by simp (disch := first|omega|(simp only[ln];omega)) [runDf.eq_def, runF1, runF2, stepF.eq_def, updo.eq_def, hupo.eq_def, opSto1.eq_def, List.take_succ_cons, List.take_zero, idf_Wd', idf_numI, cells_numI, numI_fold, hS2]; rfl) fun fs8 hfs8 => ?_
  replace hfs8 : fs8.length = 2 := hfs8.trans rfl
  simp only [List.drop_succ_cons, List.drop_zero]
  refine DQ.sto1 (m := 13) [7, 8, 9] _ (by simp (disch := first|omega|(simp only[ln];omega)) [runDf.eq_def, runF1, runF2, stepF.eq_def, updo.eq_def, hupo.eq_def, opSto1.eq_def, idf_Wd', idf_numI, cells_numI, numI_fold, hS2]; rfl) rfl (by simp only [List.length_append, List.length_cons, List.length_nil, hfs4, hfs8]; omega) (by kernel_rfl) (by intro k f hk hex; simp only [List.mem_cons, List.not_mem_nil, or_false] at hex; rcases hex with rfl | rfl | rfl <;> (simp [List.getElem?_append, hfs4, hfs8] at hk; subst hk; refine ⟨?_, by first | omega | (simp; done) | (simp; omega)⟩; simp [qids, asksB, Op.operands, Call.operands, topId, numS, numI, Wd, hfq5, hfq6, hfq7]; try omega)) ?_
  try simp only []
  refine DQ.sto1 (m := 13) [] _ (by simp (disch := first|omega|(simp only[ln];omega)) [runDf.eq_def, runF1, runF2, stepF.eq_def, updo.eq_def, hupo.eq_def, opSto1.eq_def, idf_Wd', idf_numI, cells_numI, numI_fold, hS2]; rfl) rfl (by simp only [List.length_append, List.length_cons, List.length_nil, hfs4, hfs8]; omega) (by kernel_rfl) (by intro k f hk hex; simp only [List.not_mem_nil] at hex) ?_
  try simp only []
  refine hK3 _ ?_
  refine AWP.seqk fun K9 hK9 => ?_
  refine AWP.seqk fun K10 hK10 => ?_
  refine AWP.region (AOPS.all (by simp (disch := first|omega|(simp only[ln];omega)) [idf_Wd', idf_numI, cells_numI, numI_fold]; rfl) ?_)
  refine hK10 _ ?_
  refine cond_ok (decide (sg (decide (a < 0)) r0 < 0)) (by simp (disch := first|omega|(simp only[ln];omega))) (fun h30 => ?_) (fun h30 => ?_)
  · try simp only [decide_eq_true_eq, decide_eq_false_iff_not] at h30
    refine AWP.seqk fun K11 hK11 => ?_
    refine AWP.draw 4 Try.checked.mixed (by kernel_rfl) (by simp) ?_
    simp only [List.take_succ_cons, List.take_zero, List.drop_succ_cons, List.drop_zero]
    refine DP.runFk 2 (by simp (disch := first|omega|(simp only[ln];omega)) [runDf.eq_def, runF1, runF2, stepF.eq_def, updo.eq_def, hupo.eq_def, opSto1.eq_def, List.take_succ_cons, List.take_zero, idf_Wd', idf_numI, cells_numI, numI_fold]; rfl) fun fs12 hfs12 => ?_
    replace hfs12 : fs12.length = 2 := hfs12.trans rfl
    simp only [List.drop_succ_cons, List.drop_zero]
    refine DP.fcall (abs_fc b) rfl rfl rfl hb217 (by simp (disch := first|omega|(simp only[ln];omega)) [idf_Wd', idf_numI, cells_numI, numI_fold]) (by simp (disch := first|omega|(simp only[ln];omega))) (by simp) ?_
    simp only [updo]
    refine DP.fcall (plus_fc (brs (decide (a < 0))) hb.abs (by omega) (by omega)) rfl rfl rfl hb101 (by simp (disch := first|omega|(simp only[ln];omega)) [idf_Wd', idf_numI, cells_numI, numI_fold]) (by simp (disch := first|omega|(simp only[ln];omega))) (by simp) ?_
    simp only [updo]
    refine DQ.runF (m := 4) (by simp only [List.length_append, List.length_cons, List.length_nil, hfs12]; omega) _ _ _ (by kernel_rfl) rfl (by simp (disch := first|omega|(simp only[ln];omega)) [runDf.eq_def, runF1, runF2, stepF.eq_def, updo.eq_def, hupo.eq_def, opSto1.eq_def, idf_Wd', idf_numI, cells_numI, numI_fold]; rfl) ?_
    refine hK11 _ ?_
    refine AWP.seqk fun K13 hK13 => ?_
    refine AWP.region (AOPS.all (by simp (disch := first|omega|(simp only[ln];omega)) [idf_Wd', idf_numI, cells_numI, numI_fold]; rfl) ?_)
    refine hK13 _ ?_
    refine cond_ok (decide (b < 0)) (by simp (disch := first|omega|(simp only[ln];omega))) (fun h36 => ?_) (fun h36 => ?_)
    · try simp only [decide_eq_true_eq, decide_eq_false_iff_not] at h36
      have e := eu.2.1 h30 h36
      refine AWP.draw 3 Try.checked.mixed (by kernel_rfl) (by simp) ?_
      simp only [List.take_succ_cons, List.take_zero, List.drop_succ_cons, List.drop_zero]
      refine DP.runFk 1 (by simp (disch := first|omega|(simp only[ln];omega)) [runDf.eq_def, runF1, runF2, stepF.eq_def, updo.eq_def, hupo.eq_def, opSto1.eq_def, List.take_succ_cons, List.take_zero, idf_Wd', idf_numI, cells_numI, numI_fold]; rfl) fun fs14 hfs14 => ?_
      replace hfs14 : fs14.length = 1 := hfs14.trans rfl
      simp only [List.drop_succ_cons, List.drop_zero]
      refine DP.fcall (whole_fc 1 (by omega) (by omega)) rfl rfl rfl hb89 (by simp (disch := first|omega|(simp only[ln];omega)) [idf_Wd', idf_numI, cells_numI, numI_fold]) (by simp (disch := first|omega|(simp only[ln];omega))) (by simp) ?_
      simp only [updo]
      refine DP.fcall (plus_fc (bqs S) (Bg.i64 (n := 1) (by omega) (by omega)) (by omega) (by omega)) rfl rfl rfl hb101 (by simp (disch := first|omega|(simp only[ln];omega)) [idf_Wd', idf_numI, cells_numI, numI_fold]) (by simp (disch := first|omega|(simp only[ln];omega))) (by simp) ?_
      simp only [updo]
      refine DQ.runF (m := 3) (by simp only [List.length_append, List.length_cons, List.length_nil, hfs14]; omega) _ _ _ (by kernel_rfl) rfl (by simp (disch := first|omega|(simp only[ln];omega)) [runDf.eq_def, runF1, runF2, stepF.eq_def, updo.eq_def, hupo.eq_def, opSto1.eq_def, idf_Wd', idf_numI, cells_numI, numI_fold]; rfl) ?_
      refine hK9 _ ?_
      refine AWP.seqk fun K15 hK15 => ?_
      refine AWP.old fun hold => ?_
      refine AWP.draw 2 Try.checked.mixed (by kernel_rfl) (by simp) ?_
      simp only [List.take_succ_cons, List.take_zero, List.drop_succ_cons, List.drop_zero]
      refine DP.runFk 1 (by simp (disch := first|omega|(simp only[ln];omega)) [runDf.eq_def, runF1, runF2, stepF.eq_def, updo.eq_def, hupo.eq_def, opSto1.eq_def, List.take_succ_cons, List.take_zero, idf_Wd', idf_numI, cells_numI, numI_fold]; rfl) fun fs16 hfs16 => ?_
      replace hfs16 : fs16.length = 1 := hfs16.trans rfl
      simp only [List.drop_succ_cons, List.drop_zero]
      refine DP.runF1q (by simp (disch := first|omega|(simp only[ln];omega)) [runDf.eq_def, runF1, runF2, stepF.eq_def, updo.eq_def, hupo.eq_def, opSto1.eq_def, idf_Wd', idf_numI, cells_numI, numI_fold]; rfl) fun fq17 hfq17 => ?_
      simp [qids, asksB, Op.operands, topId] at hfq17
      simp only [updo]
      refine DQ.sto1 (m := 2) [1] _ (by simp (disch := first|omega|(simp only[ln];omega)) [runDf.eq_def, runF1, runF2, stepF.eq_def, updo.eq_def, hupo.eq_def, opSto1.eq_def, idf_Wd', idf_numI, cells_numI, numI_fold]; rfl) rfl (by simp only [List.length_append, List.length_cons, List.length_nil, hfs16]; omega) (by kernel_rfl) (by intro k f hk hex; simp only [List.mem_cons, List.not_mem_nil, or_false] at hex; rcases hex with rfl <;> (simp [List.getElem?_append, hfs16] at hk; subst hk; refine ⟨?_, by first | omega | (simp; done) | (simp; omega)⟩; simp [qids, asksB, Op.operands, Call.operands, topId, numS, numI, Wd, hfq17]; try omega)) ?_
      try simp only []
      refine DQ.sto1 (m := 2) [] _ (by simp (disch := first|omega|(simp only[ln];omega)) [runDf.eq_def, runF1, runF2, stepF.eq_def, updo.eq_def, hupo.eq_def, opSto1.eq_def, idf_Wd', idf_numI, cells_numI, numI_fold]; rfl) rfl (by simp only [List.length_append, List.length_cons, List.length_nil, hfs16]; omega) (by kernel_rfl) (by intro k f hk hex; simp only [List.not_mem_nil] at hex) ?_
      try simp only []
      refine hK15 _ ?_
      refine AWP.ret ?_
      exact hK _ _ _ _ trivial ((Fin.mk (by simp [aRes, aResL, aRes1, idf_Wd', idf_numI, cells_numI, numI_fold]; rfl)).cast (by rw [← e.1, ← e.2, show ((b.natAbs : Nat) : Int) = -b by omega, ← Int.sub_eq_add_neg]))
    · try simp only [decide_eq_true_eq, decide_eq_false_iff_not] at h36
      have e := eu.2.2 h30 h36
      refine AWP.draw 3 Try.checked.mixed (by kernel_rfl) (by simp) ?_
      simp only [List.take_succ_cons, List.take_zero, List.drop_succ_cons, List.drop_zero]
      refine DP.runFk 1 (by simp (disch := first|omega|(simp only[ln];omega)) [runDf.eq_def, runF1, runF2, stepF.eq_def, updo.eq_def, hupo.eq_def, opSto1.eq_def, List.take_succ_cons, List.take_zero, idf_Wd', idf_numI, cells_numI, numI_fold]; rfl) fun fs18 hfs18 => ?_
      replace hfs18 : fs18.length = 1 := hfs18.trans rfl
      simp only [List.drop_succ_cons, List.drop_zero]
      refine DP.fcall (whole_fc 1 (by omega) (by omega)) rfl rfl rfl hb89 (by simp (disch := first|omega|(simp only[ln];omega)) [idf_Wd', idf_numI, cells_numI, numI_fold]) (by simp (disch := first|omega|(simp only[ln];omega))) (by simp) ?_
      simp only [updo]
      refine DP.fcall (less_fc (bqs S) (Bg.i64 (n := 1) (by omega) (by omega)) (by omega) (by omega)) rfl rfl rfl hb109 (by simp (disch := first|omega|(simp only[ln];omega)) [idf_Wd', idf_numI, cells_numI, numI_fold]) (by simp (disch := first|omega|(simp only[ln];omega))) (by simp) ?_
      simp only [updo]
      refine DQ.runF (m := 3) (by simp only [List.length_append, List.length_cons, List.length_nil, hfs18]; omega) _ _ _ (by kernel_rfl) rfl (by simp (disch := first|omega|(simp only[ln];omega)) [runDf.eq_def, runF1, runF2, stepF.eq_def, updo.eq_def, hupo.eq_def, opSto1.eq_def, idf_Wd', idf_numI, cells_numI, numI_fold]; rfl) ?_
      refine hK9 _ ?_
      refine AWP.seqk fun K19 hK19 => ?_
      refine AWP.old fun hold => ?_
      refine AWP.draw 2 Try.checked.mixed (by kernel_rfl) (by simp) ?_
      simp only [List.take_succ_cons, List.take_zero, List.drop_succ_cons, List.drop_zero]
      refine DP.runFk 1 (by simp (disch := first|omega|(simp only[ln];omega)) [runDf.eq_def, runF1, runF2, stepF.eq_def, updo.eq_def, hupo.eq_def, opSto1.eq_def, List.take_succ_cons, List.take_zero, idf_Wd', idf_numI, cells_numI, numI_fold]; rfl) fun fs20 hfs20 => ?_
      replace hfs20 : fs20.length = 1 := hfs20.trans rfl
      simp only [List.drop_succ_cons, List.drop_zero]
      refine DP.runF1q (by simp (disch := first|omega|(simp only[ln];omega)) [runDf.eq_def, runF1, runF2, stepF.eq_def, updo.eq_def, hupo.eq_def, opSto1.eq_def, idf_Wd', idf_numI, cells_numI, numI_fold]; rfl) fun fq21 hfq21 => ?_
      simp [qids, asksB, Op.operands, topId] at hfq21
      simp only [updo]
      refine DQ.sto1 (m := 2) [1] _ (by simp (disch := first|omega|(simp only[ln];omega)) [runDf.eq_def, runF1, runF2, stepF.eq_def, updo.eq_def, hupo.eq_def, opSto1.eq_def, idf_Wd', idf_numI, cells_numI, numI_fold]; rfl) rfl (by simp only [List.length_append, List.length_cons, List.length_nil, hfs20]; omega) (by kernel_rfl) (by intro k f hk hex; simp only [List.mem_cons, List.not_mem_nil, or_false] at hex; rcases hex with rfl <;> (simp [List.getElem?_append, hfs20] at hk; subst hk; refine ⟨?_, by first | omega | (simp; done) | (simp; omega)⟩; simp [qids, asksB, Op.operands, Call.operands, topId, numS, numI, Wd, hfq21]; try omega)) ?_
      try simp only []
      refine DQ.sto1 (m := 2) [] _ (by simp (disch := first|omega|(simp only[ln];omega)) [runDf.eq_def, runF1, runF2, stepF.eq_def, updo.eq_def, hupo.eq_def, opSto1.eq_def, idf_Wd', idf_numI, cells_numI, numI_fold]; rfl) rfl (by simp only [List.length_append, List.length_cons, List.length_nil, hfs20]; omega) (by kernel_rfl) (by intro k f hk hex; simp only [List.not_mem_nil] at hex) ?_
      try simp only []
      refine hK19 _ ?_
      refine AWP.ret ?_
      exact hK _ _ _ _ trivial ((Fin.mk (by simp [aRes, aResL, aRes1, idf_Wd', idf_numI, cells_numI, numI_fold]; rfl)).cast (by rw [← e.1, ← e.2, show ((b.natAbs : Nat) : Int) = b by omega]))
  · try simp only [decide_eq_true_eq, decide_eq_false_iff_not] at h30
    have e := eu.1 h30
    refine AWP.skip ?_
    refine hK9 _ ?_
    refine AWP.seqk fun K22 hK22 => ?_
    refine AWP.old fun hold => ?_
    refine AWP.draw 2 Try.checked.mixed (by kernel_rfl) (by simp) ?_
    simp only [List.take_succ_cons, List.take_zero, List.drop_succ_cons, List.drop_zero]
    refine DP.runFk 1 (by simp (disch := first|omega|(simp only[ln];omega)) [runDf.eq_def, runF1, runF2, stepF.eq_def, updo.eq_def, hupo.eq_def, opSto1.eq_def, List.take_succ_cons, List.take_zero, idf_Wd', idf_numI, cells_numI, numI_fold]; rfl) fun fs23 hfs23 => ?_
    replace hfs23 : fs23.length = 1 := hfs23.trans rfl
    simp only [List.drop_succ_cons, List.drop_zero]
    refine DP.runF1q (by simp (disch := first|omega|(simp only[ln];omega)) [runDf.eq_def, runF1, runF2, stepF.eq_def, updo.eq_def, hupo.eq_def, opSto1.eq_def, idf_Wd', idf_numI, cells_numI, numI_fold]; rfl) fun fq24 hfq24 => ?_
    simp [qids, asksB, Op.operands, topId] at hfq24
    simp only [updo]
    refine DQ.sto1 (m := 2) [1] _ (by simp (disch := first|omega|(simp only[ln];omega)) [runDf.eq_def, runF1, runF2, stepF.eq_def, updo.eq_def, hupo.eq_def, opSto1.eq_def, idf_Wd', idf_numI, cells_numI, numI_fold]; rfl) rfl (by simp only [List.length_append, List.length_cons, List.length_nil, hfs23]; omega) (by kernel_rfl) (by intro k f hk hex; simp only [List.mem_cons, List.not_mem_nil, or_false] at hex; rcases hex with rfl <;> (simp [List.getElem?_append, hfs23] at hk; subst hk; refine ⟨?_, by first | omega | (simp; done) | (simp; omega)⟩; simp [qids, asksB, Op.operands, Call.operands, topId, numS, numI, Wd, hfq24]; try omega)) ?_
    try simp only []
    refine DQ.sto1 (m := 2) [] _ (by simp (disch := first|omega|(simp only[ln];omega)) [runDf.eq_def, runF1, runF2, stepF.eq_def, updo.eq_def, hupo.eq_def, opSto1.eq_def, idf_Wd', idf_numI, cells_numI, numI_fold]; rfl) rfl (by simp only [List.length_append, List.length_cons, List.length_nil, hfs23]; omega) (by kernel_rfl) (by intro k f hk hex; simp only [List.not_mem_nil] at hex) ?_
    try simp only []
    refine hK22 _ ?_
    refine AWP.ret ?_
    exact hK _ _ _ _ trivial ((Fin.mk (by simp [aRes, aResL, aRes1, idf_Wd', idf_numI, cells_numI, numI_fold]; rfl)).cast (by rw [e.1, e.2]))

set_option maxHeartbeats 2000000 in
theorem lowest_fc {j : Nat} (u d : Int) (hd : d ≠ 0) (bu : Bg j u) (bd : Bg j d) (hj : j ≤ 16777216) : FC Try.prog 146 [rtA u d] (rtA (lowU u d) (lowD u d)) := by
  have hg2 : FC Try.prog 87 [.isl [numC u, numC d]] (numI (gg u d)) := by
    have h := gcd_fc (j := j) [u, d] (by intro z hz; simp only [List.mem_cons, List.not_mem_nil, or_false] at hz; rcases hz with rfl | rfl <;> assumption) (by omega) (by simp)
    rw [gcdL_two] at h; exact h
  have bg := gg_bg bu bd
  have hgp := gg_pos (u := u) hd
  have hdn := dq_neg (u := u) hd
  have bU : Bg j (u / gg u d) := bu.div hgp
  have bD : Bg j (d / gg u d) := bd.div hgp
  have lp := low_pos (u := u) (d := d)
  have ln' := low_neg (u := u) (d := d)
  generalize gg u d = g at *
  refine FC.body Try.func146 rfl (by simp [idfL, idf, idfLL_iff, idf_Wd', idf_numI, cells_numI, numI_fold, rtA, rtC, numC]) (by simp [idfL, idf, idf_Wd', rtA, rtC]) 37 rfl fun nx K hK => ?_
  refine AWP.seqk fun K1 hK1 => ?_
  refine AWP.region (AOPS.all (by simp (disch := first|omega|(simp only[ln];omega)) [idf_Wd', idf_numI, cells_numI, numI_fold, rtA, rtC, numC]; rfl) ?_)
  refine hK1 _ ?_
  refine AWP.seqk fun K2 hK2 => ?_
  refine AWP.region ?_
  refine AOPS.runk 5 (by simp (disch := first|omega|(simp only[ln];omega)) [List.take_succ_cons, List.take_zero, idf_Wd', idf_numI, cells_numI, numI_fold, rtA, rtC, numC]; rfl) ?_
  simp only [List.drop_succ_cons, List.drop_zero]
  refine AOPS.frz1 12 (nx + 1 + 1) 2 [numC u, numC d] (.isl [numC u, numC d]) (by simp [numC]) (by simp [fz, numC]) ?_
  refine AOPS.fcall (hg2) rfl rfl rfl hb87 (by simp (disch := first|omega|(simp only[ln];omega)) [idf_Wd', idf_numI, cells_numI, numI_fold, rtA, rtC, numC]) (by simp (disch := first|omega|(simp only[ln];omega))) (by simp) ?_
  simp only [puts_some, updo]
  refine AOPS.all (by simp (disch := first|omega|(simp only[ln];omega)) [idf_Wd', idf_numI, cells_numI, numI_fold, rtA, rtC, numC]; rfl) ?_
  refine hK2 _ ?_
  refine AWP.seqk fun K3 hK3 => ?_
  refine AWP.region ?_
  refine AOPS.runk 3 (by simp (disch := first|omega|(simp only[ln];omega)) [List.take_succ_cons, List.take_zero, idf_Wd', idf_numI, cells_numI, numI_fold, rtA, rtC, numC]; rfl) ?_
  simp only [List.drop_succ_cons, List.drop_zero]
  refine AOPS.fcall (over_fc u g (by omega) bu bg hj) rfl rfl rfl hb180 (by simp (disch := first|omega|(simp only[ln];omega)) [idf_Wd', idf_numI, cells_numI, numI_fold, rtA, rtC, numC]) (by simp (disch := first|omega|(simp only[ln];omega))) (by simp) ?_
  simp only [puts_some, updo]
  refine AOPS.all (by simp (disch := first|omega|(simp only[ln];omega)) [idf_Wd', idf_numI, cells_numI, numI_fold, rtA, rtC, numC]; rfl) ?_
  refine hK3 _ ?_
  refine AWP.seqk fun K4 hK4 => ?_
  refine AWP.region ?_
  refine AOPS.runk 3 (by simp (disch := first|omega|(simp only[ln];omega)) [List.take_succ_cons, List.take_zero, idf_Wd', idf_numI, cells_numI, numI_fold, rtA, rtC, numC]; rfl) ?_
  simp only [List.drop_succ_cons, List.drop_zero]
  refine AOPS.fcall (over_fc d g (by omega) bd bg hj) rfl rfl rfl hb180 (by simp (disch := first|omega|(simp only[ln];omega)) [idf_Wd', idf_numI, cells_numI, numI_fold, rtA, rtC, numC]) (by simp (disch := first|omega|(simp only[ln];omega))) (by simp) ?_
  simp only [puts_some, updo]
  refine AOPS.all (by simp (disch := first|omega|(simp only[ln];omega)) [idf_Wd', idf_numI, cells_numI, numI_fold, rtA, rtC, numC]; rfl) ?_
  refine hK4 _ ?_
  refine AWP.seqk fun K5 hK5 => ?_
  refine AWP.seqk fun K6 hK6 => ?_
  refine AWP.region (AOPS.all (by simp (disch := first|omega|(simp only[ln];omega)) [idf_Wd', idf_numI, cells_numI, numI_fold, rtA, rtC, numC]; rfl) ?_)
  refine hK6 _ ?_
  refine cond_ok (decide (d / g < 0)) (by simp (disch := first|omega|(simp only[ln];omega))) (fun h29 => ?_) (fun h29 => ?_)
  · try simp only [decide_eq_true_eq, decide_eq_false_iff_not] at h29
    have e := ln' (hdn.1 h29)
    refine AWP.old fun hold => ?_
    refine AWP.draw 4 Try.checked.mixed (by kernel_rfl) (by simp) ?_
    simp only [List.take_succ_cons, List.take_zero, List.drop_succ_cons, List.drop_zero]
    refine DP.runFk 1 (by simp (disch := first|omega|(simp only[ln];omega)) [runDf.eq_def, runF1, runF2, stepF.eq_def, updo.eq_def, hupo.eq_def, opSto1.eq_def, List.take_succ_cons, List.take_zero, idf_Wd', idf_numI, cells_numI, numI_fold, rtA, rtC, numC]; rfl) fun fs7 hfs7 => ?_
    replace hfs7 : fs7.length = 1 := hfs7.trans rfl
    simp only [List.drop_succ_cons, List.drop_zero]
    refine DP.fcall (minus_fc bU (by omega)) rfl rfl rfl hb179 (by simp (disch := first|omega|(simp only[ln];omega)) [idf_Wd', idf_numI, cells_numI, numI_fold, rtA, rtC, numC]) (by simp (disch := first|omega|(simp only[ln];omega))) (by simp) ?_
    simp only [updo]
    refine DP.runF1q (by simp (disch := first|omega|(simp only[ln];omega)) [runDf.eq_def, runF1, runF2, stepF.eq_def, updo.eq_def, hupo.eq_def, opSto1.eq_def, idf_Wd', idf_numI, cells_numI, numI_fold, rtA, rtC, numC]; rfl) fun fq8 hfq8 => ?_
    simp [qids, asksB, Op.operands, topId] at hfq8
    simp only [updo]
    refine DP.fcall (minus_fc bD (by omega)) rfl rfl rfl hb179 (by simp (disch := first|omega|(simp only[ln];omega)) [idf_Wd', idf_numI, cells_numI, numI_fold, rtA, rtC, numC]) (by simp (disch := first|omega|(simp only[ln];omega))) (by simp) ?_
    simp only [updo]
    refine DQ.sto1 (m := 4) [2] _ (by simp (disch := first|omega|(simp only[ln];omega)) [runDf.eq_def, runF1, runF2, stepF.eq_def, updo.eq_def, hupo.eq_def, opSto1.eq_def, idf_Wd', idf_numI, cells_numI, numI_fold, rtA, rtC, numC]; rfl) rfl (by simp only [List.length_append, List.length_cons, List.length_nil, hfs7]; omega) (by kernel_rfl) (by intro k f hk hex; simp only [List.mem_cons, List.not_mem_nil, or_false] at hex; rcases hex with rfl <;> (simp [List.getElem?_append, hfs7] at hk; subst hk; refine ⟨?_, by first | omega | (simp; done) | (simp; omega)⟩; simp [qids, asksB, Op.operands, Call.operands, topId, numS, numI, Wd, hfq8]; try omega)) ?_
    try simp only []
    refine DQ.sto1 (m := 4) [] _ (by simp (disch := first|omega|(simp only[ln];omega)) [runDf.eq_def, runF1, runF2, stepF.eq_def, updo.eq_def, hupo.eq_def, opSto1.eq_def, idf_Wd', idf_numI, cells_numI, numI_fold, rtA, rtC, numC]; rfl) rfl (by simp only [List.length_append, List.length_cons, List.length_nil, hfs7]; omega) (by kernel_rfl) (by intro k f hk hex; simp only [List.not_mem_nil] at hex) ?_
    try simp only []
    refine hK5 _ ?_
    refine AWP.seqk fun K9 hK9 => ?_
    refine AWP.region (AOPS.all (by simp (disch := first|omega|(simp only[ln];omega)) [idf_Wd', idf_numI, cells_numI, numI_fold, rtA, rtC, numC]; rfl) ?_)
    refine hK9 _ ?_
    refine AWP.ret ?_
    exact hK _ _ _ _ trivial ((Fin.mk (by simp [aRes, aResL, aRes1, idf_Wd', idf_numI, cells_numI, numI_fold, rtA, rtC, numC]; rfl)).cast (by rw [e.1, e.2]; simp [rtA, rtC]))
  · try simp only [decide_eq_true_eq, decide_eq_false_iff_not] at h29
    have e := lp (fun h => h29 (hdn.2 h))
    refine AWP.skip ?_
    refine hK5 _ ?_
    refine AWP.seqk fun K10 hK10 => ?_
    refine AWP.region (AOPS.all (by simp (disch := first|omega|(simp only[ln];omega)) [idf_Wd', idf_numI, cells_numI, numI_fold, rtA, rtC, numC]; rfl) ?_)
    refine hK10 _ ?_
    refine AWP.ret ?_
    exact hK _ _ _ _ trivial ((Fin.mk (by simp [aRes, aResL, aRes1, idf_Wd', idf_numI, cells_numI, numI_fold, rtA, rtC, numC]; rfl)).cast (by rw [e.1, e.2]; rfl))

set_option maxHeartbeats 2000000 in
theorem told_fc {j : Nat} (u d : Int) (bu : Bg j u) (bd : Bg j d) (hj : j ≤ 16777216) : FC Try.prog 110 [rtA u d] (.tup [.agg [.int .u64 ((told u d).1).up.a, .int .u64 ((told u d).1).up.b, .int .u64 ((told u d).1).up.c, .int .u64 ((told u d).1).up.d, .int .u64 ((told u d).1).down.a, .int .u64 ((told u d).1).down.b, .int .u64 ((told u d).1).down.c, .int .u64 ((told u d).1).down.d], .bool (told u d).2]) := by
  obtain ⟨cs, hsf, hse⟩ : ∃ c : Int, FC Try.prog 85 [numI d] (.int .i64 c) ∧ (c == 0) = decide (d = 0) := ⟨_, sign_fc d, by
    by_cases h : d = 0
    · subst h; rfl
    · have : (if d < 0 then (-1 : Int) else if d > 0 then 1 else 0) ≠ 0 := by split <;> (try split) <;> omega
      rw [beq_eq_false_iff_ne.2 this]; simp [h]⟩
  refine FC.body Try.func110 rfl (by simp [idfL, idf, idfLL_iff, idf_Wd', idf_numI, cells_numI, numI_fold, rtA, rtC]) (by simp [idfL, idf, idfLL_iff, idf_Wd', idf_numI, cells_numI, numI_fold, rtA, rtC]) 37 rfl fun nx K hK => ?_
  refine AWP.seqk fun K1 hK1 => ?_
  refine AWP.region (AOPS.all (by simp (disch := first|omega|(simp only[ln];omega)) [idf_Wd', idf_numI, cells_numI, numI_fold, rtA, rtC]; rfl) ?_)
  refine hK1 _ ?_
  refine AWP.seqk fun K2 hK2 => ?_
  refine AWP.seqk fun K3 hK3 => ?_
  refine AWP.region ?_
  refine AOPS.runk 2 (by simp (disch := first|omega|(simp only[ln];omega)) [List.take_succ_cons, List.take_zero, idf_Wd', idf_numI, cells_numI, numI_fold, rtA, rtC]; rfl) ?_
  simp only [List.drop_succ_cons, List.drop_zero]
  refine AOPS.fcall (hsf) rfl rfl rfl hb85 (by simp (disch := first|omega|(simp only[ln];omega)) [idf_Wd', idf_numI, cells_numI, numI_fold, rtA, rtC]) (by simp (disch := first|omega|(simp only[ln];omega))) (by simp) ?_
  simp only [puts_some, updo]
  refine AOPS.all (by simp (disch := first|omega|(simp only[ln];omega)) [idf_Wd', idf_numI, cells_numI, numI_fold, rtA, rtC]; rfl) ?_
  refine hK3 _ ?_
  refine cond_ok (decide (d = 0)) (by simp (disch := first|omega|(simp only[ln];omega)) [hse]) (fun h11 => ?_) (fun h11 => ?_)
  · try simp only [decide_eq_true_eq, decide_eq_false_iff_not] at h11
    refine AWP.seqk fun K4 hK4 => ?_
    refine AWP.region (AOPS.all (by simp (disch := first|omega|(simp only[ln];omega)) [idf_Wd', idf_numI, cells_numI, numI_fold, rtA, rtC]; rfl) ?_)
    refine hK4 _ ?_
    refine AWP.ret ?_
    exact hK _ _ _ _ trivial ((Fin.mk (by simp [aRes, aResL, aRes1, idf_Wd', idf_numI, cells_numI, numI_fold, rtA, rtC]; rfl)).cast (by rw [h11, told_zero]; rfl))
  · try simp only [decide_eq_true_eq, decide_eq_false_iff_not] at h11
    have hd : d ≠ 0 := h11
    have w1 := wide_fc (lowU_bg (u := u) hd bu) (by omega)
    have w2 := wide_fc (lowD_bg (u := u) hd bd) (by omega)
    rw [wdT_l] at w1 w2
    unfold W4.l at w1 w2
    have ht := told_fit (u := u) hd
    refine AWP.skip ?_
    refine hK2 _ ?_
    refine AWP.seqk fun K5 hK5 => ?_
    refine AWP.region ?_
    refine AOPS.runk 1 (by simp (disch := first|omega|(simp only[ln];omega)) [List.take_succ_cons, List.take_zero, idf_Wd', idf_numI, cells_numI, numI_fold, rtA, rtC]; rfl) ?_
    simp only [List.drop_succ_cons, List.drop_zero]
    refine AOPS.fcall (lowest_fc u d hd bu bd hj) rfl rfl rfl hb146 (by simp (disch := first|omega|(simp only[ln];omega)) [idf_Wd', idf_numI, cells_numI, numI_fold, rtA, rtC]) (by simp (disch := first|omega|(simp only[ln];omega))) (by simp) ?_
    simp only [puts_some, updo]
    refine AOPS.all (by simp (disch := first|omega|(simp only[ln];omega)) [idf_Wd', idf_numI, cells_numI, numI_fold, rtA, rtC]; rfl) ?_
    refine hK5 _ ?_
    refine AWP.seqk fun K6 hK6 => ?_
    refine AWP.region ?_
    refine AOPS.runk 2 (by simp (disch := first|omega|(simp only[ln];omega)) [List.take_succ_cons, List.take_zero, idf_Wd', idf_numI, cells_numI, numI_fold, rtA, rtC]; rfl) ?_
    simp only [List.drop_succ_cons, List.drop_zero]
    refine AOPS.fcall (w1) rfl rfl rfl hb90 (by simp (disch := first|omega|(simp only[ln];omega)) [idf_Wd', idf_numI, cells_numI, numI_fold, rtA, rtC]) (by simp (disch := first|omega|(simp only[ln];omega))) (by simp) ?_
    simp only [puts_some, updo]
    refine AOPS.all (by simp (disch := first|omega|(simp only[ln];omega)) [idf_Wd', idf_numI, cells_numI, numI_fold, rtA, rtC]; rfl) ?_
    refine hK6 _ ?_
    refine AWP.seqk fun K7 hK7 => ?_
    refine AWP.region ?_
    refine AOPS.runk 2 (by simp (disch := first|omega|(simp only[ln];omega)) [List.take_succ_cons, List.take_zero, idf_Wd', idf_numI, cells_numI, numI_fold, rtA, rtC]; rfl) ?_
    simp only [List.drop_succ_cons, List.drop_zero]
    refine AOPS.fcall (w2) rfl rfl rfl hb90 (by simp (disch := first|omega|(simp only[ln];omega)) [idf_Wd', idf_numI, cells_numI, numI_fold, rtA, rtC]) (by simp (disch := first|omega|(simp only[ln];omega))) (by simp) ?_
    simp only [puts_some, updo]
    refine AOPS.all (by simp (disch := first|omega|(simp only[ln];omega)) [idf_Wd', idf_numI, cells_numI, numI_fold, rtA, rtC]; rfl) ?_
    refine hK7 _ ?_
    refine AWP.seqk fun K8 hK8 => ?_
    refine AWP.seqk fun K9 hK9 => ?_
    cases hf : fits (lowU u d)
    · refine AWP.region (AOPS.all (by simp (disch := first|omega|(simp only[ln];omega)) [idf_Wd', idf_numI, cells_numI, numI_fold, rtA, rtC, hf]; rfl) ?_)
      refine hK9 _ ?_
      refine cond_ok _ (by simp (disch := first|omega|(simp only[ln];omega)); rfl) (fun h32 => ?_) (fun h32 => ?_)
      · try simp only [decide_eq_true_eq, decide_eq_false_iff_not] at h32
        refine AWP.seqk fun K10 hK10 => ?_
        refine AWP.region (AOPS.all (by simp (disch := first|omega|(simp only[ln];omega)) [idf_Wd', idf_numI, cells_numI, numI_fold, rtA, rtC]; rfl) ?_)
        refine hK10 _ ?_
        refine AWP.ret ?_
        exact hK _ _ _ _ trivial ((Fin.mk (by simp [aRes, aResL, aRes1, idf_Wd', idf_numI, cells_numI, numI_fold, rtA, rtC]; rfl)).cast (by rw [ht, hf]; rfl))
      · simp at h32
    · refine AWP.region (AOPS.all (by simp (disch := first|omega|(simp only[ln];omega)) [idf_Wd', idf_numI, cells_numI, numI_fold, rtA, rtC, hf]; rfl) ?_)
      refine hK9 _ ?_
      refine cond_ok (!fits (lowD u d)) (by simp (disch := first|omega|(simp only[ln];omega))) (fun h32 => ?_) (fun h32 => ?_)
      · try simp only [decide_eq_true_eq, decide_eq_false_iff_not] at h32
        have hf2 : fits (lowD u d) = false := by simpa using h32
        refine AWP.seqk fun K11 hK11 => ?_
        refine AWP.region (AOPS.all (by simp (disch := first|omega|(simp only[ln];omega)) [idf_Wd', idf_numI, cells_numI, numI_fold, rtA, rtC]; rfl) ?_)
        refine hK11 _ ?_
        refine AWP.ret ?_
        exact hK _ _ _ _ trivial ((Fin.mk (by simp [aRes, aResL, aRes1, idf_Wd', idf_numI, cells_numI, numI_fold, rtA, rtC]; rfl)).cast (by rw [ht, hf, hf2]; rfl))
      · try simp only [decide_eq_true_eq, decide_eq_false_iff_not] at h32
        have hf2 : fits (lowD u d) = true := by simpa using h32
        refine AWP.skip ?_
        refine hK8 _ ?_
        refine AWP.seqk fun K12 hK12 => ?_
        refine AWP.region (AOPS.all (by simp (disch := first|omega|(simp only[ln];omega)) [idf_Wd', idf_numI, cells_numI, numI_fold, rtA, rtC]; rfl) ?_)
        refine hK12 _ ?_
        refine AWP.ret ?_
        exact hK _ _ _ _ trivial ((Fin.mk (by simp [aRes, aResL, aRes1, idf_Wd', idf_numI, cells_numI, numI_fold, rtA, rtC]; rfl)).cast (by rw [ht, hf, hf2]; rfl))

set_option maxHeartbeats 2000000 in
theorem rplus_fc {j : Nat} (a b c d : Int) (ba : Bg j a) (bb : Bg j b) (bc : Bg j c) (bd : Bg j d) (hj : j ≤ 16777216) : FC Try.prog 144 [rtA a b, rtA c d] (rtA (a * d + c * b) (b * d)) := by
  refine FC.body Try.func144 rfl (by simp [idfL, idf, idfLL_iff, idf_Wd', idf_numI, cells_numI, numI_fold, rtA, rtC]) (by simp [idfL, idf, idf_Wd', rtA, rtC]) 22 rfl fun nx K hK => ?_
  refine AWP.seqk fun K1 hK1 => ?_
  refine AWP.region (AOPS.all (by simp (disch := first|omega|(simp only[ln];omega)) [idf_Wd', idf_numI, cells_numI, numI_fold, rtA, rtC]; rfl) ?_)
  refine hK1 _ ?_
  refine AWP.seqk fun K2 hK2 => ?_
  refine AWP.draw 17 Try.checked.mixed (by kernel_rfl) (by simp) ?_
  simp only [List.take_succ_cons, List.take_zero, List.drop_succ_cons, List.drop_zero]
  refine DP.runFk 4 (by simp (disch := first|omega|(simp only[ln];omega)) [runDf.eq_def, runF1, runF2, stepF.eq_def, updo.eq_def, hupo.eq_def, opSto1.eq_def, List.take_succ_cons, List.take_zero, idf_Wd', idf_numI, cells_numI, numI_fold, rtA, rtC]; rfl) fun fs3 hfs3 => ?_
  replace hfs3 : fs3.length = 4 := hfs3.trans rfl
  simp only [List.drop_succ_cons, List.drop_zero]
  refine DP.fcall (by_fc ba bd (by omega) (by omega)) rfl rfl rfl hb92 (by simp (disch := first|omega|(simp only[ln];omega)) [idf_Wd', idf_numI, cells_numI, numI_fold, rtA, rtC]) (by simp (disch := first|omega|(simp only[ln];omega))) (by simp) ?_
  simp only [updo]
  refine DP.runFk 4 (by simp (disch := first|omega|(simp only[ln];omega)) [runDf.eq_def, runF1, runF2, stepF.eq_def, updo.eq_def, hupo.eq_def, opSto1.eq_def, List.take_succ_cons, List.take_zero, idf_Wd', idf_numI, cells_numI, numI_fold, rtA, rtC]; rfl) fun fs4 hfs4 => ?_
  replace hfs4 : fs4.length = 4 := hfs4.trans rfl
  simp only [List.drop_succ_cons, List.drop_zero]
  refine DP.fcall (by_fc bc bb (by omega) (by omega)) rfl rfl rfl hb92 (by simp (disch := first|omega|(simp only[ln];omega)) [idf_Wd', idf_numI, cells_numI, numI_fold, rtA, rtC]) (by simp (disch := first|omega|(simp only[ln];omega))) (by simp) ?_
  simp only [updo]
  refine DP.fcall (plus_fc (ba.mul bd) (bc.mul bb) (by omega) (by omega)) rfl rfl rfl hb101 (by simp (disch := first|omega|(simp only[ln];omega)) [idf_Wd', idf_numI, cells_numI, numI_fold, rtA, rtC]) (by simp (disch := first|omega|(simp only[ln];omega))) (by simp) ?_
  simp only [updo]
  refine DP.runFk 4 (by simp (disch := first|omega|(simp only[ln];omega)) [runDf.eq_def, runF1, runF2, stepF.eq_def, updo.eq_def, hupo.eq_def, opSto1.eq_def, List.take_succ_cons, List.take_zero, idf_Wd', idf_numI, cells_numI, numI_fold, rtA, rtC]; rfl) fun fs5 hfs5 => ?_
  replace hfs5 : fs5.length = 4 := hfs5.trans rfl
  simp only [List.drop_succ_cons, List.drop_zero]
  refine DP.fcall (by_fc bb bd (by omega) (by omega)) rfl rfl rfl hb92 (by simp (disch := first|omega|(simp only[ln];omega)) [idf_Wd', idf_numI, cells_numI, numI_fold, rtA, rtC]) (by simp (disch := first|omega|(simp only[ln];omega))) (by simp) ?_
  simp only [updo]
  refine DP.runFk 1 (by simp (disch := first|omega|(simp only[ln];omega)) [runDf.eq_def, runF1, runF2, stepF.eq_def, updo.eq_def, hupo.eq_def, opSto1.eq_def, List.take_succ_cons, List.take_zero, idf_Wd', idf_numI, cells_numI, numI_fold, rtA, rtC]; rfl) fun fs6 hfs6 => ?_
  replace hfs6 : fs6.length = 1 := hfs6.trans rfl
  simp only [List.drop_succ_cons, List.drop_zero]
  refine DQ.runF (m := 17) (by simp only [List.length_append, List.length_cons, List.length_nil, hfs3, hfs4, hfs5, hfs6]; omega) _ _ _ (by kernel_rfl) rfl (by simp (disch := first|omega|(simp only[ln];omega)) [runDf.eq_def, runF1, runF2, stepF.eq_def, updo.eq_def, hupo.eq_def, opSto1.eq_def, idf_Wd', idf_numI, cells_numI, numI_fold, rtA, rtC]; rfl) ?_
  refine hK2 _ ?_
  refine AWP.ret ?_
  exact hK _ _ _ _ trivial ((Fin.mk (by simp [aRes, aResL, aRes1, idf_Wd', idf_numI, cells_numI, numI_fold, rtA, rtC]; rfl)).cast (by rfl))

end Go.Proofs.Ytmaebeknmiomnaa

/- Walks: fractions of the reference. -/
namespace Go.Proofs.Ytmaebeknmiomnaa
open Go Go.RowKit
set_option linter.unusedSimpArgs false
set_option linter.unusedVariables false
set_option maxRecDepth 100000
attribute [local simp] List.getElem?_cons_zero List.getElem?_cons_succ List.getElem?_toArray runOps stepOp.eq_def agd.eq_def dstOk.eq_def opVal.eq_def opNew.eq_def opSto.eq_def ev.eq_def cv.eq_def puts_some puts_none upd_ap lst.eq_def aBin.eq_def aUn.eq_def aBi_str aBi_isl aBi_osl aBi_nsl aBi_max aBi_min aBi_max3 aConv.eq_def aLd.eq_def aLoad.eq_def aField.eq_def aFld.eq_def aIdx_isl aIdx_osl aSlc_isl aSlc_osl aSlc_str aSlc_nsl bnd.eq_def evs_nil evs_cons aBuild.eq_def aFill splice.eq_def cells_agg cells_int cells_bool cells_str cells_nil cells_nsl cells_isl cells_osl cells_ptr cells_ip cells_fn cells_Wd one_int one_bool one_str one_nil one_nsl one_isl one_osl one_ptr one_ip one_fn one_Wd aSets hupd_eq hupd_ne wrap_i64s wrap_u64s wrap_u32s wrap_u8s wd_getD wd_set wd_len wd_replicate wd_one wd_fold fz_osl hupd_same aSix.eq_def aEqS.eq_def aEqB_bool aEqB_nsl aEqB_nil
attribute [local simp] szT2 byT2 agT2 unT2 zoT2 szT4 byT4 agT4 unT4 zoT4 szT24 byT24 agT24 unT24 zoT24 szT26 byT26 agT26 flT26 fdT26_0 fdT26_1 fdT26_2 fdT26_3 zoT26 szT51 byT51 agT51 flT51 fdT51_0 fdT51_1 zoT51 szT111 byT111 agT111 elT111 unT111 zoT111 szT113 byT113 agT113 flT113 fdT113_0 fdT113_1 zoT113 szT161 byT161 agT161 flT161 fdT161_0 fdT161_1 zoT161

set_option maxHeartbeats 2000000 in
theorem l2Make_fc {j : Nat} (u d : Int) (hd : d ≠ 0) (bu : Bg j u) (bd : Bg j d) (hj0 : 1 ≤ j) (hj : j ≤ 16777216) : FC Try.prog 203 [numS u, numS d] (l2A (lowU u d) (lowD u d)) := by
  have hgp := gg_pos (u := u) hd
  have hg3 := gg_nrm u d
  have bG := gg_bg bu bd
  have eU : lowU u d = nrm d u / gg u d := rfl
  have eD : lowD u d = nrm d d / gg u d := rfl
  refine FC.body Try.func203 rfl (by simp [idfL, idf, idfLL_iff, idf_Wd', idf_numS, cells_numS, numS_fold]) (by simp [idfL, idf, l2A, l2C, idf_Wd']) 34 rfl fun nx K hK => ?_
  refine AWP.seqk fun K1 hK1 => ?_
  refine AWP.region (AOPS.all (by simp (disch := first|omega|(simp only[ln];omega)) [idf_Wd', idf_numS, cells_numS, numS_fold]; rfl) ?_)
  refine hK1 _ ?_
  refine AWP.seqk fun K2 hK2 => ?_
  have J2 : ∀ s : St, (∃ X Y : Int, X = nrm d u ∧ Y = nrm d d ∧ s.env 2 = .ptr nx 0 0 ∧ s.env 3 = .ptr (nx + 1) 0 0 ∧ s.env 4 = .ptr (nx + 1 + 1) 0 0 ∧ s.heap nx = some (2, [[.bool (decide (X < 0)), Wd .u32 (dg X)]]) ∧ s.heap (nx + 1) = some (2, [[.bool (decide (Y < 0)), Wd .u32 (dg Y)]]) ∧ s.heap (nx + 1 + 1) = some (4, [[.bool false, .nsl, .bool false, .nsl]]) ∧ nx + 1 + 1 < s.nx ∧ s.nt = 34) → K2 s := by
    rintro ⟨e, H, mm, nt⟩ ⟨X, Y, hX, hY, h2, h3, h4, hA, hB, hD, hm, rfl⟩
    simp only [] at h2 h3 h4 hA hB hD hm
    rw [← hX] at hg3 eU
    rw [← hY] at hg3 eD
    have cX : Bg j X := by rw [hX]; exact bu.nrm
    have cY : Bg j Y := by rw [hY]; exact bd.nrm
    have hg2 : FC Try.prog 169 [numS X, numS Y] (numS (gg u d)) := by
      have h := l1Gcd_fc X Y cX cY hj
      rw [← hg3]; exact h
    obtain ⟨cc, hcf, hce⟩ : ∃ c : Int, FC Try.prog 168 [numS (gg u d), numS 1] (.int .i64 c) ∧ (c == 0) = decide (gg u d = 1) := ⟨_, l1Cmp_fc bG (Bg.i64 (n := 1) (by omega) (by omega)) (by omega) (by omega), one_cmp _⟩
    generalize hgg : gg u d = g at *
    refine hK2 _ ?_
    refine AWP.seqk fun K3 hK3 => ?_
    refine AWP.region ?_
    refine AOPS.runk 2 (by simp (disch := first|omega|(simp only[ln];omega)) [List.take_succ_cons, List.take_zero, idf_Wd', idf_numS, cells_numS, numS_fold, h2, h3, hA, hB, Nat.ne_of_lt hm]; rfl) ?_
    simp only [List.drop_succ_cons, List.drop_zero]
    refine AOPS.fcall (hg2) rfl rfl rfl hb169 (by simp (disch := first|omega|(simp only[ln];omega)) [idf_Wd', h2, h3, hA, hB, Nat.ne_of_lt hm, idf_numS, cells_numS, numS_fold]) (by simp (disch := first|omega|(simp only[ln];omega)) [h2, h3, hA, hB, Nat.ne_of_lt hm]) (by simp) ?_
    simp only [puts_some, updo]
    refine AOPS.all (by simp (disch := first|omega|(simp only[ln];omega)) [idf_Wd', idf_numS, cells_numS, numS_fold, h2, h3, hA, hB, Nat.ne_of_lt hm]; rfl) ?_
    refine hK3 _ ?_
    refine AWP.seqk fun K4 hK4 => ?_
    refine AWP.seqk fun K5 hK5 => ?_
    refine AWP.draw 4 Try.checked.mixed (by kernel_rfl) (by simp) ?_
    simp only [List.take_succ_cons, List.take_zero, List.drop_succ_cons, List.drop_zero]
    refine DP.runFk 1 (by simp (disch := first|omega|(simp only[ln];omega)) [runDf.eq_def, runF1, runF2, stepF.eq_def, updo.eq_def, hupo.eq_def, opSto1.eq_def, List.take_succ_cons, List.take_zero, idf_Wd', idf_numS, cells_numS, numS_fold]; rfl) fun fs6 hfs6 => ?_
    replace hfs6 : fs6.length = 1 := hfs6.trans rfl
    simp only [List.drop_succ_cons, List.drop_zero]
    refine DP.fcall (l1Int_fc 1 (by omega) (by omega)) rfl rfl rfl hb106 (by simp (disch := first|omega|(simp only[ln];omega)) [idf_Wd', idf_numS, cells_numS, numS_fold]) (by simp (disch := first|omega|(simp only[ln];omega))) (by simp) ?_
    simp only [updo]
    refine DP.fcall (hcf) rfl rfl rfl hb168 (by simp (disch := first|omega|(simp only[ln];omega)) [idf_Wd', idf_numS, cells_numS, numS_fold]) (by simp (disch := first|omega|(simp only[ln];omega))) (by simp) ?_
    simp only [updo]
    refine DP.runFk 1 (by simp (disch := first|omega|(simp only[ln];omega)) [runDf.eq_def, runF1, runF2, stepF.eq_def, updo.eq_def, hupo.eq_def, opSto1.eq_def, List.take_succ_cons, List.take_zero, idf_Wd', idf_numS, cells_numS, numS_fold]; rfl) fun fs7 hfs7 => ?_
    replace hfs7 : fs7.length = 1 := hfs7.trans rfl
    simp only [List.drop_succ_cons, List.drop_zero]
    refine DQ.runF (m := 4) (by simp only [List.length_append, List.length_cons, List.length_nil, hfs6, hfs7]; omega) _ _ _ (by kernel_rfl) rfl (by simp (disch := first|omega|(simp only[ln];omega)) [runDf.eq_def, runF1, runF2, stepF.eq_def, updo.eq_def, hupo.eq_def, opSto1.eq_def, idf_Wd', idf_numS, cells_numS, numS_fold]; rfl) ?_
    refine hK5 _ ?_
    refine cond_ok (!decide (g = 1)) (by simp (disch := first|omega|(simp only[ln];omega)) [bne, hce]) (fun h18 => ?_) (fun h18 => ?_)
    · try simp only [decide_eq_true_eq, decide_eq_false_iff_not] at h18
      refine AWP.seqk fun K8 hK8 => ?_
      refine AWP.region ?_
      refine AOPS.runk 2 (by simp (disch := first|omega|(simp only[ln];omega)) [List.take_succ_cons, List.take_zero, idf_Wd', idf_numS, cells_numS, numS_fold, h2, hA]; rfl) ?_
      simp only [List.drop_succ_cons, List.drop_zero]
      refine AOPS.fcall (l1Div_fc X g (by omega) cX bG hj) rfl rfl rfl hb194 (by simp (disch := first|omega|(simp only[ln];omega)) [idf_Wd', h2, hA, idf_numS, cells_numS, numS_fold]) (by simp (disch := first|omega|(simp only[ln];omega)) [h2, hA]) (by simp) ?_
      simp only [puts_some, updo]
      refine AOPS.all (by simp (disch := first|omega|(simp only[ln];omega)) [idf_Wd', idf_numS, cells_numS, numS_fold, h2, hA]; rfl) ?_
      refine hK8 _ ?_
      refine AWP.region ?_
      refine AOPS.runk 2 (by simp (disch := first|omega|(simp only[ln];omega)) [List.take_succ_cons, List.take_zero, idf_Wd', idf_numS, cells_numS, numS_fold, h3, hB]; rfl) ?_
      simp only [List.drop_succ_cons, List.drop_zero]
      refine AOPS.fcall (l1Div_fc Y g (by omega) cY bG hj) rfl rfl rfl hb194 (by simp (disch := first|omega|(simp only[ln];omega)) [idf_Wd', h3, hB, idf_numS, cells_numS, numS_fold]) (by simp (disch := first|omega|(simp only[ln];omega)) [h3, hB]) (by simp) ?_
      simp only [puts_some, updo]
      refine AOPS.all (by simp (disch := first|omega|(simp only[ln];omega)) [idf_Wd', idf_numS, cells_numS, numS_fold, h3, hB]; rfl) ?_
      refine hK4 _ ?_
      refine AWP.seqk fun K9 hK9 => ?_
      refine AWP.region (AOPS.all (by simp (disch := first|omega|(simp only[ln];omega)) [idf_Wd', idf_numS, cells_numS, numS_fold, h2, h3, h4, hD]; rfl) ?_)
      refine hK9 _ ?_
      refine AWP.ret ?_
      exact hK _ _ _ _ trivial ((Fin.mk (by simp (disch := omega) [aRes, aResL, aRes1, h4, idf_Wd', idf_numS, cells_numS, numS_fold]; rfl)).cast (by rw [eU, eD]; rfl))
    · try simp only [decide_eq_true_eq, decide_eq_false_iff_not] at h18
      have hg1 : g = 1 := by simpa using h18
      refine AWP.skip ?_
      refine hK4 _ ?_
      refine AWP.seqk fun K10 hK10 => ?_
      refine AWP.region (AOPS.all (by simp (disch := first|omega|(simp only[ln];omega)) [idf_Wd', idf_numS, cells_numS, numS_fold, h2, h3, h4, hA, hB, hD]; rfl) ?_)
      refine hK10 _ ?_
      refine AWP.ret ?_
      exact hK _ _ _ _ trivial ((Fin.mk (by simp (disch := omega) [aRes, aResL, aRes1, h4, idf_Wd', idf_numS, cells_numS, numS_fold]; rfl)).cast (by rw [eU, eD, hg1, Int.ediv_one, Int.ediv_one]; rfl))
  refine AWP.seqk fun K11 hK11 => ?_
  refine AWP.region (AOPS.all (by simp (disch := first|omega|(simp only[ln];omega)) [idf_Wd', idf_numS, cells_numS, numS_fold]; rfl) ?_)
  refine hK11 _ ?_
  refine cond_ok (decide (d < 0)) (by simp (disch := first|omega|(simp only[ln];omega))) (fun h7 => ?_) (fun h7 => ?_)
  · try simp only [decide_eq_true_eq, decide_eq_false_iff_not] at h7
    refine AWP.old fun hold => ?_
    refine AWP.draw 4 Try.checked.mixed (by kernel_rfl) (by simp) ?_
    simp only [List.take_succ_cons, List.take_zero, List.drop_succ_cons, List.drop_zero]
    refine DP.runFk 1 (by simp (disch := first|omega|(simp only[ln];omega)) [runDf.eq_def, runF1, runF2, stepF.eq_def, updo.eq_def, hupo.eq_def, opSto1.eq_def, List.take_succ_cons, List.take_zero, idf_Wd', idf_numS, cells_numS, numS_fold]; rfl) fun fs12 hfs12 => ?_
    replace hfs12 : fs12.length = 1 := hfs12.trans rfl
    simp only [List.drop_succ_cons, List.drop_zero]
    refine DP.fcall (l1Neg_fc u) rfl rfl rfl hb193 (by simp (disch := first|omega|(simp only[ln];omega)) [idf_Wd', idf_numS, cells_numS, numS_fold]) (by simp (disch := first|omega|(simp only[ln];omega))) (by simp) ?_
    simp only [updo]
    refine DP.runF1q (by simp (disch := first|omega|(simp only[ln];omega)) [runDf.eq_def, runF1, runF2, stepF.eq_def, updo.eq_def, hupo.eq_def, opSto1.eq_def, idf_Wd', idf_numS, cells_numS, numS_fold]; rfl) fun fq13 hfq13 => ?_
    simp [qids, asksB, Op.operands, topId] at hfq13
    simp only [updo]
    refine DP.fcall (l1Neg_fc d) rfl rfl rfl hb193 (by simp (disch := first|omega|(simp only[ln];omega)) [idf_Wd', idf_numS, cells_numS, numS_fold]) (by simp (disch := first|omega|(simp only[ln];omega))) (by simp) ?_
    simp only [updo]
    refine DQ.sto1 (m := 4) [2] _ (by simp (disch := first|omega|(simp only[ln];omega)) [runDf.eq_def, runF1, runF2, stepF.eq_def, updo.eq_def, hupo.eq_def, opSto1.eq_def, idf_Wd', idf_numS, cells_numS, numS_fold]; rfl) rfl (by simp only [List.length_append, List.length_cons, List.length_nil, hfs12]; omega) (by kernel_rfl) (by intro k f hk hex; simp only [List.mem_cons, List.not_mem_nil, or_false] at hex; rcases hex with rfl <;> (simp [List.getElem?_append, hfs12] at hk; subst hk; refine ⟨?_, by first | omega | (simp; done) | (simp; omega)⟩; simp [qids, asksB, Op.operands, Call.operands, topId, numS, numI, Wd, hfq13]; try omega)) ?_
    try simp only []
    refine DQ.sto1 (m := 4) [] _ (by simp (disch := first|omega|(simp only[ln];omega)) [runDf.eq_def, runF1, runF2, stepF.eq_def, updo.eq_def, hupo.eq_def, opSto1.eq_def, idf_Wd', idf_numS, cells_numS, numS_fold]; rfl) rfl (by simp only [List.length_append, List.length_cons, List.length_nil, hfs12]; omega) (by kernel_rfl) (by intro k f hk hex; simp only [List.not_mem_nil] at hex) ?_
    try simp only []
    refine J2 _ ?_
    exact ⟨-u, -d, by simp [nrm, h7], by simp [nrm, h7], by simp, by simp, by simp, by simp (disch := omega), by simp (disch := omega), by simp (disch := omega), by simp, rfl⟩
  · try simp only [decide_eq_true_eq, decide_eq_false_iff_not] at h7
    refine AWP.skip ?_
    refine J2 _ ?_
    exact ⟨u, d, by simp [nrm, h7], by simp [nrm, h7], by simp, by simp, by simp, by simp (disch := omega), by simp (disch := omega), by simp (disch := omega), by simp, rfl⟩

set_option maxHeartbeats 2000000 in
theorem l2Add_fc {j : Nat} (a b c d : Int) (ba : Bg j a) (bb : Bg j b) (bc : Bg j c) (bd : Bg j d) (hz : b * d ≠ 0) (hj : j ≤ 1048576) : FC Try.prog 140 [l2A a b, l2A c d] (l2A (lowU (a * d + c * b) (b * d)) (lowD (a * d + c * b) (b * d))) := by
  refine FC.body Try.func140 rfl (by simp [idfL, idf, idfLL_iff, idf_Wd', idf_numS, cells_numS, numS_fold, l2A, l2C]) (by simp [idfL, idf, l2A, l2C, idf_Wd']) 22 rfl fun nx K hK => ?_
  refine AWP.seqk fun K1 hK1 => ?_
  refine AWP.region (AOPS.all (by simp (disch := first|omega|(simp only[ln];omega)) [idf_Wd', idf_numS, cells_numS, numS_fold, l2A, l2C]; rfl) ?_)
  refine hK1 _ ?_
  refine AWP.seqk fun K2 hK2 => ?_
  refine AWP.draw 17 Try.checked.mixed (by kernel_rfl) (by simp) ?_
  simp only [List.take_succ_cons, List.take_zero, List.drop_succ_cons, List.drop_zero]
  refine DP.runFk 4 (by simp (disch := first|omega|(simp only[ln];omega)) [runDf.eq_def, runF1, runF2, stepF.eq_def, updo.eq_def, hupo.eq_def, opSto1.eq_def, List.take_succ_cons, List.take_zero, idf_Wd', idf_numS, cells_numS, numS_fold, l2A, l2C]; rfl) fun fs3 hfs3 => ?_
  replace hfs3 : fs3.length = 4 := hfs3.trans rfl
  simp only [List.drop_succ_cons, List.drop_zero]
  refine DP.fcall (l1Mul_fc ba bd (by omega) (by omega)) rfl rfl rfl hb105 (by simp (disch := first|omega|(simp only[ln];omega)) [idf_Wd', idf_numS, cells_numS, numS_fold, l2A, l2C]) (by simp (disch := first|omega|(simp only[ln];omega))) (by simp) ?_
  simp only [updo]
  refine DP.runFk 4 (by simp (disch := first|omega|(simp only[ln];omega)) [runDf.eq_def, runF1, runF2, stepF.eq_def, updo.eq_def, hupo.eq_def, opSto1.eq_def, List.take_succ_cons, List.take_zero, idf_Wd', idf_numS, cells_numS, numS_fold, l2A, l2C]; rfl) fun fs4 hfs4 => ?_
  replace hfs4 : fs4.length = 4 := hfs4.trans rfl
  simp only [List.drop_succ_cons, List.drop_zero]
  refine DP.fcall (l1Mul_fc bc bb (by omega) (by omega)) rfl rfl rfl hb105 (by simp (disch := first|omega|(simp only[ln];omega)) [idf_Wd', idf_numS, cells_numS, numS_fold, l2A, l2C]) (by simp (disch := first|omega|(simp only[ln];omega))) (by simp) ?_
  simp only [updo]
  refine DP.fcall (l1Add_fc (ba.mul bd) (bc.mul bb) (by omega) (by omega)) rfl rfl rfl hb104 (by simp (disch := first|omega|(simp only[ln];omega)) [idf_Wd', idf_numS, cells_numS, numS_fold, l2A, l2C]) (by simp (disch := first|omega|(simp only[ln];omega))) (by simp) ?_
  simp only [updo]
  refine DP.runFk 4 (by simp (disch := first|omega|(simp only[ln];omega)) [runDf.eq_def, runF1, runF2, stepF.eq_def, updo.eq_def, hupo.eq_def, opSto1.eq_def, List.take_succ_cons, List.take_zero, idf_Wd', idf_numS, cells_numS, numS_fold, l2A, l2C]; rfl) fun fs5 hfs5 => ?_
  replace hfs5 : fs5.length = 4 := hfs5.trans rfl
  simp only [List.drop_succ_cons, List.drop_zero]
  refine DP.fcall (l1Mul_fc bb bd (by omega) (by omega)) rfl rfl rfl hb105 (by simp (disch := first|omega|(simp only[ln];omega)) [idf_Wd', idf_numS, cells_numS, numS_fold, l2A, l2C]) (by simp (disch := first|omega|(simp only[ln];omega))) (by simp) ?_
  simp only [updo]
  refine DP.fcall (l2Make_fc (j := 2 * j + 1) (a * d + c * b) (b * d) hz (((ba.mul bd).add (bc.mul bb)).le (by omega)) ((bb.mul bd).le (by omega)) (by omega) (by omega)) rfl rfl rfl hb203 (by simp (disch := first|omega|(simp only[ln];omega)) [idf_Wd', idf_numS, cells_numS, numS_fold, l2A, l2C]) (by simp (disch := first|omega|(simp only[ln];omega))) (by simp) ?_
  simp only [updo]
  refine DQ.runF (m := 17) (by simp only [List.length_append, List.length_cons, List.length_nil, hfs3, hfs4, hfs5]; omega) _ _ _ (by kernel_rfl) rfl (by simp (disch := first|omega|(simp only[ln];omega)) [runDf.eq_def, runF1, runF2, stepF.eq_def, updo.eq_def, hupo.eq_def, opSto1.eq_def, idf_Wd', idf_numS, cells_numS, numS_fold, l2A, l2C]; rfl) ?_
  refine hK2 _ ?_
  refine AWP.ret ?_
  exact hK _ _ _ _ trivial ((Fin.mk (by simp [aRes, aResL, aRes1, idf_Wd', idf_numS, cells_numS, numS_fold, l2A, l2C]; rfl)).cast (by rfl))

set_option maxHeartbeats 2000000 in
theorem l2Ratio_fc {j : Nat} (u d : Int) (hd : d ≠ 0) (bu : Bg j u) (bd : Bg j d) (hj : j ≤ 16777216) : FC Try.prog 132 [l2A (lowU u d) (lowD u d)] (.tup [.agg [.int .u64 ((told u d).1).up.a, .int .u64 ((told u d).1).up.b, .int .u64 ((told u d).1).up.c, .int .u64 ((told u d).1).up.d, .int .u64 ((told u d).1).down.a, .int .u64 ((told u d).1).down.b, .int .u64 ((told u d).1).down.c, .int .u64 ((told u d).1).down.d], .bool (told u d).2]) := by
  have w1 := l1Wide_fc (lowU_bg (u := u) hd bu) (by omega)
  have w2 := l1Wide_fc (lowD_bg (u := u) hd bd) (by omega)
  rw [wdT_l] at w1 w2
  unfold W4.l at w1 w2
  have ht := told_fit (u := u) hd
  refine FC.body Try.func132 rfl (by simp [idfL, idf, idfLL_iff, idf_Wd', idf_numS, cells_numS, numS_fold, l2A, l2C]) (by simp [idfL, idf, idfLL_iff, idf_Wd', idf_numS, cells_numS, numS_fold, l2A, l2C]) 30 rfl fun nx K hK => ?_
  refine AWP.seqk fun K1 hK1 => ?_
  refine AWP.region (AOPS.all (by simp (disch := first|omega|(simp only[ln];omega)) [idf_Wd', idf_numS, cells_numS, numS_fold, l2A, l2C]; rfl) ?_)
  refine hK1 _ ?_
  refine AWP.seqk fun K2 hK2 => ?_
  refine AWP.region ?_
  refine AOPS.runk 2 (by simp (disch := first|omega|(simp only[ln];omega)) [List.take_succ_cons, List.take_zero, idf_Wd', idf_numS, cells_numS, numS_fold, l2A, l2C]; rfl) ?_
  simp only [List.drop_succ_cons, List.drop_zero]
  refine AOPS.fcall (w1) rfl rfl rfl hb192 (by simp (disch := first|omega|(simp only[ln];omega)) [idf_Wd', idf_numS, cells_numS, numS_fold, l2A, l2C]) (by simp (disch := first|omega|(simp only[ln];omega))) (by simp) ?_
  simp only [puts_some, updo]
  refine AOPS.all (by simp (disch := first|omega|(simp only[ln];omega)) [idf_Wd', idf_numS, cells_numS, numS_fold, l2A, l2C]; rfl) ?_
  refine hK2 _ ?_
  refine AWP.seqk fun K3 hK3 => ?_
  refine AWP.region ?_
  refine AOPS.runk 2 (by simp (disch := first|omega|(simp only[ln];omega)) [List.take_succ_cons, List.take_zero, idf_Wd', idf_numS, cells_numS, numS_fold, l2A, l2C]; rfl) ?_
  simp only [List.drop_succ_cons, List.drop_zero]
  refine AOPS.fcall (w2) rfl rfl rfl hb192 (by simp (disch := first|omega|(simp only[ln];omega)) [idf_Wd', idf_numS, cells_numS, numS_fold, l2A, l2C]) (by simp (disch := first|omega|(simp only[ln];omega))) (by simp) ?_
  simp only [puts_some, updo]
  refine AOPS.all (by simp (disch := first|omega|(simp only[ln];omega)) [idf_Wd', idf_numS, cells_numS, numS_fold, l2A, l2C]; rfl) ?_
  refine hK3 _ ?_
  refine AWP.seqk fun K4 hK4 => ?_
  refine AWP.seqk fun K5 hK5 => ?_
  cases hf : fits (lowU u d)
  · refine AWP.region (AOPS.all (by simp (disch := first|omega|(simp only[ln];omega)) [idf_Wd', idf_numS, cells_numS, numS_fold, l2A, l2C, hf]; rfl) ?_)
    refine hK5 _ ?_
    refine cond_ok _ (by simp (disch := first|omega|(simp only[ln];omega)); rfl) (fun h25 => ?_) (fun h25 => ?_)
    · try simp only [decide_eq_true_eq, decide_eq_false_iff_not] at h25
      refine AWP.seqk fun K6 hK6 => ?_
      refine AWP.region (AOPS.all (by simp (disch := first|omega|(simp only[ln];omega)) [idf_Wd', idf_numS, cells_numS, numS_fold, l2A, l2C]; rfl) ?_)
      refine hK6 _ ?_
      refine AWP.ret ?_
      exact hK _ _ _ _ trivial ((Fin.mk (by simp [aRes, aResL, aRes1, idf_Wd', idf_numS, cells_numS, numS_fold, l2A, l2C]; rfl)).cast (by rw [ht, hf]; rfl))
    · simp at h25
  · refine AWP.region (AOPS.all (by simp (disch := first|omega|(simp only[ln];omega)) [idf_Wd', idf_numS, cells_numS, numS_fold, l2A, l2C, hf]; rfl) ?_)
    refine hK5 _ ?_
    refine cond_ok (!fits (lowD u d)) (by simp (disch := first|omega|(simp only[ln];omega))) (fun h25 => ?_) (fun h25 => ?_)
    · try simp only [decide_eq_true_eq, decide_eq_false_iff_not] at h25
      have hf2 : fits (lowD u d) = false := by simpa using h25
      refine AWP.seqk fun K7 hK7 => ?_
      refine AWP.region (AOPS.all (by simp (disch := first|omega|(simp only[ln];omega)) [idf_Wd', idf_numS, cells_numS, numS_fold, l2A, l2C]; rfl) ?_)
      refine hK7 _ ?_
      refine AWP.ret ?_
      exact hK _ _ _ _ trivial ((Fin.mk (by simp [aRes, aResL, aRes1, idf_Wd', idf_numS, cells_numS, numS_fold, l2A, l2C]; rfl)).cast (by rw [ht, hf, hf2]; rfl))
    · try simp only [decide_eq_true_eq, decide_eq_false_iff_not] at h25
      have hf2 : fits (lowD u d) = true := by simpa using h25
      refine AWP.skip ?_
      refine hK4 _ ?_
      refine AWP.seqk fun K8 hK8 => ?_
      refine AWP.region (AOPS.all (by simp (disch := first|omega|(simp only[ln];omega)) [idf_Wd', idf_numS, cells_numS, numS_fold, l2A, l2C]; rfl) ?_)
      refine hK8 _ ?_
      refine AWP.ret ?_
      exact hK _ _ _ _ trivial ((Fin.mk (by simp [aRes, aResL, aRes1, idf_Wd', idf_numS, cells_numS, numS_fold, l2A, l2C]; rfl)).cast (by rw [ht, hf, hf2]; rfl))

end Go.Proofs.Ytmaebeknmiomnaa

/- Walks: areas of loops. -/
namespace Go.Proofs.Ytmaebeknmiomnaa
open Go Go.RowKit
set_option linter.unusedSimpArgs false
set_option linter.unusedVariables false
set_option maxRecDepth 100000
attribute [local simp] List.getElem?_cons_zero List.getElem?_cons_succ List.getElem?_toArray runOps stepOp.eq_def agd.eq_def dstOk.eq_def opVal.eq_def opNew.eq_def opSto.eq_def ev.eq_def cv.eq_def puts_some puts_none upd_ap lst.eq_def aBin.eq_def aUn.eq_def aBi_str aBi_isl aBi_osl aBi_nsl aBi_max aBi_min aBi_max3 aConv.eq_def aLd.eq_def aLoad.eq_def aField.eq_def aFld.eq_def aIdx_isl aIdx_osl aSlc_isl aSlc_osl aSlc_str aSlc_nsl bnd.eq_def evs_nil evs_cons aBuild.eq_def aFill splice.eq_def cells_agg cells_int cells_bool cells_str cells_nil cells_nsl cells_isl cells_osl cells_ptr cells_ip cells_fn cells_Wd one_int one_bool one_str one_nil one_nsl one_isl one_osl one_ptr one_ip one_fn one_Wd aSets hupd_eq hupd_ne wrap_i64s wrap_u64s wrap_u32s wrap_u8s wd_getD wd_set wd_len wd_replicate wd_one wd_fold fz_osl hupd_same aSix.eq_def aEqS.eq_def aEqB_bool aEqB_nsl aEqB_nil
attribute [local simp] szT3 byT3 agT3 unT3 zoT3 szT4 byT4 agT4 unT4 zoT4 szT26 byT26 agT26 flT26 fdT26_0 fdT26_1 fdT26_2 fdT26_3 zoT26 szT28 byT28 agT28 flT28 fdT28_0 fdT28_1 fdT28_2 zoT28 szT51 byT51 agT51 flT51 fdT51_0 fdT51_1 zoT51 szT80 byT80 agT80 elT80 unT80 zoT80 szT93 byT93 agT93 elT93 unT93 zoT93 szT111 byT111 agT111 elT111 unT111 zoT111 szT113 byT113 agT113 flT113 fdT113_0 fdT113_1 zoT113 szT115 byT115 agT115 flT115 fdT115_0 fdT115_1 fdT115_2 zoT115 szT117 byT117 agT117 elT117 unT117 zoT117 szT119 byT119 agT119 flT119 fdT119_0 fdT119_1 zoT119 szT121 byT121 agT121 flT121 fdT121_0 fdT121_1 fdT121_2 zoT121 szT143 byT143 agT143 flT143 fdT143_0 fdT143_1 zoT143 szT161 byT161 agT161 flT161 fdT161_0 fdT161_1 zoT161 szT175 byT175 agT175 flT175 fdT175_0 zoT175 szT176 byT176 agT176 elT176 unT176 zoT176

theorem pt_at {l : List Pt} {i : Nat} (h : i < l.length) : (l.map Pt.cells)[i]? = some [.int .u64 (gp l i).x.a, .int .u64 (gp l i).x.b, .int .u64 (gp l i).x.c, .int .u64 (gp l i).x.d, .int .u64 (gp l i).y.a, .int .u64 (gp l i).y.b, .int .u64 (gp l i).y.c, .int .u64 (gp l i).y.d, .int .u64 (gp l i).w.a, .int .u64 (gp l i).w.b, .int .u64 (gp l i).w.c, .int .u64 (gp l i).w.d] := by rw [List.getElem?_map, gp_get h]; rfl
def l3c (p : Pt) : List AV := l3C p.x.v p.y.v p.w.v
theorem l3c_at {l : List Pt} {i : Nat} (h : i < l.length) : (l.map l3c)[i]? = some [.bool (decide ((gp l i).x.v < 0)), Wd .u32 (dg (gp l i).x.v), .bool (decide ((gp l i).y.v < 0)), Wd .u32 (dg (gp l i).y.v), .bool (decide ((gp l i).w.v < 0)), Wd .u32 (dg (gp l i).w.v)] := by rw [List.getElem?_map, gp_get h]; rfl
theorem l3c_take {l : List Pt} {i : Nat} (h : i < l.length) : (l.take (i + 1)).map l3c = (l.take i).map l3c ++ [[.bool (decide ((gp l i).x.v < 0)), Wd .u32 (dg (gp l i).x.v), .bool (decide ((gp l i).y.v < 0)), Wd .u32 (dg (gp l i).y.v), .bool (decide ((gp l i).w.v < 0)), Wd .u32 (dg (gp l i).w.v)]] := by
  rw [List.take_add_one, gp_get h]; simp [l3c, l3C]
theorem ltmod {n k : Nat} (h : k < n) : Int.tmod ((k : Int) + 1) (n : Int) = (((k + 1) % n : Nat) : Int) := (Int.ofNat_tmod (k + 1) n).symm
theorem nslc {w : World} {β : Nat → Option Loc} {b : Nat → Bool} {vss : List (List Value)} (h : VRLL w β b [[.bool false, .nsl]] vss) : VRLL w β b [[.bool (decide (0 < 0)), Wd .u32 (dg (0))]] vss := by
  obtain ⟨v, r, e, ⟨v1, r1, e1, h1, ⟨v2, r2, e2, h2, h3⟩⟩, h4⟩ := h
  exact ⟨v, r, e, ⟨v1, r1, e1, h1, ⟨v2, r2, e2, (by rw [dg_zero]; exact nsl_Wd .u32 h2), h3⟩⟩, h4⟩
theorem nslr {w : World} {β : Nat → Option Loc} {b : Nat → Bool} {vss : List (List Value)} (h : VRLL w β b [[.bool false, .nsl, .bool (decide ((1 : Int) < 0)), Wd .u32 (dg 1)]] vss) : VRLL w β b [[.bool (decide (0 < 0)), Wd .u32 (dg (0)), .bool (decide (1 < 0)), Wd .u32 (dg (1))]] vss := by
  obtain ⟨v, r, e, ⟨v1, r1, e1, h1, ⟨v2, r2, e2, h2, h3⟩⟩, h4⟩ := h
  exact ⟨v, r, e, ⟨v1, r1, e1, h1, ⟨v2, r2, e2, (by rw [dg_zero]; exact nsl_Wd .u32 h2), h3⟩⟩, h4⟩

set_option maxHeartbeats 4000000 in
theorem areaI_fc (l : List Pt) (ho : ∀ p ∈ l, p.ok) (hg : ∀ p ∈ l, p.good = true) (hl : l.length ≤ 60) : FC Try.prog 145 [.isl (l.map Pt.cells)] (rtA (areaQ l).1 (areaQ l).2) := by
  refine FC.body Try.func145 rfl (by simp [idfL, idf, idfLL_iff, Pt.cells]) (by simp [idfL, idf, idf_Wd', rtA, rtC]) 53 rfl fun nx K hK => ?_
  refine AWP.seqk fun K1 hK1 => ?_
  refine AWP.region (AOPS.all (by simp (disch := first|omega|(simp only[ln];omega)) [idf_Wd', idf_numI, cells_numI, numI_fold, Pt.av, Pt.cells, rtA, rtC, spA, spC]; rfl) ?_)
  refine hK1 _ ?_
  refine AWP.seqk fun K2 hK2 => ?_
  refine AWP.region ?_
  refine AOPS.fcall (whole_fc 0 (by omega) (by omega)) rfl rfl rfl hb89 (by simp (disch := first|omega|(simp only[ln];omega)) [idf_Wd', idf_numI, cells_numI, numI_fold, Pt.av, Pt.cells, rtA, rtC, spA, spC]) (by simp (disch := first|omega|(simp only[ln];omega))) (by simp) ?_
  simp only [puts_some, updo]
  refine AOPS.fcall (whole_fc 1 (by omega) (by omega)) rfl rfl rfl hb89 (by simp (disch := first|omega|(simp only[ln];omega)) [idf_Wd', idf_numI, cells_numI, numI_fold, Pt.av, Pt.cells, rtA, rtC, spA, spC]) (by simp (disch := first|omega|(simp only[ln];omega))) (by simp) ?_
  simp only [puts_some, updo]
  refine AOPS.all (by simp (disch := first|omega|(simp only[ln];omega)) [idf_Wd', idf_numI, cells_numI, numI_fold, Pt.av, Pt.cells, rtA, rtC, spA, spC]; rfl) ?_
  refine hK2 _ ?_
  refine AWP.seqk fun K3 hK3 => ?_
  refine AWP.seqk fun K4 hK4 => ?_
  refine AWP.region (AOPS.all (by simp (disch := first|omega|(simp only[ln];omega)) [idf_Wd', idf_numI, cells_numI, numI_fold, Pt.av, Pt.cells, rtA, rtC, spA, spC, List.length_map]; rfl) ?_)
  refine hK4 _ ?_
  refine AWP.block ?_
  
  refine AWP.loop (fun N s => ∃ i : Nat, N = l.length - i ∧ i ≤ l.length ∧ s.env 0 = .isl (l.map Pt.cells) ∧ s.env 2 = .ptr nx 0 0 ∧ s.env 3 = .ptr (nx + 1) 0 0 ∧ s.env 12 = .isl (l.map Pt.cells) ∧ s.env 13 = .int .i64 (l.length : Int) ∧ s.env 14 = .int .i64 (i : Int) ∧ s.heap nx = some (4, [[.bool false, .nsl, .bool false, .nsl]]) ∧ nx < s.nx ∧ s.heap (nx + 1) = some (4, [[.bool (decide ((arQ l i).1 < 0)), Wd .u64 (mag ((arQ l i).1)), .bool (decide ((arQ l i).2 < 0)), Wd .u64 (mag ((arQ l i).2))]]) ∧ (nx + 1) < s.nx ∧ s.nt = 53) (l.length) (⟨0, by omega, by omega, by simp (disch := omega) [arQ], by simp (disch := omega) [arQ], by simp (disch := omega) [arQ], by simp (disch := omega) [arQ], by simp (disch := omega) [arQ], by simp (disch := omega) [arQ], by simp (disch := omega) [arQ], by first | omega | (simp; done) | (simp; omega), by simp (disch := omega) [arQ], by first | omega | (simp; done) | (simp; omega), rfl⟩) ?_
  rintro N ⟨e, H, mm, nt⟩ ⟨i, rfl, hi, g0, g2, g3, g12, g13, g14, Hz, xz, Ho, xo, rfl⟩
  simp only [] at g0 g2 g3 g12 g13 g14 Hz xz Ho xo
  refine AWP.seqk fun K5 hK5 => ?_
  refine AWP.region (AOPS.all (by simp (disch := first|omega|(simp only[ln];omega)) [idf_Wd', idf_numI, cells_numI, numI_fold, Pt.av, Pt.cells, rtA, rtC, spA, spC, g13, g14]; rfl) ?_)
  refine hK5 _ ?_
  refine AWP.seqk fun K6 hK6 => ?_
  refine cond_ok _ (by simp (disch := first|omega|(simp only[ln];omega)); rfl) (fun h15 => ?_) (fun h15 => ?_)
  · try simp only [decide_eq_true_eq, decide_eq_false_iff_not] at h15
    have hi' : i < l.length := by omega
    obtain ⟨j, hj⟩ : ∃ j : Nat, j = (i + 1) % l.length := ⟨_, rfl⟩
    have hjl : j < l.length := by rw [hj]; exact gpn_lt hi'
    have htm : Int.tmod ((i : Int) + 1) (l.length : Int) = (j : Int) := by rw [hj]; exact ltmod hi'
    have hne : ¬ l = [] := by intro h; rw [h] at hi'; simp at hi'
    have gpi := hg _ (gp_mem hi')
    have gqi := hg _ (gp_mem hjl)
    have hstep : arQ l (i + 1) = addQ (arQ l i) (ownQ (gp l i) (gp l j)) := by rw [hj]; rfl
    have bnd := arQ_bg hg i hi
    have red := arQ_red hg i hi
    have opos := ownQ_pos gpi gqi
    have ob := ownQ_bg gpi gqi
    have hat := pt_at hi'
    have hat2 := pt_at hjl
    have opi := ho _ (gp_mem hi')
    have oqi := ho _ (gp_mem hjl)
    generalize gp l i = p at *
    generalize gp l j = q at *
    obtain ⟨p1, p2, p3⟩ := good_bg gpi
    obtain ⟨q1, q2, q3⟩ := good_bg gqi
    have hs1 : (arQ l (i + 1)).1 = lowU ((arQ l i).1 * (p.w.v * q.w.v) + (p.x.v * q.y.v - q.x.v * p.y.v) * (arQ l i).2) ((arQ l i).2 * (p.w.v * q.w.v)) := by rw [hstep]; rfl
    have hs2 : (arQ l (i + 1)).2 = lowD ((arQ l i).1 * (p.w.v * q.w.v) + (p.x.v * q.y.v - q.x.v * p.y.v) * (arQ l i).2) ((arQ l i).2 * (p.w.v * q.w.v)) := by rw [hstep]; rfl
    have hnz : (arQ l i).2 * (p.w.v * q.w.v) ≠ 0 := Int.mul_ne_zero (by have := red.1; omega) (by have : 0 < p.w.v * q.w.v := opos; omega)
    have bo1 : Bg 400 (p.x.v * q.y.v - q.x.v * p.y.v) := ob.1.le (by omega)
    have bo2 : Bg 400 (p.w.v * q.w.v) := ob.2.le (by omega)
    have b1 := bnd.1.le (k := 400) (by omega)
    have b2 := bnd.2.le (k := 400) (by omega)
    generalize (arQ l i).1 = U0 at *
    generalize (arQ l i).2 = D0 at *
    refine AWP.skip ?_
    refine hK6 _ ?_
    refine AWP.seqk fun K7 hK7 => ?_
    refine AWP.block ?_
    refine AWP.seqk fun K8 hK8 => ?_
    refine AWP.region (AOPS.all (by simp (disch := first|omega|(simp only[ln];omega)) [if_pos, idf_Wd', idf_numI, cells_numI, numI_fold, Pt.av, Pt.cells, rtA, rtC, spA, spC, g12, g14, hat, List.length_map]; rfl) ?_)
    refine hK8 _ ?_
    refine AWP.seqk fun K9 hK9 => ?_
    refine AWP.old fun hold => ?_
    refine AWP.draw 13 Try.checked.mixed (by kernel_rfl) (by simp) ?_
    simp only [List.take_succ_cons, List.take_zero, List.drop_succ_cons, List.drop_zero]
    refine DP.runFk 1 (by simp (disch := first|omega|(simp only[ln];omega)) [runDf.eq_def, runF1, runF2, stepF.eq_def, updo.eq_def, hupo.eq_def, opSto1.eq_def, List.take_succ_cons, List.take_zero, if_pos, idf_Wd', idf_numI, cells_numI, numI_fold, Pt.av, Pt.cells, rtA, rtC, spA, spC, g0, hat2, htm, hne, List.length_map]; rfl) fun fs10 hfs10 => ?_
    replace hfs10 : fs10.length = 1 := hfs10.trans rfl
    simp only [List.drop_succ_cons, List.drop_zero]
    refine DP.fcall (spot_fc p opi) rfl rfl rfl hb84 (by simp (disch := first|omega|(simp only[ln];omega)) [idf_Wd', g0, hat2, htm, hne, List.length_map, idf_numI, cells_numI, numI_fold, Pt.av, Pt.cells, rtA, rtC, spA, spC]) (by simp (disch := first|omega|(simp only[ln];omega)) [g0, hat2, htm, hne, List.length_map]) (by simp) ?_
    simp only [updo]
    refine DP.runF1q (by simp (disch := first|omega|(simp only[ln];omega)) [runDf.eq_def, runF1, runF2, stepF.eq_def, updo.eq_def, hupo.eq_def, opSto1.eq_def, if_pos, idf_Wd', idf_numI, cells_numI, numI_fold, Pt.av, Pt.cells, rtA, rtC, spA, spC, g0, hat2, htm, hne, List.length_map]; rfl) fun fq11 hfq11 => ?_
    simp [qids, asksB, Op.operands, topId] at hfq11
    simp only [updo]
    refine DP.runF1q (by simp (disch := first|omega|(simp only[ln];omega)) [runDf.eq_def, runF1, runF2, stepF.eq_def, updo.eq_def, hupo.eq_def, opSto1.eq_def, if_pos, idf_Wd', idf_numI, cells_numI, numI_fold, Pt.av, Pt.cells, rtA, rtC, spA, spC, g0, hat2, htm, hne, List.length_map]; rfl) fun fq12 hfq12 => ?_
    simp [qids, asksB, Op.operands, topId] at hfq12
    simp only [updo]
    refine DP.runF1q (by simp (disch := first|omega|(simp only[ln];omega)) [runDf.eq_def, runF1, runF2, stepF.eq_def, updo.eq_def, hupo.eq_def, opSto1.eq_def, if_pos, idf_Wd', idf_numI, cells_numI, numI_fold, Pt.av, Pt.cells, rtA, rtC, spA, spC, g0, hat2, htm, hne, List.length_map]; rfl) fun fq13 hfq13 => ?_
    simp [qids, asksB, Op.operands, topId] at hfq13
    simp only [updo]
    refine DP.runF1q (by simp (disch := first|omega|(simp only[ln];omega)) [runDf.eq_def, runF1, runF2, stepF.eq_def, updo.eq_def, hupo.eq_def, opSto1.eq_def, if_pos, idf_Wd', idf_numI, cells_numI, numI_fold, Pt.av, Pt.cells, rtA, rtC, spA, spC, g0, hat2, htm, hne, List.length_map]; rfl) fun fq14 hfq14 => ?_
    simp [qids, asksB, Op.operands, topId] at hfq14
    simp only [updo]
    refine DP.runF1q (by simp (disch := first|omega|(simp only[ln];omega)) [runDf.eq_def, runF1, runF2, stepF.eq_def, updo.eq_def, hupo.eq_def, opSto1.eq_def, if_pos, idf_Wd', idf_numI, cells_numI, numI_fold, Pt.av, Pt.cells, rtA, rtC, spA, spC, g0, hat2, htm, hne, List.length_map]; rfl) fun fq15 hfq15 => ?_
    simp [qids, asksB, Op.operands, topId] at hfq15
    simp only [updo]
    refine DP.runF1q (by simp (disch := first|omega|(simp only[ln];omega)) [runDf.eq_def, runF1, runF2, stepF.eq_def, updo.eq_def, hupo.eq_def, opSto1.eq_def, if_pos, idf_Wd', idf_numI, cells_numI, numI_fold, Pt.av, Pt.cells, rtA, rtC, spA, spC, g0, hat2, htm, hne, List.length_map]; rfl) fun fq16 hfq16 => ?_
    simp [qids, asksB, Op.operands, topId] at hfq16
    simp only [updo]
    refine DP.runF1q (by simp (disch := first|omega|(simp only[ln];omega)) [runDf.eq_def, runF1, runF2, stepF.eq_def, updo.eq_def, hupo.eq_def, opSto1.eq_def, if_pos, idf_Wd', idf_numI, cells_numI, numI_fold, Pt.av, Pt.cells, rtA, rtC, spA, spC, g0, hat2, htm, hne, List.length_map]; rfl) fun fq17 hfq17 => ?_
    simp [qids, asksB, Op.operands, topId] at hfq17
    simp only [updo]
    refine DP.runF1q (by simp (disch := first|omega|(simp only[ln];omega)) [runDf.eq_def, runF1, runF2, stepF.eq_def, updo.eq_def, hupo.eq_def, opSto1.eq_def, if_pos, idf_Wd', idf_numI, cells_numI, numI_fold, Pt.av, Pt.cells, rtA, rtC, spA, spC, g0, hat2, htm, hne, List.length_map]; rfl) fun fq18 hfq18 => ?_
    simp [qids, asksB, Op.operands, topId] at hfq18
    simp only [updo]
    refine DP.fcall (spot_fc q oqi) rfl rfl rfl hb84 (by simp (disch := first|omega|(simp only[ln];omega)) [idf_Wd', g0, hat2, htm, hne, List.length_map, idf_numI, cells_numI, numI_fold, Pt.av, Pt.cells, rtA, rtC, spA, spC]) (by simp (disch := first|omega|(simp only[ln];omega)) [g0, hat2, htm, hne, List.length_map]) (by simp) ?_
    simp only [updo]
    refine DP.runFk 2 (by simp (disch := first|omega|(simp only[ln];omega)) [runDf.eq_def, runF1, runF2, stepF.eq_def, updo.eq_def, hupo.eq_def, opSto1.eq_def, List.take_succ_cons, List.take_zero, if_pos, idf_Wd', idf_numI, cells_numI, numI_fold, Pt.av, Pt.cells, rtA, rtC, spA, spC, g0, hat2, htm, hne, List.length_map]; rfl) fun fs19 hfs19 => ?_
    replace hfs19 : fs19.length = 2 := hfs19.trans rfl
    simp only [List.drop_succ_cons, List.drop_zero]
    refine DQ.sto1 (m := 13) [2, 3, 4, 5, 6, 7, 8, 9] _ (by simp (disch := first|omega|(simp only[ln];omega)) [runDf.eq_def, runF1, runF2, stepF.eq_def, updo.eq_def, hupo.eq_def, opSto1.eq_def, if_pos, idf_Wd', idf_numI, cells_numI, numI_fold, Pt.av, Pt.cells, rtA, rtC, spA, spC, g0, hat2, htm, hne, List.length_map]; rfl) rfl (by simp only [List.length_append, List.length_cons, List.length_nil, hfs10, hfs19]; omega) (by kernel_rfl) (by intro k f hk hex; simp only [List.mem_cons, List.not_mem_nil, or_false] at hex; rcases hex with rfl | rfl | rfl | rfl | rfl | rfl | rfl | rfl <;> (simp [List.getElem?_append, hfs10, hfs19] at hk; subst hk; refine ⟨?_, by first | omega | (simp; done) | (simp; omega)⟩; simp [qids, asksB, Op.operands, Call.operands, topId, numS, numI, Wd, hfq11, hfq12, hfq13, hfq14, hfq15, hfq16, hfq17, hfq18, g0]; try omega)) ?_
    try simp only []
    refine DQ.sto1 (m := 13) [] _ (by simp (disch := first|omega|(simp only[ln];omega)) [runDf.eq_def, runF1, runF2, stepF.eq_def, updo.eq_def, hupo.eq_def, opSto1.eq_def, if_pos, idf_Wd', idf_numI, cells_numI, numI_fold, Pt.av, Pt.cells, rtA, rtC, spA, spC, g0, hat2, htm, hne, List.length_map]; rfl) rfl (by simp only [List.length_append, List.length_cons, List.length_nil, hfs10, hfs19]; omega) (by kernel_rfl) (by intro k f hk hex; simp only [List.not_mem_nil] at hex) ?_
    try simp only []
    refine hK9 _ ?_
    refine AWP.seqk fun K20 hK20 => ?_
    refine AWP.draw 18 Try.checked.mixed (by kernel_rfl) (by simp) ?_
    simp only [List.take_succ_cons, List.take_zero, List.drop_succ_cons, List.drop_zero]
    refine DP.runFk 4 (by simp (disch := first|omega|(simp only[ln];omega)) [runDf.eq_def, runF1, runF2, stepF.eq_def, updo.eq_def, hupo.eq_def, opSto1.eq_def, List.take_succ_cons, List.take_zero, idf_Wd', idf_numI, cells_numI, numI_fold, Pt.av, Pt.cells, rtA, rtC, spA, spC]; rfl) fun fs21 hfs21 => ?_
    replace hfs21 : fs21.length = 4 := hfs21.trans rfl
    simp only [List.drop_succ_cons, List.drop_zero]
    refine DP.fcall (by_fc p1 q2 (by omega) (by omega)) rfl rfl rfl hb92 (by simp (disch := first|omega|(simp only[ln];omega)) [idf_Wd', idf_numI, cells_numI, numI_fold, Pt.av, Pt.cells, rtA, rtC, spA, spC]) (by simp (disch := first|omega|(simp only[ln];omega))) (by simp) ?_
    simp only [updo]
    refine DP.runFk 4 (by simp (disch := first|omega|(simp only[ln];omega)) [runDf.eq_def, runF1, runF2, stepF.eq_def, updo.eq_def, hupo.eq_def, opSto1.eq_def, List.take_succ_cons, List.take_zero, idf_Wd', idf_numI, cells_numI, numI_fold, Pt.av, Pt.cells, rtA, rtC, spA, spC]; rfl) fun fs22 hfs22 => ?_
    replace hfs22 : fs22.length = 4 := hfs22.trans rfl
    simp only [List.drop_succ_cons, List.drop_zero]
    refine DP.fcall (by_fc q1 p2 (by omega) (by omega)) rfl rfl rfl hb92 (by simp (disch := first|omega|(simp only[ln];omega)) [idf_Wd', idf_numI, cells_numI, numI_fold, Pt.av, Pt.cells, rtA, rtC, spA, spC]) (by simp (disch := first|omega|(simp only[ln];omega))) (by simp) ?_
    simp only [updo]
    refine DP.fcall (less_fc (p1.mul q2) (q1.mul p2) (by omega) (by omega)) rfl rfl rfl hb109 (by simp (disch := first|omega|(simp only[ln];omega)) [idf_Wd', idf_numI, cells_numI, numI_fold, Pt.av, Pt.cells, rtA, rtC, spA, spC]) (by simp (disch := first|omega|(simp only[ln];omega))) (by simp) ?_
    simp only [updo]
    refine DP.runFk 4 (by simp (disch := first|omega|(simp only[ln];omega)) [runDf.eq_def, runF1, runF2, stepF.eq_def, updo.eq_def, hupo.eq_def, opSto1.eq_def, List.take_succ_cons, List.take_zero, idf_Wd', idf_numI, cells_numI, numI_fold, Pt.av, Pt.cells, rtA, rtC, spA, spC]; rfl) fun fs23 hfs23 => ?_
    replace hfs23 : fs23.length = 4 := hfs23.trans rfl
    simp only [List.drop_succ_cons, List.drop_zero]
    refine DP.fcall (by_fc p3 q3 (by omega) (by omega)) rfl rfl rfl hb92 (by simp (disch := first|omega|(simp only[ln];omega)) [idf_Wd', idf_numI, cells_numI, numI_fold, Pt.av, Pt.cells, rtA, rtC, spA, spC]) (by simp (disch := first|omega|(simp only[ln];omega))) (by simp) ?_
    simp only [updo]
    refine DP.runFk 2 (by simp (disch := first|omega|(simp only[ln];omega)) [runDf.eq_def, runF1, runF2, stepF.eq_def, updo.eq_def, hupo.eq_def, opSto1.eq_def, List.take_succ_cons, List.take_zero, idf_Wd', idf_numI, cells_numI, numI_fold, Pt.av, Pt.cells, rtA, rtC, spA, spC]; rfl) fun fs24 hfs24 => ?_
    replace hfs24 : fs24.length = 2 := hfs24.trans rfl
    simp only [List.drop_succ_cons, List.drop_zero]
    refine DQ.runF (m := 18) (by simp only [List.length_append, List.length_cons, List.length_nil, hfs21, hfs22, hfs23, hfs24]; omega) _ _ _ (by kernel_rfl) rfl (by simp (disch := first|omega|(simp only[ln];omega)) [runDf.eq_def, runF1, runF2, stepF.eq_def, updo.eq_def, hupo.eq_def, opSto1.eq_def, idf_Wd', idf_numI, cells_numI, numI_fold, Pt.av, Pt.cells, rtA, rtC, spA, spC]; rfl) ?_
    refine hK20 _ ?_
    refine AWP.region ?_
    refine AOPS.runk 2 (by simp (disch := first|omega|(simp only[ln];omega)) [List.take_succ_cons, List.take_zero, idf_Wd', idf_numI, cells_numI, numI_fold, Pt.av, Pt.cells, rtA, rtC, spA, spC, g3, Ho]; rfl) ?_
    simp only [List.drop_succ_cons, List.drop_zero]
    refine AOPS.fcall (rplus_fc (j := 400) U0 D0 (p.x.v * q.y.v - q.x.v * p.y.v) (p.w.v * q.w.v) b1 b2 bo1 bo2 (by omega)) rfl rfl rfl hb144 (by simp (disch := first|omega|(simp only[ln];omega)) [idf_Wd', g3, Ho, idf_numI, cells_numI, numI_fold, Pt.av, Pt.cells, rtA, rtC, spA, spC]) (by simp (disch := first|omega|(simp only[ln];omega)) [g3, Ho]) (by simp) ?_
    simp only [puts_some, updo]
    refine AOPS.fcall (lowest_fc (j := 801) (U0 * (p.w.v * q.w.v) + (p.x.v * q.y.v - q.x.v * p.y.v) * D0) (D0 * (p.w.v * q.w.v)) hnz (((b1.mul bo2).add (bo1.mul b2)).le (by omega)) ((b2.mul bo2).le (by omega)) (by omega)) rfl rfl rfl hb146 (by simp (disch := first|omega|(simp only[ln];omega)) [idf_Wd', g3, Ho, idf_numI, cells_numI, numI_fold, Pt.av, Pt.cells, rtA, rtC, spA, spC]) (by simp (disch := first|omega|(simp only[ln];omega)) [g3, Ho]) (by simp) ?_
    simp only [puts_some, updo]
    refine AOPS.all (by simp (disch := first|omega|(simp only[ln];omega)) [idf_Wd', idf_numI, cells_numI, numI_fold, Pt.av, Pt.cells, rtA, rtC, spA, spC, g3, Ho]; rfl) ?_
    refine hK7 _ ?_
    refine AWP.region (AOPS.all (by simp (disch := first|omega|(simp only[ln];omega)) [idf_Wd', idf_numI, cells_numI, numI_fold, Pt.av, Pt.cells, rtA, rtC, spA, spC, g14]; rfl) ?_)
    refine ⟨l.length - (i + 1), by omega, i + 1, rfl, by omega, by simp (disch := omega) [g0, g2, g3, g12, g13, g14, Hz, Ho, hs1, hs2], by simp (disch := omega) [g0, g2, g3, g12, g13, g14, Hz, Ho, hs1, hs2], by simp (disch := omega) [g0, g2, g3, g12, g13, g14, Hz, Ho, hs1, hs2], by simp (disch := omega) [g0, g2, g3, g12, g13, g14, Hz, Ho, hs1, hs2], by simp (disch := omega) [g0, g2, g3, g12, g13, g14, Hz, Ho, hs1, hs2], by simp (disch := omega) [g0, g2, g3, g12, g13, g14, Hz, Ho, hs1, hs2], by simp (disch := omega) [g0, g2, g3, g12, g13, g14, Hz, Ho, hs1, hs2], by first | omega | (simp; done) | (simp; omega), by simp (disch := omega) [g0, g2, g3, g12, g13, g14, Hz, Ho, hs1, hs2], by first | omega | (simp; done) | (simp; omega), rfl⟩
  · try simp only [decide_eq_true_eq, decide_eq_false_iff_not] at h15
    have hin : i = l.length := by omega
    subst hin
    refine AWP.exit ?_
    refine hK3 _ ?_
    refine AWP.seqk fun K25 hK25 => ?_
    refine AWP.region (AOPS.all (by simp (disch := first|omega|(simp only[ln];omega)) [idf_Wd', idf_numI, cells_numI, numI_fold, Pt.av, Pt.cells, rtA, rtC, spA, spC, g2, g3, Hz, Ho]; rfl) ?_)
    refine hK25 _ ?_
    refine AWP.ret ?_
    exact hK _ _ _ _ trivial ((Fin.mk (by simp (disch := omega) [aRes, aResL, aRes1, g2, idf_Wd', idf_numI, cells_numI, numI_fold, Pt.av, Pt.cells, rtA, rtC, spA, spC]; try rfl)).cast (by rfl))

set_option maxHeartbeats 4000000 in
theorem loopsArea2I_fc (L : List (List Pt)) (hL : ∀ l ∈ L, ∀ p ∈ l, p.ok) (hl : L.length ≤ 1099511627776) (hl2 : ∀ l ∈ L, l.length ≤ 1099511627776) : FC Try.prog 62 [lsA L] (.tup [.agg [.int .u64 ((laF L).1).up.a, .int .u64 ((laF L).1).up.b, .int .u64 ((laF L).1).up.c, .int .u64 ((laF L).1).up.d, .int .u64 ((laF L).1).down.a, .int .u64 ((laF L).1).down.b, .int .u64 ((laF L).1).down.c, .int .u64 ((laF L).1).down.d], .bool (laF L).2]) := by
  refine FC.body Try.func62 rfl (by simp [idfL, idf, idfLL_iff, lsA, ltC, Pt.av, Pt.cells]) (by simp [idfL, idf, idfLL_iff, idf_Wd', idf_numI, cells_numI, numI_fold, rtA, rtC]) 36 rfl fun nx K hK => ?_
  refine AWP.seqk fun K1 hK1 => ?_
  refine AWP.region (AOPS.all (by simp (disch := first|omega|(simp only[ln];omega)) [idf_Wd', idf_numI, cells_numI, numI_fold, rtA, rtC]; rfl) ?_)
  refine hK1 _ ?_
  refine AWP.seqk fun K2 hK2 => ?_
  refine AWP.seqk fun K3 hK3 => ?_
  refine AWP.region ?_
  refine AOPS.runk 1 (by simp (disch := first|omega|(simp only[ln];omega)) [List.take_succ_cons, List.take_zero, idf_Wd', idf_numI, cells_numI, numI_fold, rtA, rtC]; rfl) ?_
  simp only [List.drop_succ_cons, List.drop_zero]
  refine AOPS.fcall (loopsOkI_fc L hL hl hl2) rfl rfl rfl hb143 (by simp (disch := first|omega|(simp only[ln];omega)) [idf_Wd', idf_numI, cells_numI, numI_fold, rtA, rtC]) (by simp (disch := first|omega|(simp only[ln];omega))) (by simp) ?_
  simp only [puts_some, updo]
  refine AOPS.all (by simp (disch := first|omega|(simp only[ln];omega)) [idf_Wd', idf_numI, cells_numI, numI_fold, rtA, rtC]; rfl) ?_
  refine hK3 _ ?_
  refine cond_ok (!lOk L) (by simp (disch := first|omega|(simp only[ln];omega))) (fun h9 => ?_) (fun h9 => ?_)
  · try simp only [decide_eq_true_eq, decide_eq_false_iff_not] at h9
    have hb : lOk L = false := by simpa using h9
    refine AWP.seqk fun K4 hK4 => ?_
    refine AWP.region (AOPS.all (by simp (disch := first|omega|(simp only[ln];omega)) [idf_Wd', idf_numI, cells_numI, numI_fold, rtA, rtC]; rfl) ?_)
    refine hK4 _ ?_
    refine AWP.ret ?_
    exact hK _ _ _ _ trivial ((Fin.mk (by simp (disch := omega) [aRes, aResL, aRes1, idf_Wd', idf_numI, cells_numI, numI_fold, rtA, rtC]; try rfl)).cast (by rw [laF_bad hb]; rfl))
  · try simp only [decide_eq_true_eq, decide_eq_false_iff_not] at h9
    have hok : lOk L = true := by simpa using h9
    have hgd := lOk_good hok
    have hL40 : L.length ≤ 40 := by unfold lOk at hok; simp only [Bool.and_eq_true, decide_eq_true_eq] at hok; exact hok.1
    refine AWP.skip ?_
    refine hK2 _ ?_
    refine AWP.seqk fun K5 hK5 => ?_
    refine AWP.region ?_
    refine AOPS.fcall (whole_fc 0 (by omega) (by omega)) rfl rfl rfl hb89 (by simp (disch := first|omega|(simp only[ln];omega)) [idf_Wd', idf_numI, cells_numI, numI_fold, rtA, rtC]) (by simp (disch := first|omega|(simp only[ln];omega))) (by simp) ?_
    simp only [puts_some, updo]
    refine AOPS.fcall (whole_fc 1 (by omega) (by omega)) rfl rfl rfl hb89 (by simp (disch := first|omega|(simp only[ln];omega)) [idf_Wd', idf_numI, cells_numI, numI_fold, rtA, rtC]) (by simp (disch := first|omega|(simp only[ln];omega))) (by simp) ?_
    simp only [puts_some, updo]
    refine AOPS.all (by simp (disch := first|omega|(simp only[ln];omega)) [idf_Wd', idf_numI, cells_numI, numI_fold, rtA, rtC]; rfl) ?_
    refine hK5 _ ?_
    refine AWP.seqk fun K6 hK6 => ?_
    refine AWP.seqk fun K7 hK7 => ?_
    refine AWP.region (AOPS.all (by simp (disch := first|omega|(simp only[ln];omega)) [idf_Wd', idf_numI, cells_numI, numI_fold, rtA, rtC, lsA, List.length_map]; rfl) ?_)
    refine hK7 _ ?_
    refine AWP.block ?_
    
    refine AWP.loop (fun N s => ∃ i : Nat, N = L.length - i ∧ i ≤ L.length ∧ (∀ j, j < i → (gL L j).length ≤ 60) ∧ s.env 0 = lsA L ∧ s.env 2 = .ptr nx 0 0 ∧ s.env 4 = .ptr (nx + 1) 0 0 ∧ s.env 14 = lsA L ∧ s.env 15 = .int .i64 (L.length : Int) ∧ s.env 16 = .int .i64 (i : Int) ∧ s.heap nx = some (8, [[.int .u64 0, .int .u64 0, .int .u64 0, .int .u64 0, .int .u64 0, .int .u64 0, .int .u64 0, .int .u64 0]]) ∧ nx < s.nx ∧ s.heap (nx + 1) = some (4, [[.bool (decide ((lpQ L i).1 < 0)), Wd .u64 (mag ((lpQ L i).1)), .bool (decide ((lpQ L i).2 < 0)), Wd .u64 (mag ((lpQ L i).2))]]) ∧ (nx + 1) < s.nx ∧ s.nt = 36) (L.length) (⟨0, by omega, by omega, fun j h => by omega, by simp (disch := omega) [lsA, lpQ], by simp (disch := omega) [lsA, lpQ], by simp (disch := omega) [lsA, lpQ], by simp (disch := omega) [lsA, lpQ], by simp (disch := omega) [lsA, lpQ], by simp (disch := omega) [lsA, lpQ], by simp (disch := omega) [lsA, lpQ], by first | omega | (simp; done) | (simp; omega), by simp (disch := omega) [lsA, lpQ], by first | omega | (simp; done) | (simp; omega), rfl⟩) ?_
    rintro N ⟨e, H, mm, nt⟩ ⟨i, rfl, hi, hsm, g0, g2, g4, g14, g15, g16, Hz, xz, Ho, xo, rfl⟩
    simp only [] at g0 g2 g4 g14 g15 g16 Hz xz Ho xo
    refine AWP.seqk fun K8 hK8 => ?_
    refine AWP.region (AOPS.all (by simp (disch := first|omega|(simp only[ln];omega)) [idf_Wd', idf_numI, cells_numI, numI_fold, rtA, rtC, g15, g16]; rfl) ?_)
    refine hK8 _ ?_
    refine AWP.seqk fun K9 hK9 => ?_
    refine cond_ok _ (by simp (disch := first|omega|(simp only[ln];omega)); rfl) (fun h17 => ?_) (fun h17 => ?_)
    · try simp only [decide_eq_true_eq, decide_eq_false_iff_not] at h17
      have hi' : i < L.length := by omega
      have hmi : (L.map ltC)[i]? = some [.isl ((gL L i).map Pt.cells)] := by rw [List.getElem?_map, gL_get hi']; rfl
      have hmem := gL_mem hi'
      have hlo := hL _ hmem
      have hlg := hgd _ hmem
      refine AWP.skip ?_
      refine hK9 _ ?_
      refine AWP.seqk fun K10 hK10 => ?_
      refine AWP.block ?_
      refine AWP.seqk fun K11 hK11 => ?_
      refine AWP.region (AOPS.all (by simp (disch := first|omega|(simp only[ln];omega)) [if_pos, idf_Wd', idf_numI, cells_numI, numI_fold, rtA, rtC, g14, g16, lsA, hmi, List.length_map]; rfl) ?_)
      refine hK11 _ ?_
      refine AWP.seqk fun K12 hK12 => ?_
      refine AWP.seqk fun K13 hK13 => ?_
      refine AWP.region (AOPS.all (by simp (disch := first|omega|(simp only[ln];omega)) [idf_Wd', idf_numI, cells_numI, numI_fold, rtA, rtC, List.length_map]; rfl) ?_)
      refine hK13 _ ?_
      refine cond_ok (decide (60 < ((gL L i).length : Int))) (by simp (disch := first|omega|(simp only[ln];omega))) (fun h23 => ?_) (fun h23 => ?_)
      · try simp only [decide_eq_true_eq, decide_eq_false_iff_not] at h23
        refine AWP.seqk fun K14 hK14 => ?_
        refine AWP.region (AOPS.all (by simp (disch := first|omega|(simp only[ln];omega)) [idf_Wd', idf_numI, cells_numI, numI_fold, rtA, rtC, g2, Hz]; rfl) ?_)
        refine hK14 _ ?_
        refine AWP.ret ?_
        exact hK _ _ _ _ trivial ((Fin.mk (by simp (disch := omega) [aRes, aResL, aRes1, g2, idf_Wd', idf_numI, cells_numI, numI_fold, rtA, rtC]; try rfl)).cast (by rw [laF_long hi' (by omega)]; rfl))
      · try simp only [decide_eq_true_eq, decide_eq_false_iff_not] at h23
        have hls : (gL L i).length ≤ 60 := by omega
        have hm1 : ∀ j, j < i + 1 → (gL L j).length ≤ 60 := fun j h => by
          rcases Nat.lt_succ_iff_lt_or_eq.1 h with h | h
          · exact hsm j h
          · rw [h]; exact hls
        have bnd := lpQ_bg hgd i hi hsm
        have red := lpQ_red hgd i hi
        have abd := areaQ_bg hlg hls
        have apos := areaQ_pos hlg
        have hi4 : i ≤ 40 := by omega
        have hs1 : (lpQ L (i + 1)).1 = lowU ((lpQ L i).1 * (areaQ (gL L i)).2 + (areaQ (gL L i)).1 * (lpQ L i).2) ((lpQ L i).2 * (areaQ (gL L i)).2) := rfl
        have hs2 : (lpQ L (i + 1)).2 = lowD ((lpQ L i).1 * (areaQ (gL L i)).2 + (areaQ (gL L i)).1 * (lpQ L i).2) ((lpQ L i).2 * (areaQ (gL L i)).2) := rfl
        have hnz : (lpQ L i).2 * (areaQ (gL L i)).2 ≠ 0 := Int.mul_ne_zero (by have := red.1; omega) (by omega)
        have b1 := bnd.1.le (k := 20000) (by omega)
        have b2 := bnd.2.le (k := 20000) (by omega)
        have a1 := abd.1.le (k := 20000) (by omega)
        have a2 := abd.2.le (k := 20000) (by omega)
        have ca := areaI_fc (gL L i) hlo hlg hls
        generalize (lpQ L i).1 = U0 at *
        generalize (lpQ L i).2 = D0 at *
        generalize (areaQ (gL L i)).1 = U1 at *
        generalize (areaQ (gL L i)).2 = D1 at *
        refine AWP.skip ?_
        refine hK12 _ ?_
        refine AWP.draw 6 Try.checked.mixed (by kernel_rfl) (by simp) ?_
        simp only [List.take_succ_cons, List.take_zero, List.drop_succ_cons, List.drop_zero]
        refine DP.runFk 3 (by simp (disch := first|omega|(simp only[ln];omega)) [runDf.eq_def, runF1, runF2, stepF.eq_def, updo.eq_def, hupo.eq_def, opSto1.eq_def, List.take_succ_cons, List.take_zero, idf_Wd', idf_numI, cells_numI, numI_fold, rtA, rtC, g4, Ho]; rfl) fun fs15 hfs15 => ?_
        replace hfs15 : fs15.length = 3 := hfs15.trans rfl
        simp only [List.drop_succ_cons, List.drop_zero]
        refine DP.fcall (ca) rfl rfl rfl hb145 (by simp (disch := first|omega|(simp only[ln];omega)) [idf_Wd', g4, Ho, idf_numI, cells_numI, numI_fold, rtA, rtC]) (by simp (disch := first|omega|(simp only[ln];omega)) [g4, Ho]) (by simp) ?_
        simp only [updo]
        refine DP.fcall (rplus_fc (j := 20000) U0 D0 U1 D1 b1 b2 a1 a2 (by omega)) rfl rfl rfl hb144 (by simp (disch := first|omega|(simp only[ln];omega)) [idf_Wd', g4, Ho, idf_numI, cells_numI, numI_fold, rtA, rtC]) (by simp (disch := first|omega|(simp only[ln];omega)) [g4, Ho]) (by simp) ?_
        simp only [updo]
        refine DP.fcall (lowest_fc (j := 40001) (U0 * D1 + U1 * D0) (D0 * D1) hnz (((b1.mul a2).add (a1.mul b2)).le (by omega)) ((b2.mul a2).le (by omega)) (by omega)) rfl rfl rfl hb146 (by simp (disch := first|omega|(simp only[ln];omega)) [idf_Wd', g4, Ho, idf_numI, cells_numI, numI_fold, rtA, rtC]) (by simp (disch := first|omega|(simp only[ln];omega)) [g4, Ho]) (by simp) ?_
        simp only [updo]
        refine DQ.runF (m := 6) (by simp only [List.length_append, List.length_cons, List.length_nil, hfs15]; omega) _ _ _ (by kernel_rfl) rfl (by simp (disch := first|omega|(simp only[ln];omega)) [runDf.eq_def, runF1, runF2, stepF.eq_def, updo.eq_def, hupo.eq_def, opSto1.eq_def, idf_Wd', idf_numI, cells_numI, numI_fold, rtA, rtC, g4, Ho]; rfl) ?_
        refine hK10 _ ?_
        refine AWP.region (AOPS.all (by simp (disch := first|omega|(simp only[ln];omega)) [idf_Wd', idf_numI, cells_numI, numI_fold, rtA, rtC, g16]; rfl) ?_)
        refine ⟨L.length - (i + 1), by omega, i + 1, rfl, by omega, hm1, by simp (disch := omega) [g0, g2, g4, g14, g15, g16, Hz, Ho, hs1, hs2], by simp (disch := omega) [g0, g2, g4, g14, g15, g16, Hz, Ho, hs1, hs2], by simp (disch := omega) [g0, g2, g4, g14, g15, g16, Hz, Ho, hs1, hs2], by simp (disch := omega) [g0, g2, g4, g14, g15, g16, Hz, Ho, hs1, hs2], by simp (disch := omega) [g0, g2, g4, g14, g15, g16, Hz, Ho, hs1, hs2], by simp (disch := omega) [g0, g2, g4, g14, g15, g16, Hz, Ho, hs1, hs2], by simp (disch := omega) [g0, g2, g4, g14, g15, g16, Hz, Ho, hs1, hs2], by first | omega | (simp; done) | (simp; omega), by simp (disch := omega) [g0, g2, g4, g14, g15, g16, Hz, Ho, hs1, hs2], by first | omega | (simp; done) | (simp; omega), rfl⟩
    · try simp only [decide_eq_true_eq, decide_eq_false_iff_not] at h17
      have hin : i = L.length := by omega
      subst hin
      have hok2 := laF_ok hok hsm
      have bnd := lpQ_bg hgd _ hi hsm
      have red := lpQ_red hgd _ hi
      have hi4 : L.length ≤ 40 := hL40
      have b1 := bnd.1.le (k := 20000) (by omega)
      have b2 := bnd.2.le (k := 20000) (by omega)
      refine AWP.exit ?_
      refine hK6 _ ?_
      refine AWP.seqk fun K16 hK16 => ?_
      refine AWP.region ?_
      refine AOPS.runk 1 (by simp (disch := first|omega|(simp only[ln];omega)) [List.take_succ_cons, List.take_zero, idf_Wd', idf_numI, cells_numI, numI_fold, rtA, rtC, g2, g4, Hz, Ho]; rfl) ?_
      simp only [List.drop_succ_cons, List.drop_zero]
      refine AOPS.fcall (told_fc (j := 20000) (lpQ L L.length).1 (lpQ L L.length).2 b1 b2 (by omega)) rfl rfl rfl hb110 (by simp (disch := first|omega|(simp only[ln];omega)) [idf_Wd', g2, g4, Hz, Ho, idf_numI, cells_numI, numI_fold, rtA, rtC]) (by simp (disch := first|omega|(simp only[ln];omega)) [g2, g4, Hz, Ho]) (by simp) ?_
      simp only [puts_some, updo]
      refine AOPS.all (by simp (disch := first|omega|(simp only[ln];omega)) [idf_Wd', idf_numI, cells_numI, numI_fold, rtA, rtC, g2, g4, Hz, Ho]; rfl) ?_
      refine hK16 _ ?_
      refine AWP.ret ?_
      exact hK _ _ _ _ trivial ((Fin.mk (by simp (disch := omega) [aRes, aResL, aRes1, g2, idf_Wd', idf_numI, cells_numI, numI_fold, rtA, rtC]; try rfl)).cast (by rw [hok2]))

set_option maxHeartbeats 4000000 in
theorem areaS_fc (l : List Pt) (hg : ∀ p ∈ l, p.good = true) (hl : l.length ≤ 60) : FC Try.prog 141 [.isl (l.map l3c)] (l2A (areaQ l).1 (areaQ l).2) := by
  refine FC.body Try.func141 rfl (by simp [idfL, idf, idfLL_iff, l3c, l3C, idf_Wd']) (by simp [idfL, idf, l2A, l2C, idf_Wd']) 79 rfl fun nx K hK => ?_
  refine AWP.seqk fun K1 hK1 => ?_
  refine AWP.region (AOPS.all (by simp (disch := first|omega|(simp only[ln];omega)) [idf_Wd', idf_numS, cells_numS, numS_fold, l2A, l2C, l3A, l3C]; rfl) ?_)
  refine hK1 _ ?_
  refine AWP.seqk fun K2 hK2 => ?_
  refine AWP.region (AOPS.all (by simp (disch := first|omega|(simp only[ln];omega)) [idf_Wd', idf_numS, cells_numS, numS_fold, l2A, l2C, l3A, l3C]; rfl) ?_)
  refine hK2 _ ?_
  refine AWP.seqk fun K3 hK3 => ?_
  refine AWP.weakH (nx + 1) 2 [[.bool false, .nsl]] [[.bool (decide (0 < 0)), Wd .u32 (dg (0))]] (by simp) (fun _ _ _ _ h => nslc h) ?_
  refine AWP.region ?_
  refine AOPS.fcall (l1Int_fc 1 (by omega) (by omega)) rfl rfl rfl hb106 (by simp (disch := first|omega|(simp only[ln];omega)) [idf_Wd', idf_numS, cells_numS, numS_fold, l2A, l2C, l3A, l3C]) (by simp (disch := first|omega|(simp only[ln];omega))) (by simp) ?_
  simp only [puts_some, updo]
  refine AOPS.all (by simp (disch := first|omega|(simp only[ln];omega)) [idf_Wd', idf_numS, cells_numS, numS_fold, l2A, l2C, l3A, l3C]; rfl) ?_
  refine hK3 _ ?_
  refine AWP.seqk fun K4 hK4 => ?_
  refine AWP.seqk fun K5 hK5 => ?_
  refine AWP.region (AOPS.all (by simp (disch := first|omega|(simp only[ln];omega)) [idf_Wd', idf_numS, cells_numS, numS_fold, l2A, l2C, l3A, l3C]; rfl) ?_)
  refine hK5 _ ?_
  refine AWP.block ?_
  
  refine AWP.loop (fun N s => ∃ i : Nat, ∃ up : Int, ∃ down : Int, N = l.length - i ∧ i ≤ l.length ∧ (eqQ up down (arQ l i)) ∧ (Bg (6 * i + 1) up ∧ Bg (6 * i + 1) down) ∧ s.env 0 = .isl (l.map l3c) ∧ s.env 2 = .ptr nx 0 0 ∧ s.env 3 = .ptr (nx + 1) 0 0 ∧ s.env 4 = .ptr (nx + 1 + 1) 0 0 ∧ s.env 5 = .int .i64 (i : Int) ∧ s.heap nx = some (4, [[.bool false, .nsl, .bool false, .nsl]]) ∧ nx < s.nx ∧ s.heap (nx + 1) = some (2, [[.bool (decide (up < 0)), Wd .u32 (dg (up))]]) ∧ (nx + 1) < s.nx ∧ s.heap (nx + 1 + 1) = some (2, [[.bool (decide (down < 0)), Wd .u32 (dg (down))]]) ∧ (nx + 1 + 1) < s.nx ∧ s.nt = 79) (l.length) (⟨0, 0, 1, by omega, by omega, eqQ.one, ⟨Bg.i64 (by omega) (by omega), Bg.i64 (by omega) (by omega)⟩, by simp (disch := omega), by simp (disch := omega), by simp (disch := omega), by simp (disch := omega), by simp (disch := omega), by simp (disch := omega), by first | omega | (simp; done) | (simp; omega), by simp (disch := omega), by first | omega | (simp; done) | (simp; omega), by simp (disch := omega), by first | omega | (simp; done) | (simp; omega), rfl⟩) ?_
  rintro N ⟨e, H, mm, nt⟩ ⟨i, up, down, rfl, hi, heq, hbu, g0, g2, g3, g4, g5, Hz, xz, Hu, xu, Hd, xd, rfl⟩
  simp only [] at g0 g2 g3 g4 g5 Hz xz Hu xu Hd xd
  refine AWP.seqk fun K6 hK6 => ?_
  refine AWP.seqk fun K7 hK7 => ?_
  refine AWP.region (AOPS.all (by simp (disch := first|omega|(simp only[ln];omega)) [idf_Wd', idf_numS, cells_numS, numS_fold, l2A, l2C, l3A, l3C, g0, g5, List.length_map]; rfl) ?_)
  refine hK7 _ ?_
  refine cond_ok _ (by simp (disch := first|omega|(simp only[ln];omega)); rfl) (fun h20 => ?_) (fun h20 => ?_)
  · try simp only [decide_eq_true_eq, decide_eq_false_iff_not] at h20
    have hi' : i < l.length := by omega
    obtain ⟨j, hj⟩ : ∃ j : Nat, j = (i + 1) % l.length := ⟨_, rfl⟩
    have hjl : j < l.length := by rw [hj]; exact gpn_lt hi'
    have htm : Int.tmod ((i : Int) + 1) (l.length : Int) = (j : Int) := by rw [hj]; exact ltmod hi'
    have hne : ¬ l = [] := by intro h; rw [h] at hi'; simp at hi'
    have gpi := hg _ (gp_mem hi')
    have gqi := hg _ (gp_mem hjl)
    have hstep : arQ l (i + 1) = addQ (arQ l i) (ownQ (gp l i) (gp l j)) := by rw [hj]; rfl
    have bnd := arQ_bg hg i hi
    have red := arQ_red hg i hi
    have opos := ownQ_pos gpi gqi
    have ob := ownQ_bg gpi gqi
    have hbs := hbu
    have hst := heq.step (c := (gp l i).x.v * (gp l j).y.v - (gp l j).x.v * (gp l i).y.v) (w := (gp l i).w.v * (gp l j).w.v) red opos
    have hst2 : addQ (arQ l i) ((gp l i).x.v * (gp l j).y.v - (gp l j).x.v * (gp l i).y.v, (gp l i).w.v * (gp l j).w.v) = arQ l (i + 1) := hstep.symm
    rw [hst2] at hst
    have hat := l3c_at hi'
    have hat2 := l3c_at hjl
    generalize gp l i = p at *
    generalize gp l j = q at *
    obtain ⟨p1, p2, p3⟩ := good_bg gpi
    obtain ⟨q1, q2, q3⟩ := good_bg gqi
    have ob1 : Bg 5 (p.x.v * q.y.v - q.x.v * p.y.v) := ob.1
    have ob2 : Bg 5 (p.w.v * q.w.v) := ob.2
    have opos : 0 < p.w.v * q.w.v := opos
    have dpos := heq.1
    have ggp := gg_pos (u := down) (d := p.w.v * q.w.v) (by omega)
    have bu := hbu.1.le (k := 400) (by omega)
    have bd := hbu.2.le (k := 400) (by omega)
    have bw := ob2.le (k := 400) (by omega)
    have bgg := gg_bg bd bw
    have bk := ob2.div ggp
    have bm := hbu.2.div ggp
    have hbn : Bg (6 * (i + 1) + 1) (up * (p.w.v * q.w.v / gg down (p.w.v * q.w.v)) + (p.x.v * q.y.v - q.x.v * p.y.v) * (down / gg down (p.w.v * q.w.v))) ∧ Bg (6 * (i + 1) + 1) (down * (p.w.v * q.w.v / gg down (p.w.v * q.w.v))) := ⟨((hbu.1.mul bk).add (ob1.mul bm)).le (by omega), (hbu.2.mul bk).le (by omega)⟩
    have cg : FC Try.prog 169 [numS down, numS (p.w.v * q.w.v)] (numS (gg down (p.w.v * q.w.v))) := l1Gcd_fc (j := 400) down (p.w.v * q.w.v) bd bw (by omega)
    have c9 : FC Try.prog 105 [numS p.y.v, numS q.x.v] (numS (q.x.v * p.y.v)) := by rw [Int.mul_comm]; exact l1Mul_fc p2 q1 (by omega) (by omega)
    have cd1 := l1Div_fc (j := 400) (p.w.v * q.w.v) (gg down (p.w.v * q.w.v)) (by omega) bw bgg (by omega)
    have cd2 := l1Div_fc (j := 400) down (gg down (p.w.v * q.w.v)) (by omega) bd bgg (by omega)
    generalize p.w.v * q.w.v / gg down (p.w.v * q.w.v) = kk at *
    generalize down / gg down (p.w.v * q.w.v) = m0 at *
    refine AWP.skip ?_
    refine hK6 _ ?_
    refine AWP.seqk fun K8 hK8 => ?_
    refine AWP.block ?_
    refine AWP.seqk fun K9 hK9 => ?_
    refine AWP.region (AOPS.all (by simp (disch := first|omega|(simp only[ln];omega)) [if_pos, idf_Wd', idf_numS, cells_numS, numS_fold, l2A, l2C, l3A, l3C, g0, g5, hat, List.length_map]; rfl) ?_)
    refine hK9 _ ?_
    refine AWP.seqk fun K10 hK10 => ?_
    refine AWP.region (AOPS.all (by simp (disch := first|omega|(simp only[ln];omega)) [if_pos, idf_Wd', idf_numS, cells_numS, numS_fold, l2A, l2C, l3A, l3C, g0, g5, htm, hne, hat2, List.length_map]; rfl) ?_)
    refine hK10 _ ?_
    refine AWP.seqk fun K11 hK11 => ?_
    refine AWP.region ?_
    refine AOPS.runk 4 (by simp (disch := first|omega|(simp only[ln];omega)) [List.take_succ_cons, List.take_zero, idf_Wd', idf_numS, cells_numS, numS_fold, l2A, l2C, l3A, l3C]; rfl) ?_
    simp only [List.drop_succ_cons, List.drop_zero]
    refine AOPS.fcall (l1Mul_fc p3 q3 (by omega) (by omega)) rfl rfl rfl hb105 (by simp (disch := first|omega|(simp only[ln];omega)) [idf_Wd', idf_numS, cells_numS, numS_fold, l2A, l2C, l3A, l3C]) (by simp (disch := first|omega|(simp only[ln];omega))) (by simp) ?_
    simp only [puts_some, updo]
    refine AOPS.all (by simp (disch := first|omega|(simp only[ln];omega)) [idf_Wd', idf_numS, cells_numS, numS_fold, l2A, l2C, l3A, l3C]; rfl) ?_
    refine hK11 _ ?_
    refine AWP.seqk fun K12 hK12 => ?_
    refine AWP.draw 12 Try.checked.mixed (by kernel_rfl) (by simp) ?_
    simp only [List.take_succ_cons, List.take_zero, List.drop_succ_cons, List.drop_zero]
    refine DP.runFk 4 (by simp (disch := first|omega|(simp only[ln];omega)) [runDf.eq_def, runF1, runF2, stepF.eq_def, updo.eq_def, hupo.eq_def, opSto1.eq_def, List.take_succ_cons, List.take_zero, idf_Wd', idf_numS, cells_numS, numS_fold, l2A, l2C, l3A, l3C]; rfl) fun fs13 hfs13 => ?_
    replace hfs13 : fs13.length = 4 := hfs13.trans rfl
    simp only [List.drop_succ_cons, List.drop_zero]
    refine DP.fcall (l1Mul_fc p1 q2 (by omega) (by omega)) rfl rfl rfl hb105 (by simp (disch := first|omega|(simp only[ln];omega)) [idf_Wd', idf_numS, cells_numS, numS_fold, l2A, l2C, l3A, l3C]) (by simp (disch := first|omega|(simp only[ln];omega))) (by simp) ?_
    simp only [updo]
    refine DP.runFk 4 (by simp (disch := first|omega|(simp only[ln];omega)) [runDf.eq_def, runF1, runF2, stepF.eq_def, updo.eq_def, hupo.eq_def, opSto1.eq_def, List.take_succ_cons, List.take_zero, idf_Wd', idf_numS, cells_numS, numS_fold, l2A, l2C, l3A, l3C]; rfl) fun fs14 hfs14 => ?_
    replace hfs14 : fs14.length = 4 := hfs14.trans rfl
    simp only [List.drop_succ_cons, List.drop_zero]
    refine DP.fcall (c9) rfl rfl rfl hb105 (by simp (disch := first|omega|(simp only[ln];omega)) [idf_Wd', idf_numS, cells_numS, numS_fold, l2A, l2C, l3A, l3C]) (by simp (disch := first|omega|(simp only[ln];omega))) (by simp) ?_
    simp only [updo]
    refine DP.fcall (l1Sub_fc (p1.mul q2) (q1.mul p2) (by omega) (by omega)) rfl rfl rfl hb202 (by simp (disch := first|omega|(simp only[ln];omega)) [idf_Wd', idf_numS, cells_numS, numS_fold, l2A, l2C, l3A, l3C]) (by simp (disch := first|omega|(simp only[ln];omega))) (by simp) ?_
    simp only [updo]
    refine DP.runFk 1 (by simp (disch := first|omega|(simp only[ln];omega)) [runDf.eq_def, runF1, runF2, stepF.eq_def, updo.eq_def, hupo.eq_def, opSto1.eq_def, List.take_succ_cons, List.take_zero, idf_Wd', idf_numS, cells_numS, numS_fold, l2A, l2C, l3A, l3C]; rfl) fun fs15 hfs15 => ?_
    replace hfs15 : fs15.length = 1 := hfs15.trans rfl
    simp only [List.drop_succ_cons, List.drop_zero]
    refine DQ.runF (m := 12) (by simp only [List.length_append, List.length_cons, List.length_nil, hfs13, hfs14, hfs15]; omega) _ _ _ (by kernel_rfl) rfl (by simp (disch := first|omega|(simp only[ln];omega)) [runDf.eq_def, runF1, runF2, stepF.eq_def, updo.eq_def, hupo.eq_def, opSto1.eq_def, idf_Wd', idf_numS, cells_numS, numS_fold, l2A, l2C, l3A, l3C]; rfl) ?_
    refine hK12 _ ?_
    refine AWP.seqk fun K16 hK16 => ?_
    refine AWP.region ?_
    refine AOPS.runk 2 (by simp (disch := first|omega|(simp only[ln];omega)) [List.take_succ_cons, List.take_zero, idf_Wd', idf_numS, cells_numS, numS_fold, l2A, l2C, l3A, l3C, g4, Hd]; rfl) ?_
    simp only [List.drop_succ_cons, List.drop_zero]
    refine AOPS.fcall (cg) rfl rfl rfl hb169 (by simp (disch := first|omega|(simp only[ln];omega)) [idf_Wd', g4, Hd, idf_numS, cells_numS, numS_fold, l2A, l2C, l3A, l3C]) (by simp (disch := first|omega|(simp only[ln];omega)) [g4, Hd]) (by simp) ?_
    simp only [puts_some, updo]
    refine AOPS.all (by simp (disch := first|omega|(simp only[ln];omega)) [idf_Wd', idf_numS, cells_numS, numS_fold, l2A, l2C, l3A, l3C, g4, Hd]; rfl) ?_
    refine hK16 _ ?_
    refine AWP.seqk fun K17 hK17 => ?_
    refine AWP.region ?_
    refine AOPS.runk 2 (by simp (disch := first|omega|(simp only[ln];omega)) [List.take_succ_cons, List.take_zero, idf_Wd', idf_numS, cells_numS, numS_fold, l2A, l2C, l3A, l3C]; rfl) ?_
    simp only [List.drop_succ_cons, List.drop_zero]
    refine AOPS.fcall (cd1) rfl rfl rfl hb194 (by simp (disch := first|omega|(simp only[ln];omega)) [idf_Wd', idf_numS, cells_numS, numS_fold, l2A, l2C, l3A, l3C]) (by simp (disch := first|omega|(simp only[ln];omega))) (by simp) ?_
    simp only [puts_some, updo]
    refine AOPS.all (by simp (disch := first|omega|(simp only[ln];omega)) [idf_Wd', idf_numS, cells_numS, numS_fold, l2A, l2C, l3A, l3C]; rfl) ?_
    refine hK17 _ ?_
    refine AWP.seqk fun K18 hK18 => ?_
    refine AWP.region ?_
    refine AOPS.runk 2 (by simp (disch := first|omega|(simp only[ln];omega)) [List.take_succ_cons, List.take_zero, idf_Wd', idf_numS, cells_numS, numS_fold, l2A, l2C, l3A, l3C, g4, Hd]; rfl) ?_
    simp only [List.drop_succ_cons, List.drop_zero]
    refine AOPS.fcall (cd2) rfl rfl rfl hb194 (by simp (disch := first|omega|(simp only[ln];omega)) [idf_Wd', g4, Hd, idf_numS, cells_numS, numS_fold, l2A, l2C, l3A, l3C]) (by simp (disch := first|omega|(simp only[ln];omega)) [g4, Hd]) (by simp) ?_
    simp only [puts_some, updo]
    refine AOPS.all (by simp (disch := first|omega|(simp only[ln];omega)) [idf_Wd', idf_numS, cells_numS, numS_fold, l2A, l2C, l3A, l3C, g4, Hd]; rfl) ?_
    refine hK18 _ ?_
    refine AWP.seqk fun K19 hK19 => ?_
    refine AWP.draw 7 Try.checked.mixed (by kernel_rfl) (by simp) ?_
    simp only [List.take_succ_cons, List.take_zero, List.drop_succ_cons, List.drop_zero]
    refine DP.runFk 2 (by simp (disch := first|omega|(simp only[ln];omega)) [runDf.eq_def, runF1, runF2, stepF.eq_def, updo.eq_def, hupo.eq_def, opSto1.eq_def, List.take_succ_cons, List.take_zero, idf_Wd', idf_numS, cells_numS, numS_fold, l2A, l2C, l3A, l3C, g3, Hu]; rfl) fun fs20 hfs20 => ?_
    replace hfs20 : fs20.length = 2 := hfs20.trans rfl
    simp only [List.drop_succ_cons, List.drop_zero]
    refine DP.fcall (l1Mul_fc bu bk (by omega) (by omega)) rfl rfl rfl hb105 (by simp (disch := first|omega|(simp only[ln];omega)) [idf_Wd', g3, Hu, idf_numS, cells_numS, numS_fold, l2A, l2C, l3A, l3C]) (by simp (disch := first|omega|(simp only[ln];omega)) [g3, Hu]) (by simp) ?_
    simp only [updo]
    refine DP.runFk 2 (by simp (disch := first|omega|(simp only[ln];omega)) [runDf.eq_def, runF1, runF2, stepF.eq_def, updo.eq_def, hupo.eq_def, opSto1.eq_def, List.take_succ_cons, List.take_zero, idf_Wd', idf_numS, cells_numS, numS_fold, l2A, l2C, l3A, l3C, g3, Hu]; rfl) fun fs21 hfs21 => ?_
    replace hfs21 : fs21.length = 2 := hfs21.trans rfl
    simp only [List.drop_succ_cons, List.drop_zero]
    refine DP.fcall (l1Mul_fc ob1 bm (by omega) (by omega)) rfl rfl rfl hb105 (by simp (disch := first|omega|(simp only[ln];omega)) [idf_Wd', g3, Hu, idf_numS, cells_numS, numS_fold, l2A, l2C, l3A, l3C]) (by simp (disch := first|omega|(simp only[ln];omega)) [g3, Hu]) (by simp) ?_
    simp only [updo]
    refine DP.fcall (l1Add_fc (bu.mul bk) (ob1.mul bm) (by omega) (by omega)) rfl rfl rfl hb104 (by simp (disch := first|omega|(simp only[ln];omega)) [idf_Wd', g3, Hu, idf_numS, cells_numS, numS_fold, l2A, l2C, l3A, l3C]) (by simp (disch := first|omega|(simp only[ln];omega)) [g3, Hu]) (by simp) ?_
    simp only [updo]
    refine DQ.runF (m := 7) (by simp only [List.length_append, List.length_cons, List.length_nil, hfs20, hfs21]; omega) _ _ _ (by kernel_rfl) rfl (by simp (disch := first|omega|(simp only[ln];omega)) [runDf.eq_def, runF1, runF2, stepF.eq_def, updo.eq_def, hupo.eq_def, opSto1.eq_def, idf_Wd', idf_numS, cells_numS, numS_fold, l2A, l2C, l3A, l3C, g3, Hu]; rfl) ?_
    refine hK19 _ ?_
    refine AWP.region ?_
    refine AOPS.runk 2 (by simp (disch := first|omega|(simp only[ln];omega)) [List.take_succ_cons, List.take_zero, idf_Wd', idf_numS, cells_numS, numS_fold, l2A, l2C, l3A, l3C, g4, Hd]; rfl) ?_
    simp only [List.drop_succ_cons, List.drop_zero]
    refine AOPS.fcall (l1Mul_fc bd bk (by omega) (by omega)) rfl rfl rfl hb105 (by simp (disch := first|omega|(simp only[ln];omega)) [idf_Wd', g4, Hd, idf_numS, cells_numS, numS_fold, l2A, l2C, l3A, l3C]) (by simp (disch := first|omega|(simp only[ln];omega)) [g4, Hd]) (by simp) ?_
    simp only [puts_some, updo]
    refine AOPS.all (by simp (disch := first|omega|(simp only[ln];omega)) [idf_Wd', idf_numS, cells_numS, numS_fold, l2A, l2C, l3A, l3C, g4, Hd]; rfl) ?_
    refine hK8 _ ?_
    refine AWP.region (AOPS.all (by simp (disch := first|omega|(simp only[ln];omega)) [idf_Wd', idf_numS, cells_numS, numS_fold, l2A, l2C, l3A, l3C, g5]; rfl) ?_)
    refine ⟨l.length - (i + 1), by omega, i + 1, _, _, rfl, by omega, hst, hbn, by simp (disch := omega) [g0, g2, g3, g4, g5, Hz, Hu, Hd], by simp (disch := omega) [g0, g2, g3, g4, g5, Hz, Hu, Hd], by simp (disch := omega) [g0, g2, g3, g4, g5, Hz, Hu, Hd], by simp (disch := omega) [g0, g2, g3, g4, g5, Hz, Hu, Hd], by simp (disch := omega) [g0, g2, g3, g4, g5, Hz, Hu, Hd], by simp (disch := omega) [g0, g2, g3, g4, g5, Hz, Hu, Hd], by first | omega | (simp; done) | (simp; omega), by simp (disch := omega) [g0, g2, g3, g4, g5, Hz, Hu, Hd], by first | omega | (simp; done) | (simp; omega), by simp (disch := omega) [g0, g2, g3, g4, g5, Hz, Hu, Hd], by first | omega | (simp; done) | (simp; omega), rfl⟩
  · try simp only [decide_eq_true_eq, decide_eq_false_iff_not] at h20
    have hin : i = l.length := by omega
    subst hin
    have red := arQ_red hg _ hi
    obtain ⟨e1, e2⟩ := heq.low red
    have dpos := heq.1
    have cm := l2Make_fc (j := 361) up down (by omega) (hbu.1.le (by omega)) (hbu.2.le (by omega)) (by omega) (by omega)
    rw [e1, e2] at cm
    refine AWP.exit ?_
    refine hK4 _ ?_
    refine AWP.seqk fun K22 hK22 => ?_
    refine AWP.region ?_
    refine AOPS.runk 2 (by simp (disch := first|omega|(simp only[ln];omega)) [List.take_succ_cons, List.take_zero, idf_Wd', idf_numS, cells_numS, numS_fold, l2A, l2C, l3A, l3C, g2, g3, g4, Hz, Hu, Hd]; rfl) ?_
    simp only [List.drop_succ_cons, List.drop_zero]
    refine AOPS.fcall (cm) rfl rfl rfl hb203 (by simp (disch := first|omega|(simp only[ln];omega)) [idf_Wd', g2, g3, g4, Hz, Hu, Hd, idf_numS, cells_numS, numS_fold, l2A, l2C, l3A, l3C]) (by simp (disch := first|omega|(simp only[ln];omega)) [g2, g3, g4, Hz, Hu, Hd]) (by simp) ?_
    simp only [puts_some, updo]
    refine AOPS.all (by simp (disch := first|omega|(simp only[ln];omega)) [idf_Wd', idf_numS, cells_numS, numS_fold, l2A, l2C, l3A, l3C, g2, g3, g4, Hz, Hu, Hd]; rfl) ?_
    refine hK22 _ ?_
    refine AWP.ret ?_
    exact hK _ _ _ _ trivial ((Fin.mk (by simp (disch := omega) [aRes, aResL, aRes1, g2, idf_Wd', idf_numS, cells_numS, numS_fold, l2A, l2C, l3A, l3C]; try rfl)).cast (by rfl))

set_option maxHeartbeats 4000000 in
theorem loopsArea2S_fc (L : List (List Pt)) (hL : ∀ l ∈ L, ∀ p ∈ l, p.ok) (hl : L.length ≤ 1099511627776) (hl2 : ∀ l ∈ L, l.length ≤ 1099511627776) : FC Try.prog 60 [lsA L] (.tup [.agg [.int .u64 ((laF L).1).up.a, .int .u64 ((laF L).1).up.b, .int .u64 ((laF L).1).up.c, .int .u64 ((laF L).1).up.d, .int .u64 ((laF L).1).down.a, .int .u64 ((laF L).1).down.b, .int .u64 ((laF L).1).down.c, .int .u64 ((laF L).1).down.d], .bool (laF L).2]) := by
  refine FC.body Try.func60 rfl (by simp [idfL, idf, idfLL_iff, lsA, ltC, Pt.av, Pt.cells]) (by simp [idfL, idf, idfLL_iff, idf_Wd', idf_numS, cells_numS, numS_fold, Pt.av, Pt.cells, l2A, l2C, l3A, l3C]) 59 rfl fun nx K hK => ?_
  refine AWP.seqk fun K1 hK1 => ?_
  refine AWP.region (AOPS.all (by simp (disch := first|omega|(simp only[ln];omega)) [idf_Wd', idf_numS, cells_numS, numS_fold, Pt.av, Pt.cells, l2A, l2C, l3A, l3C]; rfl) ?_)
  refine hK1 _ ?_
  refine AWP.seqk fun K2 hK2 => ?_
  refine AWP.seqk fun K3 hK3 => ?_
  refine AWP.region ?_
  refine AOPS.runk 1 (by simp (disch := first|omega|(simp only[ln];omega)) [List.take_succ_cons, List.take_zero, idf_Wd', idf_numS, cells_numS, numS_fold, Pt.av, Pt.cells, l2A, l2C, l3A, l3C]; rfl) ?_
  simp only [List.drop_succ_cons, List.drop_zero]
  refine AOPS.fcall (loopsOkS_fc L hL hl hl2) rfl rfl rfl hb139 (by simp (disch := first|omega|(simp only[ln];omega)) [idf_Wd', idf_numS, cells_numS, numS_fold, Pt.av, Pt.cells, l2A, l2C, l3A, l3C]) (by simp (disch := first|omega|(simp only[ln];omega))) (by simp) ?_
  simp only [puts_some, updo]
  refine AOPS.all (by simp (disch := first|omega|(simp only[ln];omega)) [idf_Wd', idf_numS, cells_numS, numS_fold, Pt.av, Pt.cells, l2A, l2C, l3A, l3C]; rfl) ?_
  refine hK3 _ ?_
  refine cond_ok (!lOk L) (by simp (disch := first|omega|(simp only[ln];omega))) (fun h10 => ?_) (fun h10 => ?_)
  · try simp only [decide_eq_true_eq, decide_eq_false_iff_not] at h10
    have hb : lOk L = false := by simpa using h10
    refine AWP.seqk fun K4 hK4 => ?_
    refine AWP.region (AOPS.all (by simp (disch := first|omega|(simp only[ln];omega)) [idf_Wd', idf_numS, cells_numS, numS_fold, Pt.av, Pt.cells, l2A, l2C, l3A, l3C]; rfl) ?_)
    refine hK4 _ ?_
    refine AWP.ret ?_
    exact hK _ _ _ _ trivial ((Fin.mk (by simp (disch := omega) [aRes, aResL, aRes1, idf_Wd', idf_numS, cells_numS, numS_fold, Pt.av, Pt.cells, l2A, l2C, l3A, l3C]; try rfl)).cast (by rw [laF_bad hb]; rfl))
  · try simp only [decide_eq_true_eq, decide_eq_false_iff_not] at h10
    have hok : lOk L = true := by simpa using h10
    have hgd := lOk_good hok
    have hL40 : L.length ≤ 40 := by unfold lOk at hok; simp only [Bool.and_eq_true, decide_eq_true_eq] at hok; exact hok.1
    refine AWP.skip ?_
    refine hK2 _ ?_
    refine AWP.seqk fun K5 hK5 => ?_
    refine AWP.region ?_
    refine AOPS.fcall (l1Int_fc 1 (by omega) (by omega)) rfl rfl rfl hb106 (by simp (disch := first|omega|(simp only[ln];omega)) [idf_Wd', idf_numS, cells_numS, numS_fold, Pt.av, Pt.cells, l2A, l2C, l3A, l3C]) (by simp (disch := first|omega|(simp only[ln];omega))) (by simp) ?_
    simp only [puts_some, updo]
    refine AOPS.all (by simp (disch := first|omega|(simp only[ln];omega)) [idf_Wd', idf_numS, cells_numS, numS_fold, Pt.av, Pt.cells, l2A, l2C, l3A, l3C]; rfl) ?_
    refine hK5 _ ?_
    refine AWP.seqk fun K6 hK6 => ?_
    refine AWP.seqk fun K7 hK7 => ?_
    refine AWP.weakH (nx + 1) 4 [[.bool false, .nsl, .bool (decide ((1 : Int) < 0)), Wd .u32 (dg 1)]] [[.bool (decide (0 < 0)), Wd .u32 (dg (0)), .bool (decide (1 < 0)), Wd .u32 (dg (1))]] (by simp) (fun _ _ _ _ h => nslr h) ?_
    refine AWP.region (AOPS.all (by simp (disch := first|omega|(simp only[ln];omega)) [idf_Wd', idf_numS, cells_numS, numS_fold, Pt.av, Pt.cells, l2A, l2C, l3A, l3C]; rfl) ?_)
    refine hK7 _ ?_
    refine AWP.block ?_
    
    refine AWP.loop (fun N s => ∃ i : Nat, N = L.length - i ∧ i ≤ L.length ∧ (∀ j, j < i → (gL L j).length ≤ 60) ∧ s.env 0 = lsA L ∧ s.env 2 = .ptr nx 0 0 ∧ s.env 4 = .ptr (nx + 1) 0 0 ∧ s.env 5 = .int .i64 (i : Int) ∧ s.heap nx = some (8, [[.int .u64 0, .int .u64 0, .int .u64 0, .int .u64 0, .int .u64 0, .int .u64 0, .int .u64 0, .int .u64 0]]) ∧ nx < s.nx ∧ s.heap (nx + 1) = some (4, [[.bool (decide ((lpQ L i).1 < 0)), Wd .u32 (dg ((lpQ L i).1)), .bool (decide ((lpQ L i).2 < 0)), Wd .u32 (dg ((lpQ L i).2))]]) ∧ (nx + 1) < s.nx ∧ s.nt = 59) (L.length) (⟨0, by omega, by omega, fun j h => by omega, by simp (disch := omega) [lsA, lpQ], by simp (disch := omega) [lsA, lpQ], by simp (disch := omega) [lsA, lpQ], by simp (disch := omega) [lsA, lpQ], by simp (disch := omega) [lsA, lpQ], by first | omega | (simp; done) | (simp; omega), by simp (disch := omega) [lsA, lpQ], by first | omega | (simp; done) | (simp; omega), rfl⟩) ?_
    rintro N ⟨e, H, mm, nt⟩ ⟨i, rfl, hi, hsm, g0, g2, g4, g5, Hz, xz, Ho, xo, rfl⟩
    simp only [] at g0 g2 g4 g5 Hz xz Ho xo
    refine AWP.seqk fun K8 hK8 => ?_
    refine AWP.seqk fun K9 hK9 => ?_
    refine AWP.region (AOPS.all (by simp (disch := first|omega|(simp only[ln];omega)) [idf_Wd', idf_numS, cells_numS, numS_fold, Pt.av, Pt.cells, l2A, l2C, l3A, l3C, g0, g5, lsA, List.length_map]; rfl) ?_)
    refine hK9 _ ?_
    refine cond_ok _ (by simp (disch := first|omega|(simp only[ln];omega)); rfl) (fun h17 => ?_) (fun h17 => ?_)
    · try simp only [decide_eq_true_eq, decide_eq_false_iff_not] at h17
      have hi' : i < L.length := by omega
      have hmi : (L.map ltC)[i]? = some [.isl ((gL L i).map Pt.cells)] := by rw [List.getElem?_map, gL_get hi']; rfl
      have hmem := gL_mem hi'
      have hlo := hL _ hmem
      have hlg := hgd _ hmem
      refine AWP.skip ?_
      refine hK8 _ ?_
      refine AWP.seqk fun K10 hK10 => ?_
      refine AWP.block ?_
      refine AWP.seqk fun K11 hK11 => ?_
      refine AWP.seqk fun K12 hK12 => ?_
      refine AWP.region (AOPS.all (by simp (disch := first|omega|(simp only[ln];omega)) [if_pos, idf_Wd', idf_numS, cells_numS, numS_fold, Pt.av, Pt.cells, l2A, l2C, l3A, l3C, g0, g5, lsA, hmi, List.length_map]; rfl) ?_)
      refine hK12 _ ?_
      refine cond_ok (decide (60 < ((gL L i).length : Int))) (by simp (disch := first|omega|(simp only[ln];omega))) (fun h26 => ?_) (fun h26 => ?_)
      · try simp only [decide_eq_true_eq, decide_eq_false_iff_not] at h26
        refine AWP.seqk fun K13 hK13 => ?_
        refine AWP.region (AOPS.all (by simp (disch := first|omega|(simp only[ln];omega)) [idf_Wd', idf_numS, cells_numS, numS_fold, Pt.av, Pt.cells, l2A, l2C, l3A, l3C, g2, Hz]; rfl) ?_)
        refine hK13 _ ?_
        refine AWP.ret ?_
        exact hK _ _ _ _ trivial ((Fin.mk (by simp (disch := omega) [aRes, aResL, aRes1, g2, idf_Wd', idf_numS, cells_numS, numS_fold, Pt.av, Pt.cells, l2A, l2C, l3A, l3C]; try rfl)).cast (by rw [laF_long hi' (by omega)]; rfl))
      · try simp only [decide_eq_true_eq, decide_eq_false_iff_not] at h26
        have hls : (gL L i).length ≤ 60 := by omega
        have hm1 : ∀ j, j < i + 1 → (gL L j).length ≤ 60 := fun j h => by
          rcases Nat.lt_succ_iff_lt_or_eq.1 h with h | h
          · exact hsm j h
          · rw [h]; exact hls
        have bnd := lpQ_bg hgd i hi hsm
        have red := lpQ_red hgd i hi
        have abd := areaQ_bg hlg hls
        have apos := areaQ_pos hlg
        have hi4 : i ≤ 40 := by omega
        have hs1 : (lpQ L (i + 1)).1 = lowU ((lpQ L i).1 * (areaQ (gL L i)).2 + (areaQ (gL L i)).1 * (lpQ L i).2) ((lpQ L i).2 * (areaQ (gL L i)).2) := rfl
        have hs2 : (lpQ L (i + 1)).2 = lowD ((lpQ L i).1 * (areaQ (gL L i)).2 + (areaQ (gL L i)).1 * (lpQ L i).2) ((lpQ L i).2 * (areaQ (gL L i)).2) := rfl
        have hnz : (lpQ L i).2 * (areaQ (gL L i)).2 ≠ 0 := Int.mul_ne_zero (by have := red.1; omega) (by omega)
        have b1 := bnd.1.le (k := 20000) (by omega)
        have b2 := bnd.2.le (k := 20000) (by omega)
        have a1 := abd.1.le (k := 20000) (by omega)
        have a2 := abd.2.le (k := 20000) (by omega)
        have ca := areaS_fc (gL L i) hlg hls
        refine AWP.skip ?_
        refine hK11 _ ?_
        refine AWP.seqk fun K14 hK14 => ?_
        refine AWP.region (AOPS.all (by simp (disch := first|omega|(simp only[ln];omega)) [idf_Wd', idf_numS, cells_numS, numS_fold, Pt.av, Pt.cells, l2A, l2C, l3A, l3C]; rfl) ?_)
        refine hK14 _ ?_
        refine AWP.seqk fun K15 hK15 => ?_
        refine AWP.seqk fun K16 hK16 => ?_
        refine AWP.region (AOPS.all (by simp (disch := first|omega|(simp only[ln];omega)) [idf_Wd', idf_numS, cells_numS, numS_fold, Pt.av, Pt.cells, l2A, l2C, l3A, l3C]; rfl) ?_)
        refine hK16 _ ?_
        refine AWP.block ?_
        
        refine AWP.loop (fun N s => ∃ k : Nat, ∃ id : Nat, N = (gL L i).length - k ∧ k ≤ (gL L i).length ∧ (nx + 1 < id) ∧ s.env 0 = lsA L ∧ s.env 2 = .ptr nx 0 0 ∧ s.env 4 = .ptr (nx + 1) 0 0 ∧ s.env 5 = .int .i64 (i : Int) ∧ s.env 6 = .osl id 0 k ∧ s.env 7 = .int .i64 (k : Int) ∧ s.heap nx = some (8, [[.int .u64 0, .int .u64 0, .int .u64 0, .int .u64 0, .int .u64 0, .int .u64 0, .int .u64 0, .int .u64 0]]) ∧ nx < s.nx ∧ s.heap (nx + 1) = some (4, [[.bool (decide ((lpQ L i).1 < 0)), Wd .u32 (dg ((lpQ L i).1)), .bool (decide ((lpQ L i).2 < 0)), Wd .u32 (dg ((lpQ L i).2))]]) ∧ (nx + 1) < s.nx ∧ s.heap id = some (6, ((gL L i).take k).map l3c) ∧ id < s.nx ∧ s.nt = 59) ((gL L i).length) (⟨0, mm, by omega, by omega, by omega, by simp (disch := omega) [g0, g2, g4, g5, Hz, Ho], by simp (disch := omega) [g0, g2, g4, g5, Hz, Ho], by simp (disch := omega) [g0, g2, g4, g5, Hz, Ho], by simp (disch := omega) [g0, g2, g4, g5, Hz, Ho], by simp (disch := omega) [g0, g2, g4, g5, Hz, Ho], by simp (disch := omega) [g0, g2, g4, g5, Hz, Ho], by simp (disch := omega) [g0, g2, g4, g5, Hz, Ho], by first | omega | (simp; done) | (simp; omega), by simp (disch := omega) [g0, g2, g4, g5, Hz, Ho], by first | omega | (simp; done) | (simp; omega), by simp (disch := omega) [g0, g2, g4, g5, Hz, Ho], by first | omega | (simp; done) | (simp; omega), rfl⟩) ?_
        clear g0 g2 g4 g5 Hz Ho
        rintro N ⟨e, H, mm, nt⟩ ⟨k, id, rfl, hk, hid, g0, g2, g4, g5, g6, g7, Hz, xz, Ho, xo, Hp, xp, rfl⟩
        simp only [] at g0 g2 g4 g5 g6 g7 Hz xz Ho xo Hp xp
        refine AWP.seqk fun K17 hK17 => ?_
        refine AWP.seqk fun K18 hK18 => ?_
        refine AWP.region (AOPS.all (by simp (disch := first|omega|(simp only[ln];omega)) [if_pos, idf_Wd', idf_numS, cells_numS, numS_fold, Pt.av, Pt.cells, l2A, l2C, l3A, l3C, g0, g5, g7, lsA, hmi, List.length_map]; rfl) ?_)
        refine hK18 _ ?_
        refine cond_ok _ (by simp (disch := first|omega|(simp only[ln];omega)); rfl) (fun h36 => ?_) (fun h36 => ?_)
        · try simp only [decide_eq_true_eq, decide_eq_false_iff_not] at h36
          have hk' : k < (gL L i).length := by omega
          have hatk := pt_at hk'
          have hpok := hlo _ (gp_mem hk')
          have hst := l3c_take hk'
          have htk : ((gL L i).take k).length = k := by rw [List.length_take]; omega
          have hc1 : k ≤ min k (gL L i).length := by omega
          have hc0 : k ≤ (gL L i).length := by omega
          have hc2 : (k + 1) * 96 ≤ 140737488355328 := by omega
          have hc3 : k ≤ 9223372036854775806 := by omega
          refine AWP.skip ?_
          refine hK17 _ ?_
          refine AWP.seqk fun K19 hK19 => ?_
          refine AWP.block ?_
          refine AWP.region ?_
          refine AOPS.runk 9 (by simp (disch := first|omega|(simp only[ln];omega)) [List.take_succ_cons, List.take_zero, if_pos, idf_Wd', idf_numS, cells_numS, numS_fold, Pt.av, Pt.cells, l2A, l2C, l3A, l3C, g0, g5, g6, g7, Hp, lsA, hmi, hatk, htk, hc0, hc1, hc2, hc3, List.length_map]; rfl) ?_
          simp only [List.drop_succ_cons, List.drop_zero]
          refine AOPS.fcall (l3Of_fc (gp (gL L i) k) hpok) rfl rfl rfl hb83 (by simp (disch := first|omega|(simp only[ln];omega)) [idf_Wd', g0, g5, g6, g7, Hp, lsA, hmi, hatk, htk, hc0, hc1, hc2, hc3, List.length_map, idf_numS, cells_numS, numS_fold, Pt.av, Pt.cells, l2A, l2C, l3A, l3C]) (by simp (disch := first|omega|(simp only[ln];omega)) [g0, g5, g6, g7, Hp, lsA, hmi, hatk, htk, hc0, hc1, hc2, hc3, List.length_map]) (by simp) ?_
          simp only [puts_some, updo]
          refine AOPS.runk 1 (by simp (disch := first|omega|(simp only[ln];omega)) [List.take_succ_cons, List.take_zero, if_pos, idf_Wd', idf_numS, cells_numS, numS_fold, Pt.av, Pt.cells, l2A, l2C, l3A, l3C, g0, g5, g6, g7, Hp, lsA, hmi, hatk, htk, hc0, hc1, hc2, hc3, List.length_map]; rfl) ?_
          simp only [List.drop_succ_cons, List.drop_zero]
          refine AOPS.opapp (by simp (disch := first|omega|(simp only[ln];omega)) [opApp.eq_def, aSrc_isl, aSrc_osl, aSrc_nsl, aSrc_int, wd_app, wd_app2, if_pos, wd_append, wd_take, wd_drop, List.nil_append, idf_Wd', idf_numS, cells_numS, numS_fold, Pt.av, Pt.cells, l2A, l2C, l3A, l3C, g0, g5, g6, g7, Hp, lsA, hmi, hatk, htk, hc0, hc1, hc2, hc3, List.length_map, src_Wd' (P := Try.prog) elT176]; first | rfl | exact ⟨rfl, rfl⟩ | exact ⟨rfl, rfl, rfl⟩) (by simp) (by simp) ?_
          simp only [puts_some, hdrop]
          refine AOPS.all (by simp (disch := first|omega|(simp only[ln];omega)) [if_pos, idf_Wd', idf_numS, cells_numS, numS_fold, Pt.av, Pt.cells, l2A, l2C, l3A, l3C, g0, g5, g6, g7, Hp, lsA, hmi, hatk, htk, hc0, hc1, hc2, hc3, List.length_map]; rfl) ?_
          refine hK19 _ ?_
          refine AWP.region (AOPS.all (by simp (disch := first|omega|(simp only[ln];omega)) [idf_Wd', idf_numS, cells_numS, numS_fold, Pt.av, Pt.cells, l2A, l2C, l3A, l3C, g7]; rfl) ?_)
          refine ⟨(gL L i).length - (k + 1), by omega, k + 1, mm + 1, rfl, by omega, by omega, by simp (disch := omega) [g0, g2, g4, g5, g6, g7, Hz, Ho, Hp, hst, List.take_take], by simp (disch := omega) [g0, g2, g4, g5, g6, g7, Hz, Ho, Hp, hst, List.take_take], by simp (disch := omega) [g0, g2, g4, g5, g6, g7, Hz, Ho, Hp, hst, List.take_take], by simp (disch := omega) [g0, g2, g4, g5, g6, g7, Hz, Ho, Hp, hst, List.take_take], by simp (disch := omega) [g0, g2, g4, g5, g6, g7, Hz, Ho, Hp, hst, List.take_take], by simp (disch := omega) [g0, g2, g4, g5, g6, g7, Hz, Ho, Hp, hst, List.take_take], by simp (disch := omega) [g0, g2, g4, g5, g6, g7, Hz, Ho, Hp, hst, List.take_take], by first | omega | (simp; done) | (simp; omega), by simp (disch := omega) [g0, g2, g4, g5, g6, g7, Hz, Ho, Hp, hst, List.take_take], by first | omega | (simp; done) | (simp; omega), by simp (disch := omega) [g0, g2, g4, g5, g6, g7, Hz, Ho, Hp, hst, List.take_take], by first | omega | (simp; done) | (simp; omega), rfl⟩
        · try simp only [decide_eq_true_eq, decide_eq_false_iff_not] at h36
          have htl : (gL L i).take k = gL L i := by rw [show k = (gL L i).length by omega, List.take_length]
          rw [htl] at Hp
          have hkl : k = (gL L i).length := by omega
          refine AWP.exit ?_
          refine hK15 _ ?_
          refine AWP.frz1 6 id 6 ((gL L i).map l3c) (.isl ((gL L i).map l3c)) (by simp [Hp]) (by simp [g6]; exact fz_fill l3c (gL L i) hkl) ?_
          generalize (lpQ L i).1 = U0 at *
          generalize (lpQ L i).2 = D0 at *
          generalize (areaQ (gL L i)).1 = U1 at *
          generalize (areaQ (gL L i)).2 = D1 at *
          refine AWP.draw 4 Try.checked.mixed (by kernel_rfl) (by simp) ?_
          simp only [List.take_succ_cons, List.take_zero, List.drop_succ_cons, List.drop_zero]
          refine DP.runFk 2 (by simp (disch := first|omega|(simp only[ln];omega)) [runDf.eq_def, runF1, runF2, stepF.eq_def, updo.eq_def, hupo.eq_def, opSto1.eq_def, List.take_succ_cons, List.take_zero, idf_Wd', idf_numS, cells_numS, numS_fold, Pt.av, Pt.cells, l2A, l2C, l3A, l3C, g4, Ho]; rfl) fun fs20 hfs20 => ?_
          replace hfs20 : fs20.length = 2 := hfs20.trans rfl
          simp only [List.drop_succ_cons, List.drop_zero]
          refine DP.fcall (ca) rfl rfl rfl hb141 (by simp (disch := first|omega|(simp only[ln];omega)) [idf_Wd', g4, Ho, idf_numS, cells_numS, numS_fold, Pt.av, Pt.cells, l2A, l2C, l3A, l3C]) (by simp (disch := first|omega|(simp only[ln];omega)) [g4, Ho]) (by simp) ?_
          simp only [updo]
          refine DP.fcall (l2Add_fc (j := 20000) U0 D0 U1 D1 b1 b2 a1 a2 hnz (by omega)) rfl rfl rfl hb140 (by simp (disch := first|omega|(simp only[ln];omega)) [idf_Wd', g4, Ho, idf_numS, cells_numS, numS_fold, Pt.av, Pt.cells, l2A, l2C, l3A, l3C]) (by simp (disch := first|omega|(simp only[ln];omega)) [g4, Ho]) (by simp) ?_
          simp only [updo]
          refine DQ.runF (m := 4) (by simp only [List.length_append, List.length_cons, List.length_nil, hfs20]; omega) _ _ _ (by kernel_rfl) rfl (by simp (disch := first|omega|(simp only[ln];omega)) [runDf.eq_def, runF1, runF2, stepF.eq_def, updo.eq_def, hupo.eq_def, opSto1.eq_def, idf_Wd', idf_numS, cells_numS, numS_fold, Pt.av, Pt.cells, l2A, l2C, l3A, l3C, g4, Ho]; rfl) ?_
          refine hK10 _ ?_
          refine AWP.region (AOPS.all (by simp (disch := first|omega|(simp only[ln];omega)) [idf_Wd', idf_numS, cells_numS, numS_fold, Pt.av, Pt.cells, l2A, l2C, l3A, l3C, g5]; rfl) ?_)
          refine ⟨L.length - (i + 1), by omega, i + 1, rfl, by omega, hm1, by simp (disch := omega) [g0, g2, g4, g5, Hz, Ho, hs1, hs2], by simp (disch := omega) [g0, g2, g4, g5, Hz, Ho, hs1, hs2], by simp (disch := omega) [g0, g2, g4, g5, Hz, Ho, hs1, hs2], by simp (disch := omega) [g0, g2, g4, g5, Hz, Ho, hs1, hs2], by simp (disch := omega) [g0, g2, g4, g5, Hz, Ho, hs1, hs2], by first | omega | (simp; done) | (simp; omega), by simp (disch := omega) [g0, g2, g4, g5, Hz, Ho, hs1, hs2], by first | omega | (simp; done) | (simp; omega), rfl⟩
    · try simp only [decide_eq_true_eq, decide_eq_false_iff_not] at h17
      have hin : i = L.length := by omega
      subst hin
      have hok2 := laF_ok hok hsm
      have bnd := lpQ_bg hgd _ hi hsm
      have red := lpQ_red hgd _ hi
      have hi4 : L.length ≤ 40 := hL40
      have b1 := bnd.1.le (k := 20000) (by omega)
      have b2 := bnd.2.le (k := 20000) (by omega)
      obtain ⟨e1, e2⟩ := red.low
      have cr := l2Ratio_fc (j := 20000) (lpQ L L.length).1 (lpQ L L.length).2 (by have := red.1; omega) b1 b2 (by omega)
      rw [e1, e2] at cr
      refine AWP.exit ?_
      refine hK6 _ ?_
      refine AWP.seqk fun K21 hK21 => ?_
      refine AWP.region ?_
      refine AOPS.runk 1 (by simp (disch := first|omega|(simp only[ln];omega)) [List.take_succ_cons, List.take_zero, idf_Wd', idf_numS, cells_numS, numS_fold, Pt.av, Pt.cells, l2A, l2C, l3A, l3C, g2, g4, Hz, Ho]; rfl) ?_
      simp only [List.drop_succ_cons, List.drop_zero]
      refine AOPS.fcall (cr) rfl rfl rfl hb132 (by simp (disch := first|omega|(simp only[ln];omega)) [idf_Wd', g2, g4, Hz, Ho, idf_numS, cells_numS, numS_fold, Pt.av, Pt.cells, l2A, l2C, l3A, l3C]) (by simp (disch := first|omega|(simp only[ln];omega)) [g2, g4, Hz, Ho]) (by simp) ?_
      simp only [puts_some, updo]
      refine AOPS.all (by simp (disch := first|omega|(simp only[ln];omega)) [idf_Wd', idf_numS, cells_numS, numS_fold, Pt.av, Pt.cells, l2A, l2C, l3A, l3C, g2, g4, Hz, Ho]; rfl) ?_
      refine hK21 _ ?_
      refine AWP.ret ?_
      exact hK _ _ _ _ trivial ((Fin.mk (by simp (disch := omega) [aRes, aResL, aRes1, g2, idf_Wd', idf_numS, cells_numS, numS_fold, Pt.av, Pt.cells, l2A, l2C, l3A, l3C]; try rfl)).cast (by rw [hok2]))

end Go.Proofs.Ytmaebeknmiomnaa

/- Walks: FnExactLoopsArea2, walked. -/
namespace Go.Proofs.Ytmaebeknmiomnaa
open Go Go.RowKit
set_option linter.unusedSimpArgs false
set_option linter.unusedVariables false
set_option maxRecDepth 100000
attribute [local simp] List.getElem?_cons_zero List.getElem?_cons_succ List.getElem?_toArray runOps stepOp.eq_def agd.eq_def dstOk.eq_def opVal.eq_def opNew.eq_def opSto.eq_def ev.eq_def cv.eq_def puts_some puts_none upd_ap lst.eq_def aBin.eq_def aUn.eq_def aBi_str aBi_isl aBi_osl aBi_nsl aBi_max aBi_min aBi_max3 aConv.eq_def aLd.eq_def aLoad.eq_def aField.eq_def aFld.eq_def aIdx_isl aIdx_osl aSlc_isl aSlc_osl aSlc_str aSlc_nsl bnd.eq_def evs_nil evs_cons aBuild.eq_def aFill splice.eq_def cells_agg cells_int cells_bool cells_str cells_nil cells_nsl cells_isl cells_osl cells_ptr cells_ip cells_fn cells_Wd one_int one_bool one_str one_nil one_nsl one_isl one_osl one_ptr one_ip one_fn one_Wd aSets hupd_eq hupd_ne wrap_i64s wrap_u64s wrap_u32s wrap_u8s wd_getD wd_set wd_len wd_replicate wd_one wd_fold fz_osl hupd_same aSix.eq_def aEqS.eq_def aEqB_bool aEqB_nsl aEqB_nil
attribute [local simp] szT3 byT3 agT3 unT3 zoT3 szT4 byT4 agT4 unT4 zoT4 szT24 byT24 agT24 unT24 zoT24 szT26 byT26 agT26 flT26 fdT26_0 fdT26_1 fdT26_2 fdT26_3 zoT26 szT51 byT51 agT51 flT51 fdT51_0 fdT51_1 zoT51

theorem eqRatio_fc (r : Rt) : FC Try.prog 63 [r.av, r.av] (.bool true) := by
  refine FC.body Try.func63 rfl (by simp [idfL, idf, Rt.av, Rt.cells]) (by simp [idfL, idf, idfLL_iff, idf_Wd', Rt.cells, Rt.av]) 17 rfl fun nx K hK => ?_
  refine AWP.seqk fun K1 hK1 => ?_
  refine AWP.region (AOPS.all (by simp (disch := first|omega|(simp only[ln];omega)) [idf_Wd', Rt.cells, Rt.av]; rfl) ?_)
  refine hK1 _ ?_
  refine AWP.seqk fun K2 hK2 => ?_
  refine AWP.seqk fun K3 hK3 => ?_
  refine AWP.region ?_
  refine AOPS.runk 4 (by simp (disch := first|omega|(simp only[ln];omega)) [List.take_succ_cons, List.take_zero, idf_Wd', Rt.cells, Rt.av]; rfl) ?_
  simp only [List.drop_succ_cons, List.drop_zero]
  refine AOPS.fcall (eqWide_fc r.up) rfl rfl rfl hb147 (by simp (disch := first|omega|(simp only[ln];omega)) [idf_Wd', Rt.cells, Rt.av]) (by simp (disch := first|omega|(simp only[ln];omega))) (by simp) ?_
  simp only [puts_some, updo]
  refine AOPS.all (by simp (disch := first|omega|(simp only[ln];omega)) [idf_Wd', Rt.cells, Rt.av]; rfl) ?_
  refine hK3 _ ?_
  refine cond_ok _ (by simp (disch := first|omega|(simp only[ln];omega)); rfl) (fun h10 => ?_) (fun h10 => ?_)
  · simp at h10
  · try simp only [decide_eq_true_eq, decide_eq_false_iff_not] at h10
    refine AWP.skip ?_
    refine hK2 _ ?_
    refine AWP.seqk fun K4 hK4 => ?_
    refine AWP.seqk fun K5 hK5 => ?_
    refine AWP.region ?_
    refine AOPS.runk 4 (by simp (disch := first|omega|(simp only[ln];omega)) [List.take_succ_cons, List.take_zero, idf_Wd', Rt.cells, Rt.av]; rfl) ?_
    simp only [List.drop_succ_cons, List.drop_zero]
    refine AOPS.fcall (eqWide_fc r.down) rfl rfl rfl hb147 (by simp (disch := first|omega|(simp only[ln];omega)) [idf_Wd', Rt.cells, Rt.av]) (by simp (disch := first|omega|(simp only[ln];omega))) (by simp) ?_
    simp only [puts_some, updo]
    refine AOPS.all (by simp (disch := first|omega|(simp only[ln];omega)) [idf_Wd', Rt.cells, Rt.av]; rfl) ?_
    refine hK5 _ ?_
    refine cond_ok _ (by simp (disch := first|omega|(simp only[ln];omega)); rfl) (fun h16 => ?_) (fun h16 => ?_)
    · simp at h16
    · try simp only [decide_eq_true_eq, decide_eq_false_iff_not] at h16
      refine AWP.skip ?_
      refine hK4 _ ?_
      refine AWP.seqk fun K6 hK6 => ?_
      refine AWP.region (AOPS.all (by simp (disch := first|omega|(simp only[ln];omega)) [idf_Wd', Rt.cells, Rt.av]; rfl) ?_)
      refine hK6 _ ?_
      refine AWP.ret ?_
      exact hK _ _ _ _ trivial ((Fin.mk (by simp [aRes, aResL, aRes1, idf_Wd', Rt.cells, Rt.av]; try rfl)))

set_option maxHeartbeats 2000000 in
theorem fnExactLoopsArea2_fc (L : List (List Pt)) (hL : ∀ l ∈ L, ∀ p ∈ l, p.ok) (hl : L.length ≤ 9223372036854775807) (hl2 : ∀ l ∈ L, l.length ≤ 9223372036854775807) : FC Try.prog 10 [lsA L] (.bool true) := by
  refine FC.body Try.func10 rfl (by simp [idfL, idf, idfLL_iff, lsA, ltC, Pt.av, Pt.cells]) (by simp [idfL, idf, idfLL_iff, idf_Wd', Rt.cells, Rt.av]) 41 rfl fun nx K hK => ?_
  refine AWP.seqk fun K1 hK1 => ?_
  refine AWP.region (AOPS.all (by simp (disch := first|omega|(simp only[ln];omega)) [idf_Wd', Rt.cells, Rt.av]; rfl) ?_)
  refine hK1 _ ?_
  refine AWP.seqk fun K2 hK2 => ?_
  refine AWP.region (AOPS.all (by simp (disch := first|omega|(simp only[ln];omega)) [idf_Wd', Rt.cells, Rt.av]; rfl) ?_)
  refine hK2 _ ?_
  refine AWP.seqk fun K3 hK3 => ?_
  refine AWP.region ?_
  refine AOPS.runk 2 (by simp (disch := first|omega|(simp only[ln];omega)) [List.take_succ_cons, List.take_zero, idf_Wd', Rt.cells, Rt.av]; rfl) ?_
  simp only [List.drop_succ_cons, List.drop_zero]
  refine AOPS.fcall (szLoopS_fc L hl hl2) rfl rfl rfl hb59 (by simp (disch := first|omega|(simp only[ln];omega)) [idf_Wd', Rt.cells, Rt.av]) (by simp (disch := first|omega|(simp only[ln];omega))) (by simp) ?_
  simp only [puts_some, updo]
  refine AOPS.all (by simp (disch := first|omega|(simp only[ln];omega)) [idf_Wd', Rt.cells, Rt.av]; rfl) ?_
  refine hK3 _ ?_
  refine AWP.seqk fun K4 hK4 => ?_
  refine AWP.seqk fun K5 hK5 => ?_
  refine AWP.region (AOPS.all (by simp (disch := first|omega|(simp only[ln];omega)) [idf_Wd', Rt.cells, Rt.av]; rfl) ?_)
  refine hK5 _ ?_
  refine cond_ok _ (by simp (disch := first|omega|(simp only[ln];omega)); rfl) (fun h13 => ?_) (fun h13 => ?_)
  · try simp only [decide_eq_true_eq, decide_eq_false_iff_not] at h13
    refine AWP.seqk fun K6 hK6 => ?_
    refine AWP.region (AOPS.all (by simp (disch := first|omega|(simp only[ln];omega)) [idf_Wd', Rt.cells, Rt.av]; rfl) ?_)
    refine hK6 _ ?_
    refine AWP.ret ?_
    exact hK _ _ _ _ trivial ((Fin.mk (by simp [aRes, aResL, aRes1, idf_Wd', Rt.cells, Rt.av]; try rfl)))
  · try simp only [decide_eq_true_eq, decide_eq_false_iff_not] at h13
    obtain ⟨m1, m2⟩ := szA_le (L := L) (n := 1048576) (by omega)
    have k1 : L.length ≤ 1048576 := by omega
    have k2 : ∀ l ∈ L, l.length ≤ 1048576 := fun l hm => by have := m2 l hm; omega
    have q1 : L.length ≤ 1099511627776 := by omega
    have q2 : ∀ l ∈ L, l.length ≤ 1099511627776 := fun l hm => by have := k2 l hm; omega
    have cs := loopsArea2S_fc L hL q1 q2
    have ci := loopsArea2I_fc L hL q1 q2
    generalize (laF L).1 = r at *
    generalize (laF L).2 = b at *
    refine AWP.skip ?_
    refine hK4 _ ?_
    refine AWP.seqk fun K7 hK7 => ?_
    refine AWP.region ?_
    refine AOPS.runk 1 (by simp (disch := first|omega|(simp only[ln];omega)) [List.take_succ_cons, List.take_zero, idf_Wd', Rt.cells, Rt.av]; rfl) ?_
    simp only [List.drop_succ_cons, List.drop_zero]
    refine AOPS.fcall (toLoopS_fc L k1 k2) rfl rfl rfl hb61 (by simp (disch := first|omega|(simp only[ln];omega)) [idf_Wd', Rt.cells, Rt.av]) (by simp (disch := first|omega|(simp only[ln];omega))) (by simp) ?_
    simp only [puts_some, updo]
    refine AOPS.fcall (cs) rfl rfl rfl hb60 (by simp (disch := first|omega|(simp only[ln];omega)) [idf_Wd', Rt.cells, Rt.av]) (by simp (disch := first|omega|(simp only[ln];omega))) (by simp) ?_
    simp only [puts_some, updo]
    refine AOPS.all (by simp (disch := first|omega|(simp only[ln];omega)) [idf_Wd', Rt.cells, Rt.av]; rfl) ?_
    refine hK7 _ ?_
    refine AWP.seqk fun K8 hK8 => ?_
    refine AWP.region ?_
    refine AOPS.runk 1 (by simp (disch := first|omega|(simp only[ln];omega)) [List.take_succ_cons, List.take_zero, idf_Wd', Rt.cells, Rt.av]; rfl) ?_
    simp only [List.drop_succ_cons, List.drop_zero]
    refine AOPS.fcall (toLoopS_fc L k1 k2) rfl rfl rfl hb61 (by simp (disch := first|omega|(simp only[ln];omega)) [idf_Wd', Rt.cells, Rt.av]) (by simp (disch := first|omega|(simp only[ln];omega))) (by simp) ?_
    simp only [puts_some, updo]
    refine AOPS.all (by simp (disch := first|omega|(simp only[ln];omega)) [idf_Wd', Rt.cells, Rt.av]; rfl) ?_
    refine hK8 _ ?_
    refine AWP.seqk fun K9 hK9 => ?_
    refine AWP.region ?_
    refine AOPS.runk 1 (by simp (disch := first|omega|(simp only[ln];omega)) [List.take_succ_cons, List.take_zero, idf_Wd', Rt.cells, Rt.av]; rfl) ?_
    simp only [List.drop_succ_cons, List.drop_zero]
    refine AOPS.fcall (ci) rfl rfl rfl hb62 (by simp (disch := first|omega|(simp only[ln];omega)) [idf_Wd', Rt.cells, Rt.av]) (by simp (disch := first|omega|(simp only[ln];omega))) (by simp) ?_
    simp only [puts_some, updo]
    refine AOPS.all (by simp (disch := first|omega|(simp only[ln];omega)) [idf_Wd', Rt.cells, Rt.av]; rfl) ?_
    refine hK9 _ ?_
    refine AWP.seqk fun K10 hK10 => ?_
    refine AWP.seqk fun K11 hK11 => ?_
    refine AWP.region ?_
    refine AOPS.runk 2 (by simp (disch := first|omega|(simp only[ln];omega)) [List.take_succ_cons, List.take_zero, idf_Wd', Rt.cells, Rt.av]; rfl) ?_
    simp only [List.drop_succ_cons, List.drop_zero]
    refine AOPS.fcall (eqRatio_fc r) rfl rfl rfl hb63 (by simp (disch := first|omega|(simp only[ln];omega)) [idf_Wd', Rt.cells, Rt.av]) (by simp (disch := first|omega|(simp only[ln];omega))) (by simp) ?_
    simp only [puts_some, updo]
    refine AOPS.all (by simp (disch := first|omega|(simp only[ln];omega)) [idf_Wd', Rt.cells, Rt.av]; rfl) ?_
    refine hK11 _ ?_
    refine cond_ok _ (by simp (disch := first|omega|(simp only[ln];omega)); rfl) (fun h35 => ?_) (fun h35 => ?_)
    · simp at h35
    · try simp only [decide_eq_true_eq, decide_eq_false_iff_not] at h35
      refine AWP.skip ?_
      refine hK10 _ ?_
      refine AWP.seqk fun K12 hK12 => ?_
      refine AWP.seqk fun K13 hK13 => ?_
      refine AWP.region ?_
      refine AOPS.runk 2 (by simp (disch := first|omega|(simp only[ln];omega)) [List.take_succ_cons, List.take_zero, idf_Wd', Rt.cells, Rt.av]; rfl) ?_
      simp only [List.drop_succ_cons, List.drop_zero]
      refine AOPS.fcall (toLoopS_fc L k1 k2) rfl rfl rfl hb61 (by simp (disch := first|omega|(simp only[ln];omega)) [idf_Wd', Rt.cells, Rt.av]) (by simp (disch := first|omega|(simp only[ln];omega))) (by simp) ?_
      simp only [puts_some, updo]
      refine AOPS.fcall (eqLoopS_fc L hl hl2) rfl rfl rfl hb64 (by simp (disch := first|omega|(simp only[ln];omega)) [idf_Wd', Rt.cells, Rt.av]) (by simp (disch := first|omega|(simp only[ln];omega))) (by simp) ?_
      simp only [puts_some, updo]
      refine AOPS.all (by simp (disch := first|omega|(simp only[ln];omega)) [idf_Wd', Rt.cells, Rt.av]; rfl) ?_
      refine hK13 _ ?_
      refine cond_ok _ (by simp (disch := first|omega|(simp only[ln];omega)); rfl) (fun h40 => ?_) (fun h40 => ?_)
      · simp at h40
      · try simp only [decide_eq_true_eq, decide_eq_false_iff_not] at h40
        refine AWP.skip ?_
        refine hK12 _ ?_
        refine AWP.seqk fun K14 hK14 => ?_
        refine AWP.region (AOPS.all (by simp (disch := first|omega|(simp only[ln];omega)) [idf_Wd', Rt.cells, Rt.av]; rfl) ?_)
        refine hK14 _ ?_
        refine AWP.ret ?_
        exact hK _ _ _ _ trivial ((Fin.mk (by simp [aRes, aResL, aRes1, idf_Wd', Rt.cells, Rt.av]; try rfl)))

end Go.Proofs.Ytmaebeknmiomnaa
