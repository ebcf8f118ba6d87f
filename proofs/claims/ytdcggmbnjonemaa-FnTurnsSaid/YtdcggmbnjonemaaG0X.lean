/- Walks: points made by the reference. -/
import Derived.Test.YtdcggmbnjonemaaG0W

namespace Go.Proofs.Ytdcggmbnjonemaa
open Go Go.RowKit
set_option linter.unusedSimpArgs false
set_option linter.unusedVariables false
set_option maxRecDepth 100000
attribute [local simp] List.getElem?_cons_zero List.getElem?_cons_succ List.getElem?_toArray runOps stepOp.eq_def agd.eq_def dstOk.eq_def opVal.eq_def opNew.eq_def opSto.eq_def ev.eq_def cv.eq_def puts_some puts_none upd_ap lst.eq_def aBin.eq_def aUn.eq_def aBi_str aBi_isl aBi_osl aBi_nsl aBi_max aBi_min aBi_max3 aConv.eq_def aLd.eq_def aLoad.eq_def aField.eq_def aFld.eq_def aIdx_isl aIdx_osl aSlc_isl aSlc_osl aSlc_str aSlc_nsl bnd.eq_def evs_nil evs_cons aBuild.eq_def aFill splice.eq_def cells_agg cells_int cells_bool cells_str cells_nil cells_nsl cells_isl cells_osl cells_ptr cells_ip cells_fn cells_Wd one_int one_bool one_str one_nil one_nsl one_isl one_osl one_ptr one_ip one_fn one_Wd aSets hupd_eq hupd_ne wrap_i64s wrap_u64s wrap_u32s wrap_u8s wd_getD wd_set wd_len wd_replicate wd_one wd_fold fz_osl hupd_same aSix.eq_def aEqS.eq_def aEqB_bool aEqB_nsl aEqB_nil
attribute [local simp] szT2 byT2 agT2 unT2 zoT2 szT4 byT4 agT4 unT4 zoT4 szT31 byT31 agT31 unT31 zoT31 szT33 byT33 agT33 flT33 fdT33_0 fdT33_1 fdT33_2 fdT33_3 zoT33 szT35 byT35 agT35 flT35 fdT35_0 fdT35_1 fdT35_2 zoT35 szT60 byT60 agT60 flT60 fdT60_0 fdT60_1 zoT60 szT90 byT90 agT90 elT90 unT90 zoT90 szT92 byT92 agT92 flT92 fdT92_0 fdT92_1 zoT92 szT94 byT94 agT94 flT94 fdT94_0 fdT94_1 fdT94_2 zoT94 szT180 byT180 agT180 unT180 zoT180

set_option maxHeartbeats 2000000 in
theorem l1Div_fc {j : Nat} (a b : Int) (hb0 : b ≠ 0) (ha : Bg j a) (hb : Bg j b) (hj : j ≤ 16777216) : FC Try.prog 142 [numS a, numS b] (.tup [numS (a / b), numS (a % b)]) := by
  have hD := l1DivAbs_fc a.natAbs b.natAbs (by omega) ha.abs hb.abs hj
  rw [dg_abs, dg_abs] at hD
  have eu := eu_lem a b hb0
  generalize hq : ((a.natAbs / b.natAbs : Nat) : Int) = q0 at *
  generalize hr : ((a.natAbs % b.natAbs : Nat) : Int) = r0 at *
  have q0n : 0 ≤ q0 := by rw [← hq]; exact Int.natCast_nonneg _
  have r0n : 0 ≤ r0 := by rw [← hr]; exact Int.natCast_nonneg _
  have bq : Bg j q0 := by
    rw [← hq]; unfold Bg at *; rw [Int.natAbs_natCast]; have := Nat.div_le_self a.natAbs b.natAbs; omega
  have br : Bg j r0 := by
    rw [← hr]; unfold Bg at *; rw [Int.natAbs_natCast]; have := Nat.mod_le a.natAbs b.natAbs; omega
  have bqs : ∀ s, Bg j (sg s q0) := fun s => by cases s <;> simp only [sg_true, sg_false]; exact bq; exact bq.neg
  have brs : ∀ s, Bg j (sg s r0) := fun s => by cases s <;> simp only [sg_true, sg_false]; exact br; exact br.neg
  have lq := bq.len32
  have lr := br.len32
  have hT1 := l1Trim_fc (decide (a < 0) != decide (b < 0)) (dg q0) (by omega) (dg_dig _)
  rw [dg_val, Int.natAbs_of_nonneg q0n] at hT1
  have hT2 := l1Trim_fc (decide (a < 0)) (dg r0) (by omega) (dg_dig _)
  rw [dg_val, Int.natAbs_of_nonneg r0n] at hT2
  obtain ⟨S, hS⟩ : ∃ S, (decide (a < 0) != decide (b < 0)) = S := ⟨_, rfl⟩
  have hS2 : (decide (a < 0) == decide (b < 0)) = !S := by rw [← hS]; cases decide (a < 0) <;> cases decide (b < 0) <;> rfl
  rw [hS] at eu hT1
  refine FC.body Try.func142 rfl (by simp [idfL, idf, idfLL_iff, idf_Wd', idf_numS, cells_numS, numS_fold]) (by simp [idfL, idf, idfLL_iff, idf_Wd', idf_numS, cells_numS, numS_fold]) 47 rfl fun nx K hK => ?_
  refine AWP.seqk fun K1 hK1 => ?_
  refine AWP.region (AOPS.all (by simp (disch := first | omega | (simp only [List.length_append, List.length_cons, List.length_nil, List.length_set, List.length_replicate, Int.toNat_natCast]; omega)) [idf_Wd', idf_numS, cells_numS, numS_fold]; rfl) ?_)
  refine hK1 _ ?_
  refine AWP.seqk fun K2 hK2 => ?_
  refine AWP.region ?_
  refine AOPS.runk 4 (by simp (disch := first | omega | (simp only [List.length_append, List.length_cons, List.length_nil, List.length_set, List.length_replicate, Int.toNat_natCast]; omega)) [List.take_succ_cons, List.take_zero, idf_Wd', idf_numS, cells_numS, numS_fold]; rfl) ?_
  simp only [List.drop_succ_cons, List.drop_zero]
  refine AOPS.fcall (hD) rfl rfl rfl hb137 (by simp (disch := first | omega | (simp only [List.length_append, List.length_cons, List.length_nil, List.length_set, List.length_replicate, Int.toNat_natCast]; omega)) [idf_Wd', idf_Wd', idf_numS, cells_numS, numS_fold]) (by simp (disch := first | omega | (simp only [List.length_append, List.length_cons, List.length_nil, List.length_set, List.length_replicate, Int.toNat_natCast]; omega))) (by simp) ?_
  simp only [puts_some, updo]
  refine AOPS.all (by simp (disch := first | omega | (simp only [List.length_append, List.length_cons, List.length_nil, List.length_set, List.length_replicate, Int.toNat_natCast]; omega)) [idf_Wd', idf_numS, cells_numS, numS_fold]; rfl) ?_
  refine hK2 _ ?_
  refine AWP.seqk fun K3 hK3 => ?_
  refine AWP.region ?_
  refine AOPS.runk 6 (by simp (disch := first | omega | (simp only [List.length_append, List.length_cons, List.length_nil, List.length_set, List.length_replicate, Int.toNat_natCast]; omega)) [List.take_succ_cons, List.take_zero, idf_Wd', idf_numS, cells_numS, numS_fold, hS2]; rfl) ?_
  simp only [List.drop_succ_cons, List.drop_zero]
  refine AOPS.fcall (hT1) rfl rfl rfl hb138 (by simp (disch := first | omega | (simp only [List.length_append, List.length_cons, List.length_nil, List.length_set, List.length_replicate, Int.toNat_natCast]; omega)) [idf_Wd', hS2, idf_Wd', idf_numS, cells_numS, numS_fold]) (by simp (disch := first | omega | (simp only [List.length_append, List.length_cons, List.length_nil, List.length_set, List.length_replicate, Int.toNat_natCast]; omega)) [hS2]) (by simp) ?_
  simp only [puts_some, updo]
  refine AOPS.all (by simp (disch := first | omega | (simp only [List.length_append, List.length_cons, List.length_nil, List.length_set, List.length_replicate, Int.toNat_natCast]; omega)) [idf_Wd', idf_numS, cells_numS, numS_fold, hS2]; rfl) ?_
  refine hK3 _ ?_
  refine AWP.seqk fun K4 hK4 => ?_
  refine AWP.region ?_
  refine AOPS.runk 3 (by simp (disch := first | omega | (simp only [List.length_append, List.length_cons, List.length_nil, List.length_set, List.length_replicate, Int.toNat_natCast]; omega)) [List.take_succ_cons, List.take_zero, idf_Wd', idf_numS, cells_numS, numS_fold]; rfl) ?_
  simp only [List.drop_succ_cons, List.drop_zero]
  refine AOPS.fcall (hT2) rfl rfl rfl hb138 (by simp (disch := first | omega | (simp only [List.length_append, List.length_cons, List.length_nil, List.length_set, List.length_replicate, Int.toNat_natCast]; omega)) [idf_Wd', idf_Wd', idf_numS, cells_numS, numS_fold]) (by simp (disch := first | omega | (simp only [List.length_append, List.length_cons, List.length_nil, List.length_set, List.length_replicate, Int.toNat_natCast]; omega))) (by simp) ?_
  simp only [puts_some, updo]
  refine AOPS.all (by simp (disch := first | omega | (simp only [List.length_append, List.length_cons, List.length_nil, List.length_set, List.length_replicate, Int.toNat_natCast]; omega)) [idf_Wd', idf_numS, cells_numS, numS_fold]; rfl) ?_
  refine hK4 _ ?_
  refine AWP.seqk fun K5 hK5 => ?_
  refine AWP.seqk fun K6 hK6 => ?_
  refine AWP.region (AOPS.all (by simp (disch := first | omega | (simp only [List.length_append, List.length_cons, List.length_nil, List.length_set, List.length_replicate, Int.toNat_natCast]; omega)) [idf_Wd', idf_numS, cells_numS, numS_fold]; rfl) ?_)
  refine hK6 _ ?_
  refine cond_ok (decide (sg (decide (a < 0)) r0 < 0)) (by simp (disch := first | omega | (simp only [List.length_append, List.length_cons, List.length_nil, List.length_set, List.length_replicate, Int.toNat_natCast]; omega))) (fun h30 => ?_) (fun h30 => ?_)
  · try simp only [decide_eq_true_eq, decide_eq_false_iff_not] at h30
    refine AWP.seqk fun K7 hK7 => ?_
    refine AWP.region (AOPS.all (by simp (disch := first | omega | (simp only [List.length_append, List.length_cons, List.length_nil, List.length_set, List.length_replicate, Int.toNat_natCast]; omega)) [idf_Wd', idf_numS, cells_numS, numS_fold]; rfl) ?_)
    refine hK7 _ ?_
    refine cond_ok (decide (b < 0)) (by simp (disch := first | omega | (simp only [List.length_append, List.length_cons, List.length_nil, List.length_set, List.length_replicate, Int.toNat_natCast]; omega))) (fun h32 => ?_) (fun h32 => ?_)
    · try simp only [decide_eq_true_eq, decide_eq_false_iff_not] at h32
      have e := eu.2.1 h30 h32
      refine AWP.seqk fun K8 hK8 => ?_
      refine AWP.draw 3 Try.checked.mixed (by kernel_rfl) (by simp) ?_
      simp only [List.take_succ_cons, List.take_zero, List.drop_succ_cons, List.drop_zero]
      refine DP.runFk 1 (by simp (disch := first | omega | (simp only [List.length_append, List.length_cons, List.length_nil, List.length_set, List.length_replicate, Int.toNat_natCast]; omega)) [runDf.eq_def, runF1, runF2, stepF.eq_def, updo.eq_def, hupo.eq_def, opSto1.eq_def, List.take_succ_cons, List.take_zero, idf_Wd', idf_numS, cells_numS, numS_fold]; rfl) fun fs9 hfs9 => ?_
      replace hfs9 : fs9.length = 1 := hfs9.trans rfl
      simp only [List.drop_succ_cons, List.drop_zero]
      refine DP.fcall (l1Int_fc 1 (by omega) (by omega)) rfl rfl rfl hb89 (by simp (disch := first | omega | (simp only [List.length_append, List.length_cons, List.length_nil, List.length_set, List.length_replicate, Int.toNat_natCast]; omega)) [idf_Wd', idf_Wd', idf_numS, cells_numS, numS_fold]) (by simp (disch := first | omega | (simp only [List.length_append, List.length_cons, List.length_nil, List.length_set, List.length_replicate, Int.toNat_natCast]; omega))) (by simp) ?_
      simp only [updo]
      refine DP.fcall (l1Add_fc (bqs S) (Bg.i64 (n := 1) (by omega) (by omega)) (by omega) (by omega)) rfl rfl rfl hb101 (by simp (disch := first | omega | (simp only [List.length_append, List.length_cons, List.length_nil, List.length_set, List.length_replicate, Int.toNat_natCast]; omega)) [idf_Wd', idf_Wd', idf_numS, cells_numS, numS_fold]) (by simp (disch := first | omega | (simp only [List.length_append, List.length_cons, List.length_nil, List.length_set, List.length_replicate, Int.toNat_natCast]; omega))) (by simp) ?_
      simp only [updo]
      refine DQ.runF (m := 3) (by simp only [List.length_append, List.length_cons, List.length_nil, hfs9]; omega) _ _ _ (by kernel_rfl) rfl (by simp (disch := first | omega | (simp only [List.length_append, List.length_cons, List.length_nil, List.length_set, List.length_replicate, Int.toNat_natCast]; omega)) [runDf.eq_def, runF1, runF2, stepF.eq_def, updo.eq_def, hupo.eq_def, opSto1.eq_def, idf_Wd', idf_numS, cells_numS, numS_fold]; rfl) ?_
      refine hK8 _ ?_
      refine AWP.region ?_
      refine AOPS.runk 2 (by simp (disch := first | omega | (simp only [List.length_append, List.length_cons, List.length_nil, List.length_set, List.length_replicate, Int.toNat_natCast]; omega)) [List.take_succ_cons, List.take_zero, idf_Wd', idf_numS, cells_numS, numS_fold]; rfl) ?_
      simp only [List.drop_succ_cons, List.drop_zero]
      refine AOPS.fcall (l1Sub_fc (brs (decide (a < 0))) hb (by omega) (by omega)) rfl rfl rfl hb105 (by simp (disch := first | omega | (simp only [List.length_append, List.length_cons, List.length_nil, List.length_set, List.length_replicate, Int.toNat_natCast]; omega)) [idf_Wd', idf_Wd', idf_numS, cells_numS, numS_fold]) (by simp (disch := first | omega | (simp only [List.length_append, List.length_cons, List.length_nil, List.length_set, List.length_replicate, Int.toNat_natCast]; omega))) (by simp) ?_
      simp only [puts_some, updo]
      refine AOPS.all (by simp (disch := first | omega | (simp only [List.length_append, List.length_cons, List.length_nil, List.length_set, List.length_replicate, Int.toNat_natCast]; omega)) [idf_Wd', idf_numS, cells_numS, numS_fold]; rfl) ?_
      refine hK5 _ ?_
      refine AWP.seqk fun K10 hK10 => ?_
      refine AWP.old fun hold => ?_
      refine AWP.draw 2 Try.checked.mixed (by kernel_rfl) (by simp) ?_
      simp only [List.take_succ_cons, List.take_zero, List.drop_succ_cons, List.drop_zero]
      refine DP.runFk 1 (by simp (disch := first | omega | (simp only [List.length_append, List.length_cons, List.length_nil, List.length_set, List.length_replicate, Int.toNat_natCast]; omega)) [runDf.eq_def, runF1, runF2, stepF.eq_def, updo.eq_def, hupo.eq_def, opSto1.eq_def, List.take_succ_cons, List.take_zero, idf_Wd', idf_numS, cells_numS, numS_fold]; rfl) fun fs11 hfs11 => ?_
      replace hfs11 : fs11.length = 1 := hfs11.trans rfl
      simp only [List.drop_succ_cons, List.drop_zero]
      refine DP.runF1q (by simp (disch := first | omega | (simp only [List.length_append, List.length_cons, List.length_nil, List.length_set, List.length_replicate, Int.toNat_natCast]; omega)) [runDf.eq_def, runF1, runF2, stepF.eq_def, updo.eq_def, hupo.eq_def, opSto1.eq_def, idf_Wd', idf_numS, cells_numS, numS_fold]; rfl) fun fq12 hfq12 => ?_
      simp [qids, Op.operands, topId] at hfq12
      simp only [updo]
      refine DQ.sto1 (m := 2) [1] _ (by simp (disch := first | omega | (simp only [List.length_append, List.length_cons, List.length_nil, List.length_set, List.length_replicate, Int.toNat_natCast]; omega)) [runDf.eq_def, runF1, runF2, stepF.eq_def, updo.eq_def, hupo.eq_def, opSto1.eq_def, idf_Wd', idf_numS, cells_numS, numS_fold]; rfl) rfl (by simp only [List.length_append, List.length_cons, List.length_nil, hfs11]; omega) (by kernel_rfl) (by intro k f hk hex; simp only [List.mem_cons, List.not_mem_nil, or_false] at hex; rcases hex with rfl <;> (simp [List.getElem?_append, hfs11] at hk; subst hk; refine ⟨?_, by first | omega | (simp; done) | (simp; omega)⟩; simp [qids, Op.operands, Call.operands, topId, numS, numI, Wd, hfq12]; try omega)) ?_
      try simp only []
      refine DQ.sto1 (m := 2) [] _ (by simp (disch := first | omega | (simp only [List.length_append, List.length_cons, List.length_nil, List.length_set, List.length_replicate, Int.toNat_natCast]; omega)) [runDf.eq_def, runF1, runF2, stepF.eq_def, updo.eq_def, hupo.eq_def, opSto1.eq_def, idf_Wd', idf_numS, cells_numS, numS_fold]; rfl) rfl (by simp only [List.length_append, List.length_cons, List.length_nil, hfs11]; omega) (by kernel_rfl) (by intro k f hk hex; simp only [List.not_mem_nil] at hex) ?_
      try simp only []
      refine hK10 _ ?_
      refine AWP.ret ?_
      exact hK _ _ _ _ trivial ((Fin.mk (by simp [aRes, aResL, aRes1, idf_Wd', idf_numS, cells_numS, numS_fold]; rfl)).cast (by rw [e.1, e.2]))
    · try simp only [decide_eq_true_eq, decide_eq_false_iff_not] at h32
      have e := eu.2.2 h30 h32
      refine AWP.seqk fun K13 hK13 => ?_
      refine AWP.draw 3 Try.checked.mixed (by kernel_rfl) (by simp) ?_
      simp only [List.take_succ_cons, List.take_zero, List.drop_succ_cons, List.drop_zero]
      refine DP.runFk 1 (by simp (disch := first | omega | (simp only [List.length_append, List.length_cons, List.length_nil, List.length_set, List.length_replicate, Int.toNat_natCast]; omega)) [runDf.eq_def, runF1, runF2, stepF.eq_def, updo.eq_def, hupo.eq_def, opSto1.eq_def, List.take_succ_cons, List.take_zero, idf_Wd', idf_numS, cells_numS, numS_fold]; rfl) fun fs14 hfs14 => ?_
      replace hfs14 : fs14.length = 1 := hfs14.trans rfl
      simp only [List.drop_succ_cons, List.drop_zero]
      refine DP.fcall (l1Int_fc 1 (by omega) (by omega)) rfl rfl rfl hb89 (by simp (disch := first | omega | (simp only [List.length_append, List.length_cons, List.length_nil, List.length_set, List.length_replicate, Int.toNat_natCast]; omega)) [idf_Wd', idf_Wd', idf_numS, cells_numS, numS_fold]) (by simp (disch := first | omega | (simp only [List.length_append, List.length_cons, List.length_nil, List.length_set, List.length_replicate, Int.toNat_natCast]; omega))) (by simp) ?_
      simp only [updo]
      refine DP.fcall (l1Sub_fc (bqs S) (Bg.i64 (n := 1) (by omega) (by omega)) (by omega) (by omega)) rfl rfl rfl hb105 (by simp (disch := first | omega | (simp only [List.length_append, List.length_cons, List.length_nil, List.length_set, List.length_replicate, Int.toNat_natCast]; omega)) [idf_Wd', idf_Wd', idf_numS, cells_numS, numS_fold]) (by simp (disch := first | omega | (simp only [List.length_append, List.length_cons, List.length_nil, List.length_set, List.length_replicate, Int.toNat_natCast]; omega))) (by simp) ?_
      simp only [updo]
      refine DQ.runF (m := 3) (by simp only [List.length_append, List.length_cons, List.length_nil, hfs14]; omega) _ _ _ (by kernel_rfl) rfl (by simp (disch := first | omega | (simp only [List.length_append, List.length_cons, List.length_nil, List.length_set, List.length_replicate, Int.toNat_natCast]; omega)) [runDf.eq_def, runF1, runF2, stepF.eq_def, updo.eq_def, hupo.eq_def, opSto1.eq_def, idf_Wd', idf_numS, cells_numS, numS_fold]; rfl) ?_
      refine hK13 _ ?_
      refine AWP.region ?_
      refine AOPS.runk 2 (by simp (disch := first | omega | (simp only [List.length_append, List.length_cons, List.length_nil, List.length_set, List.length_replicate, Int.toNat_natCast]; omega)) [List.take_succ_cons, List.take_zero, idf_Wd', idf_numS, cells_numS, numS_fold]; rfl) ?_
      simp only [List.drop_succ_cons, List.drop_zero]
      refine AOPS.fcall (l1Add_fc (brs (decide (a < 0))) hb (by omega) (by omega)) rfl rfl rfl hb101 (by simp (disch := first | omega | (simp only [List.length_append, List.length_cons, List.length_nil, List.length_set, List.length_replicate, Int.toNat_natCast]; omega)) [idf_Wd', idf_Wd', idf_numS, cells_numS, numS_fold]) (by simp (disch := first | omega | (simp only [List.length_append, List.length_cons, List.length_nil, List.length_set, List.length_replicate, Int.toNat_natCast]; omega))) (by simp) ?_
      simp only [puts_some, updo]
      refine AOPS.all (by simp (disch := first | omega | (simp only [List.length_append, List.length_cons, List.length_nil, List.length_set, List.length_replicate, Int.toNat_natCast]; omega)) [idf_Wd', idf_numS, cells_numS, numS_fold]; rfl) ?_
      refine hK5 _ ?_
      refine AWP.seqk fun K15 hK15 => ?_
      refine AWP.old fun hold => ?_
      refine AWP.draw 2 Try.checked.mixed (by kernel_rfl) (by simp) ?_
      simp only [List.take_succ_cons, List.take_zero, List.drop_succ_cons, List.drop_zero]
      refine DP.runFk 1 (by simp (disch := first | omega | (simp only [List.length_append, List.length_cons, List.length_nil, List.length_set, List.length_replicate, Int.toNat_natCast]; omega)) [runDf.eq_def, runF1, runF2, stepF.eq_def, updo.eq_def, hupo.eq_def, opSto1.eq_def, List.take_succ_cons, List.take_zero, idf_Wd', idf_numS, cells_numS, numS_fold]; rfl) fun fs16 hfs16 => ?_
      replace hfs16 : fs16.length = 1 := hfs16.trans rfl
      simp only [List.drop_succ_cons, List.drop_zero]
      refine DP.runF1q (by simp (disch := first | omega | (simp only [List.length_append, List.length_cons, List.length_nil, List.length_set, List.length_replicate, Int.toNat_natCast]; omega)) [runDf.eq_def, runF1, runF2, stepF.eq_def, updo.eq_def, hupo.eq_def, opSto1.eq_def, idf_Wd', idf_numS, cells_numS, numS_fold]; rfl) fun fq17 hfq17 => ?_
      simp [qids, Op.operands, topId] at hfq17
      simp only [updo]
      refine DQ.sto1 (m := 2) [1] _ (by simp (disch := first | omega | (simp only [List.length_append, List.length_cons, List.length_nil, List.length_set, List.length_replicate, Int.toNat_natCast]; omega)) [runDf.eq_def, runF1, runF2, stepF.eq_def, updo.eq_def, hupo.eq_def, opSto1.eq_def, idf_Wd', idf_numS, cells_numS, numS_fold]; rfl) rfl (by simp only [List.length_append, List.length_cons, List.length_nil, hfs16]; omega) (by kernel_rfl) (by intro k f hk hex; simp only [List.mem_cons, List.not_mem_nil, or_false] at hex; rcases hex with rfl <;> (simp [List.getElem?_append, hfs16] at hk; subst hk; refine ⟨?_, by first | omega | (simp; done) | (simp; omega)⟩; simp [qids, Op.operands, Call.operands, topId, numS, numI, Wd, hfq17]; try omega)) ?_
      try simp only []
      refine DQ.sto1 (m := 2) [] _ (by simp (disch := first | omega | (simp only [List.length_append, List.length_cons, List.length_nil, List.length_set, List.length_replicate, Int.toNat_natCast]; omega)) [runDf.eq_def, runF1, runF2, stepF.eq_def, updo.eq_def, hupo.eq_def, opSto1.eq_def, idf_Wd', idf_numS, cells_numS, numS_fold]; rfl) rfl (by simp only [List.length_append, List.length_cons, List.length_nil, hfs16]; omega) (by kernel_rfl) (by intro k f hk hex; simp only [List.not_mem_nil] at hex) ?_
      try simp only []
      refine hK15 _ ?_
      refine AWP.ret ?_
      exact hK _ _ _ _ trivial ((Fin.mk (by simp [aRes, aResL, aRes1, idf_Wd', idf_numS, cells_numS, numS_fold]; rfl)).cast (by rw [e.1, e.2]))
  · try simp only [decide_eq_true_eq, decide_eq_false_iff_not] at h30
    have e := eu.1 h30
    refine AWP.skip ?_
    refine hK5 _ ?_
    refine AWP.seqk fun K18 hK18 => ?_
    refine AWP.old fun hold => ?_
    refine AWP.draw 2 Try.checked.mixed (by kernel_rfl) (by simp) ?_
    simp only [List.take_succ_cons, List.take_zero, List.drop_succ_cons, List.drop_zero]
    refine DP.runFk 1 (by simp (disch := first | omega | (simp only [List.length_append, List.length_cons, List.length_nil, List.length_set, List.length_replicate, Int.toNat_natCast]; omega)) [runDf.eq_def, runF1, runF2, stepF.eq_def, updo.eq_def, hupo.eq_def, opSto1.eq_def, List.take_succ_cons, List.take_zero, idf_Wd', idf_numS, cells_numS, numS_fold]; rfl) fun fs19 hfs19 => ?_
    replace hfs19 : fs19.length = 1 := hfs19.trans rfl
    simp only [List.drop_succ_cons, List.drop_zero]
    refine DP.runF1q (by simp (disch := first | omega | (simp only [List.length_append, List.length_cons, List.length_nil, List.length_set, List.length_replicate, Int.toNat_natCast]; omega)) [runDf.eq_def, runF1, runF2, stepF.eq_def, updo.eq_def, hupo.eq_def, opSto1.eq_def, idf_Wd', idf_numS, cells_numS, numS_fold]; rfl) fun fq20 hfq20 => ?_
    simp [qids, Op.operands, topId] at hfq20
    simp only [updo]
    refine DQ.sto1 (m := 2) [1] _ (by simp (disch := first | omega | (simp only [List.length_append, List.length_cons, List.length_nil, List.length_set, List.length_replicate, Int.toNat_natCast]; omega)) [runDf.eq_def, runF1, runF2, stepF.eq_def, updo.eq_def, hupo.eq_def, opSto1.eq_def, idf_Wd', idf_numS, cells_numS, numS_fold]; rfl) rfl (by simp only [List.length_append, List.length_cons, List.length_nil, hfs19]; omega) (by kernel_rfl) (by intro k f hk hex; simp only [List.mem_cons, List.not_mem_nil, or_false] at hex; rcases hex with rfl <;> (simp [List.getElem?_append, hfs19] at hk; subst hk; refine ⟨?_, by first | omega | (simp; done) | (simp; omega)⟩; simp [qids, Op.operands, Call.operands, topId, numS, numI, Wd, hfq20]; try omega)) ?_
    try simp only []
    refine DQ.sto1 (m := 2) [] _ (by simp (disch := first | omega | (simp only [List.length_append, List.length_cons, List.length_nil, List.length_set, List.length_replicate, Int.toNat_natCast]; omega)) [runDf.eq_def, runF1, runF2, stepF.eq_def, updo.eq_def, hupo.eq_def, opSto1.eq_def, idf_Wd', idf_numS, cells_numS, numS_fold]; rfl) rfl (by simp only [List.length_append, List.length_cons, List.length_nil, hfs19]; omega) (by kernel_rfl) (by intro k f hk hex; simp only [List.not_mem_nil] at hex) ?_
    try simp only []
    refine hK18 _ ?_
    refine AWP.ret ?_
    exact hK _ _ _ _ trivial ((Fin.mk (by simp [aRes, aResL, aRes1, idf_Wd', idf_numS, cells_numS, numS_fold]; rfl)).cast (by rw [e.1, e.2]))

set_option maxHeartbeats 2000000 in
theorem l3Make_fc {j : Nat} (x y w : Int) (hw : w ≠ 0) (bx : Bg j x) (bY : Bg j y) (bw : Bg j w) (hj0 : 1 ≤ j) (hj : j ≤ 16777216) : FC Try.prog 100 [numS x, numS y, numS w] (l3A (nrm w x / gcd3 x y w) (nrm w y / gcd3 x y w) (nrm w w / gcd3 x y w)) := by
  have hgp := gcd3_pos (x := x) (y := y) hw
  have hg3 := gcd3_nrm x y w
  refine FC.body Try.func100 rfl (by simp [idfL, idf, idfLL_iff, idf_Wd', idf_numS, cells_numS, numS_fold]) (by simp [idfL, idf, l3A, l3C, idf_Wd']) 47 rfl fun nx K hK => ?_
  refine AWP.seqk fun K1 hK1 => ?_
  refine AWP.region (AOPS.all (by simp (disch := first | omega | (simp only [List.length_append, List.length_cons, List.length_nil, List.length_set, List.length_replicate, Int.toNat_natCast]; omega)) [idf_Wd', idf_numS, cells_numS, numS_fold]; rfl) ?_)
  refine hK1 _ ?_
  refine AWP.seqk fun K2 hK2 => ?_
  have J2 : ∀ s : St, (∃ X Y W : Int, X = nrm w x ∧ Y = nrm w y ∧ W = nrm w w ∧ s.env 3 = .ptr nx 0 0 ∧ s.env 4 = .ptr (nx + 1) 0 0 ∧ s.env 5 = .ptr (nx + 1 + 1) 0 0 ∧ s.env 6 = .ptr (nx + 1 + 1 + 1) 0 0 ∧ s.heap nx = some (2, [[.bool (decide (X < 0)), Wd .u32 (dg X)]]) ∧ s.heap (nx + 1) = some (2, [[.bool (decide (Y < 0)), Wd .u32 (dg Y)]]) ∧ s.heap (nx + 1 + 1) = some (2, [[.bool (decide (W < 0)), Wd .u32 (dg W)]]) ∧ s.heap (nx + 1 + 1 + 1) = some (6, [[.bool false, .nsl, .bool false, .nsl, .bool false, .nsl]]) ∧ nx + 1 + 1 + 1 < s.nx ∧ s.nt = 47) → K2 s := by
    rintro ⟨e, H, mm, nt⟩ ⟨X, Y, W, hX, hY, hW, h3, h4, h5, h6, hA, hB, hC, hD, hm, rfl⟩
    simp only [] at h3 h4 h5 h6 hA hB hC hD hm
    rw [← hX, ← hY, ← hW] at hg3
    have cX : Bg j X := by rw [hX]; exact bx.nrm
    have cY : Bg j Y := by rw [hY]; exact bY.nrm
    have cW : Bg j W := by rw [hW]; exact bw.nrm
    have bG1 : Bg j ((Int.gcd X Y : Nat) : Int) := Bg.gcd cX.abs cY.abs
    have bG : Bg j (gcd3 x y w) := by rw [← hg3]; exact Bg.gcd bG1 cW.abs
    have hg2 : FC Try.prog 88 [numS ((Int.gcd X Y : Nat) : Int), numS W] (numS (gcd3 x y w)) := by
      have h := l1Gcd_fc ((Int.gcd X Y : Nat) : Int) W bG1 cW hj
      have e : ((Int.gcd ((Int.gcd X Y : Nat) : Int) W : Nat) : Int) = gcd3 x y w := by rw [← hg3]; simp [Int.gcd, gcd3]
      rw [e] at h; exact h
    obtain ⟨cc, hcf, hce⟩ : ∃ c : Int, FC Try.prog 87 [numS (gcd3 x y w), numS 1] (.int .i64 c) ∧ (c == 0) = decide (gcd3 x y w = 1) := ⟨_, l1Cmp_fc bG (Bg.i64 (n := 1) (by omega) (by omega)) (by omega) (by omega), one_cmp _⟩
    generalize hgg : gcd3 x y w = g at *
    refine hK2 _ ?_
    refine AWP.seqk fun K3 hK3 => ?_
    refine AWP.draw 6 Try.checked.mixed (by kernel_rfl) (by simp) ?_
    simp only [List.take_succ_cons, List.take_zero, List.drop_succ_cons, List.drop_zero]
    refine DP.runFk 2 (by simp (disch := first | omega | (simp only [List.length_append, List.length_cons, List.length_nil, List.length_set, List.length_replicate, Int.toNat_natCast]; omega)) [runDf.eq_def, runF1, runF2, stepF.eq_def, updo.eq_def, hupo.eq_def, opSto1.eq_def, List.take_succ_cons, List.take_zero, idf_Wd', idf_numS, cells_numS, numS_fold, h3, h4, h5, hA, hB, hC, Nat.ne_of_lt hm]; rfl) fun fs4 hfs4 => ?_
    replace hfs4 : fs4.length = 2 := hfs4.trans rfl
    simp only [List.drop_succ_cons, List.drop_zero]
    refine DP.fcall (l1Gcd_fc X Y cX cY hj) rfl rfl rfl hb88 (by simp (disch := first | omega | (simp only [List.length_append, List.length_cons, List.length_nil, List.length_set, List.length_replicate, Int.toNat_natCast]; omega)) [idf_Wd', h3, h4, h5, hA, hB, hC, Nat.ne_of_lt hm, idf_Wd', idf_numS, cells_numS, numS_fold]) (by simp (disch := first | omega | (simp only [List.length_append, List.length_cons, List.length_nil, List.length_set, List.length_replicate, Int.toNat_natCast]; omega)) [h3, h4, h5, hA, hB, hC, Nat.ne_of_lt hm]) (by simp) ?_
    simp only [updo]
    refine DP.runFk 1 (by simp (disch := first | omega | (simp only [List.length_append, List.length_cons, List.length_nil, List.length_set, List.length_replicate, Int.toNat_natCast]; omega)) [runDf.eq_def, runF1, runF2, stepF.eq_def, updo.eq_def, hupo.eq_def, opSto1.eq_def, List.take_succ_cons, List.take_zero, idf_Wd', idf_numS, cells_numS, numS_fold, h3, h4, h5, hA, hB, hC, Nat.ne_of_lt hm]; rfl) fun fs5 hfs5 => ?_
    replace hfs5 : fs5.length = 1 := hfs5.trans rfl
    simp only [List.drop_succ_cons, List.drop_zero]
    refine DP.fcall (hg2) rfl rfl rfl hb88 (by simp (disch := first | omega | (simp only [List.length_append, List.length_cons, List.length_nil, List.length_set, List.length_replicate, Int.toNat_natCast]; omega)) [idf_Wd', h3, h4, h5, hA, hB, hC, Nat.ne_of_lt hm, idf_Wd', idf_numS, cells_numS, numS_fold]) (by simp (disch := first | omega | (simp only [List.length_append, List.length_cons, List.length_nil, List.length_set, List.length_replicate, Int.toNat_natCast]; omega)) [h3, h4, h5, hA, hB, hC, Nat.ne_of_lt hm]) (by simp) ?_
    simp only [updo]
    refine DP.runFk 1 (by simp (disch := first | omega | (simp only [List.length_append, List.length_cons, List.length_nil, List.length_set, List.length_replicate, Int.toNat_natCast]; omega)) [runDf.eq_def, runF1, runF2, stepF.eq_def, updo.eq_def, hupo.eq_def, opSto1.eq_def, List.take_succ_cons, List.take_zero, idf_Wd', idf_numS, cells_numS, numS_fold, h3, h4, h5, hA, hB, hC, Nat.ne_of_lt hm]; rfl) fun fs6 hfs6 => ?_
    replace hfs6 : fs6.length = 1 := hfs6.trans rfl
    simp only [List.drop_succ_cons, List.drop_zero]
    refine DQ.runF (m := 6) (by simp only [List.length_append, List.length_cons, List.length_nil, hfs4, hfs5, hfs6]; omega) _ _ _ (by kernel_rfl) rfl (by simp (disch := first | omega | (simp only [List.length_append, List.length_cons, List.length_nil, List.length_set, List.length_replicate, Int.toNat_natCast]; omega)) [runDf.eq_def, runF1, runF2, stepF.eq_def, updo.eq_def, hupo.eq_def, opSto1.eq_def, idf_Wd', idf_numS, cells_numS, numS_fold, h3, h4, h5, hA, hB, hC, Nat.ne_of_lt hm]; rfl) ?_
    refine hK3 _ ?_
    refine AWP.seqk fun K7 hK7 => ?_
    refine AWP.seqk fun K8 hK8 => ?_
    refine AWP.draw 4 Try.checked.mixed (by kernel_rfl) (by simp) ?_
    simp only [List.take_succ_cons, List.take_zero, List.drop_succ_cons, List.drop_zero]
    refine DP.runFk 1 (by simp (disch := first | omega | (simp only [List.length_append, List.length_cons, List.length_nil, List.length_set, List.length_replicate, Int.toNat_natCast]; omega)) [runDf.eq_def, runF1, runF2, stepF.eq_def, updo.eq_def, hupo.eq_def, opSto1.eq_def, List.take_succ_cons, List.take_zero, idf_Wd', idf_numS, cells_numS, numS_fold]; rfl) fun fs9 hfs9 => ?_
    replace hfs9 : fs9.length = 1 := hfs9.trans rfl
    simp only [List.drop_succ_cons, List.drop_zero]
    refine DP.fcall (l1Int_fc 1 (by omega) (by omega)) rfl rfl rfl hb89 (by simp (disch := first | omega | (simp only [List.length_append, List.length_cons, List.length_nil, List.length_set, List.length_replicate, Int.toNat_natCast]; omega)) [idf_Wd', idf_Wd', idf_numS, cells_numS, numS_fold]) (by simp (disch := first | omega | (simp only [List.length_append, List.length_cons, List.length_nil, List.length_set, List.length_replicate, Int.toNat_natCast]; omega))) (by simp) ?_
    simp only [updo]
    refine DP.fcall (hcf) rfl rfl rfl hb87 (by simp (disch := first | omega | (simp only [List.length_append, List.length_cons, List.length_nil, List.length_set, List.length_replicate, Int.toNat_natCast]; omega)) [idf_Wd', idf_Wd', idf_numS, cells_numS, numS_fold]) (by simp (disch := first | omega | (simp only [List.length_append, List.length_cons, List.length_nil, List.length_set, List.length_replicate, Int.toNat_natCast]; omega))) (by simp) ?_
    simp only [updo]
    refine DP.runFk 1 (by simp (disch := first | omega | (simp only [List.length_append, List.length_cons, List.length_nil, List.length_set, List.length_replicate, Int.toNat_natCast]; omega)) [runDf.eq_def, runF1, runF2, stepF.eq_def, updo.eq_def, hupo.eq_def, opSto1.eq_def, List.take_succ_cons, List.take_zero, idf_Wd', idf_numS, cells_numS, numS_fold]; rfl) fun fs10 hfs10 => ?_
    replace hfs10 : fs10.length = 1 := hfs10.trans rfl
    simp only [List.drop_succ_cons, List.drop_zero]
    refine DQ.runF (m := 4) (by simp only [List.length_append, List.length_cons, List.length_nil, hfs9, hfs10]; omega) _ _ _ (by kernel_rfl) rfl (by simp (disch := first | omega | (simp only [List.length_append, List.length_cons, List.length_nil, List.length_set, List.length_replicate, Int.toNat_natCast]; omega)) [runDf.eq_def, runF1, runF2, stepF.eq_def, updo.eq_def, hupo.eq_def, opSto1.eq_def, idf_Wd', idf_numS, cells_numS, numS_fold]; rfl) ?_
    refine hK8 _ ?_
    refine cond_ok (!decide (g = 1)) (by simp (disch := first | omega | (simp only [List.length_append, List.length_cons, List.length_nil, List.length_set, List.length_replicate, Int.toNat_natCast]; omega)) [bne, hce]) (fun h24 => ?_) (fun h24 => ?_)
    · try simp only [decide_eq_true_eq, decide_eq_false_iff_not] at h24
      refine AWP.seqk fun K11 hK11 => ?_
      refine AWP.region ?_
      refine AOPS.runk 2 (by simp (disch := first | omega | (simp only [List.length_append, List.length_cons, List.length_nil, List.length_set, List.length_replicate, Int.toNat_natCast]; omega)) [List.take_succ_cons, List.take_zero, idf_Wd', idf_numS, cells_numS, numS_fold, h3, hA]; rfl) ?_
      simp only [List.drop_succ_cons, List.drop_zero]
      refine AOPS.fcall (l1Div_fc X g (by omega) cX bG hj) rfl rfl rfl hb142 (by simp (disch := first | omega | (simp only [List.length_append, List.length_cons, List.length_nil, List.length_set, List.length_replicate, Int.toNat_natCast]; omega)) [idf_Wd', h3, hA, idf_Wd', idf_numS, cells_numS, numS_fold]) (by simp (disch := first | omega | (simp only [List.length_append, List.length_cons, List.length_nil, List.length_set, List.length_replicate, Int.toNat_natCast]; omega)) [h3, hA]) (by simp) ?_
      simp only [puts_some, updo]
      refine AOPS.all (by simp (disch := first | omega | (simp only [List.length_append, List.length_cons, List.length_nil, List.length_set, List.length_replicate, Int.toNat_natCast]; omega)) [idf_Wd', idf_numS, cells_numS, numS_fold, h3, hA]; rfl) ?_
      refine hK11 _ ?_
      refine AWP.seqk fun K12 hK12 => ?_
      refine AWP.region ?_
      refine AOPS.runk 2 (by simp (disch := first | omega | (simp only [List.length_append, List.length_cons, List.length_nil, List.length_set, List.length_replicate, Int.toNat_natCast]; omega)) [List.take_succ_cons, List.take_zero, idf_Wd', idf_numS, cells_numS, numS_fold, h4, hB]; rfl) ?_
      simp only [List.drop_succ_cons, List.drop_zero]
      refine AOPS.fcall (l1Div_fc Y g (by omega) cY bG hj) rfl rfl rfl hb142 (by simp (disch := first | omega | (simp only [List.length_append, List.length_cons, List.length_nil, List.length_set, List.length_replicate, Int.toNat_natCast]; omega)) [idf_Wd', h4, hB, idf_Wd', idf_numS, cells_numS, numS_fold]) (by simp (disch := first | omega | (simp only [List.length_append, List.length_cons, List.length_nil, List.length_set, List.length_replicate, Int.toNat_natCast]; omega)) [h4, hB]) (by simp) ?_
      simp only [puts_some, updo]
      refine AOPS.all (by simp (disch := first | omega | (simp only [List.length_append, List.length_cons, List.length_nil, List.length_set, List.length_replicate, Int.toNat_natCast]; omega)) [idf_Wd', idf_numS, cells_numS, numS_fold, h4, hB]; rfl) ?_
      refine hK12 _ ?_
      refine AWP.region ?_
      refine AOPS.runk 2 (by simp (disch := first | omega | (simp only [List.length_append, List.length_cons, List.length_nil, List.length_set, List.length_replicate, Int.toNat_natCast]; omega)) [List.take_succ_cons, List.take_zero, idf_Wd', idf_numS, cells_numS, numS_fold, h5, hC]; rfl) ?_
      simp only [List.drop_succ_cons, List.drop_zero]
      refine AOPS.fcall (l1Div_fc W g (by omega) cW bG hj) rfl rfl rfl hb142 (by simp (disch := first | omega | (simp only [List.length_append, List.length_cons, List.length_nil, List.length_set, List.length_replicate, Int.toNat_natCast]; omega)) [idf_Wd', h5, hC, idf_Wd', idf_numS, cells_numS, numS_fold]) (by simp (disch := first | omega | (simp only [List.length_append, List.length_cons, List.length_nil, List.length_set, List.length_replicate, Int.toNat_natCast]; omega)) [h5, hC]) (by simp) ?_
      simp only [puts_some, updo]
      refine AOPS.all (by simp (disch := first | omega | (simp only [List.length_append, List.length_cons, List.length_nil, List.length_set, List.length_replicate, Int.toNat_natCast]; omega)) [idf_Wd', idf_numS, cells_numS, numS_fold, h5, hC]; rfl) ?_
      refine hK7 _ ?_
      refine AWP.seqk fun K13 hK13 => ?_
      refine AWP.region (AOPS.all (by simp (disch := first | omega | (simp only [List.length_append, List.length_cons, List.length_nil, List.length_set, List.length_replicate, Int.toNat_natCast]; omega)) [idf_Wd', idf_numS, cells_numS, numS_fold, h3, h4, h5, h6, hD]; rfl) ?_)
      refine hK13 _ ?_
      refine AWP.ret ?_
      exact hK _ _ _ _ trivial ((Fin.mk (by simp (disch := omega) [aRes, aResL, aRes1, h6, idf_Wd', idf_numS, cells_numS, numS_fold]; rfl)).cast (by rw [← hX, ← hY, ← hW]; first | done | rfl))
    · try simp only [decide_eq_true_eq, decide_eq_false_iff_not] at h24
      have hg1 : g = 1 := by simpa using h24
      refine AWP.skip ?_
      refine hK7 _ ?_
      refine AWP.seqk fun K14 hK14 => ?_
      refine AWP.region (AOPS.all (by simp (disch := first | omega | (simp only [List.length_append, List.length_cons, List.length_nil, List.length_set, List.length_replicate, Int.toNat_natCast]; omega)) [idf_Wd', idf_numS, cells_numS, numS_fold, h3, h4, h5, h6, hA, hB, hC, hD]; rfl) ?_)
      refine hK14 _ ?_
      refine AWP.ret ?_
      exact hK _ _ _ _ trivial ((Fin.mk (by simp (disch := omega) [aRes, aResL, aRes1, h6, idf_Wd', idf_numS, cells_numS, numS_fold]; rfl)).cast (by rw [← hX, ← hY, ← hW, hg1, Int.ediv_one, Int.ediv_one, Int.ediv_one]; first | done | rfl))
  refine AWP.seqk fun K15 hK15 => ?_
  refine AWP.region (AOPS.all (by simp (disch := first | omega | (simp only [List.length_append, List.length_cons, List.length_nil, List.length_set, List.length_replicate, Int.toNat_natCast]; omega)) [idf_Wd', idf_numS, cells_numS, numS_fold]; rfl) ?_)
  refine hK15 _ ?_
  refine cond_ok (decide (w < 0)) (by simp (disch := first | omega | (simp only [List.length_append, List.length_cons, List.length_nil, List.length_set, List.length_replicate, Int.toNat_natCast]; omega))) (fun h9 => ?_) (fun h9 => ?_)
  · try simp only [decide_eq_true_eq, decide_eq_false_iff_not] at h9
    refine AWP.old fun hold => ?_
    refine AWP.draw 6 Try.checked.mixed (by kernel_rfl) (by simp) ?_
    simp only [List.take_succ_cons, List.take_zero, List.drop_succ_cons, List.drop_zero]
    refine DP.runFk 1 (by simp (disch := first | omega | (simp only [List.length_append, List.length_cons, List.length_nil, List.length_set, List.length_replicate, Int.toNat_natCast]; omega)) [runDf.eq_def, runF1, runF2, stepF.eq_def, updo.eq_def, hupo.eq_def, opSto1.eq_def, List.take_succ_cons, List.take_zero, idf_Wd', idf_numS, cells_numS, numS_fold]; rfl) fun fs16 hfs16 => ?_
    replace hfs16 : fs16.length = 1 := hfs16.trans rfl
    simp only [List.drop_succ_cons, List.drop_zero]
    refine DP.fcall (l1Neg_fc x) rfl rfl rfl hb141 (by simp (disch := first | omega | (simp only [List.length_append, List.length_cons, List.length_nil, List.length_set, List.length_replicate, Int.toNat_natCast]; omega)) [idf_Wd', idf_Wd', idf_numS, cells_numS, numS_fold]) (by simp (disch := first | omega | (simp only [List.length_append, List.length_cons, List.length_nil, List.length_set, List.length_replicate, Int.toNat_natCast]; omega))) (by simp) ?_
    simp only [updo]
    refine DP.runF1q (by simp (disch := first | omega | (simp only [List.length_append, List.length_cons, List.length_nil, List.length_set, List.length_replicate, Int.toNat_natCast]; omega)) [runDf.eq_def, runF1, runF2, stepF.eq_def, updo.eq_def, hupo.eq_def, opSto1.eq_def, idf_Wd', idf_numS, cells_numS, numS_fold]; rfl) fun fq17 hfq17 => ?_
    simp [qids, Op.operands, topId] at hfq17
    simp only [updo]
    refine DP.fcall (l1Neg_fc y) rfl rfl rfl hb141 (by simp (disch := first | omega | (simp only [List.length_append, List.length_cons, List.length_nil, List.length_set, List.length_replicate, Int.toNat_natCast]; omega)) [idf_Wd', idf_Wd', idf_numS, cells_numS, numS_fold]) (by simp (disch := first | omega | (simp only [List.length_append, List.length_cons, List.length_nil, List.length_set, List.length_replicate, Int.toNat_natCast]; omega))) (by simp) ?_
    simp only [updo]
    refine DP.runF1q (by simp (disch := first | omega | (simp only [List.length_append, List.length_cons, List.length_nil, List.length_set, List.length_replicate, Int.toNat_natCast]; omega)) [runDf.eq_def, runF1, runF2, stepF.eq_def, updo.eq_def, hupo.eq_def, opSto1.eq_def, idf_Wd', idf_numS, cells_numS, numS_fold]; rfl) fun fq18 hfq18 => ?_
    simp [qids, Op.operands, topId] at hfq18
    simp only [updo]
    refine DP.fcall (l1Neg_fc w) rfl rfl rfl hb141 (by simp (disch := first | omega | (simp only [List.length_append, List.length_cons, List.length_nil, List.length_set, List.length_replicate, Int.toNat_natCast]; omega)) [idf_Wd', idf_Wd', idf_numS, cells_numS, numS_fold]) (by simp (disch := first | omega | (simp only [List.length_append, List.length_cons, List.length_nil, List.length_set, List.length_replicate, Int.toNat_natCast]; omega))) (by simp) ?_
    simp only [updo]
    refine DQ.sto1 (m := 6) [2, 3, 4] _ (by simp (disch := first | omega | (simp only [List.length_append, List.length_cons, List.length_nil, List.length_set, List.length_replicate, Int.toNat_natCast]; omega)) [runDf.eq_def, runF1, runF2, stepF.eq_def, updo.eq_def, hupo.eq_def, opSto1.eq_def, idf_Wd', idf_numS, cells_numS, numS_fold]; rfl) rfl (by simp only [List.length_append, List.length_cons, List.length_nil, hfs16]; omega) (by kernel_rfl) (by intro k f hk hex; simp only [List.mem_cons, List.not_mem_nil, or_false] at hex; rcases hex with rfl | rfl | rfl <;> (simp [List.getElem?_append, hfs16] at hk; subst hk; refine ⟨?_, by first | omega | (simp; done) | (simp; omega)⟩; simp [qids, Op.operands, Call.operands, topId, numS, numI, Wd, hfq17, hfq18]; try omega)) ?_
    try simp only []
    refine DQ.sto1 (m := 6) [4, 5] _ (by simp (disch := first | omega | (simp only [List.length_append, List.length_cons, List.length_nil, List.length_set, List.length_replicate, Int.toNat_natCast]; omega)) [runDf.eq_def, runF1, runF2, stepF.eq_def, updo.eq_def, hupo.eq_def, opSto1.eq_def, idf_Wd', idf_numS, cells_numS, numS_fold]; rfl) rfl (by simp only [List.length_append, List.length_cons, List.length_nil, hfs16]; omega) (by kernel_rfl) (by intro k f hk hex; simp only [List.mem_cons, List.not_mem_nil, or_false] at hex; rcases hex with rfl | rfl <;> (simp [List.getElem?_append, hfs16] at hk; subst hk; refine ⟨?_, by first | omega | (simp; done) | (simp; omega)⟩; simp [qids, Op.operands, Call.operands, topId, numS, numI, Wd, hfq17, hfq18]; try omega)) ?_
    try simp only []
    refine DQ.sto1 (m := 6) [] _ (by simp (disch := first | omega | (simp only [List.length_append, List.length_cons, List.length_nil, List.length_set, List.length_replicate, Int.toNat_natCast]; omega)) [runDf.eq_def, runF1, runF2, stepF.eq_def, updo.eq_def, hupo.eq_def, opSto1.eq_def, idf_Wd', idf_numS, cells_numS, numS_fold]; rfl) rfl (by simp only [List.length_append, List.length_cons, List.length_nil, hfs16]; omega) (by kernel_rfl) (by intro k f hk hex; simp only [List.not_mem_nil] at hex) ?_
    try simp only []
    refine J2 _ ?_
    exact ⟨-x, -y, -w, by simp [nrm, h9], by simp [nrm, h9], by simp [nrm, h9], by simp, by simp, by simp, by simp, by simp (disch := omega), by simp (disch := omega), by simp (disch := omega), by simp (disch := omega), by simp, rfl⟩
  · try simp only [decide_eq_true_eq, decide_eq_false_iff_not] at h9
    refine AWP.skip ?_
    refine J2 _ ?_
    exact ⟨x, y, w, by simp [nrm, h9], by simp [nrm, h9], by simp [nrm, h9], by simp, by simp, by simp, by simp, by simp (disch := omega), by simp (disch := omega), by simp (disch := omega), by simp (disch := omega), by simp, rfl⟩

set_option maxHeartbeats 2000000 in
theorem l3Point_fc {k : Nat} (x y w : Int) (bx : Bg k x) (bY : Bg k y) (bw : Bg k w) (hk : k ≤ 68719476736) : FC Try.prog 73 [l3A x y w] (.tup [.agg [.int .u64 (pt3 x y w).x.a, .int .u64 (pt3 x y w).x.b, .int .u64 (pt3 x y w).x.c, .int .u64 (pt3 x y w).x.d, .int .u64 (pt3 x y w).y.a, .int .u64 (pt3 x y w).y.b, .int .u64 (pt3 x y w).y.c, .int .u64 (pt3 x y w).y.d, .int .u64 (pt3 x y w).w.a, .int .u64 (pt3 x y w).w.b, .int .u64 (pt3 x y w).w.c, .int .u64 (pt3 x y w).w.d], .bool (sm x y w)]) := by
  have hs := l3Small_fc bx bY bw hk
  have w1 := l1Wide_fc bx hk
  have w2 := l1Wide_fc bY hk
  have w3 := l1Wide_fc bw hk
  rw [wdT_l] at w1 w2 w3
  unfold W4.l at w1 w2 w3
  refine FC.body Try.func73 rfl (by simp [idfL, idf, idfLL_iff, idf_Wd', idf_numS, cells_numS, numS_fold, l3A, l3C]) (by simp [idfL, idf, idfLL_iff, idf_Wd', idf_numS, cells_numS, numS_fold, l3A, l3C]) 36 rfl fun nx K hK => ?_
  refine AWP.seqk fun K1 hK1 => ?_
  refine AWP.region (AOPS.all (by simp (disch := first | omega | (simp only [List.length_append, List.length_cons, List.length_nil, List.length_set, List.length_replicate, Int.toNat_natCast]; omega)) [idf_Wd', idf_numS, cells_numS, numS_fold, l3A, l3C]; rfl) ?_)
  refine hK1 _ ?_
  refine AWP.seqk fun K2 hK2 => ?_
  refine AWP.seqk fun K3 hK3 => ?_
  refine AWP.region ?_
  refine AOPS.runk 1 (by simp (disch := first | omega | (simp only [List.length_append, List.length_cons, List.length_nil, List.length_set, List.length_replicate, Int.toNat_natCast]; omega)) [List.take_succ_cons, List.take_zero, idf_Wd', idf_numS, cells_numS, numS_fold, l3A, l3C]; rfl) ?_
  simp only [List.drop_succ_cons, List.drop_zero]
  refine AOPS.fcall (hs) rfl rfl rfl hb86 (by simp (disch := first | omega | (simp only [List.length_append, List.length_cons, List.length_nil, List.length_set, List.length_replicate, Int.toNat_natCast]; omega)) [idf_Wd', idf_Wd', idf_numS, cells_numS, numS_fold, l3A, l3C]) (by simp (disch := first | omega | (simp only [List.length_append, List.length_cons, List.length_nil, List.length_set, List.length_replicate, Int.toNat_natCast]; omega))) (by simp) ?_
  simp only [puts_some, updo]
  refine AOPS.all (by simp (disch := first | omega | (simp only [List.length_append, List.length_cons, List.length_nil, List.length_set, List.length_replicate, Int.toNat_natCast]; omega)) [idf_Wd', idf_numS, cells_numS, numS_fold, l3A, l3C]; rfl) ?_
  refine hK3 _ ?_
  refine cond_ok (!(sm x y w)) (by simp (disch := first | omega | (simp only [List.length_append, List.length_cons, List.length_nil, List.length_set, List.length_replicate, Int.toNat_natCast]; omega))) (fun h12 => ?_) (fun h12 => ?_)
  · try simp only [decide_eq_true_eq, decide_eq_false_iff_not] at h12
    have hb : sm x y w = false := by simpa using h12
    refine AWP.seqk fun K4 hK4 => ?_
    refine AWP.region (AOPS.all (by simp (disch := first | omega | (simp only [List.length_append, List.length_cons, List.length_nil, List.length_set, List.length_replicate, Int.toNat_natCast]; omega)) [idf_Wd', idf_numS, cells_numS, numS_fold, l3A, l3C]; rfl) ?_)
    refine hK4 _ ?_
    refine AWP.ret ?_
    exact hK _ _ _ _ trivial ((Fin.mk (by simp [aRes, aResL, aRes1, idf_Wd', idf_numS, cells_numS, numS_fold, l3A, l3C]; rfl)).cast (by rw [pt3, hb]; rfl))
  · try simp only [decide_eq_true_eq, decide_eq_false_iff_not] at h12
    have hb : sm x y w = true := by simpa using h12
    refine AWP.skip ?_
    refine hK2 _ ?_
    refine AWP.seqk fun K5 hK5 => ?_
    refine AWP.region ?_
    refine AOPS.runk 2 (by simp (disch := first | omega | (simp only [List.length_append, List.length_cons, List.length_nil, List.length_set, List.length_replicate, Int.toNat_natCast]; omega)) [List.take_succ_cons, List.take_zero, idf_Wd', idf_numS, cells_numS, numS_fold, l3A, l3C]; rfl) ?_
    simp only [List.drop_succ_cons, List.drop_zero]
    refine AOPS.fcall (w1) rfl rfl rfl hb109 (by simp (disch := first | omega | (simp only [List.length_append, List.length_cons, List.length_nil, List.length_set, List.length_replicate, Int.toNat_natCast]; omega)) [idf_Wd', idf_Wd', idf_numS, cells_numS, numS_fold, l3A, l3C]) (by simp (disch := first | omega | (simp only [List.length_append, List.length_cons, List.length_nil, List.length_set, List.length_replicate, Int.toNat_natCast]; omega))) (by simp) ?_
    simp only [puts_some, updo]
    refine AOPS.all (by simp (disch := first | omega | (simp only [List.length_append, List.length_cons, List.length_nil, List.length_set, List.length_replicate, Int.toNat_natCast]; omega)) [idf_Wd', idf_numS, cells_numS, numS_fold, l3A, l3C]; rfl) ?_
    refine hK5 _ ?_
    refine AWP.seqk fun K6 hK6 => ?_
    refine AWP.region ?_
    refine AOPS.runk 2 (by simp (disch := first | omega | (simp only [List.length_append, List.length_cons, List.length_nil, List.length_set, List.length_replicate, Int.toNat_natCast]; omega)) [List.take_succ_cons, List.take_zero, idf_Wd', idf_numS, cells_numS, numS_fold, l3A, l3C]; rfl) ?_
    simp only [List.drop_succ_cons, List.drop_zero]
    refine AOPS.fcall (w2) rfl rfl rfl hb109 (by simp (disch := first | omega | (simp only [List.length_append, List.length_cons, List.length_nil, List.length_set, List.length_replicate, Int.toNat_natCast]; omega)) [idf_Wd', idf_Wd', idf_numS, cells_numS, numS_fold, l3A, l3C]) (by simp (disch := first | omega | (simp only [List.length_append, List.length_cons, List.length_nil, List.length_set, List.length_replicate, Int.toNat_natCast]; omega))) (by simp) ?_
    simp only [puts_some, updo]
    refine AOPS.all (by simp (disch := first | omega | (simp only [List.length_append, List.length_cons, List.length_nil, List.length_set, List.length_replicate, Int.toNat_natCast]; omega)) [idf_Wd', idf_numS, cells_numS, numS_fold, l3A, l3C]; rfl) ?_
    refine hK6 _ ?_
    refine AWP.seqk fun K7 hK7 => ?_
    refine AWP.region ?_
    refine AOPS.runk 2 (by simp (disch := first | omega | (simp only [List.length_append, List.length_cons, List.length_nil, List.length_set, List.length_replicate, Int.toNat_natCast]; omega)) [List.take_succ_cons, List.take_zero, idf_Wd', idf_numS, cells_numS, numS_fold, l3A, l3C]; rfl) ?_
    simp only [List.drop_succ_cons, List.drop_zero]
    refine AOPS.fcall (w3) rfl rfl rfl hb109 (by simp (disch := first | omega | (simp only [List.length_append, List.length_cons, List.length_nil, List.length_set, List.length_replicate, Int.toNat_natCast]; omega)) [idf_Wd', idf_Wd', idf_numS, cells_numS, numS_fold, l3A, l3C]) (by simp (disch := first | omega | (simp only [List.length_append, List.length_cons, List.length_nil, List.length_set, List.length_replicate, Int.toNat_natCast]; omega))) (by simp) ?_
    simp only [puts_some, updo]
    refine AOPS.all (by simp (disch := first | omega | (simp only [List.length_append, List.length_cons, List.length_nil, List.length_set, List.length_replicate, Int.toNat_natCast]; omega)) [idf_Wd', idf_numS, cells_numS, numS_fold, l3A, l3C]; rfl) ?_
    refine hK7 _ ?_
    refine AWP.seqk fun K8 hK8 => ?_
    refine AWP.region (AOPS.all (by simp (disch := first | omega | (simp only [List.length_append, List.length_cons, List.length_nil, List.length_set, List.length_replicate, Int.toNat_natCast]; omega)) [idf_Wd', idf_numS, cells_numS, numS_fold, l3A, l3C]; rfl) ?_)
    refine hK8 _ ?_
    refine AWP.ret ?_
    exact hK _ _ _ _ trivial ((Fin.mk (by simp [aRes, aResL, aRes1, idf_Wd', idf_numS, cells_numS, numS_fold, l3A, l3C]; rfl)).cast (by rw [pt3, if_pos hb, hb]))

theorem l3Spot_fc (x y : Int) (hx1 : -9223372036854775808 ≤ x) (hx2 : x ≤ 9223372036854775807) (hy1 : -9223372036854775808 ≤ y) (hy2 : y ≤ 9223372036854775807) : FC Try.prog 125 [.agg [.int .i64 x, .int .i64 y]] (l3A x y 1) := by
  refine FC.body Try.func125 rfl (by simp [idfL, idf, idfLL_iff, idf_Wd', idf_numS, cells_numS, numS_fold]) (by simp [idfL, idf, l3A, l3C, idf_Wd']) 11 rfl fun nx K hK => ?_
  refine AWP.seqk fun K1 hK1 => ?_
  refine AWP.region (AOPS.all (by simp (disch := first | omega | (simp only [List.length_append, List.length_cons, List.length_nil, List.length_set, List.length_replicate, Int.toNat_natCast]; omega)) [idf_Wd', idf_numS, cells_numS, numS_fold]; rfl) ?_)
  refine hK1 _ ?_
  refine AWP.seqk fun K2 hK2 => ?_
  refine AWP.draw 8 Try.checked.mixed (by kernel_rfl) (by simp) ?_
  simp only [List.take_succ_cons, List.take_zero, List.drop_succ_cons, List.drop_zero]
  refine DP.runFk 2 (by simp (disch := first | omega | (simp only [List.length_append, List.length_cons, List.length_nil, List.length_set, List.length_replicate, Int.toNat_natCast]; omega)) [runDf.eq_def, runF1, runF2, stepF.eq_def, updo.eq_def, hupo.eq_def, opSto1.eq_def, List.take_succ_cons, List.take_zero, idf_Wd', idf_numS, cells_numS, numS_fold]; rfl) fun fs3 hfs3 => ?_
  replace hfs3 : fs3.length = 2 := hfs3.trans rfl
  simp only [List.drop_succ_cons, List.drop_zero]
  refine DP.fcall (l1Int_fc x hx1 hx2) rfl rfl rfl hb89 (by simp (disch := first | omega | (simp only [List.length_append, List.length_cons, List.length_nil, List.length_set, List.length_replicate, Int.toNat_natCast]; omega)) [idf_Wd', idf_Wd', idf_numS, cells_numS, numS_fold]) (by simp (disch := first | omega | (simp only [List.length_append, List.length_cons, List.length_nil, List.length_set, List.length_replicate, Int.toNat_natCast]; omega))) (by simp) ?_
  simp only [updo]
  refine DP.runFk 2 (by simp (disch := first | omega | (simp only [List.length_append, List.length_cons, List.length_nil, List.length_set, List.length_replicate, Int.toNat_natCast]; omega)) [runDf.eq_def, runF1, runF2, stepF.eq_def, updo.eq_def, hupo.eq_def, opSto1.eq_def, List.take_succ_cons, List.take_zero, idf_Wd', idf_numS, cells_numS, numS_fold]; rfl) fun fs4 hfs4 => ?_
  replace hfs4 : fs4.length = 2 := hfs4.trans rfl
  simp only [List.drop_succ_cons, List.drop_zero]
  refine DP.fcall (l1Int_fc y hy1 hy2) rfl rfl rfl hb89 (by simp (disch := first | omega | (simp only [List.length_append, List.length_cons, List.length_nil, List.length_set, List.length_replicate, Int.toNat_natCast]; omega)) [idf_Wd', idf_Wd', idf_numS, cells_numS, numS_fold]) (by simp (disch := first | omega | (simp only [List.length_append, List.length_cons, List.length_nil, List.length_set, List.length_replicate, Int.toNat_natCast]; omega))) (by simp) ?_
  simp only [updo]
  refine DP.fcall (l1Int_fc 1 (by omega) (by omega)) rfl rfl rfl hb89 (by simp (disch := first | omega | (simp only [List.length_append, List.length_cons, List.length_nil, List.length_set, List.length_replicate, Int.toNat_natCast]; omega)) [idf_Wd', idf_Wd', idf_numS, cells_numS, numS_fold]) (by simp (disch := first | omega | (simp only [List.length_append, List.length_cons, List.length_nil, List.length_set, List.length_replicate, Int.toNat_natCast]; omega))) (by simp) ?_
  simp only [updo]
  refine DP.runFk 1 (by simp (disch := first | omega | (simp only [List.length_append, List.length_cons, List.length_nil, List.length_set, List.length_replicate, Int.toNat_natCast]; omega)) [runDf.eq_def, runF1, runF2, stepF.eq_def, updo.eq_def, hupo.eq_def, opSto1.eq_def, List.take_succ_cons, List.take_zero, idf_Wd', idf_numS, cells_numS, numS_fold]; rfl) fun fs5 hfs5 => ?_
  replace hfs5 : fs5.length = 1 := hfs5.trans rfl
  simp only [List.drop_succ_cons, List.drop_zero]
  refine DQ.runF (m := 8) (by simp only [List.length_append, List.length_cons, List.length_nil, hfs3, hfs4, hfs5]; omega) _ _ _ (by kernel_rfl) rfl (by simp (disch := first | omega | (simp only [List.length_append, List.length_cons, List.length_nil, List.length_set, List.length_replicate, Int.toNat_natCast]; omega)) [runDf.eq_def, runF1, runF2, stepF.eq_def, updo.eq_def, hupo.eq_def, opSto1.eq_def, idf_Wd', idf_numS, cells_numS, numS_fold]; rfl) ?_
  refine hK2 _ ?_
  refine AWP.ret ?_
  exact hK _ _ _ _ trivial ((Fin.mk (by simp [aRes, aResL, aRes1, idf_Wd', idf_numS, cells_numS, numS_fold]; rfl)).cast (by rfl))

theorem pointOfS_fc (x y : Int) (hx1 : -9223372036854775808 ≤ x) (hx2 : x ≤ 9223372036854775807) (hy1 : -9223372036854775808 ≤ y) (hy2 : y ≤ 9223372036854775807) : FC Try.prog 98 [.agg [.int .i64 x, .int .i64 y]] (.agg [.int .u64 (pt3 x y 1).x.a, .int .u64 (pt3 x y 1).x.b, .int .u64 (pt3 x y 1).x.c, .int .u64 (pt3 x y 1).x.d, .int .u64 (pt3 x y 1).y.a, .int .u64 (pt3 x y 1).y.b, .int .u64 (pt3 x y 1).y.c, .int .u64 (pt3 x y 1).y.d, .int .u64 (pt3 x y 1).w.a, .int .u64 (pt3 x y 1).w.b, .int .u64 (pt3 x y 1).w.c, .int .u64 (pt3 x y 1).w.d]) := by
  refine FC.body Try.func98 rfl (by simp [idfL, idf, idfLL_iff, idf_Wd', idf_numS, cells_numS, numS_fold]) (by simp [idfL, idf, idfLL_iff, idf_Wd', idf_numS, cells_numS, numS_fold]) 12 rfl fun nx K hK => ?_
  refine AWP.seqk fun K1 hK1 => ?_
  refine AWP.region (AOPS.all (by simp (disch := first | omega | (simp only [List.length_append, List.length_cons, List.length_nil, List.length_set, List.length_replicate, Int.toNat_natCast]; omega)) [idf_Wd', idf_numS, cells_numS, numS_fold]; rfl) ?_)
  refine hK1 _ ?_
  refine AWP.seqk fun K2 hK2 => ?_
  refine AWP.region ?_
  refine AOPS.runk 1 (by simp (disch := first | omega | (simp only [List.length_append, List.length_cons, List.length_nil, List.length_set, List.length_replicate, Int.toNat_natCast]; omega)) [List.take_succ_cons, List.take_zero, idf_Wd', idf_numS, cells_numS, numS_fold]; rfl) ?_
  simp only [List.drop_succ_cons, List.drop_zero]
  refine AOPS.fcall (l3Spot_fc x y hx1 hx2 hy1 hy2) rfl rfl rfl hb125 (by simp (disch := first | omega | (simp only [List.length_append, List.length_cons, List.length_nil, List.length_set, List.length_replicate, Int.toNat_natCast]; omega)) [idf_Wd', idf_Wd', idf_numS, cells_numS, numS_fold]) (by simp (disch := first | omega | (simp only [List.length_append, List.length_cons, List.length_nil, List.length_set, List.length_replicate, Int.toNat_natCast]; omega))) (by simp) ?_
  simp only [puts_some, updo]
  refine AOPS.fcall (l3Point_fc x y 1 (Bg.i64 hx1 hx2) (Bg.i64 hy1 hy2) (Bg.i64 (n := 1) (by omega) (by omega)) (by omega)) rfl rfl rfl hb73 (by simp (disch := first | omega | (simp only [List.length_append, List.length_cons, List.length_nil, List.length_set, List.length_replicate, Int.toNat_natCast]; omega)) [idf_Wd', idf_Wd', idf_numS, cells_numS, numS_fold]) (by simp (disch := first | omega | (simp only [List.length_append, List.length_cons, List.length_nil, List.length_set, List.length_replicate, Int.toNat_natCast]; omega))) (by simp) ?_
  simp only [puts_some, updo]
  refine AOPS.all (by simp (disch := first | omega | (simp only [List.length_append, List.length_cons, List.length_nil, List.length_set, List.length_replicate, Int.toNat_natCast]; omega)) [idf_Wd', idf_numS, cells_numS, numS_fold]; rfl) ?_
  refine hK2 _ ?_
  refine AWP.seqk fun K3 hK3 => ?_
  refine AWP.region (AOPS.all (by simp (disch := first | omega | (simp only [List.length_append, List.length_cons, List.length_nil, List.length_set, List.length_replicate, Int.toNat_natCast]; omega)) [idf_Wd', idf_numS, cells_numS, numS_fold]; rfl) ?_)
  refine hK3 _ ?_
  refine AWP.ret ?_
  exact hK _ _ _ _ trivial (Fin.mk (by simp (disch := first | omega | (simp only [List.length_append, List.length_cons, List.length_nil, List.length_set, List.length_replicate, Int.toNat_natCast]; omega)) [aRes, aResL, aRes1, idf_Wd', idf_numS, cells_numS, numS_fold]))

theorem wideOfS_fc (n : Int) (h1 : -9223372036854775808 ≤ n) (h2 : n ≤ 9223372036854775807) : FC Try.prog 95 [.int .i64 n] (.agg [.int .u64 (W4z n).a, .int .u64 (W4z n).b, .int .u64 (W4z n).c, .int .u64 (W4z n).d]) := by
  have w1 := l1Wide_fc (Bg.i64 h1 h2) (by omega)
  rw [wdT_l] at w1
  unfold W4.l at w1
  refine FC.body Try.func95 rfl (by simp [idfL, idf, idfLL_iff, idf_Wd', idf_numS, cells_numS, numS_fold]) (by simp [idfL, idf, idfLL_iff, idf_Wd', idf_numS, cells_numS, numS_fold]) 12 rfl fun nx K hK => ?_
  refine AWP.seqk fun K1 hK1 => ?_
  refine AWP.region (AOPS.all (by simp (disch := first | omega | (simp only [List.length_append, List.length_cons, List.length_nil, List.length_set, List.length_replicate, Int.toNat_natCast]; omega)) [idf_Wd', idf_numS, cells_numS, numS_fold]; rfl) ?_)
  refine hK1 _ ?_
  refine AWP.seqk fun K2 hK2 => ?_
  refine AWP.region ?_
  refine AOPS.runk 1 (by simp (disch := first | omega | (simp only [List.length_append, List.length_cons, List.length_nil, List.length_set, List.length_replicate, Int.toNat_natCast]; omega)) [List.take_succ_cons, List.take_zero, idf_Wd', idf_numS, cells_numS, numS_fold]; rfl) ?_
  simp only [List.drop_succ_cons, List.drop_zero]
  refine AOPS.fcall (l1Int_fc n h1 h2) rfl rfl rfl hb89 (by simp (disch := first | omega | (simp only [List.length_append, List.length_cons, List.length_nil, List.length_set, List.length_replicate, Int.toNat_natCast]; omega)) [idf_Wd', idf_Wd', idf_numS, cells_numS, numS_fold]) (by simp (disch := first | omega | (simp only [List.length_append, List.length_cons, List.length_nil, List.length_set, List.length_replicate, Int.toNat_natCast]; omega))) (by simp) ?_
  simp only [puts_some, updo]
  refine AOPS.fcall (w1) rfl rfl rfl hb109 (by simp (disch := first | omega | (simp only [List.length_append, List.length_cons, List.length_nil, List.length_set, List.length_replicate, Int.toNat_natCast]; omega)) [idf_Wd', idf_Wd', idf_numS, cells_numS, numS_fold]) (by simp (disch := first | omega | (simp only [List.length_append, List.length_cons, List.length_nil, List.length_set, List.length_replicate, Int.toNat_natCast]; omega))) (by simp) ?_
  simp only [puts_some, updo]
  refine AOPS.all (by simp (disch := first | omega | (simp only [List.length_append, List.length_cons, List.length_nil, List.length_set, List.length_replicate, Int.toNat_natCast]; omega)) [idf_Wd', idf_numS, cells_numS, numS_fold]; rfl) ?_
  refine hK2 _ ?_
  refine AWP.seqk fun K3 hK3 => ?_
  refine AWP.region (AOPS.all (by simp (disch := first | omega | (simp only [List.length_append, List.length_cons, List.length_nil, List.length_set, List.length_replicate, Int.toNat_natCast]; omega)) [idf_Wd', idf_numS, cells_numS, numS_fold]; rfl) ?_)
  refine hK3 _ ?_
  refine AWP.ret ?_
  exact hK _ _ _ _ trivial (Fin.mk (by simp (disch := first | omega | (simp only [List.length_append, List.length_cons, List.length_nil, List.length_set, List.length_replicate, Int.toNat_natCast]; omega)) [aRes, aResL, aRes1, idf_Wd', idf_numS, cells_numS, numS_fold]))

end Go.Proofs.Ytdcggmbnjonemaa

/- Walks: points made and halved by the reference. -/
namespace Go.Proofs.Ytdcggmbnjonemaa
open Go Go.RowKit
set_option linter.unusedSimpArgs false
set_option linter.unusedVariables false
set_option maxRecDepth 100000
attribute [local simp] List.getElem?_cons_zero List.getElem?_cons_succ List.getElem?_toArray runOps stepOp.eq_def agd.eq_def dstOk.eq_def opVal.eq_def opNew.eq_def opSto.eq_def ev.eq_def cv.eq_def puts_some puts_none upd_ap lst.eq_def aBin.eq_def aUn.eq_def aBi_str aBi_isl aBi_osl aBi_nsl aBi_max aBi_min aBi_max3 aConv.eq_def aLd.eq_def aLoad.eq_def aField.eq_def aFld.eq_def aIdx_isl aIdx_osl aSlc_isl aSlc_osl aSlc_str aSlc_nsl bnd.eq_def evs_nil evs_cons aBuild.eq_def aFill splice.eq_def cells_agg cells_int cells_bool cells_str cells_nil cells_nsl cells_isl cells_osl cells_ptr cells_ip cells_fn cells_Wd one_int one_bool one_str one_nil one_nsl one_isl one_osl one_ptr one_ip one_fn one_Wd aSets hupd_eq hupd_ne wrap_i64s wrap_u64s wrap_u32s wrap_u8s wd_getD wd_set wd_len wd_replicate wd_one wd_fold fz_osl hupd_same aSix.eq_def aEqS.eq_def aEqB_bool aEqB_nsl aEqB_nil
attribute [local simp] szT4 byT4 agT4 unT4 zoT4 szT31 byT31 agT31 unT31 zoT31 szT33 byT33 agT33 flT33 fdT33_0 fdT33_1 fdT33_2 fdT33_3 zoT33 szT35 byT35 agT35 flT35 fdT35_0 fdT35_1 fdT35_2 zoT35 szT90 byT90 agT90 elT90 unT90 zoT90 szT92 byT92 agT92 flT92 fdT92_0 fdT92_1 zoT92 szT94 byT94 agT94 flT94 fdT94_0 fdT94_1 fdT94_2 zoT94

theorem eqW1 (n : Nat) (a a' : Int) : eqW Try.prog (n + 1) 31 [.int .u64 a] [.int .u64 a'] = some (a == a') := by
  unfold eqW; simp only [Try.underlying31]; rfl
theorem eqW4 (a b c d a' b' c' d' : Int) : eqW Try.prog 8 33 [.int .u64 a, .int .u64 b, .int .u64 c, .int .u64 d] [.int .u64 a', .int .u64 b', .int .u64 c', .int .u64 d'] = some ((a == a') && ((b == b') && ((c == c') && ((d == d') && true)))) := by
  have hs : Try.prog.stoodInHeld 33 = false := by kernel_rfl
  have hz : szOf Try.prog 31 = some 1 := by kernel_rfl
  have ha : aggT Try.prog 31 = some false := by kernel_rfl
  unfold eqW
  simp only [Try.underlying33, hs]
  simp [eqF, hz, ha, eqW1]

set_option maxHeartbeats 2000000 in
theorem pointMakeS_fc (x y w : W4) (hx : x.ok) (hy : y.ok) (hw : w.ok) : FC Try.prog 93 [.agg [.int .u64 x.a, .int .u64 x.b, .int .u64 x.c, .int .u64 x.d], .agg [.int .u64 y.a, .int .u64 y.b, .int .u64 y.c, .int .u64 y.d], .agg [.int .u64 w.a, .int .u64 w.b, .int .u64 w.c, .int .u64 w.d]] (.tup [.agg [.int .u64 (mkP x.v y.v w.v).x.a, .int .u64 (mkP x.v y.v w.v).x.b, .int .u64 (mkP x.v y.v w.v).x.c, .int .u64 (mkP x.v y.v w.v).x.d, .int .u64 (mkP x.v y.v w.v).y.a, .int .u64 (mkP x.v y.v w.v).y.b, .int .u64 (mkP x.v y.v w.v).y.c, .int .u64 (mkP x.v y.v w.v).y.d, .int .u64 (mkP x.v y.v w.v).w.a, .int .u64 (mkP x.v y.v w.v).w.b, .int .u64 (mkP x.v y.v w.v).w.c, .int .u64 (mkP x.v y.v w.v).w.d], .bool (mkB x.v y.v w.v)]) := by
  have bX := W4.bg hx
  have bY := W4.bg hy
  have bW := W4.bg hw
  refine FC.body Try.func93 rfl (by simp [idfL, idf, idfLL_iff, idf_Wd', idf_numS, cells_numS, numS_fold, wdI]) (by simp [idfL, idf, idfLL_iff, idf_Wd', idf_numS, cells_numS, numS_fold, wdI]) 22 rfl fun nx K hK => ?_
  refine AWP.seqk fun K1 hK1 => ?_
  refine AWP.region (AOPS.all (by simp (disch := first|omega|(simp only[ln];omega)) [idf_Wd', idf_numS, cells_numS, numS_fold, wdI]; rfl) ?_)
  refine hK1 _ ?_
  refine AWP.seqk fun K2 hK2 => ?_
  refine AWP.seqk fun K3 hK3 => ?_
  by_cases hz : w.a = 0 ∧ w.b = 0 ∧ w.c = 0 ∧ w.d = 0
  · obtain ⟨wa, wb, wc, wd⟩ := w
    simp only [] at hz
    obtain ⟨rfl, rfl, rfl, rfl⟩ := hz
    have hv : W4.v ⟨0, 0, 0, 0⟩ = 0 := v_zero
    refine AWP.region (AOPS.all (by simp (disch := first|omega|(simp only[ln];omega)) [idf_Wd', idf_numS, cells_numS, numS_fold, wdI, eqW4]; rfl) ?_)
    refine hK3 _ ?_
    refine cond_ok _ (by simp (disch := first|omega|(simp only[ln];omega)); rfl) (fun h10 => ?_) (fun h10 => ?_)
    · try simp only [decide_eq_true_eq, decide_eq_false_iff_not] at h10
      refine AWP.seqk fun K4 hK4 => ?_
      refine AWP.region (AOPS.all (by simp (disch := first|omega|(simp only[ln];omega)) [idf_Wd', idf_numS, cells_numS, numS_fold, wdI]; rfl) ?_)
      refine hK4 _ ?_
      refine AWP.ret ?_
      exact hK _ _ _ _ trivial ((Fin.mk (by simp [aRes, aResL, aRes1, idf_Wd', idf_numS, cells_numS, numS_fold, wdI]; rfl)).cast (by rw [mkP, mkB, if_pos hv, if_pos hv]; rfl))
    · simp at h10
  · have hne : w.v ≠ 0 := W4.ne hw hz
    refine AWP.region (AOPS.all (by simp (disch := first|omega|(simp only[ln];omega)) [idf_Wd', idf_numS, cells_numS, numS_fold, wdI, eqW4]; rfl) ?_)
    refine hK3 _ ?_
    refine cond_ok _ (by simp (disch := first|omega|(simp only[ln];omega)); rfl) (fun h10 => ?_) (fun h10 => ?_)
    · exact absurd (by simpa [and_assoc] using h10) hz
    · try simp only [decide_eq_true_eq, decide_eq_false_iff_not] at h10
      have hgp := gcd3_pos (x := x.v) (y := y.v) hne
      refine AWP.skip ?_
      refine hK2 _ ?_
      refine AWP.seqk fun K5 hK5 => ?_
      refine AWP.draw 10 Try.checked.mixed (by kernel_rfl) (by simp) ?_
      simp only [List.take_succ_cons, List.take_zero, List.drop_succ_cons, List.drop_zero]
      refine DP.runFk 1 (by simp (disch := first|omega|(simp only[ln];omega)) [runDf.eq_def, runF1, runF2, stepF.eq_def, updo.eq_def, hupo.eq_def, opSto1.eq_def, List.take_succ_cons, List.take_zero, idf_Wd', idf_numS, cells_numS, numS_fold, wdI, W4.v]; rfl) fun fs6 hfs6 => ?_
      replace hfs6 : fs6.length = 1 := hfs6.trans rfl
      simp only [List.drop_succ_cons, List.drop_zero]
      refine DP.fcall (l1From_fc x.a x.b x.c x.d hx.1 hx.2.1 hx.2.2.1 hx.2.2.2) rfl rfl rfl hb106 (by simp (disch := first|omega|(simp only[ln];omega)) [idf_Wd', W4.v, idf_numS, cells_numS, numS_fold, wdI]) (by simp (disch := first|omega|(simp only[ln];omega)) [W4.v]) (by simp) ?_
      simp only [updo]
      refine DP.runFk 1 (by simp (disch := first|omega|(simp only[ln];omega)) [runDf.eq_def, runF1, runF2, stepF.eq_def, updo.eq_def, hupo.eq_def, opSto1.eq_def, List.take_succ_cons, List.take_zero, idf_Wd', idf_numS, cells_numS, numS_fold, wdI, W4.v]; rfl) fun fs7 hfs7 => ?_
      replace hfs7 : fs7.length = 1 := hfs7.trans rfl
      simp only [List.drop_succ_cons, List.drop_zero]
      refine DP.fcall (l1From_fc y.a y.b y.c y.d hy.1 hy.2.1 hy.2.2.1 hy.2.2.2) rfl rfl rfl hb106 (by simp (disch := first|omega|(simp only[ln];omega)) [idf_Wd', W4.v, idf_numS, cells_numS, numS_fold, wdI]) (by simp (disch := first|omega|(simp only[ln];omega)) [W4.v]) (by simp) ?_
      simp only [updo]
      refine DP.runFk 1 (by simp (disch := first|omega|(simp only[ln];omega)) [runDf.eq_def, runF1, runF2, stepF.eq_def, updo.eq_def, hupo.eq_def, opSto1.eq_def, List.take_succ_cons, List.take_zero, idf_Wd', idf_numS, cells_numS, numS_fold, wdI, W4.v]; rfl) fun fs8 hfs8 => ?_
      replace hfs8 : fs8.length = 1 := hfs8.trans rfl
      simp only [List.drop_succ_cons, List.drop_zero]
      refine DP.fcall (l1From_fc w.a w.b w.c w.d hw.1 hw.2.1 hw.2.2.1 hw.2.2.2) rfl rfl rfl hb106 (by simp (disch := first|omega|(simp only[ln];omega)) [idf_Wd', W4.v, idf_numS, cells_numS, numS_fold, wdI]) (by simp (disch := first|omega|(simp only[ln];omega)) [W4.v]) (by simp) ?_
      simp only [updo]
      refine DP.fcall (l3Make_fc x.v y.v w.v hne bX bY bW (by omega) (by omega)) rfl rfl rfl hb100 (by simp (disch := first|omega|(simp only[ln];omega)) [idf_Wd', W4.v, idf_numS, cells_numS, numS_fold, wdI]) (by simp (disch := first|omega|(simp only[ln];omega)) [W4.v]) (by simp) ?_
      simp only [updo]
      refine DP.fcall (l3Point_fc (nrm w.v x.v / gcd3 x.v y.v w.v) (nrm w.v y.v / gcd3 x.v y.v w.v) (nrm w.v w.v / gcd3 x.v y.v w.v) (bX.nrm.div hgp) (bY.nrm.div hgp) (bW.nrm.div hgp) (by omega)) rfl rfl rfl hb73 (by simp (disch := first|omega|(simp only[ln];omega)) [idf_Wd', W4.v, idf_numS, cells_numS, numS_fold, wdI]) (by simp (disch := first|omega|(simp only[ln];omega)) [W4.v]) (by simp) ?_
      simp only [updo]
      refine DP.runFk 2 (by simp (disch := first|omega|(simp only[ln];omega)) [runDf.eq_def, runF1, runF2, stepF.eq_def, updo.eq_def, hupo.eq_def, opSto1.eq_def, List.take_succ_cons, List.take_zero, idf_Wd', idf_numS, cells_numS, numS_fold, wdI, W4.v]; rfl) fun fs9 hfs9 => ?_
      replace hfs9 : fs9.length = 2 := hfs9.trans rfl
      simp only [List.drop_succ_cons, List.drop_zero]
      refine DQ.runF (m := 10) (by simp only [List.length_append, List.length_cons, List.length_nil, hfs6, hfs7, hfs8, hfs9]; omega) _ _ _ (by kernel_rfl) rfl (by simp (disch := first|omega|(simp only[ln];omega)) [runDf.eq_def, runF1, runF2, stepF.eq_def, updo.eq_def, hupo.eq_def, opSto1.eq_def, idf_Wd', idf_numS, cells_numS, numS_fold, wdI, W4.v]; rfl) ?_
      refine hK5 _ ?_
      refine AWP.ret ?_
      exact hK _ _ _ _ trivial ((Fin.mk (by simp [aRes, aResL, aRes1, idf_Wd', idf_numS, cells_numS, numS_fold, wdI]; rfl)).cast (by rw [mkP, mkB, if_neg hne, if_neg hne]; rfl))

set_option maxHeartbeats 2000000 in
theorem middleS_fc (p q : Pt) (hp : p.ok) (hq : q.ok) : FC Try.prog 47 [p.av, q.av] (.tup [.agg [.int .u64 (midP p q).x.a, .int .u64 (midP p q).x.b, .int .u64 (midP p q).x.c, .int .u64 (midP p q).x.d, .int .u64 (midP p q).y.a, .int .u64 (midP p q).y.b, .int .u64 (midP p q).y.c, .int .u64 (midP p q).y.d, .int .u64 (midP p q).w.a, .int .u64 (midP p q).w.b, .int .u64 (midP p q).w.c, .int .u64 (midP p q).w.d], .bool (midB p q)]) := by
  have pX := W4.bg hp.1
  have pY := W4.bg hp.2.1
  have pW := W4.bg hp.2.2
  have qX := W4.bg hq.1
  have qY := W4.bg hq.2.1
  have qW := W4.bg hq.2.2
  refine FC.body Try.func47 rfl (by simp [idfL, idf, Pt.av, Pt.cells]) (by simp [idfL, idf, idfLL_iff, idf_Wd', idf_numS, cells_numS, numS_fold, Pt.av, Pt.cells, l3A, l3C]) 54 rfl fun nx K hK => ?_
  refine AWP.seqk fun K1 hK1 => ?_
  refine AWP.region (AOPS.all (by simp (disch := first|omega|(simp only[ln];omega)) [idf_Wd', idf_numS, cells_numS, numS_fold, Pt.av, Pt.cells, l3A, l3C]; rfl) ?_)
  refine hK1 _ ?_
  refine AWP.seqk fun K2 hK2 => ?_
  refine AWP.seqk fun K3 hK3 => ?_
  cases hgp : p.good
  · refine AWP.region ?_
    refine AOPS.runk 1 (by simp (disch := first|omega|(simp only[ln];omega)) [List.take_succ_cons, List.take_zero, idf_Wd', idf_numS, cells_numS, numS_fold, Pt.av, Pt.cells, l3A, l3C, hgp]; rfl) ?_
    simp only [List.drop_succ_cons, List.drop_zero]
    refine AOPS.fcall (pointOkS_fc p hp) rfl rfl rfl hb40 (by simp (disch := first|omega|(simp only[ln];omega)) [idf_Wd', hgp, idf_numS, cells_numS, numS_fold, Pt.av, Pt.cells, l3A, l3C]) (by simp (disch := first|omega|(simp only[ln];omega)) [hgp]) (by simp) ?_
    simp only [puts_some, updo]
    refine AOPS.all (by simp (disch := first|omega|(simp only[ln];omega)) [idf_Wd', idf_numS, cells_numS, numS_fold, Pt.av, Pt.cells, l3A, l3C, hgp]; rfl) ?_
    refine hK3 _ ?_
    refine cond_ok _ (by simp (disch := first|omega|(simp only[ln];omega)); rfl) (fun h15 => ?_) (fun h15 => ?_)
    · try simp only [decide_eq_true_eq, decide_eq_false_iff_not] at h15
      refine AWP.seqk fun K4 hK4 => ?_
      refine AWP.region (AOPS.all (by simp (disch := first|omega|(simp only[ln];omega)) [idf_Wd', idf_numS, cells_numS, numS_fold, Pt.av, Pt.cells, l3A, l3C]; rfl) ?_)
      refine hK4 _ ?_
      refine AWP.ret ?_
      exact hK _ _ _ _ trivial ((Fin.mk (by simp [aRes, aResL, aRes1, idf_Wd', idf_numS, cells_numS, numS_fold, Pt.av, Pt.cells, l3A, l3C]; rfl)).cast (by simp [midP, midB, hgp, pt0]))
    · simp at h15
  · refine AWP.region ?_
    refine AOPS.runk 1 (by simp (disch := first|omega|(simp only[ln];omega)) [List.take_succ_cons, List.take_zero, idf_Wd', idf_numS, cells_numS, numS_fold, Pt.av, Pt.cells, l3A, l3C, hgp]; rfl) ?_
    simp only [List.drop_succ_cons, List.drop_zero]
    refine AOPS.fcall (pointOkS_fc p hp) rfl rfl rfl hb40 (by simp (disch := first|omega|(simp only[ln];omega)) [idf_Wd', hgp, idf_numS, cells_numS, numS_fold, Pt.av, Pt.cells, l3A, l3C]) (by simp (disch := first|omega|(simp only[ln];omega)) [hgp]) (by simp) ?_
    simp only [puts_some, updo]
    refine AOPS.runk 3 (by simp (disch := first|omega|(simp only[ln];omega)) [List.take_succ_cons, List.take_zero, idf_Wd', idf_numS, cells_numS, numS_fold, Pt.av, Pt.cells, l3A, l3C, hgp]; rfl) ?_
    simp only [List.drop_succ_cons, List.drop_zero]
    refine AOPS.fcall (pointOkS_fc q hq) rfl rfl rfl hb40 (by simp (disch := first|omega|(simp only[ln];omega)) [idf_Wd', hgp, idf_numS, cells_numS, numS_fold, Pt.av, Pt.cells, l3A, l3C]) (by simp (disch := first|omega|(simp only[ln];omega)) [hgp]) (by simp) ?_
    simp only [puts_some, updo]
    refine AOPS.all (by simp (disch := first|omega|(simp only[ln];omega)) [idf_Wd', idf_numS, cells_numS, numS_fold, Pt.av, Pt.cells, l3A, l3C, hgp]; rfl) ?_
    refine hK3 _ ?_
    refine cond_ok (!q.good) (by simp (disch := first|omega|(simp only[ln];omega))) (fun h15 => ?_) (fun h15 => ?_)
    · try simp only [decide_eq_true_eq, decide_eq_false_iff_not] at h15
      have hgq : q.good = false := by simpa using h15
      refine AWP.seqk fun K5 hK5 => ?_
      refine AWP.region (AOPS.all (by simp (disch := first|omega|(simp only[ln];omega)) [idf_Wd', idf_numS, cells_numS, numS_fold, Pt.av, Pt.cells, l3A, l3C]; rfl) ?_)
      refine hK5 _ ?_
      refine AWP.ret ?_
      exact hK _ _ _ _ trivial ((Fin.mk (by simp [aRes, aResL, aRes1, idf_Wd', idf_numS, cells_numS, numS_fold, Pt.av, Pt.cells, l3A, l3C]; rfl)).cast (by simp [midP, midB, hgp, hgq, pt0]))
    · try simp only [decide_eq_true_eq, decide_eq_false_iff_not] at h15
      have hgq : q.good = true := by simpa using h15
      have hne := midW_ne hgp hgq
      have b1 : Bg 10 (midX p q) := ((pX.mul qW).add (qX.mul pW)).le (by omega)
      have b2 : Bg 10 (midY p q) := ((pY.mul qW).add (qY.mul pW)).le (by omega)
      have b3 : Bg 10 (midW p q) := ((Bg.i64 (n := 2) (by omega) (by omega)).mul (pW.mul qW)).le (by omega)
      have hgg := gcd3_pos (x := midX p q) (y := midY p q) hne
      refine AWP.skip ?_
      refine hK2 _ ?_
      refine AWP.seqk fun K6 hK6 => ?_
      refine AWP.region ?_
      refine AOPS.runk 1 (by simp (disch := first|omega|(simp only[ln];omega)) [List.take_succ_cons, List.take_zero, idf_Wd', idf_numS, cells_numS, numS_fold, Pt.av, Pt.cells, l3A, l3C]; rfl) ?_
      simp only [List.drop_succ_cons, List.drop_zero]
      refine AOPS.fcall (l3Of_fc p hp) rfl rfl rfl hb50 (by simp (disch := first|omega|(simp only[ln];omega)) [idf_Wd', idf_numS, cells_numS, numS_fold, Pt.av, Pt.cells, l3A, l3C]) (by simp (disch := first|omega|(simp only[ln];omega))) (by simp) ?_
      simp only [puts_some, updo]
      refine AOPS.all (by simp (disch := first|omega|(simp only[ln];omega)) [idf_Wd', idf_numS, cells_numS, numS_fold, Pt.av, Pt.cells, l3A, l3C]; rfl) ?_
      refine hK6 _ ?_
      refine AWP.seqk fun K7 hK7 => ?_
      refine AWP.region ?_
      refine AOPS.runk 1 (by simp (disch := first|omega|(simp only[ln];omega)) [List.take_succ_cons, List.take_zero, idf_Wd', idf_numS, cells_numS, numS_fold, Pt.av, Pt.cells, l3A, l3C]; rfl) ?_
      simp only [List.drop_succ_cons, List.drop_zero]
      refine AOPS.fcall (l3Of_fc q hq) rfl rfl rfl hb50 (by simp (disch := first|omega|(simp only[ln];omega)) [idf_Wd', idf_numS, cells_numS, numS_fold, Pt.av, Pt.cells, l3A, l3C]) (by simp (disch := first|omega|(simp only[ln];omega))) (by simp) ?_
      simp only [puts_some, updo]
      refine AOPS.all (by simp (disch := first|omega|(simp only[ln];omega)) [idf_Wd', idf_numS, cells_numS, numS_fold, Pt.av, Pt.cells, l3A, l3C]; rfl) ?_
      refine hK7 _ ?_
      refine AWP.seqk fun K8 hK8 => ?_
      refine AWP.draw 33 Try.checked.mixed (by kernel_rfl) (by simp) ?_
      simp only [List.take_succ_cons, List.take_zero, List.drop_succ_cons, List.drop_zero]
      refine DP.runFk 4 (by simp (disch := first|omega|(simp only[ln];omega)) [runDf.eq_def, runF1, runF2, stepF.eq_def, updo.eq_def, hupo.eq_def, opSto1.eq_def, List.take_succ_cons, List.take_zero, idf_Wd', idf_numS, cells_numS, numS_fold, Pt.av, Pt.cells, l3A, l3C, midX, midY, midW]; rfl) fun fs9 hfs9 => ?_
      replace hfs9 : fs9.length = 4 := hfs9.trans rfl
      simp only [List.drop_succ_cons, List.drop_zero]
      refine DP.fcall (l1Mul_fc pX qW (by omega) (by omega)) rfl rfl rfl hb102 (by simp (disch := first|omega|(simp only[ln];omega)) [idf_Wd', midX, midY, midW, idf_numS, cells_numS, numS_fold, Pt.av, Pt.cells, l3A, l3C]) (by simp (disch := first|omega|(simp only[ln];omega)) [midX, midY, midW]) (by simp) ?_
      simp only [updo]
      refine DP.runFk 4 (by simp (disch := first|omega|(simp only[ln];omega)) [runDf.eq_def, runF1, runF2, stepF.eq_def, updo.eq_def, hupo.eq_def, opSto1.eq_def, List.take_succ_cons, List.take_zero, idf_Wd', idf_numS, cells_numS, numS_fold, Pt.av, Pt.cells, l3A, l3C, midX, midY, midW]; rfl) fun fs10 hfs10 => ?_
      replace hfs10 : fs10.length = 4 := hfs10.trans rfl
      simp only [List.drop_succ_cons, List.drop_zero]
      refine DP.fcall (l1Mul_fc qX pW (by omega) (by omega)) rfl rfl rfl hb102 (by simp (disch := first|omega|(simp only[ln];omega)) [idf_Wd', midX, midY, midW, idf_numS, cells_numS, numS_fold, Pt.av, Pt.cells, l3A, l3C]) (by simp (disch := first|omega|(simp only[ln];omega)) [midX, midY, midW]) (by simp) ?_
      simp only [updo]
      refine DP.fcall (l1Add_fc (pX.mul qW) (qX.mul pW) (by omega) (by omega)) rfl rfl rfl hb101 (by simp (disch := first|omega|(simp only[ln];omega)) [idf_Wd', midX, midY, midW, idf_numS, cells_numS, numS_fold, Pt.av, Pt.cells, l3A, l3C]) (by simp (disch := first|omega|(simp only[ln];omega)) [midX, midY, midW]) (by simp) ?_
      simp only [updo]
      refine DP.runFk 4 (by simp (disch := first|omega|(simp only[ln];omega)) [runDf.eq_def, runF1, runF2, stepF.eq_def, updo.eq_def, hupo.eq_def, opSto1.eq_def, List.take_succ_cons, List.take_zero, idf_Wd', idf_numS, cells_numS, numS_fold, Pt.av, Pt.cells, l3A, l3C, midX, midY, midW]; rfl) fun fs11 hfs11 => ?_
      replace hfs11 : fs11.length = 4 := hfs11.trans rfl
      simp only [List.drop_succ_cons, List.drop_zero]
      refine DP.fcall (l1Mul_fc pY qW (by omega) (by omega)) rfl rfl rfl hb102 (by simp (disch := first|omega|(simp only[ln];omega)) [idf_Wd', midX, midY, midW, idf_numS, cells_numS, numS_fold, Pt.av, Pt.cells, l3A, l3C]) (by simp (disch := first|omega|(simp only[ln];omega)) [midX, midY, midW]) (by simp) ?_
      simp only [updo]
      refine DP.runFk 4 (by simp (disch := first|omega|(simp only[ln];omega)) [runDf.eq_def, runF1, runF2, stepF.eq_def, updo.eq_def, hupo.eq_def, opSto1.eq_def, List.take_succ_cons, List.take_zero, idf_Wd', idf_numS, cells_numS, numS_fold, Pt.av, Pt.cells, l3A, l3C, midX, midY, midW]; rfl) fun fs12 hfs12 => ?_
      replace hfs12 : fs12.length = 4 := hfs12.trans rfl
      simp only [List.drop_succ_cons, List.drop_zero]
      refine DP.fcall (l1Mul_fc qY pW (by omega) (by omega)) rfl rfl rfl hb102 (by simp (disch := first|omega|(simp only[ln];omega)) [idf_Wd', midX, midY, midW, idf_numS, cells_numS, numS_fold, Pt.av, Pt.cells, l3A, l3C]) (by simp (disch := first|omega|(simp only[ln];omega)) [midX, midY, midW]) (by simp) ?_
      simp only [updo]
      refine DP.fcall (l1Add_fc (pY.mul qW) (qY.mul pW) (by omega) (by omega)) rfl rfl rfl hb101 (by simp (disch := first|omega|(simp only[ln];omega)) [idf_Wd', midX, midY, midW, idf_numS, cells_numS, numS_fold, Pt.av, Pt.cells, l3A, l3C]) (by simp (disch := first|omega|(simp only[ln];omega)) [midX, midY, midW]) (by simp) ?_
      simp only [updo]
      refine DP.fcall (l1Int_fc 2 (by omega) (by omega)) rfl rfl rfl hb89 (by simp (disch := first|omega|(simp only[ln];omega)) [idf_Wd', midX, midY, midW, idf_numS, cells_numS, numS_fold, Pt.av, Pt.cells, l3A, l3C]) (by simp (disch := first|omega|(simp only[ln];omega)) [midX, midY, midW]) (by simp) ?_
      simp only [updo]
      refine DP.runFk 4 (by simp (disch := first|omega|(simp only[ln];omega)) [runDf.eq_def, runF1, runF2, stepF.eq_def, updo.eq_def, hupo.eq_def, opSto1.eq_def, List.take_succ_cons, List.take_zero, idf_Wd', idf_numS, cells_numS, numS_fold, Pt.av, Pt.cells, l3A, l3C, midX, midY, midW]; rfl) fun fs13 hfs13 => ?_
      replace hfs13 : fs13.length = 4 := hfs13.trans rfl
      simp only [List.drop_succ_cons, List.drop_zero]
      refine DP.fcall (l1Mul_fc pW qW (by omega) (by omega)) rfl rfl rfl hb102 (by simp (disch := first|omega|(simp only[ln];omega)) [idf_Wd', midX, midY, midW, idf_numS, cells_numS, numS_fold, Pt.av, Pt.cells, l3A, l3C]) (by simp (disch := first|omega|(simp only[ln];omega)) [midX, midY, midW]) (by simp) ?_
      simp only [updo]
      refine DP.fcall (l1Mul_fc (Bg.i64 (n := 2) (by omega) (by omega)) (pW.mul qW) (by omega) (by omega)) rfl rfl rfl hb102 (by simp (disch := first|omega|(simp only[ln];omega)) [idf_Wd', midX, midY, midW, idf_numS, cells_numS, numS_fold, Pt.av, Pt.cells, l3A, l3C]) (by simp (disch := first|omega|(simp only[ln];omega)) [midX, midY, midW]) (by simp) ?_
      simp only [updo]
      refine DP.fcall (l3Make_fc (midX p q) (midY p q) (midW p q) hne b1 b2 b3 (by omega) (by omega)) rfl rfl rfl hb100 (by simp (disch := first|omega|(simp only[ln];omega)) [idf_Wd', midX, midY, midW, idf_numS, cells_numS, numS_fold, Pt.av, Pt.cells, l3A, l3C]) (by simp (disch := first|omega|(simp only[ln];omega)) [midX, midY, midW]) (by simp) ?_
      simp only [updo]
      refine DP.fcall (l3Point_fc (nrm (midW p q) (midX p q) / gcd3 (midX p q) (midY p q) (midW p q)) (nrm (midW p q) (midY p q) / gcd3 (midX p q) (midY p q) (midW p q)) (nrm (midW p q) (midW p q) / gcd3 (midX p q) (midY p q) (midW p q)) (b1.nrm.div hgg) (b2.nrm.div hgg) (b3.nrm.div hgg) (by omega)) rfl rfl rfl hb73 (by simp (disch := first|omega|(simp only[ln];omega)) [idf_Wd', midX, midY, midW, idf_numS, cells_numS, numS_fold, Pt.av, Pt.cells, l3A, l3C]) (by simp (disch := first|omega|(simp only[ln];omega)) [midX, midY, midW]) (by simp) ?_
      simp only [updo]
      refine DP.runFk 2 (by simp (disch := first|omega|(simp only[ln];omega)) [runDf.eq_def, runF1, runF2, stepF.eq_def, updo.eq_def, hupo.eq_def, opSto1.eq_def, List.take_succ_cons, List.take_zero, idf_Wd', idf_numS, cells_numS, numS_fold, Pt.av, Pt.cells, l3A, l3C, midX, midY, midW]; rfl) fun fs14 hfs14 => ?_
      replace hfs14 : fs14.length = 2 := hfs14.trans rfl
      simp only [List.drop_succ_cons, List.drop_zero]
      refine DQ.runF (m := 33) (by simp only [List.length_append, List.length_cons, List.length_nil, hfs9, hfs10, hfs11, hfs12, hfs13, hfs14]; omega) _ _ _ (by kernel_rfl) rfl (by simp (disch := first|omega|(simp only[ln];omega)) [runDf.eq_def, runF1, runF2, stepF.eq_def, updo.eq_def, hupo.eq_def, opSto1.eq_def, idf_Wd', idf_numS, cells_numS, numS_fold, Pt.av, Pt.cells, l3A, l3C, midX, midY, midW]; rfl) ?_
      refine hK8 _ ?_
      refine AWP.ret ?_
      exact hK _ _ _ _ trivial ((Fin.mk (by simp [aRes, aResL, aRes1, idf_Wd', idf_numS, cells_numS, numS_fold, Pt.av, Pt.cells, l3A, l3C]; rfl)).cast (by rw [midP, midB, hgp, hgq]; simp only [Bool.and_self, if_true, mkP, mkB, if_neg hne]; rfl))

end Go.Proofs.Ytdcggmbnjonemaa

/- Walks: drawn numbers. -/
namespace Go.Proofs.Ytdcggmbnjonemaa
open Go Go.RowKit
set_option linter.unusedSimpArgs false
set_option linter.unusedVariables false
set_option maxRecDepth 100000
attribute [local simp] List.getElem?_cons_zero List.getElem?_cons_succ List.getElem?_toArray runOps stepOp.eq_def agd.eq_def dstOk.eq_def opVal.eq_def opNew.eq_def opSto.eq_def ev.eq_def cv.eq_def puts_some puts_none upd_ap lst.eq_def aBin.eq_def aUn.eq_def aBi_str aBi_isl aBi_osl aBi_nsl aBi_max aBi_min aBi_max3 aConv.eq_def aLd.eq_def aLoad.eq_def aField.eq_def aFld.eq_def aIdx_isl aIdx_osl aSlc_isl aSlc_osl aSlc_str aSlc_nsl bnd.eq_def evs_nil evs_cons aBuild.eq_def aFill splice.eq_def cells_agg cells_int cells_bool cells_str cells_nil cells_nsl cells_isl cells_osl cells_ptr cells_ip cells_fn cells_Wd one_int one_bool one_str one_nil one_nsl one_isl one_osl one_ptr one_ip one_fn one_Wd aSets hupd_eq hupd_ne wrap_i64s wrap_u64s wrap_u32s wrap_u8s wd_getD wd_set wd_len wd_replicate wd_one wd_fold fz_osl hupd_same aSix.eq_def aEqS.eq_def aEqB_bool aEqB_nsl aEqB_nil
attribute [local simp] szT3 byT3 agT3 unT3 zoT3 szT5 byT5 agT5 unT5 zoT5 szT29 byT29 agT29 elT29 unT29 zoT29 szT31 byT31 agT31 unT31 zoT31 szT139 byT139 agT139 flT139 fdT139_0 fdT139_1 zoT139

set_option maxHeartbeats 1000000 in
theorem next_ac (l : List Int) (p id : Nat) (H : Heap) (nx : Nat) (dl : Dig 256 l) (hl : l.length ≤ 1048576) (hp : p ≤ l.length) (hH : H id = some (2, [[Wd .u8 l, .int .i64 (p : Int)]])) (hd : ∀ i q, H i = some q → i < nx) : ACall Try.prog 139 [.ptr id 0 0] H nx (fun r H' nx' => (∃ n : Int, r = .int .i64 n ∧ 0 ≤ n ∧ n ≤ 255) ∧ (∃ p' : Nat, p' ≤ l.length ∧ H' = hupd H id (some (2, [[Wd .u8 l, .int .i64 (p' : Int)]]))) ∧ nx ≤ nx') := by
  refine ACall.body Try.func139 rfl 32 rfl fun K hK => ?_
  refine AWP.seqk fun K1 hK1 => ?_
  refine AWP.region (AOPS.all (by simp (disch := first|omega|(simp only[ln];omega)) [idf_Wd']; rfl) ?_)
  refine hK1 _ ?_
  refine AWP.seqk fun K2 hK2 => ?_
  refine AWP.seqk fun K3 hK3 => ?_
  refine AWP.drawF 10 Try.checked.mixed (by kernel_rfl) (by simp (disch := first|omega|(simp only[ln];omega)) [runDf.eq_def, runF1, runF2, stepF.eq_def, updo.eq_def, hupo.eq_def, opSto1.eq_def, len_Wd (P := Try.prog) #[29] rfl elT29, idf_Wd', hH]; rfl) ?_
  refine hK3 _ ?_
  refine cond_ok _ (by simp (disch := first|omega|(simp only[ln];omega)); rfl) (fun h12 => ?_) (fun h12 => ?_)
  · try simp only [decide_eq_true_eq, decide_eq_false_iff_not] at h12
    refine AWP.seqk fun K4 hK4 => ?_
    refine AWP.region (AOPS.all (by simp (disch := first|omega|(simp only[ln];omega)) [idf_Wd']; rfl) ?_)
    refine hK4 _ ?_
    refine AWP.ret ?_
    exact hK _ _ _ _ _ trivial (Fin.mk (by simp (disch := first|omega|(simp only[ln];omega)) [aRes, aResL, aRes1, idf_Wd'])) (⟨⟨0, rfl, by omega, by omega⟩, ⟨p, hp, (hupd_id hH).symm⟩, by simp⟩)
  · try simp only [decide_eq_true_eq, decide_eq_false_iff_not] at h12
    have hlt : p < l.length := by omega
    have gl := dl.gt (by omega) p
    have ep : ((p : Int) + 1 - 1).toNat = p := by omega
    have ep2 : (p : Int) + 1 - 1 = p := by omega
    refine AWP.skip ?_
    refine hK2 _ ?_
    refine AWP.seqk fun K5 hK5 => ?_
    refine AWP.region (AOPS.all (by simp (disch := first|omega|(simp only[ln];omega)) [idf_Wd', hH]; rfl) ?_)
    refine hK5 _ ?_
    refine AWP.seqk fun K6 hK6 => ?_
    refine AWP.drawF 12 Try.checked.mixed (by kernel_rfl) (by simp (disch := first|omega|(simp only[ln];omega)) [runDf.eq_def, runF1, runF2, stepF.eq_def, updo.eq_def, hupo.eq_def, opSto1.eq_def, idx_WdD (P := Try.prog) elT29 szT5, if_pos, idf_Wd', hH, ep, ep2, ld_ip agT5]; rfl) ?_
    refine hK6 _ ?_
    refine AWP.ret ?_
    exact hK _ _ _ _ _ trivial (Fin.mk (by simp (disch := first|omega|(simp only[ln];omega)) [aRes, aResL, aRes1, idf_Wd'])) (⟨⟨gt l p, rfl, by omega, by omega⟩, ⟨p + 1, by omega, by simp⟩, by simp; omega⟩)

set_option maxHeartbeats 1000000 in
theorem below_ac (n : Int) (hn0 : 1 < n) (hn1 : n ≤ 65536) (l : List Int) (p id : Nat) (H : Heap) (nx : Nat) (dl : Dig 256 l) (hl : l.length ≤ 1048576) (hp : p ≤ l.length) (hH : H id = some (2, [[Wd .u8 l, .int .i64 (p : Int)]])) (hd : ∀ i q, H i = some q → i < nx) : ACall Try.prog 92 [.ptr id 0 0, .int .i64 n] H nx (fun r H' nx' => (∃ k : Int, r = .int .i64 k ∧ 0 ≤ k ∧ k < n) ∧ (∃ p' : Nat, p' ≤ l.length ∧ H' = hupd H id (some (2, [[Wd .u8 l, .int .i64 (p' : Int)]]))) ∧ nx ≤ nx') := by
  have hnz : n ≠ 0 := by omega
  have tm : ∀ a : Int, 0 ≤ a → a.tmod n = a % n := fun a h => Int.tmod_eq_emod_of_nonneg h
  have em0 : ∀ a : Int, 0 ≤ a % n := fun a => Int.emod_nonneg a hnz
  have em1 : ∀ a : Int, a % n < n := fun a => Int.emod_lt_of_pos a (by omega)
  refine ACall.body Try.func92 rfl 24 rfl fun K hK => ?_
  refine AWP.seqk fun K1 hK1 => ?_
  refine AWP.region (AOPS.all (by simp (disch := first|omega|(simp only[ln];omega)) [idf_Wd']; rfl) ?_)
  refine hK1 _ ?_
  refine AWP.seqk fun K2 hK2 => ?_
  refine AWP.seqk fun K3 hK3 => ?_
  refine AWP.region (AOPS.all (by simp (disch := first|omega|(simp only[ln];omega)) [idf_Wd']; rfl) ?_)
  refine hK3 _ ?_
  refine cond_ok _ (by simp (disch := first|omega|(simp only[ln];omega)); rfl) (fun h7 => ?_) (fun h7 => ?_)
  · simp at h7; omega
  · try simp only [decide_eq_true_eq, decide_eq_false_iff_not] at h7
    refine AWP.skip ?_
    refine hK2 _ ?_
    refine AWP.seqk fun K4 hK4 => ?_
    refine AWP.seqk fun K5 hK5 => ?_
    refine AWP.region (AOPS.all (by simp (disch := first|omega|(simp only[ln];omega)) [idf_Wd']; rfl) ?_)
    refine hK5 _ ?_
    refine cond_ok _ (by simp (disch := first|omega|(simp only[ln];omega)); rfl) (fun h9 => ?_) (fun h9 => ?_)
    · try simp only [decide_eq_true_eq, decide_eq_false_iff_not] at h9
      refine AWP.seqk fun K6 hK6 => ?_
      refine AWP.region ?_
      refine AOPS.runk 1 (by simp (disch := first|omega|(simp only[ln];omega)) [List.take_succ_cons, List.take_zero, idf_Wd', hnz]; rfl) ?_
      simp only [List.drop_succ_cons, List.drop_zero]
      refine AOPS.old fun hold1 => ?_
      refine AOPS.acall (next_ac l p id _ _ dl hl hp (by simp [hH]) hold1) rfl rfl rfl hb139 (by simp (disch := first|omega|(simp only[ln];omega)) [idf_Wd', hnz]) (by simp (disch := first|omega|(simp only[ln];omega)) [hnz]) (by simp) ?_
      rintro _ _ nx2 ⟨⟨m, rfl, m0, m1⟩, ⟨p2, hp2, rfl⟩, hnx2⟩
      try simp only [] at hnx2
      simp only [puts_some, updo]
      refine AOPS.all (by simp (disch := first|omega|(simp only[ln];omega)) [idf_Wd', hnz]; rfl) ?_
      refine hK6 _ ?_
      refine AWP.ret ?_
      exact hK _ _ _ _ _ trivial (Fin.mk (r := .int .i64 (m.tmod n)) (by simp [aRes, aResL, aRes1, idf_Wd'])) (⟨⟨_, rfl, by rw [tm m m0]; exact em0 _, by rw [tm m m0]; exact em1 _⟩, ⟨p2, hp2, by simp [hupd_same]⟩, by first | exact hnx2 | (simp at *; omega)⟩)
    · try simp only [decide_eq_true_eq, decide_eq_false_iff_not] at h9
      refine AWP.skip ?_
      refine hK4 _ ?_
      refine AWP.seqk fun K7 hK7 => ?_
      refine AWP.region ?_
      refine AOPS.runk 1 (by simp (disch := first|omega|(simp only[ln];omega)) [List.take_succ_cons, List.take_zero, idf_Wd']; rfl) ?_
      simp only [List.drop_succ_cons, List.drop_zero]
      refine AOPS.old fun hold1 => ?_
      refine AOPS.acall (next_ac l p id _ _ dl hl hp (by simp [hH]) hold1) rfl rfl rfl hb139 (by simp (disch := first|omega|(simp only[ln];omega)) [idf_Wd']) (by simp (disch := first|omega|(simp only[ln];omega))) (by simp) ?_
      rintro _ _ nx2 ⟨⟨m, rfl, m0, m1⟩, ⟨p2, hp2, rfl⟩, hnx2⟩
      try simp only [] at hnx2
      simp only [puts_some, updo]
      refine AOPS.all (by simp (disch := first|omega|(simp only[ln];omega)) [idf_Wd']; rfl) ?_
      refine hK7 _ ?_
      refine AWP.seqk fun K8 hK8 => ?_
      refine AWP.region ?_
      refine AOPS.runk 2 (by simp (disch := first|omega|(simp only[ln];omega)) [List.take_succ_cons, List.take_zero, idf_Wd']; rfl) ?_
      simp only [List.drop_succ_cons, List.drop_zero]
      refine AOPS.old fun hold2 => ?_
      refine AOPS.acall (next_ac l p2 id _ _ dl hl hp2 (by simp [hH]) hold2) rfl rfl rfl hb139 (by simp (disch := first|omega|(simp only[ln];omega)) [idf_Wd']) (by simp (disch := first|omega|(simp only[ln];omega))) (by simp) ?_
      rintro _ _ nx3 ⟨⟨m2, rfl, m20, m21⟩, ⟨p3, hp3, rfl⟩, hnx3⟩
      try simp only [] at hnx3
      simp only [puts_some, updo]
      refine AOPS.all (by simp (disch := first|omega|(simp only[ln];omega)) [idf_Wd']; rfl) ?_
      refine hK8 _ ?_
      refine AWP.seqk fun K9 hK9 => ?_
      refine AWP.region (AOPS.all (by simp (disch := first|omega|(simp only[ln];omega)) [idf_Wd', hnz]; rfl) ?_)
      refine hK9 _ ?_
      refine AWP.ret ?_
      exact hK _ _ _ _ _ trivial (Fin.mk (r := .int .i64 ((m * 256 + m2).tmod n)) (by simp [aRes, aResL, aRes1, idf_Wd'])) (⟨⟨_, rfl, by rw [tm _ (by omega)]; exact em0 _, by rw [tm _ (by omega)]; exact em1 _⟩, ⟨p3, hp3, by simp [hupd_same]⟩, by first | exact Nat.le_trans hnx2 hnx3 | (simp at *; omega)⟩)

set_option maxHeartbeats 1000000 in
theorem once_ac (n : Int) (hn0 : 1 < n) (hn1 : n ≤ 65536) (l : List Int) (p id : Nat) (H : Heap) (nx : Nat) (dl : Dig 256 l) (hl : l.length ≤ 1048576) (hp : p ≤ l.length) (hH : H id = some (2, [[Wd .u8 l, .int .i64 (p : Int)]])) (hd : ∀ i q, H i = some q → i < nx) : ACall Try.prog 46 [.ptr id 0 0, .int .i64 n] H nx (fun r H' nx' => (∃ b : Bool, r = .bool b) ∧ (∃ p' : Nat, p' ≤ l.length ∧ H' = hupd H id (some (2, [[Wd .u8 l, .int .i64 (p' : Int)]]))) ∧ nx ≤ nx') := by
  refine ACall.body Try.func46 rfl 11 rfl fun K hK => ?_
  refine AWP.seqk fun K1 hK1 => ?_
  refine AWP.region (AOPS.all (by simp (disch := first|omega|(simp only[ln];omega)) [idf_Wd']; rfl) ?_)
  refine hK1 _ ?_
  refine AWP.seqk fun K2 hK2 => ?_
  refine AWP.region ?_
  refine AOPS.runk 2 (by simp (disch := first|omega|(simp only[ln];omega)) [List.take_succ_cons, List.take_zero, idf_Wd']; rfl) ?_
  simp only [List.drop_succ_cons, List.drop_zero]
  refine AOPS.old fun hold2 => ?_
  refine AOPS.acall (below_ac n hn0 hn1 l p id _ _ dl hl hp (by simp [hH]) hold2) rfl rfl rfl hb92 (by simp (disch := first|omega|(simp only[ln];omega)) [idf_Wd']) (by simp (disch := first|omega|(simp only[ln];omega))) (by simp) ?_
  rintro _ _ nx2 ⟨⟨k, rfl, k0, k1⟩, ⟨p2, hp2, rfl⟩, hnx2⟩
  try simp only [] at hnx2
  simp only [puts_some, updo]
  refine AOPS.all (by simp (disch := first|omega|(simp only[ln];omega)) [idf_Wd']; rfl) ?_
  refine hK2 _ ?_
  refine AWP.ret ?_
  exact hK _ _ _ _ _ trivial (Fin.mk (r := .bool (k == n - 1)) (by simp [aRes, aResL, aRes1, idf_Wd'])) (⟨⟨_, rfl⟩, ⟨p2, hp2, by simp [hupd_same]⟩, by first | exact hnx2 | (simp at *; omega)⟩)

set_option maxHeartbeats 1000000 in
theorem word_ac (l : List Int) (p id : Nat) (H : Heap) (nx : Nat) (dl : Dig 256 l) (hl : l.length ≤ 1048576) (hp : p ≤ l.length) (hH : H id = some (2, [[Wd .u8 l, .int .i64 (p : Int)]])) (hd : ∀ i q, H i = some q → i < nx) : ACall Try.prog 96 [.ptr id 0 0] H nx (fun r H' nx' => (∃ n : Int, r = .int .u64 n ∧ U64 n) ∧ (∃ p' : Nat, p' ≤ l.length ∧ H' = hupd H id (some (2, [[Wd .u8 l, .int .i64 (p' : Int)]]))) ∧ nx ≤ nx') := by
  refine ACall.body Try.func96 rfl 16 rfl fun K hK => ?_
  refine AWP.seqk fun K1 hK1 => ?_
  refine AWP.region (AOPS.all (by simp (disch := first|omega|(simp only[ln];omega)) [idf_Wd']; rfl) ?_)
  refine hK1 _ ?_
  refine AWP.seqk fun K2 hK2 => ?_
  refine AWP.region (AOPS.all (by simp (disch := first|omega|(simp only[ln];omega)) [idf_Wd']; rfl) ?_)
  refine hK2 _ ?_
  refine AWP.seqk fun K3 hK3 => ?_
  refine AWP.seqk fun K4 hK4 => ?_
  refine AWP.region (AOPS.all (by simp (disch := first|omega|(simp only[ln];omega)) [idf_Wd']; rfl) ?_)
  refine hK4 _ ?_
  refine AWP.block ?_
  refine AWP.loop (fun N s => ∃ (i p' : Nat) (x : Int), N = 8 - i ∧ i ≤ 8 ∧ p' ≤ l.length ∧ U64 x ∧ s.env 0 = .ptr id 0 0 ∧ s.env 3 = .int .u64 x ∧ s.env 4 = .int .i64 (i : Int) ∧ s.heap = hupd H id (some (2, [[Wd .u8 l, .int .i64 (p' : Int)]])) ∧ nx ≤ s.nx ∧ s.nt = 16) (8) (⟨0, p, 0, by omega, by omega, hp, by unfold U64; omega, by simp, by simp, by simp, by simp [hupd_id hH], by simp, rfl⟩) ?_
  rintro N ⟨e, HH, mm, nt⟩ ⟨i, q, x, rfl, hi, hq, hx, h0, h3, h4, rfl, hm, rfl⟩
  simp only [] at h0 h3 h4 hm
  refine AWP.seqk fun K5 hK5 => ?_
  refine AWP.seqk fun K6 hK6 => ?_
  refine AWP.region (AOPS.all (by simp (disch := first|omega|(simp only[ln];omega)) [idf_Wd', h4]; rfl) ?_)
  refine hK6 _ ?_
  refine cond_ok _ (by simp (disch := first|omega|(simp only[ln];omega)); rfl) (fun h6 => ?_) (fun h6 => ?_)
  · try simp only [decide_eq_true_eq, decide_eq_false_iff_not] at h6
    have hi' : i < 8 := by omega
    refine AWP.skip ?_
    refine hK5 _ ?_
    refine AWP.seqk fun K7 hK7 => ?_
    refine AWP.block ?_
    refine AWP.region ?_
    refine AOPS.runk 3 (by simp (disch := first|omega|(simp only[ln];omega)) [List.take_succ_cons, List.take_zero, idf_Wd', h0, h3, IntKind.bits]; rfl) ?_
    simp only [List.drop_succ_cons, List.drop_zero]
    refine AOPS.old fun hold3 => ?_
    refine AOPS.acall (next_ac l q id _ _ dl hl hq (by simp) hold3) rfl rfl rfl hb139 (by simp (disch := first|omega|(simp only[ln];omega)) [idf_Wd', h0, h3, IntKind.bits]) (by simp (disch := first|omega|(simp only[ln];omega)) [h0, h3, IntKind.bits]) (by simp) ?_
    rintro _ _ nx2 ⟨⟨m, rfl, m0, m1⟩, ⟨p2, hp2, rfl⟩, hnx2⟩
    try simp only [] at hnx2
    have ox := or_u64 (wrap_U64 (x * 2 ^ 8)) (show U64 m by unfold U64; omega)
    try simp only [] at ox
    simp only [puts_some, updo]
    refine AOPS.all (by simp (disch := first|omega|(simp only[ln];omega)) [idf_Wd', h0, h3, IntKind.bits]; rfl) ?_
    refine hK7 _ ?_
    refine AWP.region (AOPS.all (by simp (disch := first|omega|(simp only[ln];omega)) [idf_Wd', h4]; rfl) ?_)
    refine ⟨8 - (i + 1), by omega, i + 1, p2, _, rfl, by omega, hp2, ox, by simp [h0], by simp [IntKind.bits], by simp (disch := omega) [h4], by simp [hupd_same], by simp at *; omega, rfl⟩
  · try simp only [decide_eq_true_eq, decide_eq_false_iff_not] at h6
    refine AWP.exit ?_
    refine hK3 _ ?_
    refine AWP.seqk fun K8 hK8 => ?_
    refine AWP.region (AOPS.all (by simp (disch := first|omega|(simp only[ln];omega)) [idf_Wd', h3]; rfl) ?_)
    refine hK8 _ ?_
    refine AWP.ret ?_
    exact hK _ _ _ _ _ trivial (Fin.mk (r := .int .u64 x) (by simp [aRes, aResL, aRes1, idf_Wd'])) (⟨⟨x, rfl, hx⟩, ⟨q, hq, rfl⟩, hm⟩)

end Go.Proofs.Ytdcggmbnjonemaa

/- Walks: drawn numbers near others; drawn spots. -/
namespace Go.Proofs.Ytdcggmbnjonemaa
open Go Go.RowKit
set_option linter.unusedSimpArgs false
set_option linter.unusedVariables false
set_option maxRecDepth 100000
attribute [local simp] List.getElem?_cons_zero List.getElem?_cons_succ List.getElem?_toArray runOps stepOp.eq_def agd.eq_def dstOk.eq_def opVal.eq_def opNew.eq_def opSto.eq_def ev.eq_def cv.eq_def puts_some puts_none upd_ap lst.eq_def aBin.eq_def aUn.eq_def aBi_str aBi_isl aBi_osl aBi_nsl aBi_max aBi_min aBi_max3 aConv.eq_def aLd.eq_def aLoad.eq_def aField.eq_def aFld.eq_def aIdx_isl aIdx_osl aSlc_isl aSlc_osl aSlc_str aSlc_nsl bnd.eq_def evs_nil evs_cons aBuild.eq_def aFill splice.eq_def cells_agg cells_int cells_bool cells_str cells_nil cells_nsl cells_isl cells_osl cells_ptr cells_ip cells_fn cells_Wd one_int one_bool one_str one_nil one_nsl one_isl one_osl one_ptr one_ip one_fn one_Wd aSets hupd_eq hupd_ne wrap_i64s wrap_u64s wrap_u32s wrap_u8s wd_getD wd_set wd_len wd_replicate wd_one wd_fold fz_osl hupd_same aSix.eq_def aEqS.eq_def aEqB_bool aEqB_nsl aEqB_nil
attribute [local simp] szT2 byT2 agT2 unT2 zoT2 szT3 byT3 agT3 unT3 zoT3 szT31 byT31 agT31 unT31 zoT31 szT60 byT60 agT60 flT60 fdT60_0 fdT60_1 zoT60

set_option maxHeartbeats 1000000 in
theorem near_ac (a b : Int) (ha : -1152921504606846976 ≤ a) (hab : a ≤ b) (hb : b ≤ 1152921504606846976) (l : List Int) (p id : Nat) (H : Heap) (nx : Nat) (dl : Dig 256 l) (hl : l.length ≤ 1048576) (hp : p ≤ l.length) (hH : H id = some (2, [[Wd .u8 l, .int .i64 (p : Int)]])) (hd : ∀ i q, H i = some q → i < nx) : ACall Try.prog 97 [.ptr id 0 0, .int .i64 a, .int .i64 b] H nx (fun r H' nx' => (∃ k : Int, r = .int .i64 k ∧ a ≤ k ∧ k ≤ b) ∧ (∃ p' : Nat, p' ≤ l.length ∧ H' = hupd H id (some (2, [[Wd .u8 l, .int .i64 (p' : Int)]]))) ∧ nx ≤ nx') := by
  have hid := hd id _ hH
  refine ACall.body Try.func97 rfl 31 rfl fun K hK => ?_
  refine AWP.seqk fun K1 hK1 => ?_
  refine AWP.region (AOPS.all (by simp (disch := first | omega | (simp only [List.length_append, List.length_cons, List.length_nil, List.length_set, List.length_replicate, Int.toNat_natCast]; omega)) [idf_Wd']; rfl) ?_)
  refine hK1 _ ?_
  refine AWP.seqk fun K2 hK2 => ?_
  refine AWP.seqk fun K3 hK3 => ?_
  refine AWP.region ?_
  refine AOPS.runk 1 (by simp (disch := first | omega | (simp only [List.length_append, List.length_cons, List.length_nil, List.length_set, List.length_replicate, Int.toNat_natCast]; omega)) [List.take_succ_cons, List.take_zero, idf_Wd']; rfl) ?_
  simp only [List.drop_succ_cons, List.drop_zero]
  refine AOPS.old fun hold1 => ?_
  refine AOPS.acall (below_ac 8 (by omega) (by omega) l p id _ _ dl hl hp (by simp [hH]) hold1) rfl rfl rfl hb92 (by simp (disch := first | omega | (simp only [List.length_append, List.length_cons, List.length_nil, List.length_set, List.length_replicate, Int.toNat_natCast]; omega)) [idf_Wd', idf_Wd']) (by simp (disch := first | omega | (simp only [List.length_append, List.length_cons, List.length_nil, List.length_set, List.length_replicate, Int.toNat_natCast]; omega))) (by simp) ?_
  rintro _ _ nx2 ⟨⟨k, rfl, k0, k1⟩, ⟨p2, hp2, rfl⟩, hnx2⟩
  try simp only [] at hnx2
  simp only [puts_some, updo]
  refine AOPS.nil ?_
  refine hK3 _ ?_
  refine AWP.block ?_
  refine AWP.seqk fun K4 hK4 => ?_
  refine AWP.region (AOPS.all (by simp (disch := first | omega | (simp only [List.length_append, List.length_cons, List.length_nil, List.length_set, List.length_replicate, Int.toNat_natCast]; omega)) [idf_Wd']; rfl) ?_)
  refine hK4 _ ?_
  refine cond_ok _ (by simp (disch := first | omega | (simp only [List.length_append, List.length_cons, List.length_nil, List.length_set, List.length_replicate, Int.toNat_natCast]; omega)); rfl) (fun h9 => ?_) (fun h9 => ?_)
  · try simp only [decide_eq_true_eq, decide_eq_false_iff_not] at h9
    refine AWP.seqk fun K5 hK5 => ?_
    refine AWP.region (AOPS.all (by simp (disch := first | omega | (simp only [List.length_append, List.length_cons, List.length_nil, List.length_set, List.length_replicate, Int.toNat_natCast]; omega)) [idf_Wd']; rfl) ?_)
    refine hK5 _ ?_
    refine AWP.ret ?_
    exact hK _ _ _ _ _ trivial (Fin.mk (r := .int .i64 a) (by simp [aRes, aResL, aRes1, idf_Wd'])) (⟨⟨_, rfl, by omega, by omega⟩, ⟨p2, hp2, by simp [hupd_same]⟩, by first | exact hnx2 | (simp at *; omega)⟩)
  · try simp only [decide_eq_true_eq, decide_eq_false_iff_not] at h9
    refine AWP.seqk fun K6 hK6 => ?_
    refine AWP.region (AOPS.all (by simp (disch := first | omega | (simp only [List.length_append, List.length_cons, List.length_nil, List.length_set, List.length_replicate, Int.toNat_natCast]; omega)) [idf_Wd']; rfl) ?_)
    refine hK6 _ ?_
    refine cond_ok _ (by simp (disch := first | omega | (simp only [List.length_append, List.length_cons, List.length_nil, List.length_set, List.length_replicate, Int.toNat_natCast]; omega)); rfl) (fun h12 => ?_) (fun h12 => ?_)
    · try simp only [decide_eq_true_eq, decide_eq_false_iff_not] at h12
      refine AWP.seqk fun K7 hK7 => ?_
      refine AWP.region (AOPS.all (by simp (disch := first | omega | (simp only [List.length_append, List.length_cons, List.length_nil, List.length_set, List.length_replicate, Int.toNat_natCast]; omega)) [idf_Wd']; rfl) ?_)
      refine hK7 _ ?_
      refine AWP.ret ?_
      exact hK _ _ _ _ _ trivial (Fin.mk (r := .int .i64 b) (by simp [aRes, aResL, aRes1, idf_Wd'])) (⟨⟨_, rfl, by omega, by omega⟩, ⟨p2, hp2, by simp [hupd_same]⟩, by first | exact hnx2 | (simp at *; omega)⟩)
    · try simp only [decide_eq_true_eq, decide_eq_false_iff_not] at h12
      refine AWP.skip ?_
      refine hK2 _ ?_
      refine AWP.seqk fun K8 hK8 => ?_
      refine AWP.seqk fun K9 hK9 => ?_
      refine AWP.region (AOPS.all (by simp (disch := first | omega | (simp only [List.length_append, List.length_cons, List.length_nil, List.length_set, List.length_replicate, Int.toNat_natCast]; omega)) [idf_Wd']; rfl) ?_)
      refine hK9 _ ?_
      refine cond_ok _ (by simp (disch := first | omega | (simp only [List.length_append, List.length_cons, List.length_nil, List.length_set, List.length_replicate, Int.toNat_natCast]; omega)); rfl) (fun h17 => ?_) (fun h17 => ?_)
      · simp at h17; omega
      · try simp only [decide_eq_true_eq, decide_eq_false_iff_not] at h17
        refine AWP.skip ?_
        refine hK8 _ ?_
        refine AWP.seqk fun K10 hK10 => ?_
        have hdz : b - a + 1 ≠ 0 := by omega
        have cw : IntKind.u64.wrap (b - a + 1) = b - a + 1 := wrap_u64s (by omega) (by omega)
        have tmw : ∀ w : Int, 0 ≤ w → (w / 2).tmod (b - a + 1) = w / 2 % (b - a + 1) := fun w h => Int.tmod_eq_emod_of_nonneg (by omega)
        have sw : ∀ w : Int, 0 ≤ w → IntKind.i64.wrap (w / 2 % (b - a + 1)) = w / 2 % (b - a + 1) := fun w h => by
          have e0 := Int.emod_nonneg (w / 2) hdz
          have e1 := Int.emod_lt_of_pos (w / 2) (show 0 < b - a + 1 by omega)
          exact wrap_i64s (by omega) (by omega)
        refine AWP.region ?_
        refine AOPS.runk 2 (by simp (disch := first | omega | (simp only [List.length_append, List.length_cons, List.length_nil, List.length_set, List.length_replicate, Int.toNat_natCast]; omega)) [List.take_succ_cons, List.take_zero, idf_Wd', IntKind.bits, Int.fdiv_eq_ediv_of_nonneg, hdz, tmw, cw, sw]; rfl) ?_
        simp only [List.drop_succ_cons, List.drop_zero]
        refine AOPS.old fun hold2 => ?_
        refine AOPS.acall (word_ac l p2 id _ _ dl hl hp2 (by simp) hold2) rfl rfl rfl hb96 (by simp (disch := first | omega | (simp only [List.length_append, List.length_cons, List.length_nil, List.length_set, List.length_replicate, Int.toNat_natCast]; omega)) [idf_Wd', IntKind.bits, Int.fdiv_eq_ediv_of_nonneg, hdz, tmw, cw, sw, idf_Wd']) (by simp (disch := first | omega | (simp only [List.length_append, List.length_cons, List.length_nil, List.length_set, List.length_replicate, Int.toNat_natCast]; omega)) [IntKind.bits, Int.fdiv_eq_ediv_of_nonneg, hdz, tmw, cw, sw]) (by simp) ?_
        rintro _ _ nx3 ⟨⟨w, rfl, hw0, hw1⟩, ⟨p3, hp3, rfl⟩, hnx3⟩
        have e0 := Int.emod_nonneg (w / 2) hdz
        have e1 := Int.emod_lt_of_pos (w / 2) (show 0 < b - a + 1 by omega)
        try simp only [] at hnx3
        simp only [puts_some, updo]
        refine AOPS.all (by simp (disch := first | omega | (simp only [List.length_append, List.length_cons, List.length_nil, List.length_set, List.length_replicate, Int.toNat_natCast]; omega)) [idf_Wd', IntKind.bits, Int.fdiv_eq_ediv_of_nonneg, hdz, tmw, cw, sw]; rfl) ?_
        refine hK10 _ ?_
        refine AWP.ret ?_
        exact hK _ _ _ _ _ trivial (Fin.mk (r := .int .i64 (a + w / 2 % (b - a + 1))) (by simp [aRes, aResL, aRes1, idf_Wd'])) (⟨⟨_, rfl, by omega, by omega⟩, ⟨p3, hp3, by simp [hupd_same]⟩, by first | exact Nat.le_trans hnx2 hnx3 | (simp at *; omega)⟩)

set_option maxHeartbeats 1000000 in
theorem spot_ac (l : List Int) (p id : Nat) (H : Heap) (nx : Nat) (dl : Dig 256 l) (hl : l.length ≤ 1048576) (hp : p ≤ l.length) (hH : H id = some (2, [[Wd .u8 l, .int .i64 (p : Int)]])) (hd : ∀ i q, H i = some q → i < nx) : ACall Try.prog 99 [.ptr id 0 0] H nx (fun r H' nx' => (∃ x y : Int, r = .agg [.int .i64 x, .int .i64 y] ∧ -6 ≤ x ∧ x ≤ 6 ∧ -6 ≤ y ∧ y ≤ 6) ∧ (∃ p' : Nat, p' ≤ l.length ∧ H' = hupd H id (some (2, [[Wd .u8 l, .int .i64 (p' : Int)]]))) ∧ nx ≤ nx') := by
  have hid := hd id _ hH
  refine ACall.body Try.func99 rfl 8 rfl fun K hK => ?_
  refine AWP.seqk fun K1 hK1 => ?_
  refine AWP.region (AOPS.all (by simp (disch := first | omega | (simp only [List.length_append, List.length_cons, List.length_nil, List.length_set, List.length_replicate, Int.toNat_natCast]; omega)) [idf_Wd']; rfl) ?_)
  refine hK1 _ ?_
  refine AWP.seqk fun K2 hK2 => ?_
  refine AWP.region ?_
  refine AOPS.runk 1 (by simp (disch := first | omega | (simp only [List.length_append, List.length_cons, List.length_nil, List.length_set, List.length_replicate, Int.toNat_natCast]; omega)) [List.take_succ_cons, List.take_zero, idf_Wd', hH]; rfl) ?_
  simp only [List.drop_succ_cons, List.drop_zero]
  refine AOPS.old fun hold1 => ?_
  refine AOPS.acall (near_ac (-6) (6) (by omega) (by omega) (by omega) l p id _ _ dl hl hp (by simp (disch := omega) [hH]) hold1) rfl rfl rfl hb97 (by simp (disch := first | omega | (simp only [List.length_append, List.length_cons, List.length_nil, List.length_set, List.length_replicate, Int.toNat_natCast]; omega)) [idf_Wd', hH, idf_Wd']) (by simp (disch := first | omega | (simp only [List.length_append, List.length_cons, List.length_nil, List.length_set, List.length_replicate, Int.toNat_natCast]; omega)) [hH]) (by simp) ?_
  rintro _ _ nx2 ⟨⟨x, rfl, x0, x1⟩, ⟨p2, hp2, rfl⟩, hnx2⟩
  try simp only [] at hnx2
  simp only [puts_some, updo]
  refine AOPS.runk 1 (by simp (disch := first | omega | (simp only [List.length_append, List.length_cons, List.length_nil, List.length_set, List.length_replicate, Int.toNat_natCast]; omega)) [List.take_succ_cons, List.take_zero, idf_Wd', hH]; rfl) ?_
  simp only [List.drop_succ_cons, List.drop_zero]
  refine AOPS.old fun hold3 => ?_
  refine AOPS.acall (near_ac (-6) (6) (by omega) (by omega) (by omega) l p2 id _ _ dl hl hp2 (by simp (disch := omega) [hH]) hold3) rfl rfl rfl hb97 (by simp (disch := first | omega | (simp only [List.length_append, List.length_cons, List.length_nil, List.length_set, List.length_replicate, Int.toNat_natCast]; omega)) [idf_Wd', hH, idf_Wd']) (by simp (disch := first | omega | (simp only [List.length_append, List.length_cons, List.length_nil, List.length_set, List.length_replicate, Int.toNat_natCast]; omega)) [hH]) (by simp) ?_
  rintro _ _ nx3 ⟨⟨y, rfl, y0, y1⟩, ⟨p3, hp3, rfl⟩, hnx3⟩
  try simp only [] at hnx3
  simp only [puts_some, updo]
  refine AOPS.all (by simp (disch := first | omega | (simp only [List.length_append, List.length_cons, List.length_nil, List.length_set, List.length_replicate, Int.toNat_natCast]; omega)) [idf_Wd', hH]; rfl) ?_
  refine hK2 _ ?_
  refine AWP.ret ?_
  exact hK _ _ _ _ _ trivial ((Fin.mk (r := .agg [.int .i64 x, .int .i64 y]) (by simp (disch := omega) [aRes, aResL, aRes1, idf_Wd'])).restr (fun i => decide (i < nx))) (⟨⟨x, y, rfl, x0, x1, y0, y1⟩, ⟨p3, hp3, by simp (disch := first | omega | (simp; done) | (simp; omega)) [hrestr_in, hrestr_out, hrestr_all hd, hupd_same]⟩, by first | omega | (simp at *; omega)⟩)

end Go.Proofs.Ytdcggmbnjonemaa

/- Walks: drawn numbers in four words. -/
namespace Go.Proofs.Ytdcggmbnjonemaa
open Go Go.RowKit
set_option linter.unusedSimpArgs false
set_option linter.unusedVariables false
set_option maxRecDepth 100000
attribute [local simp] List.getElem?_cons_zero List.getElem?_cons_succ List.getElem?_toArray runOps stepOp.eq_def agd.eq_def dstOk.eq_def opVal.eq_def opNew.eq_def opSto.eq_def ev.eq_def cv.eq_def puts_some puts_none upd_ap lst.eq_def aBin.eq_def aUn.eq_def aBi_str aBi_isl aBi_osl aBi_nsl aBi_max aBi_min aBi_max3 aConv.eq_def aLd.eq_def aLoad.eq_def aField.eq_def aFld.eq_def aIdx_isl aIdx_osl aSlc_isl aSlc_osl aSlc_str aSlc_nsl bnd.eq_def evs_nil evs_cons aBuild.eq_def aFill splice.eq_def cells_agg cells_int cells_bool cells_str cells_nil cells_nsl cells_isl cells_osl cells_ptr cells_ip cells_fn cells_Wd one_int one_bool one_str one_nil one_nsl one_isl one_osl one_ptr one_ip one_fn one_Wd aSets hupd_eq hupd_ne wrap_i64s wrap_u64s wrap_u32s wrap_u8s wd_getD wd_set wd_len wd_replicate wd_one wd_fold fz_osl hupd_same aSix.eq_def aEqS.eq_def aEqB_bool aEqB_nsl aEqB_nil
attribute [local simp] szT2 byT2 agT2 unT2 zoT2 szT3 byT3 agT3 unT3 zoT3 szT31 byT31 agT31 unT31 zoT31 szT33 byT33 agT33 flT33 fdT33_0 fdT33_1 fdT33_2 fdT33_3 zoT33 szT90 byT90 agT90 elT90 unT90 zoT90 szT144 byT144 agT144 unT144 zoT144 szT180 byT180 agT180 unT180 zoT180 szT182 byT182 agT182 elT182 unT182 zoT182 szT183 byT183 agT183 elT183 unT183 zoT183

set_option maxHeartbeats 4000000 in
theorem wide_ac (l : List Int) (p id : Nat) (H : Heap) (nx : Nat) (dl : Dig 256 l) (hl : l.length ≤ 1048576) (hp : p ≤ l.length) (hH : H id = some (2, [[Wd .u8 l, .int .i64 (p : Int)]])) (hd : ∀ i q, H i = some q → i < nx) : ACall Try.prog 94 [.ptr id 0 0] H nx (fun r H' nx' => (∃ x : W4, r = .agg [.int .u64 (x).a, .int .u64 (x).b, .int .u64 (x).c, .int .u64 (x).d] ∧ x.ok) ∧ (∃ p' : Nat, p' ≤ l.length ∧ H' = hupd H id (some (2, [[Wd .u8 l, .int .i64 (p' : Int)]]))) ∧ nx ≤ nx') := by
  have hid := hd id _ hH
  have t7l : tab7.length = 7 := rfl
  have hTl : (tab6.map W4.l).length = 6 := rfl
  obtain ⟨T, hT0⟩ : ∃ T, List.map W4.l tab6 = T := ⟨_, rfl⟩
  have hTx := gt6_get
  rw [hT0] at hTl hTx
  have hTy : ∀ (k : Nat) (h : k < T.length), T[k] = [.int .u64 (gt6 k).a, .int .u64 (gt6 k).b, .int .u64 (gt6 k).c, .int .u64 (gt6 k).d] := fun k h => by
    have := hTx k (by omega)
    rw [List.getElem?_eq_getElem h] at this
    simpa using this
  clear hTx
  refine ACall.body Try.func94 rfl 85 rfl fun K hK => ?_
  refine AWP.seqk fun K1 hK1 => ?_
  refine AWP.region (AOPS.all (by simp (disch := first|omega|(simp only[ln];omega)) [idf_Wd', idf_numS, cells_numS, numS_fold]; rfl) ?_)
  refine hK1 _ ?_
  refine AWP.seqk fun K2 hK2 => ?_
  refine AWP.seqk fun K3 hK3 => ?_
  refine AWP.region ?_
  refine AOPS.runk 1 (by simp (disch := first|omega|(simp only[ln];omega)) [List.take_succ_cons, List.take_zero, idf_Wd', idf_numS, cells_numS, numS_fold, hH]; rfl) ?_
  simp only [List.drop_succ_cons, List.drop_zero]
  refine AOPS.old fun hold1 => ?_
  refine AOPS.acall (below_ac 9 (by omega) (by omega) l p id _ _ dl hl hp (by simp (disch := omega) [hH]) hold1) rfl rfl rfl hb92 (by simp (disch := first|omega|(simp only[ln];omega)) [idf_Wd', hH, idf_numS, cells_numS, numS_fold]) (by simp (disch := first|omega|(simp only[ln];omega)) [hH]) (by simp) ?_
  rintro _ _ nx2 ⟨⟨k, rfl, k0, k1⟩, ⟨p2, hp2, rfl⟩, hnx2⟩
  try simp only [] at hnx2
  clear hold1
  simp only [puts_some, updo]
  refine AOPS.nil ?_
  refine hK3 _ ?_
  refine AWP.block ?_
  refine AWP.seqk fun K4 hK4 => ?_
  refine AWP.region (AOPS.all (by simp (disch := first|omega|(simp only[ln];omega)) [idf_Wd', idf_numS, cells_numS, numS_fold]; rfl) ?_)
  refine hK4 _ ?_
  refine cond_ok (k == 0) (by simp (disch := first|omega|(simp only[ln];omega))) (fun h9 => ?_) (fun h9 => ?_)
  · try simp only [decide_eq_true_eq, decide_eq_false_iff_not] at h9
    refine AWP.seqk fun K5 hK5 => ?_
    refine AWP.region ?_
    refine AOPS.runk 2 (by simp (disch := first|omega|(simp only[ln];omega)) [List.take_succ_cons, List.take_zero, idx_WdD (P := Try.prog) elT182 szT2, if_pos, idf_Wd', idf_numS, cells_numS, numS_fold, t7l]; rfl) ?_
    simp only [List.drop_succ_cons, List.drop_zero]
    refine AOPS.frz1 11 nx2 1 (wd .i64 tab7) (Wd .i64 tab7) (by simp; rfl) (by simp; first | exact fz_wd rfl | exact isl_take_wd (by decide)) ?_
    refine AOPS.old fun hold2 => ?_
    refine AOPS.acall (below_ac 7 (by omega) (by omega) l p2 id _ _ dl hl hp2 (by simp (disch := omega) [hH]) hold2) rfl rfl rfl hb92 (by simp (disch := first|omega|(simp only[ln];omega)) [idf_Wd', t7l, idf_numS, cells_numS, numS_fold]) (by simp (disch := first|omega|(simp only[ln];omega)) [t7l]) (by simp) ?_
    rintro _ _ nx3 ⟨⟨k7, rfl, k70, k71⟩, ⟨p3, hp3, rfl⟩, hnx3⟩
    try simp only [] at hnx3
    clear hold2
    have hk7 : k7.toNat < 7 := by omega
    simp only [puts_some, updo]
    refine AOPS.runk 2 (by simp (disch := first|omega|(simp only[ln];omega)) [List.take_succ_cons, List.take_zero, idx_WdD (P := Try.prog) elT182 szT2, if_pos, idf_Wd', idf_numS, cells_numS, numS_fold, t7l]; rfl) ?_
    simp only [List.drop_succ_cons, List.drop_zero]
    refine AOPS.fcall (wideOfS_fc (gt tab7 k7.toNat) (tab7_b _).1 (tab7_b _).2) rfl rfl rfl hb95 (by simp (disch := first|omega|(simp only[ln];omega)) [idf_Wd', t7l, idf_numS, cells_numS, numS_fold]) (by simp (disch := first|omega|(simp only[ln];omega)) [t7l]) (by simp) ?_
    simp only [puts_some, updo]
    refine AOPS.all (by simp (disch := first|omega|(simp only[ln];omega)) [idx_WdD (P := Try.prog) elT182 szT2, if_pos, idf_Wd', idf_numS, cells_numS, numS_fold, t7l]; rfl) ?_
    refine hK5 _ ?_
    refine AWP.ret ?_
    exact hK _ _ _ _ _ trivial ((Fin.mk (r := .agg [.int .u64 (W4z (gt tab7 k7.toNat)).a, .int .u64 (W4z (gt tab7 k7.toNat)).b, .int .u64 (W4z (gt tab7 k7.toNat)).c, .int .u64 (W4z (gt tab7 k7.toNat)).d]) (by simp (disch := omega) [aRes, aResL, aRes1, idf_Wd', idf_numS, cells_numS, numS_fold])).restr (fun i => decide (i < nx))) (⟨⟨W4z (gt tab7 k7.toNat), rfl, W4z_ok _⟩, ⟨p3, hp3, by simp (disch := first | omega | (simp; done) | (simp; omega)) [hrestr_in, hrestr_out, hrestr_all hd, hupd_same]⟩, by first | omega | (simp at *; omega)⟩)
  · try simp only [decide_eq_true_eq, decide_eq_false_iff_not] at h9
    refine AWP.seqk fun K6 hK6 => ?_
    refine AWP.region (AOPS.all (by simp (disch := first|omega|(simp only[ln];omega)) [idf_Wd', idf_numS, cells_numS, numS_fold]; rfl) ?_)
    refine hK6 _ ?_
    refine cond_ok (k == 1) (by simp (disch := first|omega|(simp only[ln];omega))) (fun h17 => ?_) (fun h17 => ?_)
    · try simp only [decide_eq_true_eq, decide_eq_false_iff_not] at h17
      refine AWP.seqk fun K7 hK7 => ?_
      refine AWP.region ?_
      refine AOPS.runk 8 (by simp (disch := first|omega|(simp only[ln];omega)) [List.take_succ_cons, List.take_zero, if_pos, idf_Wd', idf_numS, cells_numS, numS_fold, hTl, hTy]; rfl) ?_
      simp only [List.drop_succ_cons, List.drop_zero]
      refine AOPS.frz1 25 nx2 4 T (.isl T) (by simp [← hT0, tab6, W4.l]) (by simp; rw [← hT0]; exact fz_fill W4.l tab6 rfl) ?_
      refine AOPS.old fun hold8 => ?_
      refine AOPS.acall (below_ac 6 (by omega) (by omega) l p2 id _ _ dl hl hp2 (by simp (disch := omega) [hH]) hold8) rfl rfl rfl hb92 (by simp (disch := first|omega|(simp only[ln];omega)) [idf_Wd', hTl, hTy, idf_numS, cells_numS, numS_fold]) (by simp (disch := first|omega|(simp only[ln];omega)) [hTl, hTy]) (by simp) ?_
      rintro _ _ nx3 ⟨⟨k6, rfl, k60, k61⟩, ⟨p3, hp3, rfl⟩, hnx3⟩
      try simp only [] at hnx3
      clear hold8
      have hk6 : k6.toNat < 6 := by omega
      simp only [puts_some, updo]
      refine AOPS.all (by simp (disch := first|omega|(simp only[ln];omega)) [if_pos, idf_Wd', idf_numS, cells_numS, numS_fold, hTl, hTy]; rfl) ?_
      refine hK7 _ ?_
      refine AWP.ret ?_
      exact hK _ _ _ _ _ trivial ((Fin.mk (r := .agg [.int .u64 (gt6 k6.toNat).a, .int .u64 (gt6 k6.toNat).b, .int .u64 (gt6 k6.toNat).c, .int .u64 (gt6 k6.toNat).d]) (by simp (disch := omega) [aRes, aResL, aRes1, idf_Wd', idf_numS, cells_numS, numS_fold])).restr (fun i => decide (i < nx))) (⟨⟨gt6 k6.toNat, rfl, gt6_ok _⟩, ⟨p3, hp3, by simp (disch := first | omega | (simp; done) | (simp; omega)) [hrestr_in, hrestr_out, hrestr_all hd, hupd_same]⟩, by first | omega | (simp at *; omega)⟩)
    · try simp only [decide_eq_true_eq, decide_eq_false_iff_not] at h17
      refine AWP.seqk fun K8 hK8 => ?_
      refine AWP.region (AOPS.all (by simp (disch := first|omega|(simp only[ln];omega)) [idf_Wd', idf_numS, cells_numS, numS_fold]; rfl) ?_)
      refine hK8 _ ?_
      refine cond_ok (k == 2) (by simp (disch := first|omega|(simp only[ln];omega))) (fun h30 => ?_) (fun h30 => ?_)
      · try simp only [decide_eq_true_eq, decide_eq_false_iff_not] at h30
        refine AWP.seqk fun K9 hK9 => ?_
        refine AWP.region ?_
        refine AOPS.runk 1 (by simp (disch := first|omega|(simp only[ln];omega)) [List.take_succ_cons, List.take_zero, idf_Wd', idf_numS, cells_numS, numS_fold]; rfl) ?_
        simp only [List.drop_succ_cons, List.drop_zero]
        refine AOPS.old fun hold1 => ?_
        refine AOPS.acall (once_ac 2 (by omega) (by omega) l p2 id _ _ dl hl hp2 (by simp (disch := omega) [hH]) hold1) rfl rfl rfl hb46 (by simp (disch := first|omega|(simp only[ln];omega)) [idf_Wd', idf_numS, cells_numS, numS_fold]) (by simp (disch := first|omega|(simp only[ln];omega))) (by simp) ?_
        rintro _ _ nx3 ⟨⟨b, rfl⟩, ⟨p3, hp3, rfl⟩, hnx3⟩
        try simp only [] at hnx3
        clear hold1
        simp only [puts_some, updo]
        refine AOPS.runk 2 (by simp (disch := first|omega|(simp only[ln];omega)) [List.take_succ_cons, List.take_zero, idf_Wd', idf_numS, cells_numS, numS_fold]; rfl) ?_
        simp only [List.drop_succ_cons, List.drop_zero]
        refine AOPS.frz1 35 nx3 1 (wd .u32 [1]) (Wd .u32 [1]) (by simp) (by simp; first | exact fz_wd rfl | exact isl_take_wd (by simp)) ?_
        refine AOPS.old fun hold4 => ?_
        refine AOPS.acall (below_ac 255 (by omega) (by omega) l p3 id _ _ dl hl hp3 (by simp (disch := omega) [hH]) hold4) rfl rfl rfl hb92 (by simp (disch := first|omega|(simp only[ln];omega)) [idf_Wd', idf_numS, cells_numS, numS_fold]) (by simp (disch := first|omega|(simp only[ln];omega))) (by simp) ?_
        rintro _ _ nx4 ⟨⟨k8, rfl, k80, k81⟩, ⟨p4, hp4, rfl⟩, hnx4⟩
        try simp only [] at hnx4
        clear hold4
        obtain ⟨K8, rfl⟩ := Int.eq_ofNat_of_zero_le k80
        have hL := l1LeftI 1 K8 (by omega) (by rw [show ((1 : Nat) : Int) = 1 from rfl, dg_one]; simp)
        rw [show ((1 : Nat) : Int) = 1 from rfl, dg_one] at hL
        have bP := bg_pow K8 (by omega) b
        have bP0 := bg_pow K8 (by omega) false
        have hT := l1Trim_fc b (dg ((1 * 2 ^ K8 : Nat) : Int)) (by have := bP0.len32; rw [sg_false] at this; omega) (dg_dig _)
        rw [dg_val, Int.natAbs_natCast] at hT
        have hWd := l1Wide_fc bP (by omega)
        rw [wdT_l] at hWd
        unfold W4.l at hWd
        simp only [puts_some, updo]
        refine AOPS.fcall (hL) rfl rfl rfl hb140 (by simp (disch := first|omega|(simp only[ln];omega)) [idf_Wd', idf_numS, cells_numS, numS_fold]) (by simp (disch := first|omega|(simp only[ln];omega))) (by simp) ?_
        simp only [puts_some, updo]
        refine AOPS.fcall (hT) rfl rfl rfl hb138 (by simp (disch := first|omega|(simp only[ln];omega)) [idf_Wd', idf_numS, cells_numS, numS_fold]) (by simp (disch := first|omega|(simp only[ln];omega))) (by simp) ?_
        simp only [puts_some, updo]
        refine AOPS.fcall (hWd) rfl rfl rfl hb109 (by simp (disch := first|omega|(simp only[ln];omega)) [idf_Wd', idf_numS, cells_numS, numS_fold]) (by simp (disch := first|omega|(simp only[ln];omega))) (by simp) ?_
        simp only [puts_some, updo]
        refine AOPS.all (by simp (disch := first|omega|(simp only[ln];omega)) [idf_Wd', idf_numS, cells_numS, numS_fold]; rfl) ?_
        refine hK9 _ ?_
        refine AWP.seqk fun K10 hK10 => ?_
        refine AWP.region (AOPS.all (by simp (disch := first|omega|(simp only[ln];omega)) [idf_Wd', idf_numS, cells_numS, numS_fold]; rfl) ?_)
        refine hK10 _ ?_
        refine AWP.ret ?_
        exact hK _ _ _ _ _ trivial ((Fin.mk (r := .agg [.int .u64 (W4z (sg b ((1 * 2 ^ K8 : Nat) : Int))).a, .int .u64 (W4z (sg b ((1 * 2 ^ K8 : Nat) : Int))).b, .int .u64 (W4z (sg b ((1 * 2 ^ K8 : Nat) : Int))).c, .int .u64 (W4z (sg b ((1 * 2 ^ K8 : Nat) : Int))).d]) (by simp (disch := omega) [aRes, aResL, aRes1, idf_Wd', idf_numS, cells_numS, numS_fold])).restr (fun i => decide (i < nx))) (⟨⟨W4z (sg b ((1 * 2 ^ K8 : Nat) : Int)), rfl, W4z_ok _⟩, ⟨p4, hp4, by simp (disch := first | omega | (simp; done) | (simp; omega)) [hrestr_in, hrestr_out, hrestr_all hd, hupd_same]⟩, by first | omega | (simp at *; omega)⟩)
      · try simp only [decide_eq_true_eq, decide_eq_false_iff_not] at h30
        refine AWP.seqk fun K11 hK11 => ?_
        refine AWP.region (AOPS.all (by simp (disch := first|omega|(simp only[ln];omega)) [idf_Wd', idf_numS, cells_numS, numS_fold]; rfl) ?_)
        refine hK11 _ ?_
        refine cond_ok (k == 3) (by simp (disch := first|omega|(simp only[ln];omega))) (fun h44 => ?_) (fun h44 => ?_)
        · try simp only [decide_eq_true_eq, decide_eq_false_iff_not] at h44
          refine AWP.seqk fun K12 hK12 => ?_
          refine AWP.region ?_
          refine AOPS.runk 1 (by simp (disch := first|omega|(simp only[ln];omega)) [List.take_succ_cons, List.take_zero, idf_Wd', idf_numS, cells_numS, numS_fold]; rfl) ?_
          simp only [List.drop_succ_cons, List.drop_zero]
          refine AOPS.old fun hold1 => ?_
          refine AOPS.acall (word_ac l p2 id _ _ dl hl hp2 (by simp (disch := omega) [hH]) hold1) rfl rfl rfl hb96 (by simp (disch := first|omega|(simp only[ln];omega)) [idf_Wd', idf_numS, cells_numS, numS_fold]) (by simp (disch := first|omega|(simp only[ln];omega))) (by simp) ?_
          rintro _ _ nx3 ⟨⟨wa, rfl, wau⟩, ⟨p3, hp3, rfl⟩, hnx3⟩
          try simp only [] at hnx3
          clear hold1
          simp only [puts_some, updo]
          refine AOPS.runk 1 (by simp (disch := first|omega|(simp only[ln];omega)) [List.take_succ_cons, List.take_zero, idf_Wd', idf_numS, cells_numS, numS_fold]; rfl) ?_
          simp only [List.drop_succ_cons, List.drop_zero]
          refine AOPS.old fun hold3 => ?_
          refine AOPS.acall (word_ac l p3 id _ _ dl hl hp3 (by simp (disch := omega) [hH]) hold3) rfl rfl rfl hb96 (by simp (disch := first|omega|(simp only[ln];omega)) [idf_Wd', idf_numS, cells_numS, numS_fold]) (by simp (disch := first|omega|(simp only[ln];omega))) (by simp) ?_
          rintro _ _ nx4 ⟨⟨wb, rfl, wbu⟩, ⟨p4, hp4, rfl⟩, hnx4⟩
          try simp only [] at hnx4
          clear hold3
          simp only [puts_some, updo]
          refine AOPS.runk 1 (by simp (disch := first|omega|(simp only[ln];omega)) [List.take_succ_cons, List.take_zero, idf_Wd', idf_numS, cells_numS, numS_fold]; rfl) ?_
          simp only [List.drop_succ_cons, List.drop_zero]
          refine AOPS.old fun hold5 => ?_
          refine AOPS.acall (word_ac l p4 id _ _ dl hl hp4 (by simp (disch := omega) [hH]) hold5) rfl rfl rfl hb96 (by simp (disch := first|omega|(simp only[ln];omega)) [idf_Wd', idf_numS, cells_numS, numS_fold]) (by simp (disch := first|omega|(simp only[ln];omega))) (by simp) ?_
          rintro _ _ nx5 ⟨⟨wc, rfl, wcu⟩, ⟨p5, hp5, rfl⟩, hnx5⟩
          try simp only [] at hnx5
          clear hold5
          simp only [puts_some, updo]
          refine AOPS.runk 1 (by simp (disch := first|omega|(simp only[ln];omega)) [List.take_succ_cons, List.take_zero, idf_Wd', idf_numS, cells_numS, numS_fold]; rfl) ?_
          simp only [List.drop_succ_cons, List.drop_zero]
          refine AOPS.old fun hold7 => ?_
          refine AOPS.acall (word_ac l p5 id _ _ dl hl hp5 (by simp (disch := omega) [hH]) hold7) rfl rfl rfl hb96 (by simp (disch := first|omega|(simp only[ln];omega)) [idf_Wd', idf_numS, cells_numS, numS_fold]) (by simp (disch := first|omega|(simp only[ln];omega))) (by simp) ?_
          rintro _ _ nx6 ⟨⟨wd, rfl, wdu⟩, ⟨p6, hp6, rfl⟩, hnx6⟩
          try simp only [] at hnx6
          clear hold7
          simp only [puts_some, updo]
          refine AOPS.all (by simp (disch := first|omega|(simp only[ln];omega)) [idf_Wd', idf_numS, cells_numS, numS_fold]; rfl) ?_
          refine hK12 _ ?_
          refine AWP.ret ?_
          exact hK _ _ _ _ _ trivial ((Fin.mk (r := .agg [.int .u64 (⟨wa, wb, wc, wd⟩ : W4).a, .int .u64 (⟨wa, wb, wc, wd⟩ : W4).b, .int .u64 (⟨wa, wb, wc, wd⟩ : W4).c, .int .u64 (⟨wa, wb, wc, wd⟩ : W4).d]) (by simp (disch := omega) [aRes, aResL, aRes1, idf_Wd', idf_numS, cells_numS, numS_fold])).restr (fun i => decide (i < nx))) (⟨⟨⟨wa, wb, wc, wd⟩, rfl, ⟨wau, wbu, wcu, wdu⟩⟩, ⟨p6, hp6, by simp (disch := first | omega | (simp; done) | (simp; omega)) [hrestr_in, hrestr_out, hrestr_all hd, hupd_same]⟩, by first | omega | (simp at *; omega)⟩)
        · try simp only [decide_eq_true_eq, decide_eq_false_iff_not] at h44
          refine AWP.seqk fun K13 hK13 => ?_
          refine AWP.region (AOPS.all (by simp (disch := first|omega|(simp only[ln];omega)) [idf_Wd', idf_numS, cells_numS, numS_fold]; rfl) ?_)
          refine hK13 _ ?_
          refine cond_ok (k == 4) (by simp (disch := first|omega|(simp only[ln];omega))) (fun h55 => ?_) (fun h55 => ?_)
          · try simp only [decide_eq_true_eq, decide_eq_false_iff_not] at h55
            refine AWP.seqk fun K14 hK14 => ?_
            refine AWP.region ?_
            refine AOPS.runk 1 (by simp (disch := first|omega|(simp only[ln];omega)) [List.take_succ_cons, List.take_zero, idf_Wd', idf_numS, cells_numS, numS_fold, IntKind.bits]; rfl) ?_
            simp only [List.drop_succ_cons, List.drop_zero]
            refine AOPS.old fun hold1 => ?_
            refine AOPS.acall (word_ac l p2 id _ _ dl hl hp2 (by simp (disch := omega) [hH]) hold1) rfl rfl rfl hb96 (by simp (disch := first|omega|(simp only[ln];omega)) [idf_Wd', IntKind.bits, idf_numS, cells_numS, numS_fold]) (by simp (disch := first|omega|(simp only[ln];omega)) [IntKind.bits]) (by simp) ?_
            rintro _ _ nx3 ⟨⟨wa, rfl, wau⟩, ⟨p3, hp3, rfl⟩, hnx3⟩
            try simp only [] at hnx3
            clear hold1
            simp only [puts_some, updo]
            refine AOPS.runk 1 (by simp (disch := first|omega|(simp only[ln];omega)) [List.take_succ_cons, List.take_zero, idf_Wd', idf_numS, cells_numS, numS_fold, IntKind.bits]; rfl) ?_
            simp only [List.drop_succ_cons, List.drop_zero]
            refine AOPS.old fun hold3 => ?_
            refine AOPS.acall (below_ac 64 (by omega) (by omega) l p3 id _ _ dl hl hp3 (by simp (disch := omega) [hH]) hold3) rfl rfl rfl hb92 (by simp (disch := first|omega|(simp only[ln];omega)) [idf_Wd', IntKind.bits, idf_numS, cells_numS, numS_fold]) (by simp (disch := first|omega|(simp only[ln];omega)) [IntKind.bits]) (by simp) ?_
            rintro _ _ nx4 ⟨⟨k9, rfl, k90, k91⟩, ⟨p4, hp4, rfl⟩, hnx4⟩
            try simp only [] at hnx4
            clear hold3
            obtain ⟨K9, rfl⟩ := Int.eq_ofNat_of_zero_le k90
            have us := shr_U64 wau K9
            simp only [puts_some, updo]
            refine AOPS.runk 3 (by simp (disch := first|omega|(simp only[ln];omega)) [List.take_succ_cons, List.take_zero, idf_Wd', idf_numS, cells_numS, numS_fold, IntKind.bits]; rfl) ?_
            simp only [List.drop_succ_cons, List.drop_zero]
            refine AOPS.old fun hold7 => ?_
            refine AOPS.acall (word_ac l p4 id _ _ dl hl hp4 (by simp (disch := omega) [hH]) hold7) rfl rfl rfl hb96 (by simp (disch := first|omega|(simp only[ln];omega)) [idf_Wd', IntKind.bits, idf_numS, cells_numS, numS_fold]) (by simp (disch := first|omega|(simp only[ln];omega)) [IntKind.bits]) (by simp) ?_
            rintro _ _ nx5 ⟨⟨wb, rfl, wbu⟩, ⟨p5, hp5, rfl⟩, hnx5⟩
            try simp only [] at hnx5
            clear hold7
            simp only [puts_some, updo]
            refine AOPS.all (by simp (disch := first|omega|(simp only[ln];omega)) [idf_Wd', idf_numS, cells_numS, numS_fold, IntKind.bits]; rfl) ?_
            refine hK14 _ ?_
            refine AWP.ret ?_
            exact hK _ _ _ _ _ trivial ((Fin.mk (r := .agg [.int .u64 (⟨0, 0, wa.fdiv (2 ^ K9), wb⟩ : W4).a, .int .u64 (⟨0, 0, wa.fdiv (2 ^ K9), wb⟩ : W4).b, .int .u64 (⟨0, 0, wa.fdiv (2 ^ K9), wb⟩ : W4).c, .int .u64 (⟨0, 0, wa.fdiv (2 ^ K9), wb⟩ : W4).d]) (by simp (disch := omega) [aRes, aResL, aRes1, idf_Wd', idf_numS, cells_numS, numS_fold])).restr (fun i => decide (i < nx))) (⟨⟨⟨0, 0, wa.fdiv (2 ^ K9), wb⟩, rfl, ⟨by unfold U64; simp, by unfold U64; simp, us, wbu⟩⟩, ⟨p5, hp5, by simp (disch := first | omega | (simp; done) | (simp; omega)) [hrestr_in, hrestr_out, hrestr_all hd, hupd_same]⟩, by first | omega | (simp at *; omega)⟩)
          · try simp only [decide_eq_true_eq, decide_eq_false_iff_not] at h55
            refine AWP.seqk fun K15 hK15 => ?_
            refine AWP.region (AOPS.all (by simp (disch := first|omega|(simp only[ln];omega)) [idf_Wd', idf_numS, cells_numS, numS_fold]; rfl) ?_)
            refine hK15 _ ?_
            refine cond_ok (k == 5) (by simp (disch := first|omega|(simp only[ln];omega))) (fun h66 => ?_) (fun h66 => ?_)
            · try simp only [decide_eq_true_eq, decide_eq_false_iff_not] at h66
              refine AWP.seqk fun K16 hK16 => ?_
              refine AWP.region ?_
              refine AOPS.runk 1 (by simp (disch := first|omega|(simp only[ln];omega)) [List.take_succ_cons, List.take_zero, idf_Wd', idf_numS, cells_numS, numS_fold]; rfl) ?_
              simp only [List.drop_succ_cons, List.drop_zero]
              refine AOPS.old fun hold1 => ?_
              refine AOPS.acall (word_ac l p2 id _ _ dl hl hp2 (by simp (disch := omega) [hH]) hold1) rfl rfl rfl hb96 (by simp (disch := first|omega|(simp only[ln];omega)) [idf_Wd', idf_numS, cells_numS, numS_fold]) (by simp (disch := first|omega|(simp only[ln];omega))) (by simp) ?_
              rintro _ _ nx3 ⟨⟨wa, rfl, wau⟩, ⟨p3, hp3, rfl⟩, hnx3⟩
              try simp only [] at hnx3
              clear hold1
              have ia := wrap_I64 wa
              simp only [puts_some, updo]
              refine AOPS.runk 1 (by simp (disch := first|omega|(simp only[ln];omega)) [List.take_succ_cons, List.take_zero, idf_Wd', idf_numS, cells_numS, numS_fold]; rfl) ?_
              simp only [List.drop_succ_cons, List.drop_zero]
              refine AOPS.fcall (l1Int_fc (IntKind.i64.wrap wa) ia.1 ia.2) rfl rfl rfl hb89 (by simp (disch := first|omega|(simp only[ln];omega)) [idf_Wd', idf_numS, cells_numS, numS_fold]) (by simp (disch := first|omega|(simp only[ln];omega))) (by simp) ?_
              simp only [puts_some, updo]
              refine AOPS.runk 1 (by simp (disch := first|omega|(simp only[ln];omega)) [List.take_succ_cons, List.take_zero, idf_Wd', idf_numS, cells_numS, numS_fold]; rfl) ?_
              simp only [List.drop_succ_cons, List.drop_zero]
              refine AOPS.old fun hold5 => ?_
              refine AOPS.acall (word_ac l p3 id _ _ dl hl hp3 (by simp (disch := omega) [hH]) hold5) rfl rfl rfl hb96 (by simp (disch := first|omega|(simp only[ln];omega)) [idf_Wd', idf_numS, cells_numS, numS_fold]) (by simp (disch := first|omega|(simp only[ln];omega))) (by simp) ?_
              rintro _ _ nx4 ⟨⟨wb, rfl, wbu⟩, ⟨p4, hp4, rfl⟩, hnx4⟩
              try simp only [] at hnx4
              clear hold5
              have ib := wrap_I64 wb
              have bAB := (Bg.i64 ia.1 ia.2).mul (Bg.i64 ib.1 ib.2)
              have hWd := l1Wide_fc bAB (by omega)
              rw [wdT_l] at hWd
              unfold W4.l at hWd
              simp only [puts_some, updo]
              refine AOPS.runk 1 (by simp (disch := first|omega|(simp only[ln];omega)) [List.take_succ_cons, List.take_zero, idf_Wd', idf_numS, cells_numS, numS_fold]; rfl) ?_
              simp only [List.drop_succ_cons, List.drop_zero]
              refine AOPS.fcall (l1Int_fc (IntKind.i64.wrap wb) ib.1 ib.2) rfl rfl rfl hb89 (by simp (disch := first|omega|(simp only[ln];omega)) [idf_Wd', idf_numS, cells_numS, numS_fold]) (by simp (disch := first|omega|(simp only[ln];omega))) (by simp) ?_
              simp only [puts_some, updo]
              refine AOPS.fcall (l1Mul_fc (Bg.i64 ia.1 ia.2) (Bg.i64 ib.1 ib.2) (by omega) (by omega)) rfl rfl rfl hb102 (by simp (disch := first|omega|(simp only[ln];omega)) [idf_Wd', idf_numS, cells_numS, numS_fold]) (by simp (disch := first|omega|(simp only[ln];omega))) (by simp) ?_
              simp only [puts_some, updo]
              refine AOPS.fcall (hWd) rfl rfl rfl hb109 (by simp (disch := first|omega|(simp only[ln];omega)) [idf_Wd', idf_numS, cells_numS, numS_fold]) (by simp (disch := first|omega|(simp only[ln];omega))) (by simp) ?_
              simp only [puts_some, updo]
              refine AOPS.all (by simp (disch := first|omega|(simp only[ln];omega)) [idf_Wd', idf_numS, cells_numS, numS_fold]; rfl) ?_
              refine hK16 _ ?_
              refine AWP.seqk fun K17 hK17 => ?_
              refine AWP.region (AOPS.all (by simp (disch := first|omega|(simp only[ln];omega)) [idf_Wd', idf_numS, cells_numS, numS_fold]; rfl) ?_)
              refine hK17 _ ?_
              refine AWP.ret ?_
              exact hK _ _ _ _ _ trivial ((Fin.mk (r := .agg [.int .u64 (W4z (IntKind.i64.wrap wa * IntKind.i64.wrap wb)).a, .int .u64 (W4z (IntKind.i64.wrap wa * IntKind.i64.wrap wb)).b, .int .u64 (W4z (IntKind.i64.wrap wa * IntKind.i64.wrap wb)).c, .int .u64 (W4z (IntKind.i64.wrap wa * IntKind.i64.wrap wb)).d]) (by simp (disch := omega) [aRes, aResL, aRes1, idf_Wd', idf_numS, cells_numS, numS_fold])).restr (fun i => decide (i < nx))) (⟨⟨W4z (IntKind.i64.wrap wa * IntKind.i64.wrap wb), rfl, W4z_ok _⟩, ⟨p4, hp4, by simp (disch := first | omega | (simp; done) | (simp; omega)) [hrestr_in, hrestr_out, hrestr_all hd, hupd_same]⟩, by first | omega | (simp at *; omega)⟩)
            · try simp only [decide_eq_true_eq, decide_eq_false_iff_not] at h66
              refine AWP.skip ?_
              refine hK2 _ ?_
              refine AWP.seqk fun K18 hK18 => ?_
              refine AWP.region ?_
              refine AOPS.runk 1 (by simp (disch := first|omega|(simp only[ln];omega)) [List.take_succ_cons, List.take_zero, idf_Wd', idf_numS, cells_numS, numS_fold]; rfl) ?_
              simp only [List.drop_succ_cons, List.drop_zero]
              refine AOPS.old fun hold1 => ?_
              refine AOPS.acall (near_ac (-60) (60) (by omega) (by omega) (by omega) l p2 id _ _ dl hl hp2 (by simp (disch := omega) [hH]) hold1) rfl rfl rfl hb97 (by simp (disch := first|omega|(simp only[ln];omega)) [idf_Wd', idf_numS, cells_numS, numS_fold]) (by simp (disch := first|omega|(simp only[ln];omega))) (by simp) ?_
              rintro _ _ nx3 ⟨⟨kn, rfl, kn0, kn1⟩, ⟨p3, hp3, rfl⟩, hnx3⟩
              try simp only [] at hnx3
              clear hold1
              simp only [puts_some, updo]
              refine AOPS.fcall (wideOfS_fc kn (by omega) (by omega)) rfl rfl rfl hb95 (by simp (disch := first|omega|(simp only[ln];omega)) [idf_Wd', idf_numS, cells_numS, numS_fold]) (by simp (disch := first|omega|(simp only[ln];omega))) (by simp) ?_
              simp only [puts_some, updo]
              refine AOPS.all (by simp (disch := first|omega|(simp only[ln];omega)) [idf_Wd', idf_numS, cells_numS, numS_fold]; rfl) ?_
              refine hK18 _ ?_
              refine AWP.ret ?_
              exact hK _ _ _ _ _ trivial ((Fin.mk (r := .agg [.int .u64 (W4z kn).a, .int .u64 (W4z kn).b, .int .u64 (W4z kn).c, .int .u64 (W4z kn).d]) (by simp (disch := omega) [aRes, aResL, aRes1, idf_Wd', idf_numS, cells_numS, numS_fold])).restr (fun i => decide (i < nx))) (⟨⟨W4z kn, rfl, W4z_ok _⟩, ⟨p3, hp3, by simp (disch := first | omega | (simp; done) | (simp; omega)) [hrestr_in, hrestr_out, hrestr_all hd, hupd_same]⟩, by first | omega | (simp at *; omega)⟩)

end Go.Proofs.Ytdcggmbnjonemaa

/- Walks: drawn points. -/
namespace Go.Proofs.Ytdcggmbnjonemaa
open Go Go.RowKit
set_option linter.unusedSimpArgs false
set_option linter.unusedVariables false
set_option maxRecDepth 100000
attribute [local simp] List.getElem?_cons_zero List.getElem?_cons_succ List.getElem?_toArray runOps stepOp.eq_def agd.eq_def dstOk.eq_def opVal.eq_def opNew.eq_def opSto.eq_def ev.eq_def cv.eq_def puts_some puts_none upd_ap lst.eq_def aBin.eq_def aUn.eq_def aBi_str aBi_isl aBi_osl aBi_nsl aBi_max aBi_min aBi_max3 aConv.eq_def aLd.eq_def aLoad.eq_def aField.eq_def aFld.eq_def aIdx_isl aIdx_osl aSlc_isl aSlc_osl aSlc_str aSlc_nsl bnd.eq_def evs_nil evs_cons aBuild.eq_def aFill splice.eq_def cells_agg cells_int cells_bool cells_str cells_nil cells_nsl cells_isl cells_osl cells_ptr cells_ip cells_fn cells_Wd one_int one_bool one_str one_nil one_nsl one_isl one_osl one_ptr one_ip one_fn one_Wd aSets hupd_eq hupd_ne wrap_i64s wrap_u64s wrap_u32s wrap_u8s wd_getD wd_set wd_len wd_replicate wd_one wd_fold fz_osl hupd_same aSix.eq_def aEqS.eq_def aEqB_bool aEqB_nsl aEqB_nil
attribute [local simp] szT2 byT2 agT2 unT2 zoT2 szT3 byT3 agT3 unT3 zoT3 szT29 byT29 agT29 elT29 unT29 zoT29 szT31 byT31 agT31 unT31 zoT31 szT33 byT33 agT33 flT33 fdT33_0 fdT33_1 fdT33_2 fdT33_3 zoT33 szT35 byT35 agT35 flT35 fdT35_0 fdT35_1 fdT35_2 zoT35 szT60 byT60 agT60 flT60 fdT60_0 fdT60_1 zoT60 szT139 byT139 agT139 flT139 fdT139_0 fdT139_1 zoT139

set_option maxHeartbeats 8000000 in
theorem point_ac (l : List Int) (p id : Nat) (H : Heap) (nx : Nat) (dl : Dig 256 l) (hl : l.length ≤ 1048576) (hp : p ≤ l.length) (hH : H id = some (2, [[Wd .u8 l, .int .i64 (p : Int)]])) (hd : ∀ i q, H i = some q → i < nx) : ACall Try.prog 45 [.ptr id 0 0] H nx (fun r H' nx' => (∃ x : Pt, r = .agg [.int .u64 (x).x.a, .int .u64 (x).x.b, .int .u64 (x).x.c, .int .u64 (x).x.d, .int .u64 (x).y.a, .int .u64 (x).y.b, .int .u64 (x).y.c, .int .u64 (x).y.d, .int .u64 (x).w.a, .int .u64 (x).w.b, .int .u64 (x).w.c, .int .u64 (x).w.d] ∧ x.ok) ∧ (∃ p' : Nat, p' ≤ l.length ∧ H' = hupd H id (some (2, [[Wd .u8 l, .int .i64 (p' : Int)]]))) ∧ nx ≤ nx') := by
  have hid := hd id _ hH
  have hfd : ∀ x : Int, x.fdiv 2 = x / 2 := fun x => Int.fdiv_eq_ediv_of_nonneg _ (by omega)
  refine ACall.body Try.func45 rfl 84 rfl fun K hK => ?_
  refine AWP.seqk fun K1 hK1 => ?_
  refine AWP.region (AOPS.all (by simp (disch := first|omega|(simp only[ln];omega)) [idf_Wd']; rfl) ?_)
  refine hK1 _ ?_
  refine AWP.seqk fun K2 hK2 => ?_
  refine AWP.seqk fun K3 hK3 => ?_
  refine AWP.region ?_
  refine AOPS.runk 1 (by simp (disch := first|omega|(simp only[ln];omega)) [List.take_succ_cons, List.take_zero, idf_Wd', hH]; rfl) ?_
  simp only [List.drop_succ_cons, List.drop_zero]
  refine AOPS.old fun hold1 => ?_
  refine AOPS.acall (below_ac 10 (by omega) (by omega) l p id _ _ dl hl hp (by simp (disch := omega) [hH]) hold1) rfl rfl rfl hb92 (by simp (disch := first|omega|(simp only[ln];omega)) [idf_Wd', hH]) (by simp (disch := first|omega|(simp only[ln];omega)) [hH]) (by simp) ?_
  rintro _ _ nx2 ⟨⟨k, rfl, k0, k1⟩, ⟨p2, hp2, rfl⟩, hnx2⟩
  try simp only [] at hnx2
  clear hold1
  simp only [puts_some, updo]
  refine AOPS.nil ?_
  refine hK3 _ ?_
  refine AWP.block ?_
  refine AWP.seqk fun K4 hK4 => ?_
  refine AWP.region (AOPS.all (by simp (disch := first|omega|(simp only[ln];omega)) [idf_Wd']; rfl) ?_)
  refine hK4 _ ?_
  refine cond_ok _ (by simp (disch := first|omega|(simp only[ln];omega)); rfl) (fun h11 => ?_) (fun h11 => ?_)
  · try simp only [decide_eq_true_eq, decide_eq_false_iff_not] at h11
    refine AWP.seqk fun K5 hK5 => ?_
    refine AWP.region ?_
    refine AOPS.runk 1 (by simp (disch := first|omega|(simp only[ln];omega)) [List.take_succ_cons, List.take_zero, idf_Wd']; rfl) ?_
    simp only [List.drop_succ_cons, List.drop_zero]
    refine AOPS.old fun hold1 => ?_
    refine AOPS.acall (wide_ac l p2 id _ _ dl hl hp2 (by simp (disch := omega) [hH]) hold1) rfl rfl rfl hb94 (by simp (disch := first|omega|(simp only[ln];omega)) [idf_Wd']) (by simp (disch := first|omega|(simp only[ln];omega))) (by simp) ?_
    rintro _ _ nx3 ⟨⟨xa, rfl, xao⟩, ⟨p3, hp3, rfl⟩, hnx3⟩
    try simp only [] at hnx3
    clear hold1
    simp only [puts_some, updo]
    refine AOPS.runk 1 (by simp (disch := first|omega|(simp only[ln];omega)) [List.take_succ_cons, List.take_zero, idf_Wd']; rfl) ?_
    simp only [List.drop_succ_cons, List.drop_zero]
    refine AOPS.old fun hold3 => ?_
    refine AOPS.acall (wide_ac l p3 id _ _ dl hl hp3 (by simp (disch := omega) [hH]) hold3) rfl rfl rfl hb94 (by simp (disch := first|omega|(simp only[ln];omega)) [idf_Wd']) (by simp (disch := first|omega|(simp only[ln];omega))) (by simp) ?_
    rintro _ _ nx4 ⟨⟨xb, rfl, xbo⟩, ⟨p4, hp4, rfl⟩, hnx4⟩
    try simp only [] at hnx4
    clear hold3
    simp only [puts_some, updo]
    refine AOPS.runk 1 (by simp (disch := first|omega|(simp only[ln];omega)) [List.take_succ_cons, List.take_zero, idf_Wd']; rfl) ?_
    simp only [List.drop_succ_cons, List.drop_zero]
    refine AOPS.old fun hold5 => ?_
    refine AOPS.acall (wide_ac l p4 id _ _ dl hl hp4 (by simp (disch := omega) [hH]) hold5) rfl rfl rfl hb94 (by simp (disch := first|omega|(simp only[ln];omega)) [idf_Wd']) (by simp (disch := first|omega|(simp only[ln];omega))) (by simp) ?_
    rintro _ _ nx5 ⟨⟨xc, rfl, xco⟩, ⟨p5, hp5, rfl⟩, hnx5⟩
    try simp only [] at hnx5
    clear hold5
    simp only [puts_some, updo]
    refine AOPS.fcall (pointMakeS_fc xa xb xc xao xbo xco) rfl rfl rfl hb93 (by simp (disch := first|omega|(simp only[ln];omega)) [idf_Wd']) (by simp (disch := first|omega|(simp only[ln];omega))) (by simp) ?_
    simp only [puts_some, updo]
    refine AOPS.all (by simp (disch := first|omega|(simp only[ln];omega)) [idf_Wd']; rfl) ?_
    refine hK5 _ ?_
    refine AWP.seqk fun K6 hK6 => ?_
    refine AWP.region (AOPS.all (by simp (disch := first|omega|(simp only[ln];omega)) [idf_Wd']; rfl) ?_)
    refine hK6 _ ?_
    refine AWP.ret ?_
    exact hK _ _ _ _ _ trivial ((Fin.mk (r := .agg [.int .u64 (mkP xa.v xb.v xc.v).x.a, .int .u64 (mkP xa.v xb.v xc.v).x.b, .int .u64 (mkP xa.v xb.v xc.v).x.c, .int .u64 (mkP xa.v xb.v xc.v).x.d, .int .u64 (mkP xa.v xb.v xc.v).y.a, .int .u64 (mkP xa.v xb.v xc.v).y.b, .int .u64 (mkP xa.v xb.v xc.v).y.c, .int .u64 (mkP xa.v xb.v xc.v).y.d, .int .u64 (mkP xa.v xb.v xc.v).w.a, .int .u64 (mkP xa.v xb.v xc.v).w.b, .int .u64 (mkP xa.v xb.v xc.v).w.c, .int .u64 (mkP xa.v xb.v xc.v).w.d]) (by simp (disch := omega) [aRes, aResL, aRes1, idf_Wd'])).restr (fun i => decide (i < nx))) (⟨⟨mkP xa.v xb.v xc.v, rfl, mkP_ok _ _ _⟩, ⟨p5, hp5, by simp (disch := first | omega | (simp; done) | (simp; omega)) [hrestr_in, hrestr_out, hrestr_all hd, hupd_same]⟩, by first | omega | (simp at *; omega)⟩)
  · try simp only [decide_eq_true_eq, decide_eq_false_iff_not] at h11
    refine AWP.seqk fun K7 hK7 => ?_
    refine AWP.region (AOPS.all (by simp (disch := first|omega|(simp only[ln];omega)) [idf_Wd']; rfl) ?_)
    refine hK7 _ ?_
    refine cond_ok _ (by simp (disch := first|omega|(simp only[ln];omega)); rfl) (fun h24 => ?_) (fun h24 => ?_)
    · try simp only [decide_eq_true_eq, decide_eq_false_iff_not] at h24
      refine AWP.seqk fun K8 hK8 => ?_
      refine AWP.seqk fun K9 hK9 => ?_
      refine AWP.region ?_
      refine AOPS.runk 1 (by simp (disch := first|omega|(simp only[ln];omega)) [List.take_succ_cons, List.take_zero, idf_Wd']; rfl) ?_
      simp only [List.drop_succ_cons, List.drop_zero]
      refine AOPS.old fun hold1 => ?_
      refine AOPS.acall (once_ac 4 (by omega) (by omega) l p2 id _ _ dl hl hp2 (by simp (disch := omega) [hH]) hold1) rfl rfl rfl hb46 (by simp (disch := first|omega|(simp only[ln];omega)) [idf_Wd']) (by simp (disch := first|omega|(simp only[ln];omega))) (by simp) ?_
      rintro _ _ nx3 ⟨⟨b, rfl⟩, ⟨p3, hp3, rfl⟩, hnx3⟩
      try simp only [] at hnx3
      clear hold1
      simp only [puts_some, updo]
      refine AOPS.nil ?_
      refine hK9 _ ?_
      refine cond_ok (b) (by simp (disch := first|omega|(simp only[ln];omega))) (fun h27 => ?_) (fun h27 => ?_)
      · try simp only [decide_eq_true_eq, decide_eq_false_iff_not] at h27
        refine AWP.seqk fun K10 hK10 => ?_
        refine AWP.region ?_
        refine AOPS.runk 1 (by simp (disch := first|omega|(simp only[ln];omega)) [List.take_succ_cons, List.take_zero, idf_Wd']; rfl) ?_
        simp only [List.drop_succ_cons, List.drop_zero]
        refine AOPS.old fun hold1 => ?_
        refine AOPS.acall (wide_ac l p3 id _ _ dl hl hp3 (by simp (disch := omega) [hH]) hold1) rfl rfl rfl hb94 (by simp (disch := first|omega|(simp only[ln];omega)) [idf_Wd']) (by simp (disch := first|omega|(simp only[ln];omega))) (by simp) ?_
        rintro _ _ nx4 ⟨⟨xa, rfl, xao⟩, ⟨p4, hp4, rfl⟩, hnx4⟩
        try simp only [] at hnx4
        clear hold1
        simp only [puts_some, updo]
        refine AOPS.runk 1 (by simp (disch := first|omega|(simp only[ln];omega)) [List.take_succ_cons, List.take_zero, idf_Wd']; rfl) ?_
        simp only [List.drop_succ_cons, List.drop_zero]
        refine AOPS.old fun hold3 => ?_
        refine AOPS.acall (wide_ac l p4 id _ _ dl hl hp4 (by simp (disch := omega) [hH]) hold3) rfl rfl rfl hb94 (by simp (disch := first|omega|(simp only[ln];omega)) [idf_Wd']) (by simp (disch := first|omega|(simp only[ln];omega))) (by simp) ?_
        rintro _ _ nx5 ⟨⟨xb, rfl, xbo⟩, ⟨p5, hp5, rfl⟩, hnx5⟩
        try simp only [] at hnx5
        clear hold3
        simp only [puts_some, updo]
        refine AOPS.runk 1 (by simp (disch := first|omega|(simp only[ln];omega)) [List.take_succ_cons, List.take_zero, idf_Wd']; rfl) ?_
        simp only [List.drop_succ_cons, List.drop_zero]
        refine AOPS.old fun hold5 => ?_
        refine AOPS.acall (wide_ac l p5 id _ _ dl hl hp5 (by simp (disch := omega) [hH]) hold5) rfl rfl rfl hb94 (by simp (disch := first|omega|(simp only[ln];omega)) [idf_Wd']) (by simp (disch := first|omega|(simp only[ln];omega))) (by simp) ?_
        rintro _ _ nx6 ⟨⟨xc, rfl, xco⟩, ⟨p6, hp6, rfl⟩, hnx6⟩
        try simp only [] at hnx6
        clear hold5
        simp only [puts_some, updo]
        refine AOPS.all (by simp (disch := first|omega|(simp only[ln];omega)) [idf_Wd']; rfl) ?_
        refine hK10 _ ?_
        refine AWP.ret ?_
        exact hK _ _ _ _ _ trivial ((Fin.mk (r := .agg [.int .u64 ((⟨xa, xb, xc⟩ : Pt)).x.a, .int .u64 ((⟨xa, xb, xc⟩ : Pt)).x.b, .int .u64 ((⟨xa, xb, xc⟩ : Pt)).x.c, .int .u64 ((⟨xa, xb, xc⟩ : Pt)).x.d, .int .u64 ((⟨xa, xb, xc⟩ : Pt)).y.a, .int .u64 ((⟨xa, xb, xc⟩ : Pt)).y.b, .int .u64 ((⟨xa, xb, xc⟩ : Pt)).y.c, .int .u64 ((⟨xa, xb, xc⟩ : Pt)).y.d, .int .u64 ((⟨xa, xb, xc⟩ : Pt)).w.a, .int .u64 ((⟨xa, xb, xc⟩ : Pt)).w.b, .int .u64 ((⟨xa, xb, xc⟩ : Pt)).w.c, .int .u64 ((⟨xa, xb, xc⟩ : Pt)).w.d]) (by simp (disch := omega) [aRes, aResL, aRes1, idf_Wd'])).restr (fun i => decide (i < nx))) (⟨⟨(⟨xa, xb, xc⟩ : Pt), rfl, ⟨xao, xbo, xco⟩⟩, ⟨p6, hp6, by simp (disch := first | omega | (simp; done) | (simp; omega)) [hrestr_in, hrestr_out, hrestr_all hd, hupd_same]⟩, by first | omega | (simp at *; omega)⟩)
      · try simp only [decide_eq_true_eq, decide_eq_false_iff_not] at h27
        refine AWP.skip ?_
        refine hK8 _ ?_
        refine AWP.seqk fun K11 hK11 => ?_
        refine AWP.region ?_
        refine AOPS.runk 1 (by simp (disch := first|omega|(simp only[ln];omega)) [List.take_succ_cons, List.take_zero, idf_Wd', IntKind.bits, hfd]; rfl) ?_
        simp only [List.drop_succ_cons, List.drop_zero]
        refine AOPS.old fun hold1 => ?_
        refine AOPS.acall (word_ac l p3 id _ _ dl hl hp3 (by simp (disch := omega) [hH]) hold1) rfl rfl rfl hb96 (by simp (disch := first|omega|(simp only[ln];omega)) [idf_Wd', IntKind.bits, hfd]) (by simp (disch := first|omega|(simp only[ln];omega)) [IntKind.bits, hfd]) (by simp) ?_
        rintro _ _ nx4 ⟨⟨wa, rfl, wau⟩, ⟨p4, hp4, rfl⟩, hnx4⟩
        try simp only [] at hnx4
        clear hold1
        have ia := wrap_I64 wa
        simp only [puts_some, updo]
        refine AOPS.runk 1 (by simp (disch := first|omega|(simp only[ln];omega)) [List.take_succ_cons, List.take_zero, idf_Wd', IntKind.bits, hfd]; rfl) ?_
        simp only [List.drop_succ_cons, List.drop_zero]
        refine AOPS.fcall (wideOfS_fc (IntKind.i64.wrap wa) ia.1 ia.2) rfl rfl rfl hb95 (by simp (disch := first|omega|(simp only[ln];omega)) [idf_Wd', IntKind.bits, hfd]) (by simp (disch := first|omega|(simp only[ln];omega)) [IntKind.bits, hfd]) (by simp) ?_
        simp only [puts_some, updo]
        refine AOPS.runk 1 (by simp (disch := first|omega|(simp only[ln];omega)) [List.take_succ_cons, List.take_zero, idf_Wd', IntKind.bits, hfd]; rfl) ?_
        simp only [List.drop_succ_cons, List.drop_zero]
        refine AOPS.old fun hold5 => ?_
        refine AOPS.acall (word_ac l p4 id _ _ dl hl hp4 (by simp (disch := omega) [hH]) hold5) rfl rfl rfl hb96 (by simp (disch := first|omega|(simp only[ln];omega)) [idf_Wd', IntKind.bits, hfd]) (by simp (disch := first|omega|(simp only[ln];omega)) [IntKind.bits, hfd]) (by simp) ?_
        rintro _ _ nx5 ⟨⟨wb, rfl, wbu⟩, ⟨p5, hp5, rfl⟩, hnx5⟩
        try simp only [] at hnx5
        clear hold5
        have ib := wrap_I64 wb
        simp only [puts_some, updo]
        refine AOPS.runk 1 (by simp (disch := first|omega|(simp only[ln];omega)) [List.take_succ_cons, List.take_zero, idf_Wd', IntKind.bits, hfd]; rfl) ?_
        simp only [List.drop_succ_cons, List.drop_zero]
        refine AOPS.fcall (wideOfS_fc (IntKind.i64.wrap wb) ib.1 ib.2) rfl rfl rfl hb95 (by simp (disch := first|omega|(simp only[ln];omega)) [idf_Wd', IntKind.bits, hfd]) (by simp (disch := first|omega|(simp only[ln];omega)) [IntKind.bits, hfd]) (by simp) ?_
        simp only [puts_some, updo]
        refine AOPS.runk 1 (by simp (disch := first|omega|(simp only[ln];omega)) [List.take_succ_cons, List.take_zero, idf_Wd', IntKind.bits, hfd]; rfl) ?_
        simp only [List.drop_succ_cons, List.drop_zero]
        refine AOPS.old fun hold9 => ?_
        refine AOPS.acall (word_ac l p5 id _ _ dl hl hp5 (by simp (disch := omega) [hH]) hold9) rfl rfl rfl hb96 (by simp (disch := first|omega|(simp only[ln];omega)) [idf_Wd', IntKind.bits, hfd]) (by simp (disch := first|omega|(simp only[ln];omega)) [IntKind.bits, hfd]) (by simp) ?_
        rintro _ _ nx6 ⟨⟨wc, rfl, wcu⟩, ⟨p6, hp6, rfl⟩, hnx6⟩
        try simp only [] at hnx6
        clear hold9
        have fdw : wc.fdiv 2 = wc / 2 := Int.fdiv_eq_ediv_of_nonneg _ (by omega)
        obtain ⟨wcu0, wcu1⟩ := wcu
        have ic := wrap_I64 (1 + wc / 2)
        simp only [puts_some, updo]
        refine AOPS.runk 3 (by simp (disch := first|omega|(simp only[ln];omega)) [List.take_succ_cons, List.take_zero, idf_Wd', IntKind.bits, hfd]; rfl) ?_
        simp only [List.drop_succ_cons, List.drop_zero]
        refine AOPS.fcall (wideOfS_fc (IntKind.i64.wrap (1 + wc / 2)) ic.1 ic.2) rfl rfl rfl hb95 (by simp (disch := first|omega|(simp only[ln];omega)) [idf_Wd', IntKind.bits, hfd]) (by simp (disch := first|omega|(simp only[ln];omega)) [IntKind.bits, hfd]) (by simp) ?_
        simp only [puts_some, updo]
        refine AOPS.fcall (pointMakeS_fc (W4z (IntKind.i64.wrap wa)) (W4z (IntKind.i64.wrap wb)) (W4z (IntKind.i64.wrap (1 + wc / 2))) (W4z_ok _) (W4z_ok _) (W4z_ok _)) rfl rfl rfl hb93 (by simp (disch := first|omega|(simp only[ln];omega)) [idf_Wd', IntKind.bits, hfd]) (by simp (disch := first|omega|(simp only[ln];omega)) [IntKind.bits, hfd]) (by simp) ?_
        simp only [puts_some, updo]
        refine AOPS.all (by simp (disch := first|omega|(simp only[ln];omega)) [idf_Wd', IntKind.bits, hfd]; rfl) ?_
        refine hK11 _ ?_
        refine AWP.seqk fun K12 hK12 => ?_
        refine AWP.region (AOPS.all (by simp (disch := first|omega|(simp only[ln];omega)) [idf_Wd']; rfl) ?_)
        refine hK12 _ ?_
        refine AWP.ret ?_
        exact hK _ _ _ _ _ trivial ((Fin.mk (r := .agg [.int .u64 (mkP (W4z (IntKind.i64.wrap wa)).v (W4z (IntKind.i64.wrap wb)).v (W4z (IntKind.i64.wrap (1 + wc / 2))).v).x.a, .int .u64 (mkP (W4z (IntKind.i64.wrap wa)).v (W4z (IntKind.i64.wrap wb)).v (W4z (IntKind.i64.wrap (1 + wc / 2))).v).x.b, .int .u64 (mkP (W4z (IntKind.i64.wrap wa)).v (W4z (IntKind.i64.wrap wb)).v (W4z (IntKind.i64.wrap (1 + wc / 2))).v).x.c, .int .u64 (mkP (W4z (IntKind.i64.wrap wa)).v (W4z (IntKind.i64.wrap wb)).v (W4z (IntKind.i64.wrap (1 + wc / 2))).v).x.d, .int .u64 (mkP (W4z (IntKind.i64.wrap wa)).v (W4z (IntKind.i64.wrap wb)).v (W4z (IntKind.i64.wrap (1 + wc / 2))).v).y.a, .int .u64 (mkP (W4z (IntKind.i64.wrap wa)).v (W4z (IntKind.i64.wrap wb)).v (W4z (IntKind.i64.wrap (1 + wc / 2))).v).y.b, .int .u64 (mkP (W4z (IntKind.i64.wrap wa)).v (W4z (IntKind.i64.wrap wb)).v (W4z (IntKind.i64.wrap (1 + wc / 2))).v).y.c, .int .u64 (mkP (W4z (IntKind.i64.wrap wa)).v (W4z (IntKind.i64.wrap wb)).v (W4z (IntKind.i64.wrap (1 + wc / 2))).v).y.d, .int .u64 (mkP (W4z (IntKind.i64.wrap wa)).v (W4z (IntKind.i64.wrap wb)).v (W4z (IntKind.i64.wrap (1 + wc / 2))).v).w.a, .int .u64 (mkP (W4z (IntKind.i64.wrap wa)).v (W4z (IntKind.i64.wrap wb)).v (W4z (IntKind.i64.wrap (1 + wc / 2))).v).w.b, .int .u64 (mkP (W4z (IntKind.i64.wrap wa)).v (W4z (IntKind.i64.wrap wb)).v (W4z (IntKind.i64.wrap (1 + wc / 2))).v).w.c, .int .u64 (mkP (W4z (IntKind.i64.wrap wa)).v (W4z (IntKind.i64.wrap wb)).v (W4z (IntKind.i64.wrap (1 + wc / 2))).v).w.d]) (by simp (disch := omega) [aRes, aResL, aRes1, idf_Wd'])).restr (fun i => decide (i < nx))) (⟨⟨mkP (W4z (IntKind.i64.wrap wa)).v (W4z (IntKind.i64.wrap wb)).v (W4z (IntKind.i64.wrap (1 + wc / 2))).v, rfl, mkP_ok _ _ _⟩, ⟨p6, hp6, by simp (disch := first | omega | (simp; done) | (simp; omega)) [hrestr_in, hrestr_out, hrestr_all hd, hupd_same]⟩, by first | omega | (simp at *; omega)⟩)
    · try simp only [decide_eq_true_eq, decide_eq_false_iff_not] at h24
      refine AWP.seqk fun K13 hK13 => ?_
      refine AWP.seqk fun K14 hK14 => ?_
      refine AWP.region (AOPS.all (by simp (disch := first|omega|(simp only[ln];omega)) [idf_Wd']; rfl) ?_)
      refine hK14 _ ?_
      refine cond_ok _ (by simp (disch := first|omega|(simp only[ln];omega)); rfl) (fun h54 => ?_) (fun h54 => ?_)
      · try simp only [decide_eq_true_eq, decide_eq_false_iff_not] at h54
        refine AWP.skip ?_
        refine hK13 _ ?_
        refine cond_ok _ (by simp (disch := first|omega|(simp only[ln];omega)); rfl) (fun h54 => ?_) (fun h54 => ?_)
        · try simp only [decide_eq_true_eq, decide_eq_false_iff_not] at h54
          refine AWP.seqk fun K15 hK15 => ?_
          refine AWP.region ?_
          refine AOPS.runk 1 (by simp (disch := first|omega|(simp only[ln];omega)) [List.take_succ_cons, List.take_zero, idf_Wd']; rfl) ?_
          simp only [List.drop_succ_cons, List.drop_zero]
          refine AOPS.old fun hold1 => ?_
          refine AOPS.acall (near_ac (-40) (40) (by omega) (by omega) (by omega) l p2 id _ _ dl hl hp2 (by simp (disch := omega) [hH]) hold1) rfl rfl rfl hb97 (by simp (disch := first|omega|(simp only[ln];omega)) [idf_Wd']) (by simp (disch := first|omega|(simp only[ln];omega))) (by simp) ?_
          rintro _ _ nx3 ⟨⟨na, rfl, na0, na1⟩, ⟨p3, hp3, rfl⟩, hnx3⟩
          try simp only [] at hnx3
          clear hold1
          simp only [puts_some, updo]
          refine AOPS.fcall (wideOfS_fc na (by omega) (by omega)) rfl rfl rfl hb95 (by simp (disch := first|omega|(simp only[ln];omega)) [idf_Wd']) (by simp (disch := first|omega|(simp only[ln];omega))) (by simp) ?_
          simp only [puts_some, updo]
          refine AOPS.runk 1 (by simp (disch := first|omega|(simp only[ln];omega)) [List.take_succ_cons, List.take_zero, idf_Wd']; rfl) ?_
          simp only [List.drop_succ_cons, List.drop_zero]
          refine AOPS.old fun hold4 => ?_
          refine AOPS.acall (near_ac (-40) (40) (by omega) (by omega) (by omega) l p3 id _ _ dl hl hp3 (by simp (disch := omega) [hH]) hold4) rfl rfl rfl hb97 (by simp (disch := first|omega|(simp only[ln];omega)) [idf_Wd']) (by simp (disch := first|omega|(simp only[ln];omega))) (by simp) ?_
          rintro _ _ nx4 ⟨⟨nb, rfl, nb0, nb1⟩, ⟨p4, hp4, rfl⟩, hnx4⟩
          try simp only [] at hnx4
          clear hold4
          simp only [puts_some, updo]
          refine AOPS.fcall (wideOfS_fc nb (by omega) (by omega)) rfl rfl rfl hb95 (by simp (disch := first|omega|(simp only[ln];omega)) [idf_Wd']) (by simp (disch := first|omega|(simp only[ln];omega))) (by simp) ?_
          simp only [puts_some, updo]
          refine AOPS.runk 1 (by simp (disch := first|omega|(simp only[ln];omega)) [List.take_succ_cons, List.take_zero, idf_Wd']; rfl) ?_
          simp only [List.drop_succ_cons, List.drop_zero]
          refine AOPS.old fun hold7 => ?_
          refine AOPS.acall (near_ac (0) (9) (by omega) (by omega) (by omega) l p4 id _ _ dl hl hp4 (by simp (disch := omega) [hH]) hold7) rfl rfl rfl hb97 (by simp (disch := first|omega|(simp only[ln];omega)) [idf_Wd']) (by simp (disch := first|omega|(simp only[ln];omega))) (by simp) ?_
          rintro _ _ nx5 ⟨⟨nc, rfl, nc0, nc1⟩, ⟨p5, hp5, rfl⟩, hnx5⟩
          try simp only [] at hnx5
          clear hold7
          simp only [puts_some, updo]
          refine AOPS.runk 1 (by simp (disch := first|omega|(simp only[ln];omega)) [List.take_succ_cons, List.take_zero, idf_Wd']; rfl) ?_
          simp only [List.drop_succ_cons, List.drop_zero]
          refine AOPS.fcall (wideOfS_fc (1 + nc) (by omega) (by omega)) rfl rfl rfl hb95 (by simp (disch := first|omega|(simp only[ln];omega)) [idf_Wd']) (by simp (disch := first|omega|(simp only[ln];omega))) (by simp) ?_
          simp only [puts_some, updo]
          refine AOPS.fcall (pointMakeS_fc (W4z na) (W4z nb) (W4z (1 + nc)) (W4z_ok _) (W4z_ok _) (W4z_ok _)) rfl rfl rfl hb93 (by simp (disch := first|omega|(simp only[ln];omega)) [idf_Wd']) (by simp (disch := first|omega|(simp only[ln];omega))) (by simp) ?_
          simp only [puts_some, updo]
          refine AOPS.all (by simp (disch := first|omega|(simp only[ln];omega)) [idf_Wd']; rfl) ?_
          refine hK15 _ ?_
          refine AWP.seqk fun K16 hK16 => ?_
          refine AWP.region (AOPS.all (by simp (disch := first|omega|(simp only[ln];omega)) [idf_Wd']; rfl) ?_)
          refine hK16 _ ?_
          refine AWP.ret ?_
          exact hK _ _ _ _ _ trivial ((Fin.mk (r := .agg [.int .u64 (mkP (W4z na).v (W4z nb).v (W4z (1 + nc)).v).x.a, .int .u64 (mkP (W4z na).v (W4z nb).v (W4z (1 + nc)).v).x.b, .int .u64 (mkP (W4z na).v (W4z nb).v (W4z (1 + nc)).v).x.c, .int .u64 (mkP (W4z na).v (W4z nb).v (W4z (1 + nc)).v).x.d, .int .u64 (mkP (W4z na).v (W4z nb).v (W4z (1 + nc)).v).y.a, .int .u64 (mkP (W4z na).v (W4z nb).v (W4z (1 + nc)).v).y.b, .int .u64 (mkP (W4z na).v (W4z nb).v (W4z (1 + nc)).v).y.c, .int .u64 (mkP (W4z na).v (W4z nb).v (W4z (1 + nc)).v).y.d, .int .u64 (mkP (W4z na).v (W4z nb).v (W4z (1 + nc)).v).w.a, .int .u64 (mkP (W4z na).v (W4z nb).v (W4z (1 + nc)).v).w.b, .int .u64 (mkP (W4z na).v (W4z nb).v (W4z (1 + nc)).v).w.c, .int .u64 (mkP (W4z na).v (W4z nb).v (W4z (1 + nc)).v).w.d]) (by simp (disch := omega) [aRes, aResL, aRes1, idf_Wd'])).restr (fun i => decide (i < nx))) (⟨⟨mkP (W4z na).v (W4z nb).v (W4z (1 + nc)).v, rfl, mkP_ok _ _ _⟩, ⟨p5, hp5, by simp (disch := first | omega | (simp; done) | (simp; omega)) [hrestr_in, hrestr_out, hrestr_all hd, hupd_same]⟩, by first | omega | (simp at *; omega)⟩)
        · try simp only [decide_eq_true_eq, decide_eq_false_iff_not] at h54
          refine AWP.seqk fun K17 hK17 => ?_
          refine AWP.region (AOPS.all (by simp (disch := first|omega|(simp only[ln];omega)) [idf_Wd']; rfl) ?_)
          refine hK17 _ ?_
          refine cond_ok _ (by simp (disch := first|omega|(simp only[ln];omega)); rfl) (fun h73 => ?_) (fun h73 => ?_)
          · try simp only [decide_eq_true_eq, decide_eq_false_iff_not] at h73
            refine AWP.seqk fun K18 hK18 => ?_
            refine AWP.region ?_
            refine AOPS.runk 1 (by simp (disch := first|omega|(simp only[ln];omega)) [List.take_succ_cons, List.take_zero, idf_Wd']; rfl) ?_
            simp only [List.drop_succ_cons, List.drop_zero]
            refine AOPS.old fun hold1 => ?_
            refine AOPS.acall (near_ac (-1000000) (1000000) (by omega) (by omega) (by omega) l p2 id _ _ dl hl hp2 (by simp (disch := omega) [hH]) hold1) rfl rfl rfl hb97 (by simp (disch := first|omega|(simp only[ln];omega)) [idf_Wd']) (by simp (disch := first|omega|(simp only[ln];omega))) (by simp) ?_
            rintro _ _ nx3 ⟨⟨na, rfl, na0, na1⟩, ⟨p3, hp3, rfl⟩, hnx3⟩
            try simp only [] at hnx3
            clear hold1
            simp only [puts_some, updo]
            refine AOPS.runk 1 (by simp (disch := first|omega|(simp only[ln];omega)) [List.take_succ_cons, List.take_zero, idf_Wd']; rfl) ?_
            simp only [List.drop_succ_cons, List.drop_zero]
            refine AOPS.old fun hold3 => ?_
            refine AOPS.acall (near_ac (-1000000) (1000000) (by omega) (by omega) (by omega) l p3 id _ _ dl hl hp3 (by simp (disch := omega) [hH]) hold3) rfl rfl rfl hb97 (by simp (disch := first|omega|(simp only[ln];omega)) [idf_Wd']) (by simp (disch := first|omega|(simp only[ln];omega))) (by simp) ?_
            rintro _ _ nx4 ⟨⟨nb, rfl, nb0, nb1⟩, ⟨p4, hp4, rfl⟩, hnx4⟩
            try simp only [] at hnx4
            clear hold3
            simp only [puts_some, updo]
            refine AOPS.runk 1 (by simp (disch := first|omega|(simp only[ln];omega)) [List.take_succ_cons, List.take_zero, idf_Wd']; rfl) ?_
            simp only [List.drop_succ_cons, List.drop_zero]
            refine AOPS.fcall (pointOfS_fc na nb (by omega) (by omega) (by omega) (by omega)) rfl rfl rfl hb98 (by simp (disch := first|omega|(simp only[ln];omega)) [idf_Wd']) (by simp (disch := first|omega|(simp only[ln];omega))) (by simp) ?_
            simp only [puts_some, updo]
            refine AOPS.all (by simp (disch := first|omega|(simp only[ln];omega)) [idf_Wd']; rfl) ?_
            refine hK18 _ ?_
            refine AWP.ret ?_
            exact hK _ _ _ _ _ trivial ((Fin.mk (r := .agg [.int .u64 (pt3 na nb 1).x.a, .int .u64 (pt3 na nb 1).x.b, .int .u64 (pt3 na nb 1).x.c, .int .u64 (pt3 na nb 1).x.d, .int .u64 (pt3 na nb 1).y.a, .int .u64 (pt3 na nb 1).y.b, .int .u64 (pt3 na nb 1).y.c, .int .u64 (pt3 na nb 1).y.d, .int .u64 (pt3 na nb 1).w.a, .int .u64 (pt3 na nb 1).w.b, .int .u64 (pt3 na nb 1).w.c, .int .u64 (pt3 na nb 1).w.d]) (by simp (disch := omega) [aRes, aResL, aRes1, idf_Wd'])).restr (fun i => decide (i < nx))) (⟨⟨pt3 na nb 1, rfl, pt3_ok _ _ _⟩, ⟨p4, hp4, by simp (disch := first | omega | (simp; done) | (simp; omega)) [hrestr_in, hrestr_out, hrestr_all hd, hupd_same]⟩, by first | omega | (simp at *; omega)⟩)
          · try simp only [decide_eq_true_eq, decide_eq_false_iff_not] at h73
            refine AWP.skip ?_
            refine hK2 _ ?_
            refine AWP.seqk fun K19 hK19 => ?_
            refine AWP.region ?_
            refine AOPS.runk 1 (by simp (disch := first|omega|(simp only[ln];omega)) [List.take_succ_cons, List.take_zero, idf_Wd']; rfl) ?_
            simp only [List.drop_succ_cons, List.drop_zero]
            refine AOPS.old fun hold1 => ?_
            refine AOPS.acall (spot_ac l p2 id _ _ dl hl hp2 (by simp (disch := omega) [hH]) hold1) rfl rfl rfl hb99 (by simp (disch := first|omega|(simp only[ln];omega)) [idf_Wd']) (by simp (disch := first|omega|(simp only[ln];omega))) (by simp) ?_
            rintro _ _ nx3 ⟨⟨na, nb, rfl, na0, na1, nb0, nb1⟩, ⟨p3, hp3, rfl⟩, hnx3⟩
            try simp only [] at hnx3
            clear hold1
            simp only [puts_some, updo]
            refine AOPS.fcall (pointOfS_fc na nb (by omega) (by omega) (by omega) (by omega)) rfl rfl rfl hb98 (by simp (disch := first|omega|(simp only[ln];omega)) [idf_Wd']) (by simp (disch := first|omega|(simp only[ln];omega))) (by simp) ?_
            simp only [puts_some, updo]
            refine AOPS.all (by simp (disch := first|omega|(simp only[ln];omega)) [idf_Wd']; rfl) ?_
            refine hK19 _ ?_
            refine AWP.ret ?_
            exact hK _ _ _ _ _ trivial ((Fin.mk (r := .agg [.int .u64 (pt3 na nb 1).x.a, .int .u64 (pt3 na nb 1).x.b, .int .u64 (pt3 na nb 1).x.c, .int .u64 (pt3 na nb 1).x.d, .int .u64 (pt3 na nb 1).y.a, .int .u64 (pt3 na nb 1).y.b, .int .u64 (pt3 na nb 1).y.c, .int .u64 (pt3 na nb 1).y.d, .int .u64 (pt3 na nb 1).w.a, .int .u64 (pt3 na nb 1).w.b, .int .u64 (pt3 na nb 1).w.c, .int .u64 (pt3 na nb 1).w.d]) (by simp (disch := omega) [aRes, aResL, aRes1, idf_Wd'])).restr (fun i => decide (i < nx))) (⟨⟨pt3 na nb 1, rfl, pt3_ok _ _ _⟩, ⟨p3, hp3, by simp (disch := first | omega | (simp; done) | (simp; omega)) [hrestr_in, hrestr_out, hrestr_all hd, hupd_same]⟩, by first | omega | (simp at *; omega)⟩)
      · try simp only [decide_eq_true_eq, decide_eq_false_iff_not] at h54
        refine AWP.seqk fun K20 hK20 => ?_
        refine AWP.region (AOPS.all (by simp (disch := first|omega|(simp only[ln];omega)) [idf_Wd']; rfl) ?_)
        refine hK20 _ ?_
        refine cond_ok _ (by simp (disch := first|omega|(simp only[ln];omega)); rfl) (fun h54 => ?_) (fun h54 => ?_)
        · try simp only [decide_eq_true_eq, decide_eq_false_iff_not] at h54
          refine AWP.skip ?_
          refine hK13 _ ?_
          refine cond_ok _ (by simp (disch := first|omega|(simp only[ln];omega)); rfl) (fun h54 => ?_) (fun h54 => ?_)
          · try simp only [decide_eq_true_eq, decide_eq_false_iff_not] at h54
            refine AWP.seqk fun K21 hK21 => ?_
            refine AWP.region ?_
            refine AOPS.runk 1 (by simp (disch := first|omega|(simp only[ln];omega)) [List.take_succ_cons, List.take_zero, idf_Wd']; rfl) ?_
            simp only [List.drop_succ_cons, List.drop_zero]
            refine AOPS.old fun hold1 => ?_
            refine AOPS.acall (near_ac (-40) (40) (by omega) (by omega) (by omega) l p2 id _ _ dl hl hp2 (by simp (disch := omega) [hH]) hold1) rfl rfl rfl hb97 (by simp (disch := first|omega|(simp only[ln];omega)) [idf_Wd']) (by simp (disch := first|omega|(simp only[ln];omega))) (by simp) ?_
            rintro _ _ nx3 ⟨⟨na, rfl, na0, na1⟩, ⟨p3, hp3, rfl⟩, hnx3⟩
            try simp only [] at hnx3
            clear hold1
            simp only [puts_some, updo]
            refine AOPS.fcall (wideOfS_fc na (by omega) (by omega)) rfl rfl rfl hb95 (by simp (disch := first|omega|(simp only[ln];omega)) [idf_Wd']) (by simp (disch := first|omega|(simp only[ln];omega))) (by simp) ?_
            simp only [puts_some, updo]
            refine AOPS.runk 1 (by simp (disch := first|omega|(simp only[ln];omega)) [List.take_succ_cons, List.take_zero, idf_Wd']; rfl) ?_
            simp only [List.drop_succ_cons, List.drop_zero]
            refine AOPS.old fun hold4 => ?_
            refine AOPS.acall (near_ac (-40) (40) (by omega) (by omega) (by omega) l p3 id _ _ dl hl hp3 (by simp (disch := omega) [hH]) hold4) rfl rfl rfl hb97 (by simp (disch := first|omega|(simp only[ln];omega)) [idf_Wd']) (by simp (disch := first|omega|(simp only[ln];omega))) (by simp) ?_
            rintro _ _ nx4 ⟨⟨nb, rfl, nb0, nb1⟩, ⟨p4, hp4, rfl⟩, hnx4⟩
            try simp only [] at hnx4
            clear hold4
            simp only [puts_some, updo]
            refine AOPS.fcall (wideOfS_fc nb (by omega) (by omega)) rfl rfl rfl hb95 (by simp (disch := first|omega|(simp only[ln];omega)) [idf_Wd']) (by simp (disch := first|omega|(simp only[ln];omega))) (by simp) ?_
            simp only [puts_some, updo]
            refine AOPS.runk 1 (by simp (disch := first|omega|(simp only[ln];omega)) [List.take_succ_cons, List.take_zero, idf_Wd']; rfl) ?_
            simp only [List.drop_succ_cons, List.drop_zero]
            refine AOPS.old fun hold7 => ?_
            refine AOPS.acall (near_ac (0) (9) (by omega) (by omega) (by omega) l p4 id _ _ dl hl hp4 (by simp (disch := omega) [hH]) hold7) rfl rfl rfl hb97 (by simp (disch := first|omega|(simp only[ln];omega)) [idf_Wd']) (by simp (disch := first|omega|(simp only[ln];omega))) (by simp) ?_
            rintro _ _ nx5 ⟨⟨nc, rfl, nc0, nc1⟩, ⟨p5, hp5, rfl⟩, hnx5⟩
            try simp only [] at hnx5
            clear hold7
            simp only [puts_some, updo]
            refine AOPS.runk 1 (by simp (disch := first|omega|(simp only[ln];omega)) [List.take_succ_cons, List.take_zero, idf_Wd']; rfl) ?_
            simp only [List.drop_succ_cons, List.drop_zero]
            refine AOPS.fcall (wideOfS_fc (1 + nc) (by omega) (by omega)) rfl rfl rfl hb95 (by simp (disch := first|omega|(simp only[ln];omega)) [idf_Wd']) (by simp (disch := first|omega|(simp only[ln];omega))) (by simp) ?_
            simp only [puts_some, updo]
            refine AOPS.fcall (pointMakeS_fc (W4z na) (W4z nb) (W4z (1 + nc)) (W4z_ok _) (W4z_ok _) (W4z_ok _)) rfl rfl rfl hb93 (by simp (disch := first|omega|(simp only[ln];omega)) [idf_Wd']) (by simp (disch := first|omega|(simp only[ln];omega))) (by simp) ?_
            simp only [puts_some, updo]
            refine AOPS.all (by simp (disch := first|omega|(simp only[ln];omega)) [idf_Wd']; rfl) ?_
            refine hK21 _ ?_
            refine AWP.seqk fun K22 hK22 => ?_
            refine AWP.region (AOPS.all (by simp (disch := first|omega|(simp only[ln];omega)) [idf_Wd']; rfl) ?_)
            refine hK22 _ ?_
            refine AWP.ret ?_
            exact hK _ _ _ _ _ trivial ((Fin.mk (r := .agg [.int .u64 (mkP (W4z na).v (W4z nb).v (W4z (1 + nc)).v).x.a, .int .u64 (mkP (W4z na).v (W4z nb).v (W4z (1 + nc)).v).x.b, .int .u64 (mkP (W4z na).v (W4z nb).v (W4z (1 + nc)).v).x.c, .int .u64 (mkP (W4z na).v (W4z nb).v (W4z (1 + nc)).v).x.d, .int .u64 (mkP (W4z na).v (W4z nb).v (W4z (1 + nc)).v).y.a, .int .u64 (mkP (W4z na).v (W4z nb).v (W4z (1 + nc)).v).y.b, .int .u64 (mkP (W4z na).v (W4z nb).v (W4z (1 + nc)).v).y.c, .int .u64 (mkP (W4z na).v (W4z nb).v (W4z (1 + nc)).v).y.d, .int .u64 (mkP (W4z na).v (W4z nb).v (W4z (1 + nc)).v).w.a, .int .u64 (mkP (W4z na).v (W4z nb).v (W4z (1 + nc)).v).w.b, .int .u64 (mkP (W4z na).v (W4z nb).v (W4z (1 + nc)).v).w.c, .int .u64 (mkP (W4z na).v (W4z nb).v (W4z (1 + nc)).v).w.d]) (by simp (disch := omega) [aRes, aResL, aRes1, idf_Wd'])).restr (fun i => decide (i < nx))) (⟨⟨mkP (W4z na).v (W4z nb).v (W4z (1 + nc)).v, rfl, mkP_ok _ _ _⟩, ⟨p5, hp5, by simp (disch := first | omega | (simp; done) | (simp; omega)) [hrestr_in, hrestr_out, hrestr_all hd, hupd_same]⟩, by first | omega | (simp at *; omega)⟩)
          · try simp only [decide_eq_true_eq, decide_eq_false_iff_not] at h54
            refine AWP.seqk fun K23 hK23 => ?_
            refine AWP.region (AOPS.all (by simp (disch := first|omega|(simp only[ln];omega)) [idf_Wd']; rfl) ?_)
            refine hK23 _ ?_
            refine cond_ok _ (by simp (disch := first|omega|(simp only[ln];omega)); rfl) (fun h73 => ?_) (fun h73 => ?_)
            · try simp only [decide_eq_true_eq, decide_eq_false_iff_not] at h73
              refine AWP.seqk fun K24 hK24 => ?_
              refine AWP.region ?_
              refine AOPS.runk 1 (by simp (disch := first|omega|(simp only[ln];omega)) [List.take_succ_cons, List.take_zero, idf_Wd']; rfl) ?_
              simp only [List.drop_succ_cons, List.drop_zero]
              refine AOPS.old fun hold1 => ?_
              refine AOPS.acall (near_ac (-1000000) (1000000) (by omega) (by omega) (by omega) l p2 id _ _ dl hl hp2 (by simp (disch := omega) [hH]) hold1) rfl rfl rfl hb97 (by simp (disch := first|omega|(simp only[ln];omega)) [idf_Wd']) (by simp (disch := first|omega|(simp only[ln];omega))) (by simp) ?_
              rintro _ _ nx3 ⟨⟨na, rfl, na0, na1⟩, ⟨p3, hp3, rfl⟩, hnx3⟩
              try simp only [] at hnx3
              clear hold1
              simp only [puts_some, updo]
              refine AOPS.runk 1 (by simp (disch := first|omega|(simp only[ln];omega)) [List.take_succ_cons, List.take_zero, idf_Wd']; rfl) ?_
              simp only [List.drop_succ_cons, List.drop_zero]
              refine AOPS.old fun hold3 => ?_
              refine AOPS.acall (near_ac (-1000000) (1000000) (by omega) (by omega) (by omega) l p3 id _ _ dl hl hp3 (by simp (disch := omega) [hH]) hold3) rfl rfl rfl hb97 (by simp (disch := first|omega|(simp only[ln];omega)) [idf_Wd']) (by simp (disch := first|omega|(simp only[ln];omega))) (by simp) ?_
              rintro _ _ nx4 ⟨⟨nb, rfl, nb0, nb1⟩, ⟨p4, hp4, rfl⟩, hnx4⟩
              try simp only [] at hnx4
              clear hold3
              simp only [puts_some, updo]
              refine AOPS.runk 1 (by simp (disch := first|omega|(simp only[ln];omega)) [List.take_succ_cons, List.take_zero, idf_Wd']; rfl) ?_
              simp only [List.drop_succ_cons, List.drop_zero]
              refine AOPS.fcall (pointOfS_fc na nb (by omega) (by omega) (by omega) (by omega)) rfl rfl rfl hb98 (by simp (disch := first|omega|(simp only[ln];omega)) [idf_Wd']) (by simp (disch := first|omega|(simp only[ln];omega))) (by simp) ?_
              simp only [puts_some, updo]
              refine AOPS.all (by simp (disch := first|omega|(simp only[ln];omega)) [idf_Wd']; rfl) ?_
              refine hK24 _ ?_
              refine AWP.ret ?_
              exact hK _ _ _ _ _ trivial ((Fin.mk (r := .agg [.int .u64 (pt3 na nb 1).x.a, .int .u64 (pt3 na nb 1).x.b, .int .u64 (pt3 na nb 1).x.c, .int .u64 (pt3 na nb 1).x.d, .int .u64 (pt3 na nb 1).y.a, .int .u64 (pt3 na nb 1).y.b, .int .u64 (pt3 na nb 1).y.c, .int .u64 (pt3 na nb 1).y.d, .int .u64 (pt3 na nb 1).w.a, .int .u64 (pt3 na nb 1).w.b, .int .u64 (pt3 na nb 1).w.c, .int .u64 (pt3 na nb 1).w.d]) (by simp (disch := omega) [aRes, aResL, aRes1, idf_Wd'])).restr (fun i => decide (i < nx))) (⟨⟨pt3 na nb 1, rfl, pt3_ok _ _ _⟩, ⟨p4, hp4, by simp (disch := first | omega | (simp; done) | (simp; omega)) [hrestr_in, hrestr_out, hrestr_all hd, hupd_same]⟩, by first | omega | (simp at *; omega)⟩)
            · try simp only [decide_eq_true_eq, decide_eq_false_iff_not] at h73
              refine AWP.skip ?_
              refine hK2 _ ?_
              refine AWP.seqk fun K25 hK25 => ?_
              refine AWP.region ?_
              refine AOPS.runk 1 (by simp (disch := first|omega|(simp only[ln];omega)) [List.take_succ_cons, List.take_zero, idf_Wd']; rfl) ?_
              simp only [List.drop_succ_cons, List.drop_zero]
              refine AOPS.old fun hold1 => ?_
              refine AOPS.acall (spot_ac l p2 id _ _ dl hl hp2 (by simp (disch := omega) [hH]) hold1) rfl rfl rfl hb99 (by simp (disch := first|omega|(simp only[ln];omega)) [idf_Wd']) (by simp (disch := first|omega|(simp only[ln];omega))) (by simp) ?_
              rintro _ _ nx3 ⟨⟨na, nb, rfl, na0, na1, nb0, nb1⟩, ⟨p3, hp3, rfl⟩, hnx3⟩
              try simp only [] at hnx3
              clear hold1
              simp only [puts_some, updo]
              refine AOPS.fcall (pointOfS_fc na nb (by omega) (by omega) (by omega) (by omega)) rfl rfl rfl hb98 (by simp (disch := first|omega|(simp only[ln];omega)) [idf_Wd']) (by simp (disch := first|omega|(simp only[ln];omega))) (by simp) ?_
              simp only [puts_some, updo]
              refine AOPS.all (by simp (disch := first|omega|(simp only[ln];omega)) [idf_Wd']; rfl) ?_
              refine hK25 _ ?_
              refine AWP.ret ?_
              exact hK _ _ _ _ _ trivial ((Fin.mk (r := .agg [.int .u64 (pt3 na nb 1).x.a, .int .u64 (pt3 na nb 1).x.b, .int .u64 (pt3 na nb 1).x.c, .int .u64 (pt3 na nb 1).x.d, .int .u64 (pt3 na nb 1).y.a, .int .u64 (pt3 na nb 1).y.b, .int .u64 (pt3 na nb 1).y.c, .int .u64 (pt3 na nb 1).y.d, .int .u64 (pt3 na nb 1).w.a, .int .u64 (pt3 na nb 1).w.b, .int .u64 (pt3 na nb 1).w.c, .int .u64 (pt3 na nb 1).w.d]) (by simp (disch := omega) [aRes, aResL, aRes1, idf_Wd'])).restr (fun i => decide (i < nx))) (⟨⟨pt3 na nb 1, rfl, pt3_ok _ _ _⟩, ⟨p3, hp3, by simp (disch := first | omega | (simp; done) | (simp; omega)) [hrestr_in, hrestr_out, hrestr_all hd, hupd_same]⟩, by first | omega | (simp at *; omega)⟩)
        · try simp only [decide_eq_true_eq, decide_eq_false_iff_not] at h54
          refine AWP.region (AOPS.all (by simp (disch := first|omega|(simp only[ln];omega)) [idf_Wd']; rfl) ?_)
          refine hK13 _ ?_
          refine cond_ok _ (by simp (disch := first|omega|(simp only[ln];omega)); rfl) (fun h54 => ?_) (fun h54 => ?_)
          · try simp only [decide_eq_true_eq, decide_eq_false_iff_not] at h54
            refine AWP.seqk fun K26 hK26 => ?_
            refine AWP.region ?_
            refine AOPS.runk 1 (by simp (disch := first|omega|(simp only[ln];omega)) [List.take_succ_cons, List.take_zero, idf_Wd']; rfl) ?_
            simp only [List.drop_succ_cons, List.drop_zero]
            refine AOPS.old fun hold1 => ?_
            refine AOPS.acall (near_ac (-40) (40) (by omega) (by omega) (by omega) l p2 id _ _ dl hl hp2 (by simp (disch := omega) [hH]) hold1) rfl rfl rfl hb97 (by simp (disch := first|omega|(simp only[ln];omega)) [idf_Wd']) (by simp (disch := first|omega|(simp only[ln];omega))) (by simp) ?_
            rintro _ _ nx3 ⟨⟨na, rfl, na0, na1⟩, ⟨p3, hp3, rfl⟩, hnx3⟩
            try simp only [] at hnx3
            clear hold1
            simp only [puts_some, updo]
            refine AOPS.fcall (wideOfS_fc na (by omega) (by omega)) rfl rfl rfl hb95 (by simp (disch := first|omega|(simp only[ln];omega)) [idf_Wd']) (by simp (disch := first|omega|(simp only[ln];omega))) (by simp) ?_
            simp only [puts_some, updo]
            refine AOPS.runk 1 (by simp (disch := first|omega|(simp only[ln];omega)) [List.take_succ_cons, List.take_zero, idf_Wd']; rfl) ?_
            simp only [List.drop_succ_cons, List.drop_zero]
            refine AOPS.old fun hold4 => ?_
            refine AOPS.acall (near_ac (-40) (40) (by omega) (by omega) (by omega) l p3 id _ _ dl hl hp3 (by simp (disch := omega) [hH]) hold4) rfl rfl rfl hb97 (by simp (disch := first|omega|(simp only[ln];omega)) [idf_Wd']) (by simp (disch := first|omega|(simp only[ln];omega))) (by simp) ?_
            rintro _ _ nx4 ⟨⟨nb, rfl, nb0, nb1⟩, ⟨p4, hp4, rfl⟩, hnx4⟩
            try simp only [] at hnx4
            clear hold4
            simp only [puts_some, updo]
            refine AOPS.fcall (wideOfS_fc nb (by omega) (by omega)) rfl rfl rfl hb95 (by simp (disch := first|omega|(simp only[ln];omega)) [idf_Wd']) (by simp (disch := first|omega|(simp only[ln];omega))) (by simp) ?_
            simp only [puts_some, updo]
            refine AOPS.runk 1 (by simp (disch := first|omega|(simp only[ln];omega)) [List.take_succ_cons, List.take_zero, idf_Wd']; rfl) ?_
            simp only [List.drop_succ_cons, List.drop_zero]
            refine AOPS.old fun hold7 => ?_
            refine AOPS.acall (near_ac (0) (9) (by omega) (by omega) (by omega) l p4 id _ _ dl hl hp4 (by simp (disch := omega) [hH]) hold7) rfl rfl rfl hb97 (by simp (disch := first|omega|(simp only[ln];omega)) [idf_Wd']) (by simp (disch := first|omega|(simp only[ln];omega))) (by simp) ?_
            rintro _ _ nx5 ⟨⟨nc, rfl, nc0, nc1⟩, ⟨p5, hp5, rfl⟩, hnx5⟩
            try simp only [] at hnx5
            clear hold7
            simp only [puts_some, updo]
            refine AOPS.runk 1 (by simp (disch := first|omega|(simp only[ln];omega)) [List.take_succ_cons, List.take_zero, idf_Wd']; rfl) ?_
            simp only [List.drop_succ_cons, List.drop_zero]
            refine AOPS.fcall (wideOfS_fc (1 + nc) (by omega) (by omega)) rfl rfl rfl hb95 (by simp (disch := first|omega|(simp only[ln];omega)) [idf_Wd']) (by simp (disch := first|omega|(simp only[ln];omega))) (by simp) ?_
            simp only [puts_some, updo]
            refine AOPS.fcall (pointMakeS_fc (W4z na) (W4z nb) (W4z (1 + nc)) (W4z_ok _) (W4z_ok _) (W4z_ok _)) rfl rfl rfl hb93 (by simp (disch := first|omega|(simp only[ln];omega)) [idf_Wd']) (by simp (disch := first|omega|(simp only[ln];omega))) (by simp) ?_
            simp only [puts_some, updo]
            refine AOPS.all (by simp (disch := first|omega|(simp only[ln];omega)) [idf_Wd']; rfl) ?_
            refine hK26 _ ?_
            refine AWP.seqk fun K27 hK27 => ?_
            refine AWP.region (AOPS.all (by simp (disch := first|omega|(simp only[ln];omega)) [idf_Wd']; rfl) ?_)
            refine hK27 _ ?_
            refine AWP.ret ?_
            exact hK _ _ _ _ _ trivial ((Fin.mk (r := .agg [.int .u64 (mkP (W4z na).v (W4z nb).v (W4z (1 + nc)).v).x.a, .int .u64 (mkP (W4z na).v (W4z nb).v (W4z (1 + nc)).v).x.b, .int .u64 (mkP (W4z na).v (W4z nb).v (W4z (1 + nc)).v).x.c, .int .u64 (mkP (W4z na).v (W4z nb).v (W4z (1 + nc)).v).x.d, .int .u64 (mkP (W4z na).v (W4z nb).v (W4z (1 + nc)).v).y.a, .int .u64 (mkP (W4z na).v (W4z nb).v (W4z (1 + nc)).v).y.b, .int .u64 (mkP (W4z na).v (W4z nb).v (W4z (1 + nc)).v).y.c, .int .u64 (mkP (W4z na).v (W4z nb).v (W4z (1 + nc)).v).y.d, .int .u64 (mkP (W4z na).v (W4z nb).v (W4z (1 + nc)).v).w.a, .int .u64 (mkP (W4z na).v (W4z nb).v (W4z (1 + nc)).v).w.b, .int .u64 (mkP (W4z na).v (W4z nb).v (W4z (1 + nc)).v).w.c, .int .u64 (mkP (W4z na).v (W4z nb).v (W4z (1 + nc)).v).w.d]) (by simp (disch := omega) [aRes, aResL, aRes1, idf_Wd'])).restr (fun i => decide (i < nx))) (⟨⟨mkP (W4z na).v (W4z nb).v (W4z (1 + nc)).v, rfl, mkP_ok _ _ _⟩, ⟨p5, hp5, by simp (disch := first | omega | (simp; done) | (simp; omega)) [hrestr_in, hrestr_out, hrestr_all hd, hupd_same]⟩, by first | omega | (simp at *; omega)⟩)
          · try simp only [decide_eq_true_eq, decide_eq_false_iff_not] at h54
            refine AWP.seqk fun K28 hK28 => ?_
            refine AWP.region (AOPS.all (by simp (disch := first|omega|(simp only[ln];omega)) [idf_Wd']; rfl) ?_)
            refine hK28 _ ?_
            refine cond_ok _ (by simp (disch := first|omega|(simp only[ln];omega)); rfl) (fun h73 => ?_) (fun h73 => ?_)
            · try simp only [decide_eq_true_eq, decide_eq_false_iff_not] at h73
              refine AWP.seqk fun K29 hK29 => ?_
              refine AWP.region ?_
              refine AOPS.runk 1 (by simp (disch := first|omega|(simp only[ln];omega)) [List.take_succ_cons, List.take_zero, idf_Wd']; rfl) ?_
              simp only [List.drop_succ_cons, List.drop_zero]
              refine AOPS.old fun hold1 => ?_
              refine AOPS.acall (near_ac (-1000000) (1000000) (by omega) (by omega) (by omega) l p2 id _ _ dl hl hp2 (by simp (disch := omega) [hH]) hold1) rfl rfl rfl hb97 (by simp (disch := first|omega|(simp only[ln];omega)) [idf_Wd']) (by simp (disch := first|omega|(simp only[ln];omega))) (by simp) ?_
              rintro _ _ nx3 ⟨⟨na, rfl, na0, na1⟩, ⟨p3, hp3, rfl⟩, hnx3⟩
              try simp only [] at hnx3
              clear hold1
              simp only [puts_some, updo]
              refine AOPS.runk 1 (by simp (disch := first|omega|(simp only[ln];omega)) [List.take_succ_cons, List.take_zero, idf_Wd']; rfl) ?_
              simp only [List.drop_succ_cons, List.drop_zero]
              refine AOPS.old fun hold3 => ?_
              refine AOPS.acall (near_ac (-1000000) (1000000) (by omega) (by omega) (by omega) l p3 id _ _ dl hl hp3 (by simp (disch := omega) [hH]) hold3) rfl rfl rfl hb97 (by simp (disch := first|omega|(simp only[ln];omega)) [idf_Wd']) (by simp (disch := first|omega|(simp only[ln];omega))) (by simp) ?_
              rintro _ _ nx4 ⟨⟨nb, rfl, nb0, nb1⟩, ⟨p4, hp4, rfl⟩, hnx4⟩
              try simp only [] at hnx4
              clear hold3
              simp only [puts_some, updo]
              refine AOPS.runk 1 (by simp (disch := first|omega|(simp only[ln];omega)) [List.take_succ_cons, List.take_zero, idf_Wd']; rfl) ?_
              simp only [List.drop_succ_cons, List.drop_zero]
              refine AOPS.fcall (pointOfS_fc na nb (by omega) (by omega) (by omega) (by omega)) rfl rfl rfl hb98 (by simp (disch := first|omega|(simp only[ln];omega)) [idf_Wd']) (by simp (disch := first|omega|(simp only[ln];omega))) (by simp) ?_
              simp only [puts_some, updo]
              refine AOPS.all (by simp (disch := first|omega|(simp only[ln];omega)) [idf_Wd']; rfl) ?_
              refine hK29 _ ?_
              refine AWP.ret ?_
              exact hK _ _ _ _ _ trivial ((Fin.mk (r := .agg [.int .u64 (pt3 na nb 1).x.a, .int .u64 (pt3 na nb 1).x.b, .int .u64 (pt3 na nb 1).x.c, .int .u64 (pt3 na nb 1).x.d, .int .u64 (pt3 na nb 1).y.a, .int .u64 (pt3 na nb 1).y.b, .int .u64 (pt3 na nb 1).y.c, .int .u64 (pt3 na nb 1).y.d, .int .u64 (pt3 na nb 1).w.a, .int .u64 (pt3 na nb 1).w.b, .int .u64 (pt3 na nb 1).w.c, .int .u64 (pt3 na nb 1).w.d]) (by simp (disch := omega) [aRes, aResL, aRes1, idf_Wd'])).restr (fun i => decide (i < nx))) (⟨⟨pt3 na nb 1, rfl, pt3_ok _ _ _⟩, ⟨p4, hp4, by simp (disch := first | omega | (simp; done) | (simp; omega)) [hrestr_in, hrestr_out, hrestr_all hd, hupd_same]⟩, by first | omega | (simp at *; omega)⟩)
            · try simp only [decide_eq_true_eq, decide_eq_false_iff_not] at h73
              refine AWP.skip ?_
              refine hK2 _ ?_
              refine AWP.seqk fun K30 hK30 => ?_
              refine AWP.region ?_
              refine AOPS.runk 1 (by simp (disch := first|omega|(simp only[ln];omega)) [List.take_succ_cons, List.take_zero, idf_Wd']; rfl) ?_
              simp only [List.drop_succ_cons, List.drop_zero]
              refine AOPS.old fun hold1 => ?_
              refine AOPS.acall (spot_ac l p2 id _ _ dl hl hp2 (by simp (disch := omega) [hH]) hold1) rfl rfl rfl hb99 (by simp (disch := first|omega|(simp only[ln];omega)) [idf_Wd']) (by simp (disch := first|omega|(simp only[ln];omega))) (by simp) ?_
              rintro _ _ nx3 ⟨⟨na, nb, rfl, na0, na1, nb0, nb1⟩, ⟨p3, hp3, rfl⟩, hnx3⟩
              try simp only [] at hnx3
              clear hold1
              simp only [puts_some, updo]
              refine AOPS.fcall (pointOfS_fc na nb (by omega) (by omega) (by omega) (by omega)) rfl rfl rfl hb98 (by simp (disch := first|omega|(simp only[ln];omega)) [idf_Wd']) (by simp (disch := first|omega|(simp only[ln];omega))) (by simp) ?_
              simp only [puts_some, updo]
              refine AOPS.all (by simp (disch := first|omega|(simp only[ln];omega)) [idf_Wd']; rfl) ?_
              refine hK30 _ ?_
              refine AWP.ret ?_
              exact hK _ _ _ _ _ trivial ((Fin.mk (r := .agg [.int .u64 (pt3 na nb 1).x.a, .int .u64 (pt3 na nb 1).x.b, .int .u64 (pt3 na nb 1).x.c, .int .u64 (pt3 na nb 1).x.d, .int .u64 (pt3 na nb 1).y.a, .int .u64 (pt3 na nb 1).y.b, .int .u64 (pt3 na nb 1).y.c, .int .u64 (pt3 na nb 1).y.d, .int .u64 (pt3 na nb 1).w.a, .int .u64 (pt3 na nb 1).w.b, .int .u64 (pt3 na nb 1).w.c, .int .u64 (pt3 na nb 1).w.d]) (by simp (disch := omega) [aRes, aResL, aRes1, idf_Wd'])).restr (fun i => decide (i < nx))) (⟨⟨pt3 na nb 1, rfl, pt3_ok _ _ _⟩, ⟨p3, hp3, by simp (disch := first | omega | (simp; done) | (simp; omega)) [hrestr_in, hrestr_out, hrestr_all hd, hupd_same]⟩, by first | omega | (simp at *; omega)⟩)

theorem open_ac (l : List Int) (H : Heap) (nx : Nat) : ACall Try.prog 44 [Wd .u8 l] H nx (fun r H' nx' => r = .ptr nx 0 0 ∧ H' = hupd H nx (some (2, [[Wd .u8 l, .int .i64 0]])) ∧ nx' = nx + 1) := by
  refine ACall.body Try.func44 rfl 6 rfl fun K hK => ?_
  refine AWP.seqk fun K1 hK1 => ?_
  refine AWP.region (AOPS.all (by simp (disch := first|omega|(simp only[ln];omega)) [idf_Wd']; rfl) ?_)
  refine hK1 _ ?_
  refine AWP.seqk fun K2 hK2 => ?_
  refine AWP.region (AOPS.all (by simp (disch := first|omega|(simp only[ln];omega)) [idf_Wd']; rfl) ?_)
  refine hK2 _ ?_
  refine AWP.ret ?_
  exact hK _ _ _ _ _ trivial (Fin.mk (r := .ptr nx 0 0) (by simp [aRes, aResL, aRes1, idf_Wd'])) (⟨rfl, by simp, by simp⟩)

end Go.Proofs.Ytdcggmbnjonemaa
