/- Walks: FnPointOrder, walked: the law. -/
import Derived.Test.YtmaebeknmiomnaaG0Z

namespace Go.Proofs.Ytmaebeknmiomnaa
open Go Go.RowKit
set_option linter.unusedSimpArgs false
set_option linter.unusedVariables false
set_option maxRecDepth 100000
attribute [local simp] List.getElem?_cons_zero List.getElem?_cons_succ List.getElem?_toArray runOps stepOp.eq_def agd.eq_def dstOk.eq_def opVal.eq_def opNew.eq_def opSto.eq_def ev.eq_def cv.eq_def puts_some puts_none upd_ap lst.eq_def aBin.eq_def aUn.eq_def aBi_str aBi_isl aBi_osl aBi_nsl aBi_max aBi_min aBi_max3 aConv.eq_def aLd.eq_def aLoad.eq_def aField.eq_def aFld.eq_def aIdx_isl aIdx_osl aSlc_isl aSlc_osl aSlc_str aSlc_nsl bnd.eq_def evs_nil evs_cons aBuild.eq_def aFill splice.eq_def cells_agg cells_int cells_bool cells_str cells_nil cells_nsl cells_isl cells_osl cells_ptr cells_ip cells_fn cells_Wd one_int one_bool one_str one_nil one_nsl one_isl one_osl one_ptr one_ip one_fn one_Wd aSets hupd_eq hupd_ne wrap_i64s wrap_u64s wrap_u32s wrap_u8s wd_getD wd_set wd_len wd_replicate wd_one wd_fold fz_osl hupd_same aSix.eq_def aEqS.eq_def aEqB_bool aEqB_nsl aEqB_nil
attribute [local simp] szT2 byT2 agT2 unT2 zoT2 szT3 byT3 agT3 unT3 zoT3 szT4 byT4 agT4 unT4 zoT4 szT5 byT5 agT5 unT5 zoT5 szT22 byT22 agT22 elT22 unT22 zoT22 szT24 byT24 agT24 unT24 zoT24 szT26 byT26 agT26 flT26 fdT26_0 fdT26_1 fdT26_2 fdT26_3 zoT26 szT28 byT28 agT28 flT28 fdT28_0 fdT28_1 fdT28_2 zoT28

theorem orderTr {p q s : Pt} (gp : p.good = true) (gq : q.good = true) (gs : s.good = true) (h1 : cmV p q ≤ 0) (h2 : cmV q s ≤ 0) : cmV p s ≤ 0 := cmV_tr (good_pos gp) (good_pos gs) (good_pos gq) h1 h2
theorem orderEq {p q : Pt} (hp : p.ok) (hq : q.ok) (gp : p.good = true) (gq : q.good = true) : (cmV p q == 0) = decide (p = q) := by
  by_cases h : p = q
  · subst h; simp [cmV_self]
  · have : cmV p q ≠ 0 := fun e => h (cmV_zero hp hq gp gq e)
    simp [h, this]
theorem tmod7 (l : List Int) : ∃ m : Int, ((l.length : Int)).tmod 7 = m ∧ 0 ≤ m ∧ m < 7 := by
  refine ⟨_, rfl, ?_, ?_⟩
  · rw [Int.tmod_eq_emod_of_nonneg (by omega)]; omega
  · rw [Int.tmod_eq_emod_of_nonneg (by omega)]; omega

set_option maxHeartbeats 8000000 in
theorem fnPointOrder_fc (l : List Int) (dl : Dig 256 l) : FC Try.prog 3 [Wd .u8 l] (.bool true) := by
  refine FC.body Try.func3 rfl (by simp [idfL, idf, idfLL_iff, idf_Wd', idf_numS, cells_numS, numS_fold, idf_numI, cells_numI, numI_fold, Pt.av, Pt.cells]) (by simp [idfL, idf, idfLL_iff, idf_Wd', idf_numS, cells_numS, numS_fold, idf_numI, cells_numI, numI_fold, Pt.av, Pt.cells]) 114 rfl fun nx K hK => ?_
  refine AWP.seqk fun K1 hK1 => ?_
  refine AWP.region (AOPS.all (by simp (disch := first|omega|(simp only[ln];omega)) [idf_Wd', idf_numS, cells_numS, numS_fold, idf_numI, cells_numI, numI_fold, Pt.av, Pt.cells]; rfl) ?_)
  refine hK1 _ ?_
  refine AWP.seqk fun K2 hK2 => ?_
  refine AWP.seqk fun K3 hK3 => ?_
  refine AWP.region ?_
  refine AOPS.runk 1 (by simp (disch := first|omega|(simp only[ln];omega)) [List.take_succ_cons, List.take_zero, idf_Wd', idf_numS, cells_numS, numS_fold, idf_numI, cells_numI, numI_fold, Pt.av, Pt.cells]; rfl) ?_
  simp only [List.drop_succ_cons, List.drop_zero]
  refine AOPS.fcall (big_fc l) rfl rfl rfl hb15 (by simp (disch := first|omega|(simp only[ln];omega)) [idf_Wd', idf_numS, cells_numS, numS_fold, idf_numI, cells_numI, numI_fold, Pt.av, Pt.cells]) (by simp (disch := first|omega|(simp only[ln];omega))) (by simp) ?_
  simp only [puts_some, updo]
  refine AOPS.nil ?_
  refine hK3 _ ?_
  refine cond_ok (decide (1048576 < (l.length : Int))) (by simp (disch := first|omega|(simp only[ln];omega))) (fun h17 => ?_) (fun h17 => ?_)
  · try simp only [decide_eq_true_eq, decide_eq_false_iff_not] at h17
    refine AWP.seqk fun K4 hK4 => ?_
    refine AWP.region (AOPS.all (by simp (disch := first|omega|(simp only[ln];omega)) [idf_Wd', idf_numS, cells_numS, numS_fold, idf_numI, cells_numI, numI_fold, Pt.av, Pt.cells]; rfl) ?_)
    refine hK4 _ ?_
    refine AWP.ret ?_
    exact hK _ _ _ _ trivial ((Fin.mk (by simp [aRes, aResL, aRes1, idf_Wd', idf_numS, cells_numS, numS_fold, idf_numI, cells_numI, numI_fold, Pt.av, Pt.cells]; try rfl)))
  · try simp only [decide_eq_true_eq, decide_eq_false_iff_not] at h17
    have hl : l.length ≤ 1048576 := by omega
    refine AWP.skip ?_
    refine hK2 _ ?_
    refine AWP.seqk fun K5 hK5 => ?_
    refine AWP.region ?_
    refine AOPS.runk 1 (by simp (disch := first|omega|(simp only[ln];omega)) [List.take_succ_cons, List.take_zero, idf_Wd', idf_numS, cells_numS, numS_fold, idf_numI, cells_numI, numI_fold, Pt.av, Pt.cells]; rfl) ?_
    simp only [List.drop_succ_cons, List.drop_zero]
    refine AOPS.old fun hold1 => ?_
    refine AOPS.acall (drawOrient_ac l _ _ dl hl hold1) rfl rfl rfl hb16 (by simp (disch := first|omega|(simp only[ln];omega)) [idf_Wd', idf_numS, cells_numS, numS_fold, idf_numI, cells_numI, numI_fold, Pt.av, Pt.cells]) (by simp (disch := first|omega|(simp only[ln];omega))) (by simp) ?_
    rintro _ _ nx1 ⟨⟨P, Q, S, Po, Qo, So, rfl⟩, rfl, hnx1⟩
    clear hold1
    have o1 := pointCmpI_fc P Q Po Qo
    have o2 := pointCmpS_fc P Q Po Qo
    have o3 := pointCmpI_fc Q P Qo Po
    rw [oc_anti] at o3
    have hb := oc_b P Q
    obtain ⟨V, hV⟩ : ∃ V, oc P Q = V := ⟨_, rfl⟩
    rw [hV] at o1 o2 o3 hb
    have hn : IntKind.i64.wrap (- -V) = V := by rw [Int.neg_neg]; exact wrap_i64s (by omega) (by omega)
    simp only [puts_some, updo]
    refine AOPS.all (by simp (disch := first|omega|(simp only[ln];omega)) [idf_Wd', idf_numS, cells_numS, numS_fold, idf_numI, cells_numI, numI_fold, Pt.av, Pt.cells]; rfl) ?_
    refine hK5 _ ?_
    refine AWP.seqk fun K6 hK6 => ?_
    refine AWP.region ?_
    refine AOPS.runk 2 (by simp (disch := first|omega|(simp only[ln];omega)) [List.take_succ_cons, List.take_zero, idf_Wd', idf_numS, cells_numS, numS_fold, idf_numI, cells_numI, numI_fold, Pt.av, Pt.cells]; rfl) ?_
    simp only [List.drop_succ_cons, List.drop_zero]
    refine AOPS.fcall (o1) rfl rfl rfl hb17 (by simp (disch := first|omega|(simp only[ln];omega)) [idf_Wd', idf_numS, cells_numS, numS_fold, idf_numI, cells_numI, numI_fold, Pt.av, Pt.cells]) (by simp (disch := first|omega|(simp only[ln];omega))) (by simp) ?_
    simp only [puts_some, updo]
    refine AOPS.all (by simp (disch := first|omega|(simp only[ln];omega)) [idf_Wd', idf_numS, cells_numS, numS_fold, idf_numI, cells_numI, numI_fold, Pt.av, Pt.cells]; rfl) ?_
    refine hK6 _ ?_
    refine AWP.seqk fun K7 hK7 => ?_
    refine AWP.seqk fun K8 hK8 => ?_
    refine AWP.region ?_
    refine AOPS.runk 3 (by simp (disch := first|omega|(simp only[ln];omega)) [List.take_succ_cons, List.take_zero, idf_Wd', idf_numS, cells_numS, numS_fold, idf_numI, cells_numI, numI_fold, Pt.av, Pt.cells, hn]; rfl) ?_
    simp only [List.drop_succ_cons, List.drop_zero]
    refine AOPS.fcall (o2) rfl rfl rfl hb18 (by simp (disch := first|omega|(simp only[ln];omega)) [idf_Wd', hn, idf_numS, cells_numS, numS_fold, idf_numI, cells_numI, numI_fold, Pt.av, Pt.cells]) (by simp (disch := first|omega|(simp only[ln];omega)) [hn]) (by simp) ?_
    simp only [puts_some, updo]
    refine AOPS.runk 5 (by simp (disch := first|omega|(simp only[ln];omega)) [List.take_succ_cons, List.take_zero, idf_Wd', idf_numS, cells_numS, numS_fold, idf_numI, cells_numI, numI_fold, Pt.av, Pt.cells, hn]; rfl) ?_
    simp only [List.drop_succ_cons, List.drop_zero]
    refine AOPS.fcall (o3) rfl rfl rfl hb17 (by simp (disch := first|omega|(simp only[ln];omega)) [idf_Wd', hn, idf_numS, cells_numS, numS_fold, idf_numI, cells_numI, numI_fold, Pt.av, Pt.cells]) (by simp (disch := first|omega|(simp only[ln];omega)) [hn]) (by simp) ?_
    simp only [puts_some, updo]
    refine AOPS.all (by simp (disch := first|omega|(simp only[ln];omega)) [idf_Wd', idf_numS, cells_numS, numS_fold, idf_numI, cells_numI, numI_fold, Pt.av, Pt.cells, hn]; rfl) ?_
    refine hK8 _ ?_
    refine cond_ok _ (by simp (disch := first|omega|(simp only[ln];omega)); rfl) (fun h39 => ?_) (fun h39 => ?_)
    · simp at h39
    · try simp only [decide_eq_true_eq, decide_eq_false_iff_not] at h39
      refine AWP.skip ?_
      refine hK7 _ ?_
      refine AWP.seqk fun K9 hK9 => ?_
      refine AWP.seqk fun K10 hK10 => ?_
      cases hgP : P.good
      · refine AWP.region ?_
        refine AOPS.runk 1 (by simp (disch := first|omega|(simp only[ln];omega)) [List.take_succ_cons, List.take_zero, idf_Wd', idf_numS, cells_numS, numS_fold, idf_numI, cells_numI, numI_fold, Pt.av, Pt.cells, hgP]; rfl) ?_
        simp only [List.drop_succ_cons, List.drop_zero]
        refine AOPS.fcall (pointOkI_fc P Po) rfl rfl rfl hb19 (by simp (disch := first|omega|(simp only[ln];omega)) [idf_Wd', hgP, idf_numS, cells_numS, numS_fold, idf_numI, cells_numI, numI_fold, Pt.av, Pt.cells]) (by simp (disch := first|omega|(simp only[ln];omega)) [hgP]) (by simp) ?_
        simp only [puts_some, updo]
        refine AOPS.all (by simp (disch := first|omega|(simp only[ln];omega)) [idf_Wd', idf_numS, cells_numS, numS_fold, idf_numI, cells_numI, numI_fold, Pt.av, Pt.cells, hgP]; rfl) ?_
        refine hK10 _ ?_
        refine cond_ok _ (by simp (disch := first|omega|(simp only[ln];omega)); rfl) (fun h52 => ?_) (fun h52 => ?_)
        · try simp only [decide_eq_true_eq, decide_eq_false_iff_not] at h52
          refine AWP.seqk fun K11 hK11 => ?_
          refine AWP.region (AOPS.all (by simp (disch := first|omega|(simp only[ln];omega)) [idf_Wd', idf_numS, cells_numS, numS_fold, idf_numI, cells_numI, numI_fold, Pt.av, Pt.cells]; rfl) ?_)
          refine hK11 _ ?_
          refine AWP.ret ?_
          exact hK _ _ _ _ trivial ((Fin.mk (by simp [aRes, aResL, aRes1, idf_Wd', idf_numS, cells_numS, numS_fold, idf_numI, cells_numI, numI_fold, Pt.av, Pt.cells]; try rfl)))
        · simp at h52
      · cases hgQ : Q.good
        · refine AWP.region ?_
          refine AOPS.runk 1 (by simp (disch := first|omega|(simp only[ln];omega)) [List.take_succ_cons, List.take_zero, idf_Wd', idf_numS, cells_numS, numS_fold, idf_numI, cells_numI, numI_fold, Pt.av, Pt.cells, hgP, hgQ]; rfl) ?_
          simp only [List.drop_succ_cons, List.drop_zero]
          refine AOPS.fcall (pointOkI_fc P Po) rfl rfl rfl hb19 (by simp (disch := first|omega|(simp only[ln];omega)) [idf_Wd', hgP, hgQ, idf_numS, cells_numS, numS_fold, idf_numI, cells_numI, numI_fold, Pt.av, Pt.cells]) (by simp (disch := first|omega|(simp only[ln];omega)) [hgP, hgQ]) (by simp) ?_
          simp only [puts_some, updo]
          refine AOPS.runk 3 (by simp (disch := first|omega|(simp only[ln];omega)) [List.take_succ_cons, List.take_zero, idf_Wd', idf_numS, cells_numS, numS_fold, idf_numI, cells_numI, numI_fold, Pt.av, Pt.cells, hgP, hgQ]; rfl) ?_
          simp only [List.drop_succ_cons, List.drop_zero]
          refine AOPS.fcall (pointOkI_fc Q Qo) rfl rfl rfl hb19 (by simp (disch := first|omega|(simp only[ln];omega)) [idf_Wd', hgP, hgQ, idf_numS, cells_numS, numS_fold, idf_numI, cells_numI, numI_fold, Pt.av, Pt.cells]) (by simp (disch := first|omega|(simp only[ln];omega)) [hgP, hgQ]) (by simp) ?_
          simp only [puts_some, updo]
          refine AOPS.all (by simp (disch := first|omega|(simp only[ln];omega)) [idf_Wd', idf_numS, cells_numS, numS_fold, idf_numI, cells_numI, numI_fold, Pt.av, Pt.cells, hgP, hgQ]; rfl) ?_
          refine hK10 _ ?_
          refine cond_ok _ (by simp (disch := first|omega|(simp only[ln];omega)); rfl) (fun h52 => ?_) (fun h52 => ?_)
          · try simp only [decide_eq_true_eq, decide_eq_false_iff_not] at h52
            refine AWP.seqk fun K12 hK12 => ?_
            refine AWP.region (AOPS.all (by simp (disch := first|omega|(simp only[ln];omega)) [idf_Wd', idf_numS, cells_numS, numS_fold, idf_numI, cells_numI, numI_fold, Pt.av, Pt.cells]; rfl) ?_)
            refine hK12 _ ?_
            refine AWP.ret ?_
            exact hK _ _ _ _ trivial ((Fin.mk (by simp [aRes, aResL, aRes1, idf_Wd', idf_numS, cells_numS, numS_fold, idf_numI, cells_numI, numI_fold, Pt.av, Pt.cells]; try rfl)))
          · simp at h52
        · cases hgS : S.good
          · refine AWP.region ?_
            refine AOPS.runk 1 (by simp (disch := first|omega|(simp only[ln];omega)) [List.take_succ_cons, List.take_zero, idf_Wd', idf_numS, cells_numS, numS_fold, idf_numI, cells_numI, numI_fold, Pt.av, Pt.cells, hgP, hgQ, hgS]; rfl) ?_
            simp only [List.drop_succ_cons, List.drop_zero]
            refine AOPS.fcall (pointOkI_fc P Po) rfl rfl rfl hb19 (by simp (disch := first|omega|(simp only[ln];omega)) [idf_Wd', hgP, hgQ, hgS, idf_numS, cells_numS, numS_fold, idf_numI, cells_numI, numI_fold, Pt.av, Pt.cells]) (by simp (disch := first|omega|(simp only[ln];omega)) [hgP, hgQ, hgS]) (by simp) ?_
            simp only [puts_some, updo]
            refine AOPS.runk 3 (by simp (disch := first|omega|(simp only[ln];omega)) [List.take_succ_cons, List.take_zero, idf_Wd', idf_numS, cells_numS, numS_fold, idf_numI, cells_numI, numI_fold, Pt.av, Pt.cells, hgP, hgQ, hgS]; rfl) ?_
            simp only [List.drop_succ_cons, List.drop_zero]
            refine AOPS.fcall (pointOkI_fc Q Qo) rfl rfl rfl hb19 (by simp (disch := first|omega|(simp only[ln];omega)) [idf_Wd', hgP, hgQ, hgS, idf_numS, cells_numS, numS_fold, idf_numI, cells_numI, numI_fold, Pt.av, Pt.cells]) (by simp (disch := first|omega|(simp only[ln];omega)) [hgP, hgQ, hgS]) (by simp) ?_
            simp only [puts_some, updo]
            refine AOPS.runk 4 (by simp (disch := first|omega|(simp only[ln];omega)) [List.take_succ_cons, List.take_zero, idf_Wd', idf_numS, cells_numS, numS_fold, idf_numI, cells_numI, numI_fold, Pt.av, Pt.cells, hgP, hgQ, hgS]; rfl) ?_
            simp only [List.drop_succ_cons, List.drop_zero]
            refine AOPS.fcall (pointOkI_fc S So) rfl rfl rfl hb19 (by simp (disch := first|omega|(simp only[ln];omega)) [idf_Wd', hgP, hgQ, hgS, idf_numS, cells_numS, numS_fold, idf_numI, cells_numI, numI_fold, Pt.av, Pt.cells]) (by simp (disch := first|omega|(simp only[ln];omega)) [hgP, hgQ, hgS]) (by simp) ?_
            simp only [puts_some, updo]
            refine AOPS.all (by simp (disch := first|omega|(simp only[ln];omega)) [idf_Wd', idf_numS, cells_numS, numS_fold, idf_numI, cells_numI, numI_fold, Pt.av, Pt.cells, hgP, hgQ, hgS]; rfl) ?_
            refine hK10 _ ?_
            refine cond_ok _ (by simp (disch := first|omega|(simp only[ln];omega)); rfl) (fun h52 => ?_) (fun h52 => ?_)
            · try simp only [decide_eq_true_eq, decide_eq_false_iff_not] at h52
              refine AWP.seqk fun K13 hK13 => ?_
              refine AWP.region (AOPS.all (by simp (disch := first|omega|(simp only[ln];omega)) [idf_Wd', idf_numS, cells_numS, numS_fold, idf_numI, cells_numI, numI_fold, Pt.av, Pt.cells]; rfl) ?_)
              refine hK13 _ ?_
              refine AWP.ret ?_
              exact hK _ _ _ _ trivial ((Fin.mk (by simp [aRes, aResL, aRes1, idf_Wd', idf_numS, cells_numS, numS_fold, idf_numI, cells_numI, numI_fold, Pt.av, Pt.cells]; try rfl)))
            · simp at h52
          · refine AWP.region ?_
            refine AOPS.runk 1 (by simp (disch := first|omega|(simp only[ln];omega)) [List.take_succ_cons, List.take_zero, idf_Wd', idf_numS, cells_numS, numS_fold, idf_numI, cells_numI, numI_fold, Pt.av, Pt.cells, hgP, hgQ, hgS]; rfl) ?_
            simp only [List.drop_succ_cons, List.drop_zero]
            refine AOPS.fcall (pointOkI_fc P Po) rfl rfl rfl hb19 (by simp (disch := first|omega|(simp only[ln];omega)) [idf_Wd', hgP, hgQ, hgS, idf_numS, cells_numS, numS_fold, idf_numI, cells_numI, numI_fold, Pt.av, Pt.cells]) (by simp (disch := first|omega|(simp only[ln];omega)) [hgP, hgQ, hgS]) (by simp) ?_
            simp only [puts_some, updo]
            refine AOPS.runk 3 (by simp (disch := first|omega|(simp only[ln];omega)) [List.take_succ_cons, List.take_zero, idf_Wd', idf_numS, cells_numS, numS_fold, idf_numI, cells_numI, numI_fold, Pt.av, Pt.cells, hgP, hgQ, hgS]; rfl) ?_
            simp only [List.drop_succ_cons, List.drop_zero]
            refine AOPS.fcall (pointOkI_fc Q Qo) rfl rfl rfl hb19 (by simp (disch := first|omega|(simp only[ln];omega)) [idf_Wd', hgP, hgQ, hgS, idf_numS, cells_numS, numS_fold, idf_numI, cells_numI, numI_fold, Pt.av, Pt.cells]) (by simp (disch := first|omega|(simp only[ln];omega)) [hgP, hgQ, hgS]) (by simp) ?_
            simp only [puts_some, updo]
            refine AOPS.runk 4 (by simp (disch := first|omega|(simp only[ln];omega)) [List.take_succ_cons, List.take_zero, idf_Wd', idf_numS, cells_numS, numS_fold, idf_numI, cells_numI, numI_fold, Pt.av, Pt.cells, hgP, hgQ, hgS]; rfl) ?_
            simp only [List.drop_succ_cons, List.drop_zero]
            refine AOPS.fcall (pointOkI_fc S So) rfl rfl rfl hb19 (by simp (disch := first|omega|(simp only[ln];omega)) [idf_Wd', hgP, hgQ, hgS, idf_numS, cells_numS, numS_fold, idf_numI, cells_numI, numI_fold, Pt.av, Pt.cells]) (by simp (disch := first|omega|(simp only[ln];omega)) [hgP, hgQ, hgS]) (by simp) ?_
            simp only [puts_some, updo]
            refine AOPS.all (by simp (disch := first|omega|(simp only[ln];omega)) [idf_Wd', idf_numS, cells_numS, numS_fold, idf_numI, cells_numI, numI_fold, Pt.av, Pt.cells, hgP, hgQ, hgS]; rfl) ?_
            refine hK10 _ ?_
            refine cond_ok _ (by simp (disch := first|omega|(simp only[ln];omega)); rfl) (fun h52 => ?_) (fun h52 => ?_)
            · simp at h52
            · try simp only [decide_eq_true_eq, decide_eq_false_iff_not] at h52
              refine AWP.skip ?_
              refine hK9 _ ?_
              refine AWP.seqk fun K14 hK14 => ?_
              refine AWP.seqk fun K15 hK15 => ?_
              have eV : oc P Q = cmV P Q := oc_good hgP hgQ
              have eW : oc Q S = cmV Q S := oc_good hgQ hgS
              have eU : oc P S = cmV P S := oc_good hgP hgS
              have tr := orderTr hgP hgQ hgS
              have c0 := orderEq Po Qo hgP hgQ
              have u2 := pointCmpI_fc Q S Qo So
              have u3 := pointCmpI_fc P S Po So
              rw [eW] at u2
              rw [eU] at u3
              rw [← eV, hV] at tr c0
              generalize cmV Q S = W at *
              generalize cmV P S = U at *
              cases c1 : decide (V ≤ 0)
              · refine AWP.region (AOPS.all (by simp (disch := first|omega|(simp only[ln];omega)) [idf_Wd', idf_numS, cells_numS, numS_fold, idf_numI, cells_numI, numI_fold, Pt.av, Pt.cells, eqPt, c0, c1]; rfl) ?_)
                refine hK15 _ ?_
                refine cond_ok _ (by simp (disch := first|omega|(simp only[ln];omega)); rfl) (fun h74 => ?_) (fun h74 => ?_)
                · simp at h74
                · try simp only [decide_eq_true_eq, decide_eq_false_iff_not] at h74
                  refine AWP.skip ?_
                  refine hK14 _ ?_
                  refine AWP.seqk fun K16 hK16 => ?_
                  obtain ⟨m, htm, m0, m1⟩ := tmod7 l
                  obtain ⟨n, hn⟩ : ∃ n, m - 9 = n := ⟨_, rfl⟩
                  have hfn : fits n = true := fits_b (by omega)
                  have wo := wideOf4_fc n (by omega) (by omega) hfn
                  obtain ⟨bx, bY, bw⟩ := sm_b (good_sm hgP)
                  have mk := mkP_mul Po hgP (n := n) (by omega)
                  have m1' := wideMulI_fc P.x (W4z n) Po.1 (W4z_ok n)
                  have m2' := wideMulI_fc P.y (W4z n) Po.2.1 (W4z_ok n)
                  have m3' := wideMulI_fc P.w (W4z n) Po.2.2 (W4z_ok n)
                  have pm := pointMakeI_fc (W4z (P.x.v * n)) (W4z (P.y.v * n)) (W4z (P.w.v * n)) (W4z_ok _) (W4z_ok _) (W4z_ok _)
                  rw [W4z_v (fits_mul bx (by omega)), W4z_v (fits_mul bY (by omega)), W4z_v (fits_mul bw (by omega)), mk.1, mk.2] at pm
                  rw [W4z_v hfn] at m1' m2' m3'
                  generalize W4z (P.x.v * n) = X at *
                  generalize W4z (P.y.v * n) = Y at *
                  generalize W4z (P.w.v * n) = Z at *
                  generalize W4z n = N at *
                  refine AWP.region ?_
                  refine AOPS.runk 4 (by simp (disch := first|omega|(simp only[ln];omega)) [List.take_succ_cons, List.take_zero, len_Wd (P := Try.prog) #[22] rfl elT22, idf_Wd', idf_numS, cells_numS, numS_fold, idf_numI, cells_numI, numI_fold, Pt.av, Pt.cells, htm, hn]; rfl) ?_
                  simp only [List.drop_succ_cons, List.drop_zero]
                  refine AOPS.fcall (wo) rfl rfl rfl hb20 (by simp (disch := first|omega|(simp only[ln];omega)) [idf_Wd', htm, hn, idf_numS, cells_numS, numS_fold, idf_numI, cells_numI, numI_fold, Pt.av, Pt.cells]) (by simp (disch := first|omega|(simp only[ln];omega)) [htm, hn]) (by simp) ?_
                  simp only [puts_some, updo]
                  refine AOPS.all (by simp (disch := first|omega|(simp only[ln];omega)) [len_Wd (P := Try.prog) #[22] rfl elT22, idf_Wd', idf_numS, cells_numS, numS_fold, idf_numI, cells_numI, numI_fold, Pt.av, Pt.cells, htm, hn]; rfl) ?_
                  refine hK16 _ ?_
                  refine AWP.seqk fun K17 hK17 => ?_
                  refine AWP.region ?_
                  refine AOPS.runk 3 (by simp (disch := first|omega|(simp only[ln];omega)) [List.take_succ_cons, List.take_zero, idf_Wd', idf_numS, cells_numS, numS_fold, idf_numI, cells_numI, numI_fold, Pt.av, Pt.cells, wdI]; rfl) ?_
                  simp only [List.drop_succ_cons, List.drop_zero]
                  refine AOPS.fcall (m1') rfl rfl rfl hb21 (by simp (disch := first|omega|(simp only[ln];omega)) [idf_Wd', wdI, idf_numS, cells_numS, numS_fold, idf_numI, cells_numI, numI_fold, Pt.av, Pt.cells]) (by simp (disch := first|omega|(simp only[ln];omega)) [wdI]) (by simp) ?_
                  simp only [puts_some, updo]
                  refine AOPS.all (by simp (disch := first|omega|(simp only[ln];omega)) [idf_Wd', idf_numS, cells_numS, numS_fold, idf_numI, cells_numI, numI_fold, Pt.av, Pt.cells, wdI]; rfl) ?_
                  refine hK17 _ ?_
                  refine AWP.seqk fun K18 hK18 => ?_
                  refine AWP.region ?_
                  refine AOPS.runk 3 (by simp (disch := first|omega|(simp only[ln];omega)) [List.take_succ_cons, List.take_zero, idf_Wd', idf_numS, cells_numS, numS_fold, idf_numI, cells_numI, numI_fold, Pt.av, Pt.cells, wdI]; rfl) ?_
                  simp only [List.drop_succ_cons, List.drop_zero]
                  refine AOPS.fcall (m2') rfl rfl rfl hb21 (by simp (disch := first|omega|(simp only[ln];omega)) [idf_Wd', wdI, idf_numS, cells_numS, numS_fold, idf_numI, cells_numI, numI_fold, Pt.av, Pt.cells]) (by simp (disch := first|omega|(simp only[ln];omega)) [wdI]) (by simp) ?_
                  simp only [puts_some, updo]
                  refine AOPS.all (by simp (disch := first|omega|(simp only[ln];omega)) [idf_Wd', idf_numS, cells_numS, numS_fold, idf_numI, cells_numI, numI_fold, Pt.av, Pt.cells, wdI]; rfl) ?_
                  refine hK18 _ ?_
                  refine AWP.seqk fun K19 hK19 => ?_
                  refine AWP.region ?_
                  refine AOPS.runk 3 (by simp (disch := first|omega|(simp only[ln];omega)) [List.take_succ_cons, List.take_zero, idf_Wd', idf_numS, cells_numS, numS_fold, idf_numI, cells_numI, numI_fold, Pt.av, Pt.cells, wdI]; rfl) ?_
                  simp only [List.drop_succ_cons, List.drop_zero]
                  refine AOPS.fcall (m3') rfl rfl rfl hb21 (by simp (disch := first|omega|(simp only[ln];omega)) [idf_Wd', wdI, idf_numS, cells_numS, numS_fold, idf_numI, cells_numI, numI_fold, Pt.av, Pt.cells]) (by simp (disch := first|omega|(simp only[ln];omega)) [wdI]) (by simp) ?_
                  simp only [puts_some, updo]
                  refine AOPS.all (by simp (disch := first|omega|(simp only[ln];omega)) [idf_Wd', idf_numS, cells_numS, numS_fold, idf_numI, cells_numI, numI_fold, Pt.av, Pt.cells, wdI]; rfl) ?_
                  refine hK19 _ ?_
                  refine AWP.seqk fun K20 hK20 => ?_
                  refine AWP.region ?_
                  refine AOPS.runk 3 (by simp (disch := first|omega|(simp only[ln];omega)) [List.take_succ_cons, List.take_zero, idf_Wd', idf_numS, cells_numS, numS_fold, idf_numI, cells_numI, numI_fold, Pt.av, Pt.cells, wdI]; rfl) ?_
                  simp only [List.drop_succ_cons, List.drop_zero]
                  refine AOPS.fcall (pm) rfl rfl rfl hb22 (by simp (disch := first|omega|(simp only[ln];omega)) [idf_Wd', wdI, idf_numS, cells_numS, numS_fold, idf_numI, cells_numI, numI_fold, Pt.av, Pt.cells]) (by simp (disch := first|omega|(simp only[ln];omega)) [wdI]) (by simp) ?_
                  simp only [puts_some, updo]
                  refine AOPS.all (by simp (disch := first|omega|(simp only[ln];omega)) [idf_Wd', idf_numS, cells_numS, numS_fold, idf_numI, cells_numI, numI_fold, Pt.av, Pt.cells, wdI]; rfl) ?_
                  refine hK20 _ ?_
                  refine AWP.seqk fun K21 hK21 => ?_
                  refine AWP.region (AOPS.all (by simp (disch := first|omega|(simp only[ln];omega)) [idf_Wd', idf_numS, cells_numS, numS_fold, idf_numI, cells_numI, numI_fold, Pt.av, Pt.cells, eqPt]; rfl) ?_)
                  refine hK21 _ ?_
                  refine AWP.ret ?_
                  exact hK _ _ _ _ trivial ((Fin.mk (by simp [aRes, aResL, aRes1, idf_Wd', idf_numS, cells_numS, numS_fold, idf_numI, cells_numI, numI_fold, Pt.av, Pt.cells]; try rfl)))
              · cases c2 : decide (W ≤ 0)
                · refine AWP.region ?_
                  refine AOPS.runk 12 (by simp (disch := first|omega|(simp only[ln];omega)) [List.take_succ_cons, List.take_zero, idf_Wd', idf_numS, cells_numS, numS_fold, idf_numI, cells_numI, numI_fold, Pt.av, Pt.cells, eqPt, c0, c1, c2]; rfl) ?_
                  simp only [List.drop_succ_cons, List.drop_zero]
                  refine AOPS.fcall (u2) rfl rfl rfl hb17 (by simp (disch := first|omega|(simp only[ln];omega)) [idf_Wd', eqPt, c0, c1, c2, idf_numS, cells_numS, numS_fold, idf_numI, cells_numI, numI_fold, Pt.av, Pt.cells]) (by simp (disch := first|omega|(simp only[ln];omega)) [eqPt, c0, c1, c2]) (by simp) ?_
                  simp only [puts_some, updo]
                  refine AOPS.all (by simp (disch := first|omega|(simp only[ln];omega)) [idf_Wd', idf_numS, cells_numS, numS_fold, idf_numI, cells_numI, numI_fold, Pt.av, Pt.cells, eqPt, c0, c1, c2]; rfl) ?_
                  refine hK15 _ ?_
                  refine cond_ok _ (by simp (disch := first|omega|(simp only[ln];omega)); rfl) (fun h74 => ?_) (fun h74 => ?_)
                  · simp at h74
                  · try simp only [decide_eq_true_eq, decide_eq_false_iff_not] at h74
                    refine AWP.skip ?_
                    refine hK14 _ ?_
                    refine AWP.seqk fun K22 hK22 => ?_
                    obtain ⟨m, htm, m0, m1⟩ := tmod7 l
                    obtain ⟨n, hn⟩ : ∃ n, m - 9 = n := ⟨_, rfl⟩
                    have hfn : fits n = true := fits_b (by omega)
                    have wo := wideOf4_fc n (by omega) (by omega) hfn
                    obtain ⟨bx, bY, bw⟩ := sm_b (good_sm hgP)
                    have mk := mkP_mul Po hgP (n := n) (by omega)
                    have m1' := wideMulI_fc P.x (W4z n) Po.1 (W4z_ok n)
                    have m2' := wideMulI_fc P.y (W4z n) Po.2.1 (W4z_ok n)
                    have m3' := wideMulI_fc P.w (W4z n) Po.2.2 (W4z_ok n)
                    have pm := pointMakeI_fc (W4z (P.x.v * n)) (W4z (P.y.v * n)) (W4z (P.w.v * n)) (W4z_ok _) (W4z_ok _) (W4z_ok _)
                    rw [W4z_v (fits_mul bx (by omega)), W4z_v (fits_mul bY (by omega)), W4z_v (fits_mul bw (by omega)), mk.1, mk.2] at pm
                    rw [W4z_v hfn] at m1' m2' m3'
                    generalize W4z (P.x.v * n) = X at *
                    generalize W4z (P.y.v * n) = Y at *
                    generalize W4z (P.w.v * n) = Z at *
                    generalize W4z n = N at *
                    refine AWP.region ?_
                    refine AOPS.runk 4 (by simp (disch := first|omega|(simp only[ln];omega)) [List.take_succ_cons, List.take_zero, len_Wd (P := Try.prog) #[22] rfl elT22, idf_Wd', idf_numS, cells_numS, numS_fold, idf_numI, cells_numI, numI_fold, Pt.av, Pt.cells, htm, hn]; rfl) ?_
                    simp only [List.drop_succ_cons, List.drop_zero]
                    refine AOPS.fcall (wo) rfl rfl rfl hb20 (by simp (disch := first|omega|(simp only[ln];omega)) [idf_Wd', htm, hn, idf_numS, cells_numS, numS_fold, idf_numI, cells_numI, numI_fold, Pt.av, Pt.cells]) (by simp (disch := first|omega|(simp only[ln];omega)) [htm, hn]) (by simp) ?_
                    simp only [puts_some, updo]
                    refine AOPS.all (by simp (disch := first|omega|(simp only[ln];omega)) [len_Wd (P := Try.prog) #[22] rfl elT22, idf_Wd', idf_numS, cells_numS, numS_fold, idf_numI, cells_numI, numI_fold, Pt.av, Pt.cells, htm, hn]; rfl) ?_
                    refine hK22 _ ?_
                    refine AWP.seqk fun K23 hK23 => ?_
                    refine AWP.region ?_
                    refine AOPS.runk 3 (by simp (disch := first|omega|(simp only[ln];omega)) [List.take_succ_cons, List.take_zero, idf_Wd', idf_numS, cells_numS, numS_fold, idf_numI, cells_numI, numI_fold, Pt.av, Pt.cells, wdI]; rfl) ?_
                    simp only [List.drop_succ_cons, List.drop_zero]
                    refine AOPS.fcall (m1') rfl rfl rfl hb21 (by simp (disch := first|omega|(simp only[ln];omega)) [idf_Wd', wdI, idf_numS, cells_numS, numS_fold, idf_numI, cells_numI, numI_fold, Pt.av, Pt.cells]) (by simp (disch := first|omega|(simp only[ln];omega)) [wdI]) (by simp) ?_
                    simp only [puts_some, updo]
                    refine AOPS.all (by simp (disch := first|omega|(simp only[ln];omega)) [idf_Wd', idf_numS, cells_numS, numS_fold, idf_numI, cells_numI, numI_fold, Pt.av, Pt.cells, wdI]; rfl) ?_
                    refine hK23 _ ?_
                    refine AWP.seqk fun K24 hK24 => ?_
                    refine AWP.region ?_
                    refine AOPS.runk 3 (by simp (disch := first|omega|(simp only[ln];omega)) [List.take_succ_cons, List.take_zero, idf_Wd', idf_numS, cells_numS, numS_fold, idf_numI, cells_numI, numI_fold, Pt.av, Pt.cells, wdI]; rfl) ?_
                    simp only [List.drop_succ_cons, List.drop_zero]
                    refine AOPS.fcall (m2') rfl rfl rfl hb21 (by simp (disch := first|omega|(simp only[ln];omega)) [idf_Wd', wdI, idf_numS, cells_numS, numS_fold, idf_numI, cells_numI, numI_fold, Pt.av, Pt.cells]) (by simp (disch := first|omega|(simp only[ln];omega)) [wdI]) (by simp) ?_
                    simp only [puts_some, updo]
                    refine AOPS.all (by simp (disch := first|omega|(simp only[ln];omega)) [idf_Wd', idf_numS, cells_numS, numS_fold, idf_numI, cells_numI, numI_fold, Pt.av, Pt.cells, wdI]; rfl) ?_
                    refine hK24 _ ?_
                    refine AWP.seqk fun K25 hK25 => ?_
                    refine AWP.region ?_
                    refine AOPS.runk 3 (by simp (disch := first|omega|(simp only[ln];omega)) [List.take_succ_cons, List.take_zero, idf_Wd', idf_numS, cells_numS, numS_fold, idf_numI, cells_numI, numI_fold, Pt.av, Pt.cells, wdI]; rfl) ?_
                    simp only [List.drop_succ_cons, List.drop_zero]
                    refine AOPS.fcall (m3') rfl rfl rfl hb21 (by simp (disch := first|omega|(simp only[ln];omega)) [idf_Wd', wdI, idf_numS, cells_numS, numS_fold, idf_numI, cells_numI, numI_fold, Pt.av, Pt.cells]) (by simp (disch := first|omega|(simp only[ln];omega)) [wdI]) (by simp) ?_
                    simp only [puts_some, updo]
                    refine AOPS.all (by simp (disch := first|omega|(simp only[ln];omega)) [idf_Wd', idf_numS, cells_numS, numS_fold, idf_numI, cells_numI, numI_fold, Pt.av, Pt.cells, wdI]; rfl) ?_
                    refine hK25 _ ?_
                    refine AWP.seqk fun K26 hK26 => ?_
                    refine AWP.region ?_
                    refine AOPS.runk 3 (by simp (disch := first|omega|(simp only[ln];omega)) [List.take_succ_cons, List.take_zero, idf_Wd', idf_numS, cells_numS, numS_fold, idf_numI, cells_numI, numI_fold, Pt.av, Pt.cells, wdI]; rfl) ?_
                    simp only [List.drop_succ_cons, List.drop_zero]
                    refine AOPS.fcall (pm) rfl rfl rfl hb22 (by simp (disch := first|omega|(simp only[ln];omega)) [idf_Wd', wdI, idf_numS, cells_numS, numS_fold, idf_numI, cells_numI, numI_fold, Pt.av, Pt.cells]) (by simp (disch := first|omega|(simp only[ln];omega)) [wdI]) (by simp) ?_
                    simp only [puts_some, updo]
                    refine AOPS.all (by simp (disch := first|omega|(simp only[ln];omega)) [idf_Wd', idf_numS, cells_numS, numS_fold, idf_numI, cells_numI, numI_fold, Pt.av, Pt.cells, wdI]; rfl) ?_
                    refine hK26 _ ?_
                    refine AWP.seqk fun K27 hK27 => ?_
                    refine AWP.region (AOPS.all (by simp (disch := first|omega|(simp only[ln];omega)) [idf_Wd', idf_numS, cells_numS, numS_fold, idf_numI, cells_numI, numI_fold, Pt.av, Pt.cells, eqPt]; rfl) ?_)
                    refine hK27 _ ?_
                    refine AWP.ret ?_
                    exact hK _ _ _ _ trivial ((Fin.mk (by simp [aRes, aResL, aRes1, idf_Wd', idf_numS, cells_numS, numS_fold, idf_numI, cells_numI, numI_fold, Pt.av, Pt.cells]; try rfl)))
                · have c3 : decide (0 < U) = false := by
                    have := tr (of_decide_eq_true c1) (of_decide_eq_true c2)
                    simp; omega
                  refine AWP.region ?_
                  refine AOPS.runk 12 (by simp (disch := first|omega|(simp only[ln];omega)) [List.take_succ_cons, List.take_zero, idf_Wd', idf_numS, cells_numS, numS_fold, idf_numI, cells_numI, numI_fold, Pt.av, Pt.cells, eqPt, c0, c1, c2, c3]; rfl) ?_
                  simp only [List.drop_succ_cons, List.drop_zero]
                  refine AOPS.fcall (u2) rfl rfl rfl hb17 (by simp (disch := first|omega|(simp only[ln];omega)) [idf_Wd', eqPt, c0, c1, c2, c3, idf_numS, cells_numS, numS_fold, idf_numI, cells_numI, numI_fold, Pt.av, Pt.cells]) (by simp (disch := first|omega|(simp only[ln];omega)) [eqPt, c0, c1, c2, c3]) (by simp) ?_
                  simp only [puts_some, updo]
                  refine AOPS.runk 5 (by simp (disch := first|omega|(simp only[ln];omega)) [List.take_succ_cons, List.take_zero, idf_Wd', idf_numS, cells_numS, numS_fold, idf_numI, cells_numI, numI_fold, Pt.av, Pt.cells, eqPt, c0, c1, c2, c3]; rfl) ?_
                  simp only [List.drop_succ_cons, List.drop_zero]
                  refine AOPS.fcall (u3) rfl rfl rfl hb17 (by simp (disch := first|omega|(simp only[ln];omega)) [idf_Wd', eqPt, c0, c1, c2, c3, idf_numS, cells_numS, numS_fold, idf_numI, cells_numI, numI_fold, Pt.av, Pt.cells]) (by simp (disch := first|omega|(simp only[ln];omega)) [eqPt, c0, c1, c2, c3]) (by simp) ?_
                  simp only [puts_some, updo]
                  refine AOPS.all (by simp (disch := first|omega|(simp only[ln];omega)) [idf_Wd', idf_numS, cells_numS, numS_fold, idf_numI, cells_numI, numI_fold, Pt.av, Pt.cells, eqPt, c0, c1, c2, c3]; rfl) ?_
                  refine hK15 _ ?_
                  refine cond_ok _ (by simp (disch := first|omega|(simp only[ln];omega)); rfl) (fun h74 => ?_) (fun h74 => ?_)
                  · simp at h74
                  · try simp only [decide_eq_true_eq, decide_eq_false_iff_not] at h74
                    refine AWP.skip ?_
                    refine hK14 _ ?_
                    refine AWP.seqk fun K28 hK28 => ?_
                    obtain ⟨m, htm, m0, m1⟩ := tmod7 l
                    obtain ⟨n, hn⟩ : ∃ n, m - 9 = n := ⟨_, rfl⟩
                    have hfn : fits n = true := fits_b (by omega)
                    have wo := wideOf4_fc n (by omega) (by omega) hfn
                    obtain ⟨bx, bY, bw⟩ := sm_b (good_sm hgP)
                    have mk := mkP_mul Po hgP (n := n) (by omega)
                    have m1' := wideMulI_fc P.x (W4z n) Po.1 (W4z_ok n)
                    have m2' := wideMulI_fc P.y (W4z n) Po.2.1 (W4z_ok n)
                    have m3' := wideMulI_fc P.w (W4z n) Po.2.2 (W4z_ok n)
                    have pm := pointMakeI_fc (W4z (P.x.v * n)) (W4z (P.y.v * n)) (W4z (P.w.v * n)) (W4z_ok _) (W4z_ok _) (W4z_ok _)
                    rw [W4z_v (fits_mul bx (by omega)), W4z_v (fits_mul bY (by omega)), W4z_v (fits_mul bw (by omega)), mk.1, mk.2] at pm
                    rw [W4z_v hfn] at m1' m2' m3'
                    generalize W4z (P.x.v * n) = X at *
                    generalize W4z (P.y.v * n) = Y at *
                    generalize W4z (P.w.v * n) = Z at *
                    generalize W4z n = N at *
                    refine AWP.region ?_
                    refine AOPS.runk 4 (by simp (disch := first|omega|(simp only[ln];omega)) [List.take_succ_cons, List.take_zero, len_Wd (P := Try.prog) #[22] rfl elT22, idf_Wd', idf_numS, cells_numS, numS_fold, idf_numI, cells_numI, numI_fold, Pt.av, Pt.cells, htm, hn]; rfl) ?_
                    simp only [List.drop_succ_cons, List.drop_zero]
                    refine AOPS.fcall (wo) rfl rfl rfl hb20 (by simp (disch := first|omega|(simp only[ln];omega)) [idf_Wd', htm, hn, idf_numS, cells_numS, numS_fold, idf_numI, cells_numI, numI_fold, Pt.av, Pt.cells]) (by simp (disch := first|omega|(simp only[ln];omega)) [htm, hn]) (by simp) ?_
                    simp only [puts_some, updo]
                    refine AOPS.all (by simp (disch := first|omega|(simp only[ln];omega)) [len_Wd (P := Try.prog) #[22] rfl elT22, idf_Wd', idf_numS, cells_numS, numS_fold, idf_numI, cells_numI, numI_fold, Pt.av, Pt.cells, htm, hn]; rfl) ?_
                    refine hK28 _ ?_
                    refine AWP.seqk fun K29 hK29 => ?_
                    refine AWP.region ?_
                    refine AOPS.runk 3 (by simp (disch := first|omega|(simp only[ln];omega)) [List.take_succ_cons, List.take_zero, idf_Wd', idf_numS, cells_numS, numS_fold, idf_numI, cells_numI, numI_fold, Pt.av, Pt.cells, wdI]; rfl) ?_
                    simp only [List.drop_succ_cons, List.drop_zero]
                    refine AOPS.fcall (m1') rfl rfl rfl hb21 (by simp (disch := first|omega|(simp only[ln];omega)) [idf_Wd', wdI, idf_numS, cells_numS, numS_fold, idf_numI, cells_numI, numI_fold, Pt.av, Pt.cells]) (by simp (disch := first|omega|(simp only[ln];omega)) [wdI]) (by simp) ?_
                    simp only [puts_some, updo]
                    refine AOPS.all (by simp (disch := first|omega|(simp only[ln];omega)) [idf_Wd', idf_numS, cells_numS, numS_fold, idf_numI, cells_numI, numI_fold, Pt.av, Pt.cells, wdI]; rfl) ?_
                    refine hK29 _ ?_
                    refine AWP.seqk fun K30 hK30 => ?_
                    refine AWP.region ?_
                    refine AOPS.runk 3 (by simp (disch := first|omega|(simp only[ln];omega)) [List.take_succ_cons, List.take_zero, idf_Wd', idf_numS, cells_numS, numS_fold, idf_numI, cells_numI, numI_fold, Pt.av, Pt.cells, wdI]; rfl) ?_
                    simp only [List.drop_succ_cons, List.drop_zero]
                    refine AOPS.fcall (m2') rfl rfl rfl hb21 (by simp (disch := first|omega|(simp only[ln];omega)) [idf_Wd', wdI, idf_numS, cells_numS, numS_fold, idf_numI, cells_numI, numI_fold, Pt.av, Pt.cells]) (by simp (disch := first|omega|(simp only[ln];omega)) [wdI]) (by simp) ?_
                    simp only [puts_some, updo]
                    refine AOPS.all (by simp (disch := first|omega|(simp only[ln];omega)) [idf_Wd', idf_numS, cells_numS, numS_fold, idf_numI, cells_numI, numI_fold, Pt.av, Pt.cells, wdI]; rfl) ?_
                    refine hK30 _ ?_
                    refine AWP.seqk fun K31 hK31 => ?_
                    refine AWP.region ?_
                    refine AOPS.runk 3 (by simp (disch := first|omega|(simp only[ln];omega)) [List.take_succ_cons, List.take_zero, idf_Wd', idf_numS, cells_numS, numS_fold, idf_numI, cells_numI, numI_fold, Pt.av, Pt.cells, wdI]; rfl) ?_
                    simp only [List.drop_succ_cons, List.drop_zero]
                    refine AOPS.fcall (m3') rfl rfl rfl hb21 (by simp (disch := first|omega|(simp only[ln];omega)) [idf_Wd', wdI, idf_numS, cells_numS, numS_fold, idf_numI, cells_numI, numI_fold, Pt.av, Pt.cells]) (by simp (disch := first|omega|(simp only[ln];omega)) [wdI]) (by simp) ?_
                    simp only [puts_some, updo]
                    refine AOPS.all (by simp (disch := first|omega|(simp only[ln];omega)) [idf_Wd', idf_numS, cells_numS, numS_fold, idf_numI, cells_numI, numI_fold, Pt.av, Pt.cells, wdI]; rfl) ?_
                    refine hK31 _ ?_
                    refine AWP.seqk fun K32 hK32 => ?_
                    refine AWP.region ?_
                    refine AOPS.runk 3 (by simp (disch := first|omega|(simp only[ln];omega)) [List.take_succ_cons, List.take_zero, idf_Wd', idf_numS, cells_numS, numS_fold, idf_numI, cells_numI, numI_fold, Pt.av, Pt.cells, wdI]; rfl) ?_
                    simp only [List.drop_succ_cons, List.drop_zero]
                    refine AOPS.fcall (pm) rfl rfl rfl hb22 (by simp (disch := first|omega|(simp only[ln];omega)) [idf_Wd', wdI, idf_numS, cells_numS, numS_fold, idf_numI, cells_numI, numI_fold, Pt.av, Pt.cells]) (by simp (disch := first|omega|(simp only[ln];omega)) [wdI]) (by simp) ?_
                    simp only [puts_some, updo]
                    refine AOPS.all (by simp (disch := first|omega|(simp only[ln];omega)) [idf_Wd', idf_numS, cells_numS, numS_fold, idf_numI, cells_numI, numI_fold, Pt.av, Pt.cells, wdI]; rfl) ?_
                    refine hK32 _ ?_
                    refine AWP.seqk fun K33 hK33 => ?_
                    refine AWP.region (AOPS.all (by simp (disch := first|omega|(simp only[ln];omega)) [idf_Wd', idf_numS, cells_numS, numS_fold, idf_numI, cells_numI, numI_fold, Pt.av, Pt.cells, eqPt]; rfl) ?_)
                    refine hK33 _ ?_
                    refine AWP.ret ?_
                    exact hK _ _ _ _ trivial ((Fin.mk (by simp [aRes, aResL, aRes1, idf_Wd', idf_numS, cells_numS, numS_fold, idf_numI, cells_numI, numI_fold, Pt.av, Pt.cells]; try rfl)))

end Go.Proofs.Ytmaebeknmiomnaa
