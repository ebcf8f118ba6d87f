/- Walks: FnOver, walked: the reference, the law. -/
import Derived.Test.YtmaebeknmiomnaaG0Z

namespace Go.Proofs.Ytmaebeknmiomnaa
open Go Go.RowKit
set_option linter.unusedSimpArgs false
set_option linter.unusedVariables false
set_option maxRecDepth 100000
attribute [local simp] List.getElem?_cons_zero List.getElem?_cons_succ List.getElem?_toArray runOps stepOp.eq_def agd.eq_def dstOk.eq_def opVal.eq_def opNew.eq_def opSto.eq_def ev.eq_def cv.eq_def puts_some puts_none upd_ap lst.eq_def aBin.eq_def aUn.eq_def aBi_str aBi_isl aBi_osl aBi_nsl aBi_max aBi_min aBi_max3 aConv.eq_def aLd.eq_def aLoad.eq_def aField.eq_def aFld.eq_def aIdx_isl aIdx_osl aSlc_isl aSlc_osl aSlc_str aSlc_nsl bnd.eq_def evs_nil evs_cons aBuild.eq_def aFill splice.eq_def cells_agg cells_int cells_bool cells_str cells_nil cells_nsl cells_isl cells_osl cells_ptr cells_ip cells_fn cells_Wd one_int one_bool one_str one_nil one_nsl one_isl one_osl one_ptr one_ip one_fn one_Wd aSets hupd_eq hupd_ne wrap_i64s wrap_u64s wrap_u32s wrap_u8s wd_getD wd_set wd_len wd_replicate wd_one wd_fold fz_osl hupd_same aSix.eq_def aEqS.eq_def aEqB_bool aEqB_nsl aEqB_nil
attribute [local simp] szT2 byT2 agT2 unT2 zoT2 szT4 byT4 agT4 unT4 zoT4 szT26 byT26 agT26 flT26 fdT26_0 fdT26_1 fdT26_2 fdT26_3 zoT26 szT28 byT28 agT28 flT28 fdT28_0 fdT28_1 fdT28_2 zoT28 szT67 byT67 agT67 flT67 fdT67_0 fdT67_1 zoT67 szT69 byT69 agT69 flT69 fdT69_0 fdT69_1 zoT69 szT113 byT113 agT113 flT113 fdT113_0 fdT113_1 zoT113 szT115 byT115 agT115 flT115 fdT115_0 fdT115_1 fdT115_2 zoT115

theorem ovF_z {s : Sg} {p : Pt} : (ovF s p == 0) = onSF s p := by
  unfold ovF onSF
  cases gs : s.good <;> cases gp : p.good
  · rfl
  · rfl
  · rfl
  · simp only [Bool.and_self, if_true, Bool.true_and]; exact ov_zero gs gp
theorem ovF_side {s : Sg} {p : Pt} (h2 : ¬ ovF s p = 2) (hx : ¬ s.a.x = s.b.x) : ovF s p = -siF s p := by
  unfold ovF at *
  split at h2
  · rename_i hg
    rw [if_pos hg]
    simp only [Bool.and_eq_true] at hg
    rw [sideEq hg.1 hg.2]
    unfold ovI at *
    split at h2
    · simp at h2
    · rename_i h1
      rw [if_neg h1]
      have := good_ax hg.1
      rw [if_pos (by omega)]
  · simp at h2
theorem ovF_b (s : Sg) (p : Pt) : -1 ≤ ovF s p ∧ ovF s p ≤ 2 := by
  have := sdF_b s p
  unfold ovF ovI
  split
  · split
    · omega
    · split
      · omega
      · split
        · omega
        · split <;> omega
  · omega
theorem siF_b (s : Sg) (p : Pt) : -1 ≤ siF s p ∧ siF s p ≤ 1 := by
  have := sdF_b s p
  unfold siF; split <;> omega

set_option maxHeartbeats 4000000 in
theorem overAtS_fc (s : Sg) (p : Pt) (hp : p.ok) : FC Try.prog 42 [s.av, p.av] (.int .i64 (ovF s p)) := by
  refine FC.body Try.func42 rfl (by simp [idfL, idf, Sp.av, Sp.cells, Sg.av, Sg.cells, Pt.av, Pt.cells]) (by simp [idfL, idf, idfLL_iff, idf_Wd', idf_numS, cells_numS, numS_fold, idf_numI, cells_numI, numI_fold, Sp.av, Sp.cells, Sg.av, Sg.cells, Pt.av, Pt.cells, l3A, l3C]) 54 rfl fun nx K hK => ?_
  refine AWP.seqk fun K1 hK1 => ?_
  refine AWP.region (AOPS.all (by simp (disch := first|omega|(simp only[ln];omega)) [idf_Wd', idf_numS, cells_numS, numS_fold, idf_numI, cells_numI, numI_fold, Sp.av, Sp.cells, Sg.av, Sg.cells, Pt.av, Pt.cells, l3A, l3C]; rfl) ?_)
  refine hK1 _ ?_
  refine AWP.seqk fun K2 hK2 => ?_
  refine AWP.seqk fun K3 hK3 => ?_
  cases gs : s.good
  · refine AWP.region ?_
    refine AOPS.runk 1 (by simp (disch := first|omega|(simp only[ln];omega)) [List.take_succ_cons, List.take_zero, idf_Wd', idf_numS, cells_numS, numS_fold, idf_numI, cells_numI, numI_fold, Sp.av, Sp.cells, Sg.av, Sg.cells, Pt.av, Pt.cells, l3A, l3C, gs]; rfl) ?_
    simp only [List.drop_succ_cons, List.drop_zero]
    refine AOPS.fcall (segOkS_fc s) rfl rfl rfl hb122 (by simp (disch := first|omega|(simp only[ln];omega)) [idf_Wd', gs, idf_numS, cells_numS, numS_fold, idf_numI, cells_numI, numI_fold, Sp.av, Sp.cells, Sg.av, Sg.cells, Pt.av, Pt.cells, l3A, l3C]) (by simp (disch := first|omega|(simp only[ln];omega)) [gs]) (by simp) ?_
    simp only [puts_some, updo]
    refine AOPS.all (by simp (disch := first|omega|(simp only[ln];omega)) [idf_Wd', idf_numS, cells_numS, numS_fold, idf_numI, cells_numI, numI_fold, Sp.av, Sp.cells, Sg.av, Sg.cells, Pt.av, Pt.cells, l3A, l3C, gs]; rfl) ?_
    refine hK3 _ ?_
    refine cond_ok _ (by simp (disch := first|omega|(simp only[ln];omega)); rfl) (fun h15 => ?_) (fun h15 => ?_)
    · try simp only [decide_eq_true_eq, decide_eq_false_iff_not] at h15
      refine AWP.seqk fun K4 hK4 => ?_
      refine AWP.region (AOPS.all (by simp (disch := first|omega|(simp only[ln];omega)) [idf_Wd', idf_numS, cells_numS, numS_fold, idf_numI, cells_numI, numI_fold, Sp.av, Sp.cells, Sg.av, Sg.cells, Pt.av, Pt.cells, l3A, l3C]; rfl) ?_)
      refine hK4 _ ?_
      refine AWP.ret ?_
      exact hK _ _ _ _ trivial ((Fin.mk (by simp [aRes, aResL, aRes1, idf_Wd', idf_numS, cells_numS, numS_fold, idf_numI, cells_numI, numI_fold, Sp.av, Sp.cells, Sg.av, Sg.cells, Pt.av, Pt.cells, l3A, l3C]; try rfl)).cast (by unfold ovF; simp [*]))
    · simp at h15
  · cases gp : p.good
    · refine AWP.region ?_
      refine AOPS.runk 1 (by simp (disch := first|omega|(simp only[ln];omega)) [List.take_succ_cons, List.take_zero, idf_Wd', idf_numS, cells_numS, numS_fold, idf_numI, cells_numI, numI_fold, Sp.av, Sp.cells, Sg.av, Sg.cells, Pt.av, Pt.cells, l3A, l3C, gs, gp]; rfl) ?_
      simp only [List.drop_succ_cons, List.drop_zero]
      refine AOPS.fcall (segOkS_fc s) rfl rfl rfl hb122 (by simp (disch := first|omega|(simp only[ln];omega)) [idf_Wd', gs, gp, idf_numS, cells_numS, numS_fold, idf_numI, cells_numI, numI_fold, Sp.av, Sp.cells, Sg.av, Sg.cells, Pt.av, Pt.cells, l3A, l3C]) (by simp (disch := first|omega|(simp only[ln];omega)) [gs, gp]) (by simp) ?_
      simp only [puts_some, updo]
      refine AOPS.runk 3 (by simp (disch := first|omega|(simp only[ln];omega)) [List.take_succ_cons, List.take_zero, idf_Wd', idf_numS, cells_numS, numS_fold, idf_numI, cells_numI, numI_fold, Sp.av, Sp.cells, Sg.av, Sg.cells, Pt.av, Pt.cells, l3A, l3C, gs, gp]; rfl) ?_
      simp only [List.drop_succ_cons, List.drop_zero]
      refine AOPS.fcall (pointOkS_fc p hp) rfl rfl rfl hb81 (by simp (disch := first|omega|(simp only[ln];omega)) [idf_Wd', gs, gp, idf_numS, cells_numS, numS_fold, idf_numI, cells_numI, numI_fold, Sp.av, Sp.cells, Sg.av, Sg.cells, Pt.av, Pt.cells, l3A, l3C]) (by simp (disch := first|omega|(simp only[ln];omega)) [gs, gp]) (by simp) ?_
      simp only [puts_some, updo]
      refine AOPS.all (by simp (disch := first|omega|(simp only[ln];omega)) [idf_Wd', idf_numS, cells_numS, numS_fold, idf_numI, cells_numI, numI_fold, Sp.av, Sp.cells, Sg.av, Sg.cells, Pt.av, Pt.cells, l3A, l3C, gs, gp]; rfl) ?_
      refine hK3 _ ?_
      refine cond_ok _ (by simp (disch := first|omega|(simp only[ln];omega)); rfl) (fun h15 => ?_) (fun h15 => ?_)
      · try simp only [decide_eq_true_eq, decide_eq_false_iff_not] at h15
        refine AWP.seqk fun K5 hK5 => ?_
        refine AWP.region (AOPS.all (by simp (disch := first|omega|(simp only[ln];omega)) [idf_Wd', idf_numS, cells_numS, numS_fold, idf_numI, cells_numI, numI_fold, Sp.av, Sp.cells, Sg.av, Sg.cells, Pt.av, Pt.cells, l3A, l3C]; rfl) ?_)
        refine hK5 _ ?_
        refine AWP.ret ?_
        exact hK _ _ _ _ trivial ((Fin.mk (by simp [aRes, aResL, aRes1, idf_Wd', idf_numS, cells_numS, numS_fold, idf_numI, cells_numI, numI_fold, Sp.av, Sp.cells, Sg.av, Sg.cells, Pt.av, Pt.cells, l3A, l3C]; try rfl)).cast (by unfold ovF; simp [*]))
      · simp at h15
    · refine AWP.region ?_
      refine AOPS.runk 1 (by simp (disch := first|omega|(simp only[ln];omega)) [List.take_succ_cons, List.take_zero, idf_Wd', idf_numS, cells_numS, numS_fold, idf_numI, cells_numI, numI_fold, Sp.av, Sp.cells, Sg.av, Sg.cells, Pt.av, Pt.cells, l3A, l3C, gs, gp]; rfl) ?_
      simp only [List.drop_succ_cons, List.drop_zero]
      refine AOPS.fcall (segOkS_fc s) rfl rfl rfl hb122 (by simp (disch := first|omega|(simp only[ln];omega)) [idf_Wd', gs, gp, idf_numS, cells_numS, numS_fold, idf_numI, cells_numI, numI_fold, Sp.av, Sp.cells, Sg.av, Sg.cells, Pt.av, Pt.cells, l3A, l3C]) (by simp (disch := first|omega|(simp only[ln];omega)) [gs, gp]) (by simp) ?_
      simp only [puts_some, updo]
      refine AOPS.runk 3 (by simp (disch := first|omega|(simp only[ln];omega)) [List.take_succ_cons, List.take_zero, idf_Wd', idf_numS, cells_numS, numS_fold, idf_numI, cells_numI, numI_fold, Sp.av, Sp.cells, Sg.av, Sg.cells, Pt.av, Pt.cells, l3A, l3C, gs, gp]; rfl) ?_
      simp only [List.drop_succ_cons, List.drop_zero]
      refine AOPS.fcall (pointOkS_fc p hp) rfl rfl rfl hb81 (by simp (disch := first|omega|(simp only[ln];omega)) [idf_Wd', gs, gp, idf_numS, cells_numS, numS_fold, idf_numI, cells_numI, numI_fold, Sp.av, Sp.cells, Sg.av, Sg.cells, Pt.av, Pt.cells, l3A, l3C]) (by simp (disch := first|omega|(simp only[ln];omega)) [gs, gp]) (by simp) ?_
      simp only [puts_some, updo]
      refine AOPS.all (by simp (disch := first|omega|(simp only[ln];omega)) [idf_Wd', idf_numS, cells_numS, numS_fold, idf_numI, cells_numI, numI_fold, Sp.av, Sp.cells, Sg.av, Sg.cells, Pt.av, Pt.cells, l3A, l3C, gs, gp]; rfl) ?_
      refine hK3 _ ?_
      refine cond_ok _ (by simp (disch := first|omega|(simp only[ln];omega)); rfl) (fun h15 => ?_) (fun h15 => ?_)
      · simp at h15
      · try simp only [decide_eq_true_eq, decide_eq_false_iff_not] at h15
        refine AWP.skip ?_
        refine hK2 _ ?_
        refine AWP.seqk fun K6 hK6 => ?_
        obtain ⟨ax0, ax1, ay0, ay1⟩ := Sp.b (good_a gs)
        obtain ⟨bx0, bx1, by0, by1⟩ := Sp.b (good_b gs)
        have pX := W4.bg hp.1
        have pY := W4.bg hp.2.1
        have pW := W4.bg hp.2.2
        have aX : Bg 1 s.a.x := Bg.i64 (by omega) (by omega)
        have aY : Bg 1 s.a.y := Bg.i64 (by omega) (by omega)
        have bX : Bg 1 s.b.x := Bg.i64 (by omega) (by omega)
        have bY : Bg 1 s.b.y := Bg.i64 (by omega) (by omega)
        have dX' : Bg 1 (s.b.x - s.a.x) := Bg.i64 (by omega) (by omega)
        have dY' : Bg 1 (s.b.y - s.a.y) := Bg.i64 (by omega) (by omega)
        refine AWP.region ?_
        refine AOPS.runk 2 (by simp (disch := first|omega|(simp only[ln];omega)) [List.take_succ_cons, List.take_zero, idf_Wd', idf_numS, cells_numS, numS_fold, idf_numI, cells_numI, numI_fold, Sp.av, Sp.cells, Sg.av, Sg.cells, Pt.av, Pt.cells, l3A, l3C]; rfl) ?_
        simp only [List.drop_succ_cons, List.drop_zero]
        refine AOPS.fcall (l3Spot_fc s.a.x s.a.y (by omega) (by omega) (by omega) (by omega)) rfl rfl rfl hb123 (by simp (disch := first|omega|(simp only[ln];omega)) [idf_Wd', idf_numS, cells_numS, numS_fold, idf_numI, cells_numI, numI_fold, Sp.av, Sp.cells, Sg.av, Sg.cells, Pt.av, Pt.cells, l3A, l3C]) (by simp (disch := first|omega|(simp only[ln];omega))) (by simp) ?_
        simp only [puts_some, updo]
        refine AOPS.all (by simp (disch := first|omega|(simp only[ln];omega)) [idf_Wd', idf_numS, cells_numS, numS_fold, idf_numI, cells_numI, numI_fold, Sp.av, Sp.cells, Sg.av, Sg.cells, Pt.av, Pt.cells, l3A, l3C]; rfl) ?_
        refine hK6 _ ?_
        refine AWP.seqk fun K7 hK7 => ?_
        refine AWP.region ?_
        refine AOPS.runk 2 (by simp (disch := first|omega|(simp only[ln];omega)) [List.take_succ_cons, List.take_zero, idf_Wd', idf_numS, cells_numS, numS_fold, idf_numI, cells_numI, numI_fold, Sp.av, Sp.cells, Sg.av, Sg.cells, Pt.av, Pt.cells, l3A, l3C]; rfl) ?_
        simp only [List.drop_succ_cons, List.drop_zero]
        refine AOPS.fcall (l3Spot_fc s.b.x s.b.y (by omega) (by omega) (by omega) (by omega)) rfl rfl rfl hb123 (by simp (disch := first|omega|(simp only[ln];omega)) [idf_Wd', idf_numS, cells_numS, numS_fold, idf_numI, cells_numI, numI_fold, Sp.av, Sp.cells, Sg.av, Sg.cells, Pt.av, Pt.cells, l3A, l3C]) (by simp (disch := first|omega|(simp only[ln];omega))) (by simp) ?_
        simp only [puts_some, updo]
        refine AOPS.all (by simp (disch := first|omega|(simp only[ln];omega)) [idf_Wd', idf_numS, cells_numS, numS_fold, idf_numI, cells_numI, numI_fold, Sp.av, Sp.cells, Sg.av, Sg.cells, Pt.av, Pt.cells, l3A, l3C]; rfl) ?_
        refine hK7 _ ?_
        refine AWP.seqk fun K8 hK8 => ?_
        refine AWP.region ?_
        refine AOPS.runk 1 (by simp (disch := first|omega|(simp only[ln];omega)) [List.take_succ_cons, List.take_zero, idf_Wd', idf_numS, cells_numS, numS_fold, idf_numI, cells_numI, numI_fold, Sp.av, Sp.cells, Sg.av, Sg.cells, Pt.av, Pt.cells, l3A, l3C]; rfl) ?_
        simp only [List.drop_succ_cons, List.drop_zero]
        refine AOPS.fcall (l3Of_fc p hp) rfl rfl rfl hb83 (by simp (disch := first|omega|(simp only[ln];omega)) [idf_Wd', idf_numS, cells_numS, numS_fold, idf_numI, cells_numI, numI_fold, Sp.av, Sp.cells, Sg.av, Sg.cells, Pt.av, Pt.cells, l3A, l3C]) (by simp (disch := first|omega|(simp only[ln];omega))) (by simp) ?_
        simp only [puts_some, updo]
        refine AOPS.all (by simp (disch := first|omega|(simp only[ln];omega)) [idf_Wd', idf_numS, cells_numS, numS_fold, idf_numI, cells_numI, numI_fold, Sp.av, Sp.cells, Sg.av, Sg.cells, Pt.av, Pt.cells, l3A, l3C]; rfl) ?_
        refine hK8 _ ?_
        refine AWP.seqk fun K9 hK9 => ?_
        refine AWP.seqk fun K10 hK10 => ?_
        have k1 := l3CmpX_fc p (ptS s.a) hp (pt3_ok _ _ _)
        rw [cmX_spot (good_a gs), (ptS_v (good_a gs)).1, (ptS_v (good_a gs)).2.1, (ptS_v (good_a gs)).2.2] at k1
        have k2 := l3CmpX_fc p (ptS s.b) hp (pt3_ok _ _ _)
        rw [cmX_spot (good_b gs), (ptS_v (good_b gs)).1, (ptS_v (good_b gs)).2.1, (ptS_v (good_b gs)).2.2] at k2
        have k3 := l3CmpY_fc p (ptS s.a) hp (pt3_ok _ _ _)
        rw [cmY_spot (good_a gs), (ptS_v (good_a gs)).1, (ptS_v (good_a gs)).2.1, (ptS_v (good_a gs)).2.2] at k3
        have k4 := l3CmpY_fc p (ptS s.b) hp (pt3_ok _ _ _)
        rw [cmY_spot (good_b gs), (ptS_v (good_b gs)).1, (ptS_v (good_b gs)).2.1, (ptS_v (good_b gs)).2.2] at k4
        have k5 := l3Orient_fc (ptS s.a) (ptS s.b) p (pt3_ok _ _ _) (pt3_ok _ _ _) hp
        rw [det_spot gs, (ptS_v (good_a gs)).1, (ptS_v (good_a gs)).2.1, (ptS_v (good_a gs)).2.2, (ptS_v (good_b gs)).1, (ptS_v (good_b gs)).2.1, (ptS_v (good_b gs)).2.2] at k5
        rw [show sg3 (sdZ s p) = sdF s p from rfl] at k5
        have sb := sdF_b s p
        have eo := ovEq gs gp
        have eI : ovI s p = if ovX s.a p < 0 ∨ 0 < ovX s.b p then 2 else if s.a.x < s.b.x then -(sdF s p) else if ovY s.a p < 0 then 1 else if 0 < ovY s.b p then -1 else 0 := rfl
        have hax := good_ax gs
        rw [← eo] at eI
        generalize ovF s p = V at *
        generalize ovX s.a p = u1 at *
        generalize ovX s.b p = u2 at *
        generalize ovY s.a p = u3 at *
        generalize ovY s.b p = u4 at *
        by_cases q1 : u1 < 0
        · have d1 : decide (u1 < 0) = true := decide_eq_true q1
          refine AWP.region ?_
          refine AOPS.runk 2 (by simp (disch := first|omega|(simp only[ln];omega)) [List.take_succ_cons, List.take_zero, idf_Wd', idf_numS, cells_numS, numS_fold, idf_numI, cells_numI, numI_fold, Sp.av, Sp.cells, Sg.av, Sg.cells, Pt.av, Pt.cells, l3A, l3C, d1]; rfl) ?_
          simp only [List.drop_succ_cons, List.drop_zero]
          refine AOPS.fcall (k1) rfl rfl rfl hb124 (by simp (disch := first|omega|(simp only[ln];omega)) [idf_Wd', d1, idf_numS, cells_numS, numS_fold, idf_numI, cells_numI, numI_fold, Sp.av, Sp.cells, Sg.av, Sg.cells, Pt.av, Pt.cells, l3A, l3C]) (by simp (disch := first|omega|(simp only[ln];omega)) [d1]) (by simp) ?_
          simp only [puts_some, updo]
          refine AOPS.all (by simp (disch := first|omega|(simp only[ln];omega)) [idf_Wd', idf_numS, cells_numS, numS_fold, idf_numI, cells_numI, numI_fold, Sp.av, Sp.cells, Sg.av, Sg.cells, Pt.av, Pt.cells, l3A, l3C, d1]; rfl) ?_
          refine hK10 _ ?_
          refine cond_ok _ (by simp (disch := first|omega|(simp only[ln];omega)); rfl) (fun h33 => ?_) (fun h33 => ?_)
          · try simp only [decide_eq_true_eq, decide_eq_false_iff_not] at h33
            refine AWP.seqk fun K11 hK11 => ?_
            refine AWP.region (AOPS.all (by simp (disch := first|omega|(simp only[ln];omega)) [idf_Wd', idf_numS, cells_numS, numS_fold, idf_numI, cells_numI, numI_fold, Sp.av, Sp.cells, Sg.av, Sg.cells, Pt.av, Pt.cells, l3A, l3C]; rfl) ?_)
            refine hK11 _ ?_
            refine AWP.ret ?_
            exact hK _ _ _ _ trivial ((Fin.mk (by simp [aRes, aResL, aRes1, idf_Wd', idf_numS, cells_numS, numS_fold, idf_numI, cells_numI, numI_fold, Sp.av, Sp.cells, Sg.av, Sg.cells, Pt.av, Pt.cells, l3A, l3C]; try rfl)).cast (by rw [eI, if_pos (Or.inl q1)]))
          · simp at h33
        · have d1 : decide (u1 < 0) = false := decide_eq_false q1
          refine AWP.region ?_
          refine AOPS.runk 2 (by simp (disch := first|omega|(simp only[ln];omega)) [List.take_succ_cons, List.take_zero, idf_Wd', idf_numS, cells_numS, numS_fold, idf_numI, cells_numI, numI_fold, Sp.av, Sp.cells, Sg.av, Sg.cells, Pt.av, Pt.cells, l3A, l3C, d1]; rfl) ?_
          simp only [List.drop_succ_cons, List.drop_zero]
          refine AOPS.fcall (k1) rfl rfl rfl hb124 (by simp (disch := first|omega|(simp only[ln];omega)) [idf_Wd', d1, idf_numS, cells_numS, numS_fold, idf_numI, cells_numI, numI_fold, Sp.av, Sp.cells, Sg.av, Sg.cells, Pt.av, Pt.cells, l3A, l3C]) (by simp (disch := first|omega|(simp only[ln];omega)) [d1]) (by simp) ?_
          simp only [puts_some, updo]
          refine AOPS.runk 4 (by simp (disch := first|omega|(simp only[ln];omega)) [List.take_succ_cons, List.take_zero, idf_Wd', idf_numS, cells_numS, numS_fold, idf_numI, cells_numI, numI_fold, Sp.av, Sp.cells, Sg.av, Sg.cells, Pt.av, Pt.cells, l3A, l3C, d1]; rfl) ?_
          simp only [List.drop_succ_cons, List.drop_zero]
          refine AOPS.fcall (k2) rfl rfl rfl hb124 (by simp (disch := first|omega|(simp only[ln];omega)) [idf_Wd', d1, idf_numS, cells_numS, numS_fold, idf_numI, cells_numI, numI_fold, Sp.av, Sp.cells, Sg.av, Sg.cells, Pt.av, Pt.cells, l3A, l3C]) (by simp (disch := first|omega|(simp only[ln];omega)) [d1]) (by simp) ?_
          simp only [puts_some, updo]
          refine AOPS.all (by simp (disch := first|omega|(simp only[ln];omega)) [idf_Wd', idf_numS, cells_numS, numS_fold, idf_numI, cells_numI, numI_fold, Sp.av, Sp.cells, Sg.av, Sg.cells, Pt.av, Pt.cells, l3A, l3C, d1]; rfl) ?_
          refine hK10 _ ?_
          refine cond_ok (decide (0 < u2)) (by simp (disch := first|omega|(simp only[ln];omega))) (fun h33 => ?_) (fun h33 => ?_)
          · try simp only [decide_eq_true_eq, decide_eq_false_iff_not] at h33
            refine AWP.seqk fun K12 hK12 => ?_
            refine AWP.region (AOPS.all (by simp (disch := first|omega|(simp only[ln];omega)) [idf_Wd', idf_numS, cells_numS, numS_fold, idf_numI, cells_numI, numI_fold, Sp.av, Sp.cells, Sg.av, Sg.cells, Pt.av, Pt.cells, l3A, l3C]; rfl) ?_)
            refine hK12 _ ?_
            refine AWP.ret ?_
            exact hK _ _ _ _ trivial ((Fin.mk (by simp [aRes, aResL, aRes1, idf_Wd', idf_numS, cells_numS, numS_fold, idf_numI, cells_numI, numI_fold, Sp.av, Sp.cells, Sg.av, Sg.cells, Pt.av, Pt.cells, l3A, l3C]; try rfl)).cast (by rw [eI, if_pos (Or.inr h33)]))
          · try simp only [decide_eq_true_eq, decide_eq_false_iff_not] at h33
            have q2 : ¬ (u1 < 0 ∨ 0 < u2) := by omega
            rw [if_neg q2] at eI
            refine AWP.skip ?_
            refine hK9 _ ?_
            refine AWP.seqk fun K13 hK13 => ?_
            refine AWP.seqk fun K14 hK14 => ?_
            refine AWP.region (AOPS.all (by simp (disch := first|omega|(simp only[ln];omega)) [idf_Wd', idf_numS, cells_numS, numS_fold, idf_numI, cells_numI, numI_fold, Sp.av, Sp.cells, Sg.av, Sg.cells, Pt.av, Pt.cells, l3A, l3C]; rfl) ?_)
            refine hK14 _ ?_
            refine cond_ok (decide (s.a.x = s.b.x)) (by simp (disch := first|omega|(simp only[ln];omega)) [beqd]) (fun h40 => ?_) (fun h40 => ?_)
            · try simp only [decide_eq_true_eq, decide_eq_false_iff_not] at h40
              rw [if_neg (by omega)] at eI
              refine AWP.seqk fun K15 hK15 => ?_
              refine AWP.seqk fun K16 hK16 => ?_
              refine AWP.region ?_
              refine AOPS.runk 2 (by simp (disch := first|omega|(simp only[ln];omega)) [List.take_succ_cons, List.take_zero, idf_Wd', idf_numS, cells_numS, numS_fold, idf_numI, cells_numI, numI_fold, Sp.av, Sp.cells, Sg.av, Sg.cells, Pt.av, Pt.cells, l3A, l3C]; rfl) ?_
              simp only [List.drop_succ_cons, List.drop_zero]
              refine AOPS.fcall (k3) rfl rfl rfl hb125 (by simp (disch := first|omega|(simp only[ln];omega)) [idf_Wd', idf_numS, cells_numS, numS_fold, idf_numI, cells_numI, numI_fold, Sp.av, Sp.cells, Sg.av, Sg.cells, Pt.av, Pt.cells, l3A, l3C]) (by simp (disch := first|omega|(simp only[ln];omega))) (by simp) ?_
              simp only [puts_some, updo]
              refine AOPS.all (by simp (disch := first|omega|(simp only[ln];omega)) [idf_Wd', idf_numS, cells_numS, numS_fold, idf_numI, cells_numI, numI_fold, Sp.av, Sp.cells, Sg.av, Sg.cells, Pt.av, Pt.cells, l3A, l3C]; rfl) ?_
              refine hK16 _ ?_
              refine cond_ok (decide (u3 < 0)) (by simp (disch := first|omega|(simp only[ln];omega))) (fun h44 => ?_) (fun h44 => ?_)
              · try simp only [decide_eq_true_eq, decide_eq_false_iff_not] at h44
                refine AWP.seqk fun K17 hK17 => ?_
                refine AWP.region (AOPS.all (by simp (disch := first|omega|(simp only[ln];omega)) [idf_Wd', idf_numS, cells_numS, numS_fold, idf_numI, cells_numI, numI_fold, Sp.av, Sp.cells, Sg.av, Sg.cells, Pt.av, Pt.cells, l3A, l3C]; rfl) ?_)
                refine hK17 _ ?_
                refine AWP.ret ?_
                exact hK _ _ _ _ trivial ((Fin.mk (by simp [aRes, aResL, aRes1, idf_Wd', idf_numS, cells_numS, numS_fold, idf_numI, cells_numI, numI_fold, Sp.av, Sp.cells, Sg.av, Sg.cells, Pt.av, Pt.cells, l3A, l3C]; try rfl)).cast (by rw [eI, if_pos h44]))
              · try simp only [decide_eq_true_eq, decide_eq_false_iff_not] at h44
                rw [if_neg h44] at eI
                refine AWP.skip ?_
                refine hK15 _ ?_
                refine AWP.seqk fun K18 hK18 => ?_
                refine AWP.seqk fun K19 hK19 => ?_
                refine AWP.region ?_
                refine AOPS.runk 2 (by simp (disch := first|omega|(simp only[ln];omega)) [List.take_succ_cons, List.take_zero, idf_Wd', idf_numS, cells_numS, numS_fold, idf_numI, cells_numI, numI_fold, Sp.av, Sp.cells, Sg.av, Sg.cells, Pt.av, Pt.cells, l3A, l3C]; rfl) ?_
                simp only [List.drop_succ_cons, List.drop_zero]
                refine AOPS.fcall (k4) rfl rfl rfl hb125 (by simp (disch := first|omega|(simp only[ln];omega)) [idf_Wd', idf_numS, cells_numS, numS_fold, idf_numI, cells_numI, numI_fold, Sp.av, Sp.cells, Sg.av, Sg.cells, Pt.av, Pt.cells, l3A, l3C]) (by simp (disch := first|omega|(simp only[ln];omega))) (by simp) ?_
                simp only [puts_some, updo]
                refine AOPS.all (by simp (disch := first|omega|(simp only[ln];omega)) [idf_Wd', idf_numS, cells_numS, numS_fold, idf_numI, cells_numI, numI_fold, Sp.av, Sp.cells, Sg.av, Sg.cells, Pt.av, Pt.cells, l3A, l3C]; rfl) ?_
                refine hK19 _ ?_
                refine cond_ok (decide (0 < u4)) (by simp (disch := first|omega|(simp only[ln];omega))) (fun h48 => ?_) (fun h48 => ?_)
                · try simp only [decide_eq_true_eq, decide_eq_false_iff_not] at h48
                  refine AWP.seqk fun K20 hK20 => ?_
                  refine AWP.region (AOPS.all (by simp (disch := first|omega|(simp only[ln];omega)) [idf_Wd', idf_numS, cells_numS, numS_fold, idf_numI, cells_numI, numI_fold, Sp.av, Sp.cells, Sg.av, Sg.cells, Pt.av, Pt.cells, l3A, l3C]; rfl) ?_)
                  refine hK20 _ ?_
                  refine AWP.ret ?_
                  exact hK _ _ _ _ trivial ((Fin.mk (by simp [aRes, aResL, aRes1, idf_Wd', idf_numS, cells_numS, numS_fold, idf_numI, cells_numI, numI_fold, Sp.av, Sp.cells, Sg.av, Sg.cells, Pt.av, Pt.cells, l3A, l3C]; try rfl)).cast (by rw [eI, if_pos h48]))
                · try simp only [decide_eq_true_eq, decide_eq_false_iff_not] at h48
                  rw [if_neg h48] at eI
                  refine AWP.skip ?_
                  refine hK18 _ ?_
                  refine AWP.seqk fun K21 hK21 => ?_
                  refine AWP.region (AOPS.all (by simp (disch := first|omega|(simp only[ln];omega)) [idf_Wd', idf_numS, cells_numS, numS_fold, idf_numI, cells_numI, numI_fold, Sp.av, Sp.cells, Sg.av, Sg.cells, Pt.av, Pt.cells, l3A, l3C]; rfl) ?_)
                  refine hK21 _ ?_
                  refine AWP.ret ?_
                  exact hK _ _ _ _ trivial ((Fin.mk (by simp [aRes, aResL, aRes1, idf_Wd', idf_numS, cells_numS, numS_fold, idf_numI, cells_numI, numI_fold, Sp.av, Sp.cells, Sg.av, Sg.cells, Pt.av, Pt.cells, l3A, l3C]; try rfl)).cast (by rw [eI]))
            · try simp only [decide_eq_true_eq, decide_eq_false_iff_not] at h40
              rw [if_pos (by omega)] at eI
              refine AWP.skip ?_
              refine hK13 _ ?_
              refine AWP.seqk fun K22 hK22 => ?_
              refine AWP.region ?_
              refine AOPS.runk 3 (by simp (disch := first|omega|(simp only[ln];omega)) [List.take_succ_cons, List.take_zero, idf_Wd', idf_numS, cells_numS, numS_fold, idf_numI, cells_numI, numI_fold, Sp.av, Sp.cells, Sg.av, Sg.cells, Pt.av, Pt.cells, l3A, l3C]; rfl) ?_
              simp only [List.drop_succ_cons, List.drop_zero]
              refine AOPS.fcall (k5) rfl rfl rfl hb126 (by simp (disch := first|omega|(simp only[ln];omega)) [idf_Wd', idf_numS, cells_numS, numS_fold, idf_numI, cells_numI, numI_fold, Sp.av, Sp.cells, Sg.av, Sg.cells, Pt.av, Pt.cells, l3A, l3C]) (by simp (disch := first|omega|(simp only[ln];omega))) (by simp) ?_
              simp only [puts_some, updo]
              refine AOPS.all (by simp (disch := first|omega|(simp only[ln];omega)) [idf_Wd', idf_numS, cells_numS, numS_fold, idf_numI, cells_numI, numI_fold, Sp.av, Sp.cells, Sg.av, Sg.cells, Pt.av, Pt.cells, l3A, l3C]; rfl) ?_
              refine hK22 _ ?_
              refine AWP.ret ?_
              exact hK _ _ _ _ trivial ((Fin.mk (by simp [aRes, aResL, aRes1, idf_Wd', idf_numS, cells_numS, numS_fold, idf_numI, cells_numI, numI_fold, Sp.av, Sp.cells, Sg.av, Sg.cells, Pt.av, Pt.cells, l3A, l3C]; try rfl)).cast (by rw [eI]))

set_option maxHeartbeats 8000000 in
theorem drawSideOf_ac (l : List Int) (H : Heap) (nx : Nat) (dl : Dig 256 l) (hl : l.length ≤ 1048576) (hd : ∀ i q, H i = some q → i < nx) : ACall Try.prog 120 [Wd .u8 l] H nx (fun r H' nx' => (∃ (s : Sg) (p : Pt), s.ok ∧ p.ok ∧ r = .tup [.agg [.int .i64 (s).a.x, .int .i64 (s).a.y, .int .i64 (s).b.x, .int .i64 (s).b.y], .agg [.int .u64 (p).x.a, .int .u64 (p).x.b, .int .u64 (p).x.c, .int .u64 (p).x.d, .int .u64 (p).y.a, .int .u64 (p).y.b, .int .u64 (p).y.c, .int .u64 (p).y.d, .int .u64 (p).w.a, .int .u64 (p).w.b, .int .u64 (p).w.c, .int .u64 (p).w.d]]) ∧ H' = H ∧ nx ≤ nx') := by
  refine ACall.body Try.func120 rfl 29 rfl fun K hK => ?_
  refine AWP.seqk fun K1 hK1 => ?_
  refine AWP.region (AOPS.all (by simp (disch := first|omega|(simp only[ln];omega)) [idf_Wd', Sp.av, Sp.cells, Sg.av, Sg.cells]; rfl) ?_)
  refine hK1 _ ?_
  refine AWP.seqk fun K2 hK2 => ?_
  refine AWP.region ?_
  refine AOPS.runk 1 (by simp (disch := first|omega|(simp only[ln];omega)) [List.take_succ_cons, List.take_zero, idf_Wd', Sp.av, Sp.cells, Sg.av, Sg.cells]; rfl) ?_
  simp only [List.drop_succ_cons, List.drop_zero]
  refine AOPS.old fun hold1 => ?_
  refine AOPS.acall (open_ac l _ _) rfl rfl rfl hb76 (by simp (disch := first|omega|(simp only[ln];omega)) [idf_Wd', Sp.av, Sp.cells, Sg.av, Sg.cells]) (by simp (disch := first|omega|(simp only[ln];omega))) (by simp) ?_
  rintro _ _ nx1 ⟨rfl, rfl, rfl⟩
  clear hold1
  obtain ⟨id, hid⟩ : ∃ id, id = nx + 1 + 1 := ⟨_, rfl⟩
  obtain ⟨p, hH⟩ : ∃ p : Nat, p = 0 := ⟨_, rfl⟩
  have hp : p ≤ l.length := by omega
  simp only []
  rw [← hid]
  simp only [puts_some, updo]
  refine AOPS.all (by simp (disch := first|omega|(simp only[ln];omega)) [idf_Wd', Sp.av, Sp.cells, Sg.av, Sg.cells]; rfl) ?_
  refine hK2 _ ?_
  refine AWP.seqk fun K3 hK3 => ?_
  refine AWP.region ?_
  refine AOPS.runk 1 (by simp (disch := first|omega|(simp only[ln];omega)) [List.take_succ_cons, List.take_zero, idf_Wd', Sp.av, Sp.cells, Sg.av, Sg.cells]; rfl) ?_
  simp only [List.drop_succ_cons, List.drop_zero]
  refine AOPS.old fun hold1 => ?_
  refine AOPS.acall (seg_ac l p id _ _ dl hl hp (by simp (disch := omega) [hH]) hold1) rfl rfl rfl hb128 (by simp (disch := first|omega|(simp only[ln];omega)) [idf_Wd', Sp.av, Sp.cells, Sg.av, Sg.cells]) (by simp (disch := first|omega|(simp only[ln];omega))) (by simp) ?_
  rintro _ _ nx2 ⟨⟨S, rfl, So⟩, ⟨p2, hp2, rfl⟩, hnx2⟩
  try simp only [] at hnx2
  clear hold1
  simp only [puts_some, updo]
  refine AOPS.all (by simp (disch := first|omega|(simp only[ln];omega)) [idf_Wd', Sp.av, Sp.cells, Sg.av, Sg.cells]; rfl) ?_
  refine hK3 _ ?_
  refine AWP.seqk fun K4 hK4 => ?_
  refine AWP.seqk fun K5 hK5 => ?_
  refine AWP.region ?_
  refine AOPS.runk 1 (by simp (disch := first|omega|(simp only[ln];omega)) [List.take_succ_cons, List.take_zero, idf_Wd', Sp.av, Sp.cells, Sg.av, Sg.cells]; rfl) ?_
  simp only [List.drop_succ_cons, List.drop_zero]
  refine AOPS.old fun hold1 => ?_
  refine AOPS.acall (once_ac 4 (by omega) (by omega) l p2 id _ _ dl hl hp2 (by simp (disch := omega) [hH]) hold1) rfl rfl rfl hb78 (by simp (disch := first|omega|(simp only[ln];omega)) [idf_Wd', Sp.av, Sp.cells, Sg.av, Sg.cells]) (by simp (disch := first|omega|(simp only[ln];omega))) (by simp) ?_
  rintro _ _ nx3 ⟨⟨b, rfl⟩, ⟨p3, hp3, rfl⟩, hnx3⟩
  try simp only [] at hnx3
  clear hold1
  simp only [puts_some, updo]
  refine AOPS.nil ?_
  refine hK5 _ ?_
  refine cond_ok (b) (by simp (disch := first|omega|(simp only[ln];omega))) (fun h13 => ?_) (fun h13 => ?_)
  · try simp only [decide_eq_true_eq, decide_eq_false_iff_not] at h13
    refine AWP.seqk fun K6 hK6 => ?_
    obtain ⟨⟨sax0, sax1⟩, ⟨say0, say1⟩⟩ := So.1
    obtain ⟨⟨sbx0, sbx1⟩, ⟨sby0, sby1⟩⟩ := So.2
    refine AWP.old fun hold => ?_
    refine AWP.draw 11 Try.checked.mixed (by kernel_rfl) (by simp) ?_
    simp only [List.take_succ_cons, List.take_zero, List.drop_succ_cons, List.drop_zero]
    refine DP.runFk 2 (by simp (disch := first|omega|(simp only[ln];omega)) [runDf.eq_def, runF1, runF2, stepF.eq_def, updo.eq_def, hupo.eq_def, opSto1.eq_def, List.take_succ_cons, List.take_zero, idf_Wd', Sp.av, Sp.cells, Sg.av, Sg.cells, Pt.av, Pt.cells]; rfl) fun fs7 hfs7 => ?_
    replace hfs7 : fs7.length = 2 := hfs7.trans rfl
    simp only [List.drop_succ_cons, List.drop_zero]
    refine DP.fcall (pointOfS_fc S.a.x S.a.y sax0 sax1 say0 say1) rfl rfl rfl hb165 (by simp (disch := first|omega|(simp only[ln];omega)) [idf_Wd', Pt.av, Pt.cells, Sp.av, Sp.cells, Sg.av, Sg.cells]) (by simp (disch := first|omega|(simp only[ln];omega)) [Pt.av, Pt.cells]) (by simp) ?_
    simp only [updo]
    refine DP.runFk 2 (by simp (disch := first|omega|(simp only[ln];omega)) [runDf.eq_def, runF1, runF2, stepF.eq_def, updo.eq_def, hupo.eq_def, opSto1.eq_def, List.take_succ_cons, List.take_zero, idf_Wd', Sp.av, Sp.cells, Sg.av, Sg.cells, Pt.av, Pt.cells]; rfl) fun fs8 hfs8 => ?_
    replace hfs8 : fs8.length = 2 := hfs8.trans rfl
    simp only [List.drop_succ_cons, List.drop_zero]
    refine DP.fcall (pointOfS_fc S.b.x S.b.y sbx0 sbx1 sby0 sby1) rfl rfl rfl hb165 (by simp (disch := first|omega|(simp only[ln];omega)) [idf_Wd', Pt.av, Pt.cells, Sp.av, Sp.cells, Sg.av, Sg.cells]) (by simp (disch := first|omega|(simp only[ln];omega)) [Pt.av, Pt.cells]) (by simp) ?_
    simp only [updo]
    refine DP.fcall (middleS_fc (pt3 S.a.x S.a.y 1) (pt3 S.b.x S.b.y 1) (pt3_ok _ _ _) (pt3_ok _ _ _)) rfl rfl rfl hb30 (by simp (disch := first|omega|(simp only[ln];omega)) [idf_Wd', Pt.av, Pt.cells, Sp.av, Sp.cells, Sg.av, Sg.cells]) (by simp (disch := first|omega|(simp only[ln];omega)) [Pt.av, Pt.cells]) (by simp) ?_
    simp only [updo]
    refine DP.runFk 2 (by simp (disch := first|omega|(simp only[ln];omega)) [runDf.eq_def, runF1, runF2, stepF.eq_def, updo.eq_def, hupo.eq_def, opSto1.eq_def, List.take_succ_cons, List.take_zero, idf_Wd', Sp.av, Sp.cells, Sg.av, Sg.cells, Pt.av, Pt.cells]; rfl) fun fs9 hfs9 => ?_
    replace hfs9 : fs9.length = 2 := hfs9.trans rfl
    simp only [List.drop_succ_cons, List.drop_zero]
    refine DP.runF1q (by simp (disch := first|omega|(simp only[ln];omega)) [runDf.eq_def, runF1, runF2, stepF.eq_def, updo.eq_def, hupo.eq_def, opSto1.eq_def, idf_Wd', Sp.av, Sp.cells, Sg.av, Sg.cells, Pt.av, Pt.cells]; rfl) fun fq10 hfq10 => ?_
    simp [qids, asksB, Op.operands, topId] at hfq10
    simp only [updo]
    refine DP.runFk 1 (by simp (disch := first|omega|(simp only[ln];omega)) [runDf.eq_def, runF1, runF2, stepF.eq_def, updo.eq_def, hupo.eq_def, opSto1.eq_def, List.take_succ_cons, List.take_zero, idf_Wd', Sp.av, Sp.cells, Sg.av, Sg.cells, Pt.av, Pt.cells]; rfl) fun fs11 hfs11 => ?_
    replace hfs11 : fs11.length = 1 := hfs11.trans rfl
    simp only [List.drop_succ_cons, List.drop_zero]
    refine DQ.sto1 (m := 11) [9] _ (by simp (disch := first|omega|(simp only[ln];omega)) [runDf.eq_def, runF1, runF2, stepF.eq_def, updo.eq_def, hupo.eq_def, opSto1.eq_def, idf_Wd', Sp.av, Sp.cells, Sg.av, Sg.cells, Pt.av, Pt.cells]; rfl) rfl (by simp only [List.length_append, List.length_cons, List.length_nil, hfs7, hfs8, hfs9, hfs11]; omega) (by kernel_rfl) (by intro k f hk hex; simp only [List.mem_cons, List.not_mem_nil, or_false] at hex; rcases hex with rfl <;> (simp [List.getElem?_append, hfs7, hfs8, hfs9, hfs11] at hk; subst hk; refine ⟨?_, by first | omega | (simp; done) | (simp; omega)⟩; simp [qids, asksB, Op.operands, Call.operands, topId, numS, numI, Wd, hfq10]; try omega)) ?_
    try simp only []
    refine DQ.asg1 _ rfl rfl ?_
    simp only [updo]
    refine hK6 _ ?_
    refine AWP.seqk fun K12 hK12 => ?_
    refine AWP.old fun hold => ?_
    refine AWP.draw 2 Try.checked.mixed (by kernel_rfl) (by simp) ?_
    simp only [List.take_succ_cons, List.take_zero, List.drop_succ_cons, List.drop_zero]
    refine DP.runFk 1 (by simp (disch := first|omega|(simp only[ln];omega)) [runDf.eq_def, runF1, runF2, stepF.eq_def, updo.eq_def, hupo.eq_def, opSto1.eq_def, List.take_succ_cons, List.take_zero, idf_Wd', Sp.av, Sp.cells, Sg.av, Sg.cells]; rfl) fun fs13 hfs13 => ?_
    replace hfs13 : fs13.length = 1 := hfs13.trans rfl
    simp only [List.drop_succ_cons, List.drop_zero]
    refine DP.runF1q (by simp (disch := first|omega|(simp only[ln];omega)) [runDf.eq_def, runF1, runF2, stepF.eq_def, updo.eq_def, hupo.eq_def, opSto1.eq_def, idf_Wd', Sp.av, Sp.cells, Sg.av, Sg.cells]; rfl) fun fq14 hfq14 => ?_
    simp [qids, asksB, Op.operands, topId] at hfq14
    simp only [updo]
    refine DQ.sto1 (m := 2) [1] _ (by simp (disch := first|omega|(simp only[ln];omega)) [runDf.eq_def, runF1, runF2, stepF.eq_def, updo.eq_def, hupo.eq_def, opSto1.eq_def, idf_Wd', Sp.av, Sp.cells, Sg.av, Sg.cells]; rfl) rfl (by simp only [List.length_append, List.length_cons, List.length_nil, hfs13]; omega) (by kernel_rfl) (by intro k f hk hex; simp only [List.mem_cons, List.not_mem_nil, or_false] at hex; rcases hex with rfl <;> (simp [List.getElem?_append, hfs13] at hk; subst hk; refine ⟨?_, by first | omega | (simp; done) | (simp; omega)⟩; simp [qids, asksB, Op.operands, Call.operands, topId, numS, numI, Wd, hfq14]; try omega)) ?_
    try simp only []
    refine DQ.sto1 (m := 2) [] _ (by simp (disch := first|omega|(simp only[ln];omega)) [runDf.eq_def, runF1, runF2, stepF.eq_def, updo.eq_def, hupo.eq_def, opSto1.eq_def, idf_Wd', Sp.av, Sp.cells, Sg.av, Sg.cells]; rfl) rfl (by simp only [List.length_append, List.length_cons, List.length_nil, hfs13]; omega) (by kernel_rfl) (by intro k f hk hex; simp only [List.not_mem_nil] at hex) ?_
    try simp only []
    refine hK12 _ ?_
    refine AWP.ret ?_
    exact hK _ _ _ _ _ trivial ((Fin.mk (r := .tup [.agg [.int .i64 (S).a.x, .int .i64 (S).a.y, .int .i64 (S).b.x, .int .i64 (S).b.y], .agg [.int .u64 (midP (pt3 S.a.x S.a.y 1) (pt3 S.b.x S.b.y 1)).x.a, .int .u64 (midP (pt3 S.a.x S.a.y 1) (pt3 S.b.x S.b.y 1)).x.b, .int .u64 (midP (pt3 S.a.x S.a.y 1) (pt3 S.b.x S.b.y 1)).x.c, .int .u64 (midP (pt3 S.a.x S.a.y 1) (pt3 S.b.x S.b.y 1)).x.d, .int .u64 (midP (pt3 S.a.x S.a.y 1) (pt3 S.b.x S.b.y 1)).y.a, .int .u64 (midP (pt3 S.a.x S.a.y 1) (pt3 S.b.x S.b.y 1)).y.b, .int .u64 (midP (pt3 S.a.x S.a.y 1) (pt3 S.b.x S.b.y 1)).y.c, .int .u64 (midP (pt3 S.a.x S.a.y 1) (pt3 S.b.x S.b.y 1)).y.d, .int .u64 (midP (pt3 S.a.x S.a.y 1) (pt3 S.b.x S.b.y 1)).w.a, .int .u64 (midP (pt3 S.a.x S.a.y 1) (pt3 S.b.x S.b.y 1)).w.b, .int .u64 (midP (pt3 S.a.x S.a.y 1) (pt3 S.b.x S.b.y 1)).w.c, .int .u64 (midP (pt3 S.a.x S.a.y 1) (pt3 S.b.x S.b.y 1)).w.d]]) (by simp (disch := omega) [aRes, aResL, aRes1, idf_Wd', Sp.av, Sp.cells, Sg.av, Sg.cells])).restr (fun i => decide (i < nx))) (⟨⟨S, midP (pt3 S.a.x S.a.y 1) (pt3 S.b.x S.b.y 1), So, midP_ok _ _, rfl⟩, by simp (disch := first | omega | (simp; done) | (simp; omega)) [hrestr_in, hrestr_out, hrestr_all hd, hupd_same], by first | omega | (simp at *; omega)⟩)
  · try simp only [decide_eq_true_eq, decide_eq_false_iff_not] at h13
    refine AWP.skip ?_
    refine hK4 _ ?_
    refine AWP.seqk fun K15 hK15 => ?_
    refine AWP.any Try.checked.mixed ?_
    refine AAny.step [0, 1] (by kernel_rfl) (by simp) ?_
    intro i hi o ho
    simp only [List.mem_cons, List.not_mem_nil, or_false] at hi
    rcases hi with rfl | rfl
    · simp only [List.getElem?_toArray, List.getElem?_cons_zero, List.getElem?_cons_succ, Option.some.injEq] at ho
      subst ho
      refine AOPS.all (by simp (disch := first|omega|(simp only[ln];omega)) [idf_Wd', Sp.av, Sp.cells, Sg.av, Sg.cells]; rfl) ?_
      refine AAny.step [1] (by kernel_rfl) (by simp) ?_
      intro i hi o ho
      simp only [List.mem_cons, List.not_mem_nil, or_false] at hi
      subst hi
      · simp only [List.getElem?_toArray, List.getElem?_cons_zero, List.getElem?_cons_succ, Option.some.injEq] at ho
        subst ho
        refine AOPS.all (by simp (disch := first|omega|(simp only[ln];omega)) [idf_Wd', Sp.av, Sp.cells, Sg.av, Sg.cells]; rfl) ?_
        refine AAny.step [2] (by kernel_rfl) (by simp) ?_
        intro i hi o ho
        simp only [List.mem_cons, List.not_mem_nil, or_false] at hi
        subst hi
        · simp only [List.getElem?_toArray, List.getElem?_cons_zero, List.getElem?_cons_succ, Option.some.injEq] at ho
          subst ho
          refine AOPS.old fun hold2 => ?_
          refine AOPS.acall (point_ac l p3 id _ _ dl hl hp3 (by simp (disch := omega) [hH]) hold2) rfl rfl rfl hb77 (by simp (disch := first|omega|(simp only[ln];omega)) [idf_Wd', Sp.av, Sp.cells, Sg.av, Sg.cells]) (by simp (disch := first|omega|(simp only[ln];omega))) (by simp) ?_
          rintro _ _ nx4 ⟨⟨P, rfl, Po⟩, ⟨p4, hp4, rfl⟩, hnx4⟩
          try simp only [] at hnx4
          clear hold2
          simp only [puts_some, updo]
          refine AOPS.nil ?_
          refine AAny.step [3] (by kernel_rfl) (by simp) ?_
          intro i hi o ho
          simp only [List.mem_cons, List.not_mem_nil, or_false] at hi
          subst hi
          · simp only [List.getElem?_toArray, List.getElem?_cons_zero, List.getElem?_cons_succ, Option.some.injEq] at ho
            subst ho
            refine AOPS.all (by simp (disch := first|omega|(simp only[ln];omega)) [idf_Wd', Sp.av, Sp.cells, Sg.av, Sg.cells]; rfl) ?_
            refine AAny.step [4] (by kernel_rfl) (by simp) ?_
            intro i hi o ho
            simp only [List.mem_cons, List.not_mem_nil, or_false] at hi
            subst hi
            · simp only [List.getElem?_toArray, List.getElem?_cons_zero, List.getElem?_cons_succ, Option.some.injEq] at ho
              subst ho
              refine AOPS.all (by simp (disch := first|omega|(simp only[ln];omega)) [idf_Wd', Sp.av, Sp.cells, Sg.av, Sg.cells]; rfl) ?_
              refine AAny.done (by kernel_rfl) ?_
              refine hK15 _ ?_
              refine AWP.ret ?_
              exact hK _ _ _ _ _ trivial ((Fin.mk (r := .tup [.agg [.int .i64 (S).a.x, .int .i64 (S).a.y, .int .i64 (S).b.x, .int .i64 (S).b.y], .agg [.int .u64 (P).x.a, .int .u64 (P).x.b, .int .u64 (P).x.c, .int .u64 (P).x.d, .int .u64 (P).y.a, .int .u64 (P).y.b, .int .u64 (P).y.c, .int .u64 (P).y.d, .int .u64 (P).w.a, .int .u64 (P).w.b, .int .u64 (P).w.c, .int .u64 (P).w.d]]) (by simp (disch := omega) [aRes, aResL, aRes1, idf_Wd', Sp.av, Sp.cells, Sg.av, Sg.cells])).restr (fun i => decide (i < nx))) (⟨⟨S, P, So, Po, rfl⟩, by simp (disch := first | omega | (simp; done) | (simp; omega)) [hrestr_in, hrestr_out, hrestr_all hd, hupd_same], by first | omega | (simp at *; omega)⟩)
    · simp only [List.getElem?_toArray, List.getElem?_cons_zero, List.getElem?_cons_succ, Option.some.injEq] at ho
      subst ho
      refine AOPS.all (by simp (disch := first|omega|(simp only[ln];omega)) [idf_Wd', Sp.av, Sp.cells, Sg.av, Sg.cells]; rfl) ?_
      refine AAny.step [0, 2] (by kernel_rfl) (by simp) ?_
      intro i hi o ho
      simp only [List.mem_cons, List.not_mem_nil, or_false] at hi
      rcases hi with rfl | rfl
      · simp only [List.getElem?_toArray, List.getElem?_cons_zero, List.getElem?_cons_succ, Option.some.injEq] at ho
        subst ho
        refine AOPS.all (by simp (disch := first|omega|(simp only[ln];omega)) [idf_Wd', Sp.av, Sp.cells, Sg.av, Sg.cells]; rfl) ?_
        refine AAny.step [2] (by kernel_rfl) (by simp) ?_
        intro i hi o ho
        simp only [List.mem_cons, List.not_mem_nil, or_false] at hi
        subst hi
        · simp only [List.getElem?_toArray, List.getElem?_cons_zero, List.getElem?_cons_succ, Option.some.injEq] at ho
          subst ho
          refine AOPS.old fun hold2 => ?_
          refine AOPS.acall (point_ac l p3 id _ _ dl hl hp3 (by simp (disch := omega) [hH]) hold2) rfl rfl rfl hb77 (by simp (disch := first|omega|(simp only[ln];omega)) [idf_Wd', Sp.av, Sp.cells, Sg.av, Sg.cells]) (by simp (disch := first|omega|(simp only[ln];omega))) (by simp) ?_
          rintro _ _ nx4 ⟨⟨P, rfl, Po⟩, ⟨p4, hp4, rfl⟩, hnx4⟩
          try simp only [] at hnx4
          clear hold2
          simp only [puts_some, updo]
          refine AOPS.nil ?_
          refine AAny.step [3] (by kernel_rfl) (by simp) ?_
          intro i hi o ho
          simp only [List.mem_cons, List.not_mem_nil, or_false] at hi
          subst hi
          · simp only [List.getElem?_toArray, List.getElem?_cons_zero, List.getElem?_cons_succ, Option.some.injEq] at ho
            subst ho
            refine AOPS.all (by simp (disch := first|omega|(simp only[ln];omega)) [idf_Wd', Sp.av, Sp.cells, Sg.av, Sg.cells]; rfl) ?_
            refine AAny.step [4] (by kernel_rfl) (by simp) ?_
            intro i hi o ho
            simp only [List.mem_cons, List.not_mem_nil, or_false] at hi
            subst hi
            · simp only [List.getElem?_toArray, List.getElem?_cons_zero, List.getElem?_cons_succ, Option.some.injEq] at ho
              subst ho
              refine AOPS.all (by simp (disch := first|omega|(simp only[ln];omega)) [idf_Wd', Sp.av, Sp.cells, Sg.av, Sg.cells]; rfl) ?_
              refine AAny.done (by kernel_rfl) ?_
              refine hK15 _ ?_
              refine AWP.ret ?_
              exact hK _ _ _ _ _ trivial ((Fin.mk (r := .tup [.agg [.int .i64 (S).a.x, .int .i64 (S).a.y, .int .i64 (S).b.x, .int .i64 (S).b.y], .agg [.int .u64 (P).x.a, .int .u64 (P).x.b, .int .u64 (P).x.c, .int .u64 (P).x.d, .int .u64 (P).y.a, .int .u64 (P).y.b, .int .u64 (P).y.c, .int .u64 (P).y.d, .int .u64 (P).w.a, .int .u64 (P).w.b, .int .u64 (P).w.c, .int .u64 (P).w.d]]) (by simp (disch := omega) [aRes, aResL, aRes1, idf_Wd', Sp.av, Sp.cells, Sg.av, Sg.cells])).restr (fun i => decide (i < nx))) (⟨⟨S, P, So, Po, rfl⟩, by simp (disch := first | omega | (simp; done) | (simp; omega)) [hrestr_in, hrestr_out, hrestr_all hd, hupd_same], by first | omega | (simp at *; omega)⟩)
      · simp only [List.getElem?_toArray, List.getElem?_cons_zero, List.getElem?_cons_succ, Option.some.injEq] at ho
        subst ho
        refine AOPS.old fun hold2 => ?_
        refine AOPS.acall (point_ac l p3 id _ _ dl hl hp3 (by simp (disch := omega) [hH]) hold2) rfl rfl rfl hb77 (by simp (disch := first|omega|(simp only[ln];omega)) [idf_Wd', Sp.av, Sp.cells, Sg.av, Sg.cells]) (by simp (disch := first|omega|(simp only[ln];omega))) (by simp) ?_
        rintro _ _ nx4 ⟨⟨P, rfl, Po⟩, ⟨p4, hp4, rfl⟩, hnx4⟩
        try simp only [] at hnx4
        clear hold2
        simp only [puts_some, updo]
        refine AOPS.nil ?_
        refine AAny.step [0] (by kernel_rfl) (by simp) ?_
        intro i hi o ho
        simp only [List.mem_cons, List.not_mem_nil, or_false] at hi
        subst hi
        · simp only [List.getElem?_toArray, List.getElem?_cons_zero, List.getElem?_cons_succ, Option.some.injEq] at ho
          subst ho
          refine AOPS.all (by simp (disch := first|omega|(simp only[ln];omega)) [idf_Wd', Sp.av, Sp.cells, Sg.av, Sg.cells]; rfl) ?_
          refine AAny.step [3] (by kernel_rfl) (by simp) ?_
          intro i hi o ho
          simp only [List.mem_cons, List.not_mem_nil, or_false] at hi
          subst hi
          · simp only [List.getElem?_toArray, List.getElem?_cons_zero, List.getElem?_cons_succ, Option.some.injEq] at ho
            subst ho
            refine AOPS.all (by simp (disch := first|omega|(simp only[ln];omega)) [idf_Wd', Sp.av, Sp.cells, Sg.av, Sg.cells]; rfl) ?_
            refine AAny.step [4] (by kernel_rfl) (by simp) ?_
            intro i hi o ho
            simp only [List.mem_cons, List.not_mem_nil, or_false] at hi
            subst hi
            · simp only [List.getElem?_toArray, List.getElem?_cons_zero, List.getElem?_cons_succ, Option.some.injEq] at ho
              subst ho
              refine AOPS.all (by simp (disch := first|omega|(simp only[ln];omega)) [idf_Wd', Sp.av, Sp.cells, Sg.av, Sg.cells]; rfl) ?_
              refine AAny.done (by kernel_rfl) ?_
              refine hK15 _ ?_
              refine AWP.ret ?_
              exact hK _ _ _ _ _ trivial ((Fin.mk (r := .tup [.agg [.int .i64 (S).a.x, .int .i64 (S).a.y, .int .i64 (S).b.x, .int .i64 (S).b.y], .agg [.int .u64 (P).x.a, .int .u64 (P).x.b, .int .u64 (P).x.c, .int .u64 (P).x.d, .int .u64 (P).y.a, .int .u64 (P).y.b, .int .u64 (P).y.c, .int .u64 (P).y.d, .int .u64 (P).w.a, .int .u64 (P).w.b, .int .u64 (P).w.c, .int .u64 (P).w.d]]) (by simp (disch := omega) [aRes, aResL, aRes1, idf_Wd', Sp.av, Sp.cells, Sg.av, Sg.cells])).restr (fun i => decide (i < nx))) (⟨⟨S, P, So, Po, rfl⟩, by simp (disch := first | omega | (simp; done) | (simp; omega)) [hrestr_in, hrestr_out, hrestr_all hd, hupd_same], by first | omega | (simp at *; omega)⟩)

set_option maxHeartbeats 2000000 in
theorem drawOverAt_ac (l : List Int) (H : Heap) (nx : Nat) (dl : Dig 256 l) (hl : l.length ≤ 1048576) (hd : ∀ i q, H i = some q → i < nx) : ACall Try.prog 40 [Wd .u8 l] H nx (fun r H' nx' => (∃ (s : Sg) (p : Pt), s.ok ∧ p.ok ∧ r = .tup [.agg [.int .i64 (s).a.x, .int .i64 (s).a.y, .int .i64 (s).b.x, .int .i64 (s).b.y], .agg [.int .u64 (p).x.a, .int .u64 (p).x.b, .int .u64 (p).x.c, .int .u64 (p).x.d, .int .u64 (p).y.a, .int .u64 (p).y.b, .int .u64 (p).y.c, .int .u64 (p).y.d, .int .u64 (p).w.a, .int .u64 (p).w.b, .int .u64 (p).w.c, .int .u64 (p).w.d]]) ∧ H' = H ∧ nx ≤ nx') := by
  refine ACall.body Try.func40 rfl 8 rfl fun K hK => ?_
  refine AWP.seqk fun K1 hK1 => ?_
  refine AWP.region (AOPS.all (by simp (disch := first|omega|(simp only[ln];omega)) [idf_Wd', Sp.av, Sp.cells, Sg.av, Sg.cells]; rfl) ?_)
  refine hK1 _ ?_
  refine AWP.seqk fun K2 hK2 => ?_
  refine AWP.region ?_
  refine AOPS.runk 1 (by simp (disch := first|omega|(simp only[ln];omega)) [List.take_succ_cons, List.take_zero, idf_Wd', Sp.av, Sp.cells, Sg.av, Sg.cells]; rfl) ?_
  simp only [List.drop_succ_cons, List.drop_zero]
  refine AOPS.old fun hold1 => ?_
  refine AOPS.acall (drawSideOf_ac l _ _ dl hl hold1) rfl rfl rfl hb120 (by simp (disch := first|omega|(simp only[ln];omega)) [idf_Wd', Sp.av, Sp.cells, Sg.av, Sg.cells]) (by simp (disch := first|omega|(simp only[ln];omega))) (by simp) ?_
  rintro _ _ nx1 ⟨⟨S, P, So, Po, rfl⟩, rfl, hnx1⟩
  clear hold1
  simp only [puts_some, updo]
  refine AOPS.all (by simp (disch := first|omega|(simp only[ln];omega)) [idf_Wd', Sp.av, Sp.cells, Sg.av, Sg.cells]; rfl) ?_
  refine hK2 _ ?_
  refine AWP.ret ?_
  exact hK _ _ _ _ _ trivial ((Fin.mk (r := .tup [.agg [.int .i64 (S).a.x, .int .i64 (S).a.y, .int .i64 (S).b.x, .int .i64 (S).b.y], .agg [.int .u64 (P).x.a, .int .u64 (P).x.b, .int .u64 (P).x.c, .int .u64 (P).x.d, .int .u64 (P).y.a, .int .u64 (P).y.b, .int .u64 (P).y.c, .int .u64 (P).y.d, .int .u64 (P).w.a, .int .u64 (P).w.b, .int .u64 (P).w.c, .int .u64 (P).w.d]]) (by simp (disch := omega) [aRes, aResL, aRes1, idf_Wd', Sp.av, Sp.cells, Sg.av, Sg.cells])).restr (fun i => decide (i < nx))) (⟨⟨S, P, So, Po, rfl⟩, by simp (disch := first | omega | (simp; done) | (simp; omega)) [hrestr_in, hrestr_out, hrestr_all hd, hupd_same], by first | omega | (simp at *; omega)⟩)

set_option maxHeartbeats 8000000 in
theorem fnOver_fc (l : List Int) (dl : Dig 256 l) : FC Try.prog 7 [Wd .u8 l] (.bool true) := by
  refine FC.body Try.func7 rfl (by simp [idfL, idf, idfLL_iff, idf_Wd', idf_numS, cells_numS, numS_fold, idf_numI, cells_numI, numI_fold, Sp.av, Sp.cells, Sg.av, Sg.cells, Pt.av, Pt.cells]) (by simp [idfL, idf, idfLL_iff, idf_Wd', idf_numS, cells_numS, numS_fold, idf_numI, cells_numI, numI_fold, Sp.av, Sp.cells, Sg.av, Sg.cells, Pt.av, Pt.cells]) 46 rfl fun nx K hK => ?_
  refine AWP.seqk fun K1 hK1 => ?_
  refine AWP.region (AOPS.all (by simp (disch := first|omega|(simp only[ln];omega)) [idf_Wd', idf_numS, cells_numS, numS_fold, idf_numI, cells_numI, numI_fold, Sp.av, Sp.cells, Sg.av, Sg.cells, Pt.av, Pt.cells]; rfl) ?_)
  refine hK1 _ ?_
  refine AWP.seqk fun K2 hK2 => ?_
  refine AWP.seqk fun K3 hK3 => ?_
  refine AWP.region ?_
  refine AOPS.runk 1 (by simp (disch := first|omega|(simp only[ln];omega)) [List.take_succ_cons, List.take_zero, idf_Wd', idf_numS, cells_numS, numS_fold, idf_numI, cells_numI, numI_fold, Sp.av, Sp.cells, Sg.av, Sg.cells, Pt.av, Pt.cells]; rfl) ?_
  simp only [List.drop_succ_cons, List.drop_zero]
  refine AOPS.fcall (big_fc l) rfl rfl rfl hb15 (by simp (disch := first|omega|(simp only[ln];omega)) [idf_Wd', idf_numS, cells_numS, numS_fold, idf_numI, cells_numI, numI_fold, Sp.av, Sp.cells, Sg.av, Sg.cells, Pt.av, Pt.cells]) (by simp (disch := first|omega|(simp only[ln];omega))) (by simp) ?_
  simp only [puts_some, updo]
  refine AOPS.nil ?_
  refine hK3 _ ?_
  refine cond_ok (decide (1048576 < (l.length : Int))) (by simp (disch := first|omega|(simp only[ln];omega))) (fun h7 => ?_) (fun h7 => ?_)
  · try simp only [decide_eq_true_eq, decide_eq_false_iff_not] at h7
    refine AWP.seqk fun K4 hK4 => ?_
    refine AWP.region (AOPS.all (by simp (disch := first|omega|(simp only[ln];omega)) [idf_Wd', idf_numS, cells_numS, numS_fold, idf_numI, cells_numI, numI_fold, Sp.av, Sp.cells, Sg.av, Sg.cells, Pt.av, Pt.cells]; rfl) ?_)
    refine hK4 _ ?_
    refine AWP.ret ?_
    exact hK _ _ _ _ trivial (Fin.mk (by simp (disch := first|omega|(simp only[ln];omega)) [aRes, aResL, aRes1, idf_Wd', idf_numS, cells_numS, numS_fold, idf_numI, cells_numI, numI_fold, Sp.av, Sp.cells, Sg.av, Sg.cells, Pt.av, Pt.cells]))
  · try simp only [decide_eq_true_eq, decide_eq_false_iff_not] at h7
    have hl : l.length ≤ 1048576 := by omega
    refine AWP.skip ?_
    refine hK2 _ ?_
    refine AWP.seqk fun K5 hK5 => ?_
    refine AWP.region ?_
    refine AOPS.runk 1 (by simp (disch := first|omega|(simp only[ln];omega)) [List.take_succ_cons, List.take_zero, idf_Wd', idf_numS, cells_numS, numS_fold, idf_numI, cells_numI, numI_fold, Sp.av, Sp.cells, Sg.av, Sg.cells, Pt.av, Pt.cells]; rfl) ?_
    simp only [List.drop_succ_cons, List.drop_zero]
    refine AOPS.old fun hold1 => ?_
    refine AOPS.acall (drawOverAt_ac l _ _ dl hl hold1) rfl rfl rfl hb40 (by simp (disch := first|omega|(simp only[ln];omega)) [idf_Wd', idf_numS, cells_numS, numS_fold, idf_numI, cells_numI, numI_fold, Sp.av, Sp.cells, Sg.av, Sg.cells, Pt.av, Pt.cells]) (by simp (disch := first|omega|(simp only[ln];omega))) (by simp) ?_
    rintro _ _ nx1 ⟨⟨S, P, So, Po, rfl⟩, rfl, hnx1⟩
    clear hold1
    have o1 := overAtI_fc S P Po
    have o2 := overAtS_fc S P Po
    have o3 := onSegF_fc S P Po
    have o4 := sideOf_fc S P Po
    have z := ovF_z (s := S) (p := P)
    have hs := ovF_side (s := S) (p := P)
    have hb := ovF_b S P
    have hb2 := siF_b S P
    generalize ovF S P = V at *
    generalize siF S P = U at *
    simp only [puts_some, updo]
    refine AOPS.all (by simp (disch := first|omega|(simp only[ln];omega)) [idf_Wd', idf_numS, cells_numS, numS_fold, idf_numI, cells_numI, numI_fold, Sp.av, Sp.cells, Sg.av, Sg.cells, Pt.av, Pt.cells]; rfl) ?_
    refine hK5 _ ?_
    refine AWP.seqk fun K6 hK6 => ?_
    refine AWP.region ?_
    refine AOPS.runk 2 (by simp (disch := first|omega|(simp only[ln];omega)) [List.take_succ_cons, List.take_zero, idf_Wd', idf_numS, cells_numS, numS_fold, idf_numI, cells_numI, numI_fold, Sp.av, Sp.cells, Sg.av, Sg.cells, Pt.av, Pt.cells]; rfl) ?_
    simp only [List.drop_succ_cons, List.drop_zero]
    refine AOPS.fcall (o1) rfl rfl rfl hb41 (by simp (disch := first|omega|(simp only[ln];omega)) [idf_Wd', idf_numS, cells_numS, numS_fold, idf_numI, cells_numI, numI_fold, Sp.av, Sp.cells, Sg.av, Sg.cells, Pt.av, Pt.cells]) (by simp (disch := first|omega|(simp only[ln];omega))) (by simp) ?_
    simp only [puts_some, updo]
    refine AOPS.all (by simp (disch := first|omega|(simp only[ln];omega)) [idf_Wd', idf_numS, cells_numS, numS_fold, idf_numI, cells_numI, numI_fold, Sp.av, Sp.cells, Sg.av, Sg.cells, Pt.av, Pt.cells]; rfl) ?_
    refine hK6 _ ?_
    refine AWP.seqk fun K7 hK7 => ?_
    refine AWP.seqk fun K8 hK8 => ?_
    refine AWP.region ?_
    refine AOPS.runk 3 (by simp (disch := first|omega|(simp only[ln];omega)) [List.take_succ_cons, List.take_zero, idf_Wd', idf_numS, cells_numS, numS_fold, idf_numI, cells_numI, numI_fold, Sp.av, Sp.cells, Sg.av, Sg.cells, Pt.av, Pt.cells, z]; rfl) ?_
    simp only [List.drop_succ_cons, List.drop_zero]
    refine AOPS.fcall (o2) rfl rfl rfl hb42 (by simp (disch := first|omega|(simp only[ln];omega)) [idf_Wd', z, idf_numS, cells_numS, numS_fold, idf_numI, cells_numI, numI_fold, Sp.av, Sp.cells, Sg.av, Sg.cells, Pt.av, Pt.cells]) (by simp (disch := first|omega|(simp only[ln];omega)) [z]) (by simp) ?_
    simp only [puts_some, updo]
    refine AOPS.runk 6 (by simp (disch := first|omega|(simp only[ln];omega)) [List.take_succ_cons, List.take_zero, idf_Wd', idf_numS, cells_numS, numS_fold, idf_numI, cells_numI, numI_fold, Sp.av, Sp.cells, Sg.av, Sg.cells, Pt.av, Pt.cells, z]; rfl) ?_
    simp only [List.drop_succ_cons, List.drop_zero]
    refine AOPS.fcall (o3) rfl rfl rfl hb43 (by simp (disch := first|omega|(simp only[ln];omega)) [idf_Wd', z, idf_numS, cells_numS, numS_fold, idf_numI, cells_numI, numI_fold, Sp.av, Sp.cells, Sg.av, Sg.cells, Pt.av, Pt.cells]) (by simp (disch := first|omega|(simp only[ln];omega)) [z]) (by simp) ?_
    simp only [puts_some, updo]
    refine AOPS.all (by simp (disch := first|omega|(simp only[ln];omega)) [idf_Wd', idf_numS, cells_numS, numS_fold, idf_numI, cells_numI, numI_fold, Sp.av, Sp.cells, Sg.av, Sg.cells, Pt.av, Pt.cells, z]; rfl) ?_
    refine hK8 _ ?_
    refine cond_ok _ (by simp (disch := first|omega|(simp only[ln];omega)); rfl) (fun h28 => ?_) (fun h28 => ?_)
    · simp at h28
    · try simp only [decide_eq_true_eq, decide_eq_false_iff_not] at h28
      refine AWP.skip ?_
      refine hK7 _ ?_
      refine AWP.seqk fun K9 hK9 => ?_
      refine AWP.seqk fun K10 hK10 => ?_
      by_cases k : V = 2
      · have d : (V == 2) = true := by simp [k]
        refine AWP.region (AOPS.all (by simp (disch := first|omega|(simp only[ln];omega)) [idf_Wd', idf_numS, cells_numS, numS_fold, idf_numI, cells_numI, numI_fold, Sp.av, Sp.cells, Sg.av, Sg.cells, Pt.av, Pt.cells, d]; rfl) ?_)
        refine hK10 _ ?_
        refine cond_ok _ (by simp (disch := first|omega|(simp only[ln];omega)); rfl) (fun h39 => ?_) (fun h39 => ?_)
        · try simp only [decide_eq_true_eq, decide_eq_false_iff_not] at h39
          refine AWP.seqk fun K11 hK11 => ?_
          refine AWP.region (AOPS.all (by simp (disch := first|omega|(simp only[ln];omega)) [idf_Wd', idf_numS, cells_numS, numS_fold, idf_numI, cells_numI, numI_fold, Sp.av, Sp.cells, Sg.av, Sg.cells, Pt.av, Pt.cells]; rfl) ?_)
          refine hK11 _ ?_
          refine AWP.ret ?_
          exact hK _ _ _ _ trivial ((Fin.mk (by simp [aRes, aResL, aRes1, idf_Wd', idf_numS, cells_numS, numS_fold, idf_numI, cells_numI, numI_fold, Sp.av, Sp.cells, Sg.av, Sg.cells, Pt.av, Pt.cells]; try rfl)))
        · simp at h39
      · have d : (V == 2) = false := by simp [k]
        refine AWP.region (AOPS.all (by simp (disch := first|omega|(simp only[ln];omega)) [idf_Wd', idf_numS, cells_numS, numS_fold, idf_numI, cells_numI, numI_fold, Sp.av, Sp.cells, Sg.av, Sg.cells, Pt.av, Pt.cells, d]; rfl) ?_)
        refine hK10 _ ?_
        refine cond_ok (decide (S.a.x = S.b.x)) (by simp (disch := first|omega|(simp only[ln];omega)) [beqd]) (fun h39 => ?_) (fun h39 => ?_)
        · try simp only [decide_eq_true_eq, decide_eq_false_iff_not] at h39
          refine AWP.seqk fun K12 hK12 => ?_
          refine AWP.region (AOPS.all (by simp (disch := first|omega|(simp only[ln];omega)) [idf_Wd', idf_numS, cells_numS, numS_fold, idf_numI, cells_numI, numI_fold, Sp.av, Sp.cells, Sg.av, Sg.cells, Pt.av, Pt.cells]; rfl) ?_)
          refine hK12 _ ?_
          refine AWP.ret ?_
          exact hK _ _ _ _ trivial ((Fin.mk (by simp [aRes, aResL, aRes1, idf_Wd', idf_numS, cells_numS, numS_fold, idf_numI, cells_numI, numI_fold, Sp.av, Sp.cells, Sg.av, Sg.cells, Pt.av, Pt.cells]; try rfl)))
        · try simp only [decide_eq_true_eq, decide_eq_false_iff_not] at h39
          have e := hs k h39
          subst e
          refine AWP.skip ?_
          refine hK9 _ ?_
          refine AWP.seqk fun K13 hK13 => ?_
          refine AWP.region ?_
          refine AOPS.runk 3 (by simp (disch := first|omega|(simp only[ln];omega)) [List.take_succ_cons, List.take_zero, idf_Wd', idf_numS, cells_numS, numS_fold, idf_numI, cells_numI, numI_fold, Sp.av, Sp.cells, Sg.av, Sg.cells, Pt.av, Pt.cells]; rfl) ?_
          simp only [List.drop_succ_cons, List.drop_zero]
          refine AOPS.fcall (o4) rfl rfl rfl hb44 (by simp (disch := first|omega|(simp only[ln];omega)) [idf_Wd', idf_numS, cells_numS, numS_fold, idf_numI, cells_numI, numI_fold, Sp.av, Sp.cells, Sg.av, Sg.cells, Pt.av, Pt.cells]) (by simp (disch := first|omega|(simp only[ln];omega))) (by simp) ?_
          simp only [puts_some, updo]
          refine AOPS.all (by simp (disch := first|omega|(simp only[ln];omega)) [idf_Wd', idf_numS, cells_numS, numS_fold, idf_numI, cells_numI, numI_fold, Sp.av, Sp.cells, Sg.av, Sg.cells, Pt.av, Pt.cells]; rfl) ?_
          refine hK13 _ ?_
          refine AWP.ret ?_
          exact hK _ _ _ _ trivial ((Fin.mk (by simp [aRes, aResL, aRes1, idf_Wd', idf_numS, cells_numS, numS_fold, idf_numI, cells_numI, numI_fold, Sp.av, Sp.cells, Sg.av, Sg.cells, Pt.av, Pt.cells]; try rfl)))

end Go.Proofs.Ytmaebeknmiomnaa
