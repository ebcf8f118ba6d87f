/- Walks: where segments meet, by the program (2). -/
import Derived.Test.YtdcggmbnjonemaaG0W

namespace Go.Proofs.Ytdcggmbnjonemaa
open Go Go.RowKit
set_option linter.unusedSimpArgs false
set_option linter.unusedVariables false
set_option maxRecDepth 100000
attribute [local simp] List.getElem?_cons_zero List.getElem?_cons_succ List.getElem?_toArray runOps stepOp.eq_def agd.eq_def dstOk.eq_def opVal.eq_def opNew.eq_def opSto.eq_def ev.eq_def cv.eq_def puts_some puts_none upd_ap lst.eq_def aBin.eq_def aUn.eq_def aBi_str aBi_isl aBi_osl aBi_nsl aBi_max aBi_min aBi_max3 aConv.eq_def aLd.eq_def aLoad.eq_def aField.eq_def aFld.eq_def aIdx_isl aIdx_osl aSlc_isl aSlc_osl aSlc_str aSlc_nsl bnd.eq_def evs_nil evs_cons aBuild.eq_def aFill splice.eq_def cells_agg cells_int cells_bool cells_str cells_nil cells_nsl cells_isl cells_osl cells_ptr cells_ip cells_fn cells_Wd one_int one_bool one_str one_nil one_nsl one_isl one_osl one_ptr one_ip one_fn one_Wd aSets hupd_eq hupd_ne wrap_i64s wrap_u64s wrap_u32s wrap_u8s wd_getD wd_set wd_len wd_replicate wd_one wd_fold fz_osl hupd_same aSix.eq_def aEqS.eq_def aEqB_bool aEqB_nsl aEqB_nil
attribute [local simp] szT2 byT2 agT2 unT2 zoT2 szT3 byT3 agT3 unT3 zoT3 szT4 byT4 agT4 unT4 zoT4 szT33 byT33 agT33 flT33 fdT33_0 fdT33_1 fdT33_2 fdT33_3 zoT33 szT35 byT35 agT35 flT35 fdT35_0 fdT35_1 fdT35_2 zoT35 szT60 byT60 agT60 flT60 fdT60_0 fdT60_1 zoT60 szT62 byT62 agT62 flT62 fdT62_0 fdT62_1 zoT62 szT97 byT97 agT97 elT97 unT97 zoT97 szT99 byT99 agT99 flT99 fdT99_0 fdT99_1 zoT99 szT150 byT150 agT150 flT150 fdT150_0 fdT150_1 fdT150_2 zoT150

theorem hbNone : hasBody Try.prog 128 = true := by kernel_rfl
theorem mul_sg (a b : Int) : -1 ≤ sg3 a * sg3 b ∧ sg3 a * sg3 b ≤ 1 := by
  have := sg3_b a; have := sg3_b b
  have := mul_b (u := sg3 a) (v := sg3 b) (m := 1) (n := 1) (by omega) (by omega) (by omega) (by omega) (by omega)
  omega
theorem lsS_dec2 (p q : Sp) : decide (0 < cmS p q) = lsS q p := by rw [Bool.eq_iff_iff, decide_eq_true_eq]; exact cmS_pos
theorem cmS_deq (p q : Sp) : (cmS p q == 0) = decide (p = q) := by rw [Bool.eq_iff_iff, beq_iff_eq, decide_eq_true_eq]; exact cmS_zero

set_option maxHeartbeats 8000000 in
theorem meetI_fc (u v : Sg) (gu : u.good = true) (gv : v.good = true) : FC Try.prog 76 [u.av, v.av] (.tup [.int .i64 (meetI u v).1, .agg [.int .u64 ((meetI u v).2.1).x.a, .int .u64 ((meetI u v).2.1).x.b, .int .u64 ((meetI u v).2.1).x.c, .int .u64 ((meetI u v).2.1).x.d, .int .u64 ((meetI u v).2.1).y.a, .int .u64 ((meetI u v).2.1).y.b, .int .u64 ((meetI u v).2.1).y.c, .int .u64 ((meetI u v).2.1).y.d, .int .u64 ((meetI u v).2.1).w.a, .int .u64 ((meetI u v).2.1).w.b, .int .u64 ((meetI u v).2.1).w.c, .int .u64 ((meetI u v).2.1).w.d], .agg [.int .u64 ((meetI u v).2.2).x.a, .int .u64 ((meetI u v).2.2).x.b, .int .u64 ((meetI u v).2.2).x.c, .int .u64 ((meetI u v).2.2).x.d, .int .u64 ((meetI u v).2.2).y.a, .int .u64 ((meetI u v).2.2).y.b, .int .u64 ((meetI u v).2.2).y.c, .int .u64 ((meetI u v).2.2).y.d, .int .u64 ((meetI u v).2.2).w.a, .int .u64 ((meetI u v).2.2).w.b, .int .u64 ((meetI u v).2.2).w.c, .int .u64 ((meetI u v).2.2).w.d]]) := by
  have ua := good_a gu
  have ub := good_b gu
  have va := good_a gv
  have vb := good_b gv
  have pua := Sp.b ua
  have pub := Sp.b ub
  have pva := Sp.b va
  have pvb := Sp.b vb
  obtain ⟨A, hA⟩ : ∃ A, crs u.a u.b v.a = A := ⟨_, rfl⟩
  obtain ⟨B, hB⟩ : ∃ B, crs u.a u.b v.b = B := ⟨_, rfl⟩
  obtain ⟨C, hC⟩ : ∃ C, crs v.a v.b u.a = C := ⟨_, rfl⟩
  obtain ⟨D, hD⟩ : ∃ D, crs v.a v.b u.b = D := ⟨_, rfl⟩
  have cA := cross_fc u.a u.b v.a ua ub va
  have cB := cross_fc u.a u.b v.b ua ub vb
  have cC := cross_fc v.a v.b u.a va vb ua
  have cD := cross_fc v.a v.b u.b va vb ub
  have bA := crs_b ua ub va
  have bB := crs_b ua ub vb
  rw [hA] at cA bA
  rw [hB] at cB bB
  rw [hC] at cC
  rw [hD] at cD
  have hnw : noWay u v = (decide (0 < sg3 A * sg3 B) || decide (0 < sg3 C * sg3 D)) := by unfold noWay; rw [hA, hB, hC, hD]
  have hmt : apart u v = true → meetI u v = (0, pt0, pt0) := fun h => by unfold meetI; rw [if_pos h]
  have hmf : apart u v = false → meetI u v = if A = 0 ∧ B = 0 then linP u v else if noWay u v = true then (0, pt0, pt0) else (1, mkP (wayX u v) (wayY u v) (wayW u v), pt0) := fun h => by unfold meetI; rw [h, hA, hB]; rfl
  have hap : apart u v = (decide (mn u.b.x v.b.x < mx u.a.x v.a.x) || decide (mn (mx u.a.y u.b.y) (mx v.a.y v.b.y) < mx (mn u.a.y u.b.y) (mn v.a.y v.b.y))) := rfl
  have eW : wayW u v = A - B := by unfold wayW; rw [hA, hB]
  have eX : wayX u v = v.a.x * (A - B) + A * (v.b.x - v.a.x) := by unfold wayX; rw [eW, hA]
  have eY : wayY u v = v.a.y * (A - B) + A * (v.b.y - v.a.y) := by unfold wayY; rw [eW, hA]
  have sAB := mul_sg A B
  have sCD := mul_sg C D
  clear hA hB hC hD
  refine FC.body Try.func76 rfl (by simp [idfL, idf, Sp.av, Sp.cells, Sg.av, Sg.cells]) (by simp [idfL, idf, idfLL_iff, idf_Wd', idf_numI, cells_numI, numI_fold, Sp.av, Sp.cells, Sg.av, Sg.cells, spA, spC]) 215 rfl fun nx K hK => ?_
  refine AWP.seqk fun K1 hK1 => ?_
  refine AWP.region (AOPS.all (by simp (disch := first|omega|(simp only[ln];omega)) [idf_Wd', idf_numI, cells_numI, numI_fold, Sp.av, Sp.cells, Sg.av, Sg.cells, spA, spC]; rfl) ?_)
  refine hK1 _ ?_
  refine AWP.seqk fun K2 hK2 => ?_
  refine AWP.region (AOPS.all (by simp (disch := first|omega|(simp only[ln];omega)) [idf_Wd', idf_numI, cells_numI, numI_fold, Sp.av, Sp.cells, Sg.av, Sg.cells, spA, spC]; rfl) ?_)
  refine hK2 _ ?_
  refine AWP.seqk fun K3 hK3 => ?_
  refine AWP.seqk fun K4 hK4 => ?_
  cases q1 : decide (mn u.b.x v.b.x < mx u.a.x v.a.x)
  · refine AWP.region (AOPS.all (by simp (disch := first|omega|(simp only[ln];omega)) [idf_Wd', idf_numI, cells_numI, numI_fold, Sp.av, Sp.cells, Sg.av, Sg.cells, spA, spC, mx_fold, mn_fold, q1]; rfl) ?_)
    refine hK4 _ ?_
    refine cond_ok (decide (mn (mx u.a.y u.b.y) (mx v.a.y v.b.y) < mx (mn u.a.y u.b.y) (mn v.a.y v.b.y))) (by simp (disch := first|omega|(simp only[ln];omega))) (fun h67 => ?_) (fun h67 => ?_)
    · try simp only [decide_eq_true_eq, decide_eq_false_iff_not] at h67
      have hm := hmt (by rw [hap, decide_eq_true h67]; simp)
      refine AWP.seqk fun K5 hK5 => ?_
      refine AWP.region ?_
      refine AOPS.runk 1 (by simp (disch := first|omega|(simp only[ln];omega)) [List.take_succ_cons, List.take_zero, idf_Wd', idf_numI, cells_numI, numI_fold, Sp.av, Sp.cells, Sg.av, Sg.cells, spA, spC]; rfl) ?_
      simp only [List.drop_succ_cons, List.drop_zero]
      refine AOPS.fcall (none_fc) rfl rfl (by simp; rfl) hbNone (by simp (disch := first|omega|(simp only[ln];omega)) [idf_Wd', idf_numI, cells_numI, numI_fold, Sp.av, Sp.cells, Sg.av, Sg.cells, spA, spC]) (by simp (disch := first|omega|(simp only[ln];omega))) (by simp) ?_
      simp only [puts_some, updo]
      refine AOPS.all (by simp (disch := first|omega|(simp only[ln];omega)) [idf_Wd', idf_numI, cells_numI, numI_fold, Sp.av, Sp.cells, Sg.av, Sg.cells, spA, spC]; rfl) ?_
      refine hK5 _ ?_
      refine AWP.ret ?_
      exact hK _ _ _ _ trivial ((Fin.mk (by simp [aRes, aResL, aRes1, idf_Wd', idf_numI, cells_numI, numI_fold, Sp.av, Sp.cells, Sg.av, Sg.cells, spA, spC]; rfl)).cast (by rw [hm]; try rfl))
    · try simp only [decide_eq_true_eq, decide_eq_false_iff_not] at h67
      have hm := hmf (by rw [hap, q1, decide_eq_false h67]; rfl)
      refine AWP.skip ?_
      refine hK3 _ ?_
      refine AWP.seqk fun K6 hK6 => ?_
      refine AWP.draw 14 Try.checked.mixed (by kernel_rfl) (by simp) ?_
      simp only [List.take_succ_cons, List.take_zero, List.drop_succ_cons, List.drop_zero]
      refine DP.runFk 6 (by simp (disch := first|omega|(simp only[ln];omega)) [runDf.eq_def, runF1, runF2, stepF.eq_def, updo.eq_def, hupo.eq_def, opSto1.eq_def, List.take_succ_cons, List.take_zero, idf_Wd', idf_numI, cells_numI, numI_fold, Sp.av, Sp.cells, Sg.av, Sg.cells, spA, spC]; rfl) fun fs7 hfs7 => ?_
      replace hfs7 : fs7.length = 6 := hfs7.trans rfl
      simp only [List.drop_succ_cons, List.drop_zero]
      refine DP.fcall (cA) rfl rfl rfl hb129 (by simp (disch := first|omega|(simp only[ln];omega)) [idf_Wd', idf_numI, cells_numI, numI_fold, Sp.av, Sp.cells, Sg.av, Sg.cells, spA, spC]) (by simp (disch := first|omega|(simp only[ln];omega))) (by simp) ?_
      simp only [updo]
      refine DP.runFk 6 (by simp (disch := first|omega|(simp only[ln];omega)) [runDf.eq_def, runF1, runF2, stepF.eq_def, updo.eq_def, hupo.eq_def, opSto1.eq_def, List.take_succ_cons, List.take_zero, idf_Wd', idf_numI, cells_numI, numI_fold, Sp.av, Sp.cells, Sg.av, Sg.cells, spA, spC]; rfl) fun fs8 hfs8 => ?_
      replace hfs8 : fs8.length = 6 := hfs8.trans rfl
      simp only [List.drop_succ_cons, List.drop_zero]
      refine DP.fcall (cB) rfl rfl rfl hb129 (by simp (disch := first|omega|(simp only[ln];omega)) [idf_Wd', idf_numI, cells_numI, numI_fold, Sp.av, Sp.cells, Sg.av, Sg.cells, spA, spC]) (by simp (disch := first|omega|(simp only[ln];omega))) (by simp) ?_
      simp only [updo]
      refine DQ.runF (m := 14) (by simp only [List.length_append, List.length_cons, List.length_nil, hfs7, hfs8]; omega) _ _ _ (by kernel_rfl) rfl (by simp (disch := first|omega|(simp only[ln];omega)) [runDf.eq_def, runF1, runF2, stepF.eq_def, updo.eq_def, hupo.eq_def, opSto1.eq_def, idf_Wd', idf_numI, cells_numI, numI_fold, Sp.av, Sp.cells, Sg.av, Sg.cells, spA, spC]; rfl) ?_
      refine hK6 _ ?_
      refine AWP.seqk fun K9 hK9 => ?_
      refine AWP.seqk fun K10 hK10 => ?_
      by_cases hA0 : A = 0
      · have c1 : (A == 0) = true := by simp [hA0]
        by_cases hB0 : B = 0
        · have c2 : (B == 0) = true := by simp [hB0]
          have hm' := hm
          rw [if_pos ⟨hA0, hB0⟩] at hm'
          refine AWP.region (AOPS.all (by simp (disch := first|omega|(simp only[ln];omega)) [idf_Wd', idf_numI, cells_numI, numI_fold, Sp.av, Sp.cells, Sg.av, Sg.cells, spA, spC, c1, c2]; rfl) ?_)
          refine hK10 _ ?_
          refine cond_ok _ (by simp (disch := first|omega|(simp only[ln];omega)); rfl) (fun h92 => ?_) (fun h92 => ?_)
          · try simp only [decide_eq_true_eq, decide_eq_false_iff_not] at h92
            refine AWP.seqk fun K11 hK11 => ?_
            refine AWP.old fun hold => ?_
            refine AWP.draw 6 Try.checked.mixed (by kernel_rfl) (by simp) ?_
            simp only [List.take_succ_cons, List.take_zero, List.drop_succ_cons, List.drop_zero]
            refine DP.runFk 2 (by simp (disch := first|omega|(simp only[ln];omega)) [runDf.eq_def, runF1, runF2, stepF.eq_def, updo.eq_def, hupo.eq_def, opSto1.eq_def, List.take_succ_cons, List.take_zero, idf_Wd', idf_numI, cells_numI, numI_fold, Sp.av, Sp.cells, Sg.av, Sg.cells, spA, spC]; rfl) fun fs12 hfs12 => ?_
            replace hfs12 : fs12.length = 2 := hfs12.trans rfl
            simp only [List.drop_succ_cons, List.drop_zero]
            refine DP.runF1q (by simp (disch := first|omega|(simp only[ln];omega)) [runDf.eq_def, runF1, runF2, stepF.eq_def, updo.eq_def, hupo.eq_def, opSto1.eq_def, idf_Wd', idf_numI, cells_numI, numI_fold, Sp.av, Sp.cells, Sg.av, Sg.cells, spA, spC]; rfl) fun fq13 hfq13 => ?_
            simp [qids, Op.operands, topId] at hfq13
            simp only [updo]
            refine DP.runF1q (by simp (disch := first|omega|(simp only[ln];omega)) [runDf.eq_def, runF1, runF2, stepF.eq_def, updo.eq_def, hupo.eq_def, opSto1.eq_def, idf_Wd', idf_numI, cells_numI, numI_fold, Sp.av, Sp.cells, Sg.av, Sg.cells, spA, spC]; rfl) fun fq14 hfq14 => ?_
            simp [qids, Op.operands, topId] at hfq14
            simp only [updo]
            refine DP.runFk 2 (by simp (disch := first|omega|(simp only[ln];omega)) [runDf.eq_def, runF1, runF2, stepF.eq_def, updo.eq_def, hupo.eq_def, opSto1.eq_def, List.take_succ_cons, List.take_zero, idf_Wd', idf_numI, cells_numI, numI_fold, Sp.av, Sp.cells, Sg.av, Sg.cells, spA, spC]; rfl) fun fs15 hfs15 => ?_
            replace hfs15 : fs15.length = 2 := hfs15.trans rfl
            simp only [List.drop_succ_cons, List.drop_zero]
            refine DQ.sto1 (m := 6) [2, 3] _ (by simp (disch := first|omega|(simp only[ln];omega)) [runDf.eq_def, runF1, runF2, stepF.eq_def, updo.eq_def, hupo.eq_def, opSto1.eq_def, idf_Wd', idf_numI, cells_numI, numI_fold, Sp.av, Sp.cells, Sg.av, Sg.cells, spA, spC]; rfl) rfl (by simp only [List.length_append, List.length_cons, List.length_nil, hfs12, hfs15]; omega) (by kernel_rfl) (by intro k f hk hex; simp only [List.mem_cons, List.not_mem_nil, or_false] at hex; rcases hex with rfl | rfl <;> (simp [List.getElem?_append, hfs12, hfs15] at hk; subst hk; refine ⟨?_, by first | omega | (simp; done) | (simp; omega)⟩; simp [qids, Op.operands, Call.operands, topId, numS, numI, Wd, hfq13, hfq14]; try omega)) ?_
            try simp only []
            refine DQ.sto1 (m := 6) [] _ (by simp (disch := first|omega|(simp only[ln];omega)) [runDf.eq_def, runF1, runF2, stepF.eq_def, updo.eq_def, hupo.eq_def, opSto1.eq_def, idf_Wd', idf_numI, cells_numI, numI_fold, Sp.av, Sp.cells, Sg.av, Sg.cells, spA, spC]; rfl) rfl (by simp only [List.length_append, List.length_cons, List.length_nil, hfs12, hfs15]; omega) (by kernel_rfl) (by intro k f hk hex; simp only [List.not_mem_nil] at hex) ?_
            try simp only []
            refine hK11 _ ?_
            refine AWP.seqk fun K16 hK16 => ?_
            have J16 : ∀ s : St, (∃ (lo hi : Sp) (ia ib : Nat), lo = lowS u v ∧ hi = u.b ∧ s.env 2 = .ptr nx 0 0 ∧ s.env 3 = .ptr (nx + 1) 0 0 ∧ s.env 5 = .ptr (nx + 1 + 1) 0 0 ∧ s.env 6 = .ptr (nx + 1 + 1 + 1) 0 0 ∧ s.env 7 = .fn 128 [] ∧ s.env 10 = .ptr ia 0 0 ∧ s.env 11 = .ptr ib 0 0 ∧ s.heap nx = some (4, [[.int .i64 u.a.x, .int .i64 u.a.y, .int .i64 u.b.x, .int .i64 u.b.y]]) ∧ s.heap (nx + 1) = some (4, [[.int .i64 v.a.x, .int .i64 v.a.y, .int .i64 v.b.x, .int .i64 v.b.y]]) ∧ s.heap (nx + 1 + 1) = some (12, [[.int .u64 0, .int .u64 0, .int .u64 0, .int .u64 0, .int .u64 0, .int .u64 0, .int .u64 0, .int .u64 0, .int .u64 0, .int .u64 0, .int .u64 0, .int .u64 0]]) ∧ s.heap (nx + 1 + 1 + 1) = some (12, [[.int .u64 0, .int .u64 0, .int .u64 0, .int .u64 0, .int .u64 0, .int .u64 0, .int .u64 0, .int .u64 0, .int .u64 0, .int .u64 0, .int .u64 0, .int .u64 0]]) ∧ s.heap ia = some (2, [[.int .i64 lo.x, .int .i64 lo.y]]) ∧ s.heap ib = some (2, [[.int .i64 hi.x, .int .i64 hi.y]]) ∧ (nx + 1 + 1 + 1) < ia ∧ ia < ib ∧ ib < s.nx ∧ s.nt = 215) → K16 s := by
              rintro ⟨e, H, mm, nt⟩ ⟨lo, hi, ia, ib, hlo, hhi, g2, g3, g5, g6, g7, g10, g11, hU, hV, hP, hQ, hL, hH, hia, hib, hm, rfl⟩
              simp only [] at g2 g3 g5 g6 g7 g10 g11 hU hV hP hQ hL hH hia hib hm
              rw [hhi] at hH
              clear hhi hi
              refine hK16 _ ?_
              refine AWP.seqk fun K17 hK17 => ?_
              have J17 : ∀ s : St, (∃ (lo hi : Sp) (ia ib : Nat), lo = lowS u v ∧ hi = highS u v ∧ s.env 2 = .ptr nx 0 0 ∧ s.env 3 = .ptr (nx + 1) 0 0 ∧ s.env 5 = .ptr (nx + 1 + 1) 0 0 ∧ s.env 6 = .ptr (nx + 1 + 1 + 1) 0 0 ∧ s.env 7 = .fn 128 [] ∧ s.env 10 = .ptr ia 0 0 ∧ s.env 11 = .ptr ib 0 0 ∧ s.heap nx = some (4, [[.int .i64 u.a.x, .int .i64 u.a.y, .int .i64 u.b.x, .int .i64 u.b.y]]) ∧ s.heap (nx + 1) = some (4, [[.int .i64 v.a.x, .int .i64 v.a.y, .int .i64 v.b.x, .int .i64 v.b.y]]) ∧ s.heap (nx + 1 + 1) = some (12, [[.int .u64 0, .int .u64 0, .int .u64 0, .int .u64 0, .int .u64 0, .int .u64 0, .int .u64 0, .int .u64 0, .int .u64 0, .int .u64 0, .int .u64 0, .int .u64 0]]) ∧ s.heap (nx + 1 + 1 + 1) = some (12, [[.int .u64 0, .int .u64 0, .int .u64 0, .int .u64 0, .int .u64 0, .int .u64 0, .int .u64 0, .int .u64 0, .int .u64 0, .int .u64 0, .int .u64 0, .int .u64 0]]) ∧ s.heap ia = some (2, [[.int .i64 lo.x, .int .i64 lo.y]]) ∧ s.heap ib = some (2, [[.int .i64 hi.x, .int .i64 hi.y]]) ∧ (nx + 1 + 1 + 1) < ia ∧ ia < ib ∧ ib < s.nx ∧ s.nt = 215) → K17 s := by
                clear g2 g3 g5 g6 g7 g10 g11 hU hV hP hQ hL hH hia hib hm hlo lo
                rintro ⟨e, H, mm, nt⟩ ⟨lo, hi, ia, ib, hlo, hhi, g2, g3, g5, g6, g7, g10, g11, hU, hV, hP, hQ, hL, hH, hia, hib, hm, rfl⟩
                simp only [] at g2 g3 g5 g6 g7 g10 g11 hU hV hP hQ hL hH hia hib hm
                have gl : lo.good = true := by rw [hlo]; unfold lowS; split; exact va; exact ua
                have gh : hi.good = true := by rw [hhi]; unfold highS; split; exact vb; exact ub
                have hli : linP u v = if lsS hi lo = true then (0, pt0, pt0) else if lo = hi then (1, ptS lo, pt0) else (2, ptS lo, ptS hi) := by rw [hlo, hhi]; rfl
                clear hlo hhi
                refine hK17 _ ?_
                refine AWP.seqk fun K18 hK18 => ?_
                refine AWP.seqk fun K19 hK19 => ?_
                refine AWP.region ?_
                refine AOPS.runk 2 (by simp (disch := first|omega|(simp only[ln];omega)) [List.take_succ_cons, List.take_zero, idf_Wd', idf_numI, cells_numI, numI_fold, Sp.av, Sp.cells, Sg.av, Sg.cells, spA, spC, g2, g3, g5, g6, g7, g10, g11, hU, hV, hP, hQ, hL, hH]; rfl) ?_
                simp only [List.drop_succ_cons, List.drop_zero]
                refine AOPS.fcall (cmpSpots_fc lo hi) rfl rfl rfl hb127 (by simp (disch := first|omega|(simp only[ln];omega)) [idf_Wd', g2, g3, g5, g6, g7, g10, g11, hU, hV, hP, hQ, hL, hH, idf_numI, cells_numI, numI_fold, Sp.av, Sp.cells, Sg.av, Sg.cells, spA, spC]) (by simp (disch := first|omega|(simp only[ln];omega)) [g2, g3, g5, g6, g7, g10, g11, hU, hV, hP, hQ, hL, hH]) (by simp) ?_
                simp only [puts_some, updo]
                refine AOPS.all (by simp (disch := first|omega|(simp only[ln];omega)) [idf_Wd', idf_numI, cells_numI, numI_fold, Sp.av, Sp.cells, Sg.av, Sg.cells, spA, spC, g2, g3, g5, g6, g7, g10, g11, hU, hV, hP, hQ, hL, hH]; rfl) ?_
                refine hK19 _ ?_
                refine AWP.block ?_
                refine AWP.seqk fun K20 hK20 => ?_
                refine AWP.region (AOPS.all (by simp (disch := first|omega|(simp only[ln];omega)) [idf_Wd', idf_numI, cells_numI, numI_fold, Sp.av, Sp.cells, Sg.av, Sg.cells, spA, spC]; rfl) ?_)
                refine hK20 _ ?_
                refine cond_ok (lsS hi lo) (by simp (disch := first|omega|(simp only[ln];omega)) [lsS_dec2]) (fun h114 => ?_) (fun h114 => ?_)
                · try simp only [decide_eq_true_eq, decide_eq_false_iff_not] at h114
                  refine AWP.seqk fun K21 hK21 => ?_
                  refine AWP.region ?_
                  refine AOPS.runk 1 (by simp (disch := first|omega|(simp only[ln];omega)) [List.take_succ_cons, List.take_zero, idf_Wd', idf_numI, cells_numI, numI_fold, Sp.av, Sp.cells, Sg.av, Sg.cells, spA, spC, g2, g3, g5, g6, g7, g10, g11, hU, hV, hP, hQ, hL, hH]; rfl) ?_
                  simp only [List.drop_succ_cons, List.drop_zero]
                  refine AOPS.fcall (none_fc) rfl rfl (by simp; rfl) hbNone (by simp (disch := first|omega|(simp only[ln];omega)) [idf_Wd', g2, g3, g5, g6, g7, g10, g11, hU, hV, hP, hQ, hL, hH, idf_numI, cells_numI, numI_fold, Sp.av, Sp.cells, Sg.av, Sg.cells, spA, spC]) (by simp (disch := first|omega|(simp only[ln];omega)) [g2, g3, g5, g6, g7, g10, g11, hU, hV, hP, hQ, hL, hH]) (by simp) ?_
                  simp only [puts_some, updo]
                  refine AOPS.all (by simp (disch := first|omega|(simp only[ln];omega)) [idf_Wd', idf_numI, cells_numI, numI_fold, Sp.av, Sp.cells, Sg.av, Sg.cells, spA, spC, g2, g3, g5, g6, g7, g10, g11, hU, hV, hP, hQ, hL, hH]; rfl) ?_
                  refine hK21 _ ?_
                  refine AWP.ret ?_
                  exact hK _ _ _ _ trivial ((Fin.mk (by simp (disch := omega) [aRes, aResL, aRes1, g5, g6, idf_Wd', idf_numI, cells_numI, numI_fold, Sp.av, Sp.cells, Sg.av, Sg.cells, spA, spC]; rfl)).cast (by rw [hm', hli, if_pos h114]; try rfl))
                · try simp only [decide_eq_true_eq, decide_eq_false_iff_not] at h114
                  refine AWP.seqk fun K22 hK22 => ?_
                  refine AWP.region (AOPS.all (by simp (disch := first|omega|(simp only[ln];omega)) [idf_Wd', idf_numI, cells_numI, numI_fold, Sp.av, Sp.cells, Sg.av, Sg.cells, spA, spC]; rfl) ?_)
                  refine hK22 _ ?_
                  refine cond_ok (decide (lo = hi)) (by simp (disch := first|omega|(simp only[ln];omega)) [cmS_deq]) (fun h122 => ?_) (fun h122 => ?_)
                  · try simp only [decide_eq_true_eq, decide_eq_false_iff_not] at h122
                    refine AWP.seqk fun K23 hK23 => ?_
                    refine AWP.region ?_
                    refine AOPS.runk 1 (by simp (disch := first|omega|(simp only[ln];omega)) [List.take_succ_cons, List.take_zero, idf_Wd', idf_numI, cells_numI, numI_fold, Sp.av, Sp.cells, Sg.av, Sg.cells, spA, spC, g2, g3, g5, g6, g7, g10, g11, hU, hV, hP, hQ, hL, hH]; rfl) ?_
                    simp only [List.drop_succ_cons, List.drop_zero]
                    refine AOPS.fcall (pointOfI_fc lo gl) rfl rfl rfl hb130 (by simp (disch := first|omega|(simp only[ln];omega)) [idf_Wd', g2, g3, g5, g6, g7, g10, g11, hU, hV, hP, hQ, hL, hH, idf_numI, cells_numI, numI_fold, Sp.av, Sp.cells, Sg.av, Sg.cells, spA, spC]) (by simp (disch := first|omega|(simp only[ln];omega)) [g2, g3, g5, g6, g7, g10, g11, hU, hV, hP, hQ, hL, hH]) (by simp) ?_
                    simp only [puts_some, updo]
                    refine AOPS.all (by simp (disch := first|omega|(simp only[ln];omega)) [idf_Wd', idf_numI, cells_numI, numI_fold, Sp.av, Sp.cells, Sg.av, Sg.cells, spA, spC, g2, g3, g5, g6, g7, g10, g11, hU, hV, hP, hQ, hL, hH]; rfl) ?_
                    refine hK23 _ ?_
                    refine AWP.ret ?_
                    exact hK _ _ _ _ trivial ((Fin.mk (by simp (disch := omega) [aRes, aResL, aRes1, g5, g6, idf_Wd', idf_numI, cells_numI, numI_fold, Sp.av, Sp.cells, Sg.av, Sg.cells, spA, spC]; rfl)).cast (by rw [hm', hli, if_neg (by rw [h114]; simp), if_pos h122]; try rfl))
                  · try simp only [decide_eq_true_eq, decide_eq_false_iff_not] at h122
                    refine AWP.skip ?_
                    refine hK18 _ ?_
                    refine AWP.seqk fun K24 hK24 => ?_
                    refine AWP.old fun hold => ?_
                    refine AWP.draw 4 Try.checked.mixed (by kernel_rfl) (by simp) ?_
                    simp only [List.take_succ_cons, List.take_zero, List.drop_succ_cons, List.drop_zero]
                    refine DP.runFk 1 (by simp (disch := first|omega|(simp only[ln];omega)) [runDf.eq_def, runF1, runF2, stepF.eq_def, updo.eq_def, hupo.eq_def, opSto1.eq_def, List.take_succ_cons, List.take_zero, idf_Wd', idf_numI, cells_numI, numI_fold, Sp.av, Sp.cells, Sg.av, Sg.cells, spA, spC, g2, g3, g5, g6, g7, g10, g11, hU, hV, hP, hQ, hL, hH]; rfl) fun fs25 hfs25 => ?_
                    replace hfs25 : fs25.length = 1 := hfs25.trans rfl
                    simp only [List.drop_succ_cons, List.drop_zero]
                    refine DP.fcall (pointOfI_fc lo gl) rfl rfl rfl hb130 (by simp (disch := first|omega|(simp only[ln];omega)) [idf_Wd', g2, g3, g5, g6, g7, g10, g11, hU, hV, hP, hQ, hL, hH, idf_numI, cells_numI, numI_fold, Sp.av, Sp.cells, Sg.av, Sg.cells, spA, spC]) (by simp (disch := first|omega|(simp only[ln];omega)) [g2, g3, g5, g6, g7, g10, g11, hU, hV, hP, hQ, hL, hH]) (by simp) ?_
                    simp only [updo]
                    refine DP.runF1q (by simp (disch := first|omega|(simp only[ln];omega)) [runDf.eq_def, runF1, runF2, stepF.eq_def, updo.eq_def, hupo.eq_def, opSto1.eq_def, idf_Wd', idf_numI, cells_numI, numI_fold, Sp.av, Sp.cells, Sg.av, Sg.cells, spA, spC, g2, g3, g5, g6, g7, g10, g11, hU, hV, hP, hQ, hL, hH]; rfl) fun fq26 hfq26 => ?_
                    simp [qids, Op.operands, topId] at hfq26
                    simp only [updo]
                    refine DP.fcall (pointOfI_fc hi gh) rfl rfl rfl hb130 (by simp (disch := first|omega|(simp only[ln];omega)) [idf_Wd', g2, g3, g5, g6, g7, g10, g11, hU, hV, hP, hQ, hL, hH, idf_numI, cells_numI, numI_fold, Sp.av, Sp.cells, Sg.av, Sg.cells, spA, spC]) (by simp (disch := first|omega|(simp only[ln];omega)) [g2, g3, g5, g6, g7, g10, g11, hU, hV, hP, hQ, hL, hH]) (by simp) ?_
                    simp only [updo]
                    refine DQ.asg1 _ rfl rfl ?_
                    simp only [updo]
                    refine DQ.sto1 (m := 4) [2, 3] _ (by simp (disch := first|omega|(simp only[ln];omega)) [runDf.eq_def, runF1, runF2, stepF.eq_def, updo.eq_def, hupo.eq_def, opSto1.eq_def, idf_Wd', idf_numI, cells_numI, numI_fold, Sp.av, Sp.cells, Sg.av, Sg.cells, spA, spC, g2, g3, g5, g6, g7, g10, g11, hU, hV, hP, hQ, hL, hH]; rfl) rfl (by simp only [List.length_append, List.length_cons, List.length_nil, hfs25]; omega) (by kernel_rfl) (by intro k f hk hex; simp only [List.mem_cons, List.not_mem_nil, or_false] at hex; rcases hex with rfl | rfl <;> (simp [List.getElem?_append, hfs25] at hk; subst hk; refine ⟨?_, by first | omega | (simp; done) | (simp; omega)⟩; simp [qids, Op.operands, Call.operands, topId, numS, numI, Wd, hfq26, g2, g3, g5, g6, g7, g10, g11]; try omega)) ?_
                    try simp only []
                    refine DQ.sto1 (m := 4) [] _ (by simp (disch := first|omega|(simp only[ln];omega)) [runDf.eq_def, runF1, runF2, stepF.eq_def, updo.eq_def, hupo.eq_def, opSto1.eq_def, idf_Wd', idf_numI, cells_numI, numI_fold, Sp.av, Sp.cells, Sg.av, Sg.cells, spA, spC, g2, g3, g5, g6, g7, g10, g11, hU, hV, hP, hQ, hL, hH]; rfl) rfl (by simp only [List.length_append, List.length_cons, List.length_nil, hfs25]; omega) (by kernel_rfl) (by intro k f hk hex; simp only [List.not_mem_nil] at hex) ?_
                    try simp only []
                    refine hK24 _ ?_
                    refine AWP.ret ?_
                    exact hK _ _ _ _ trivial ((Fin.mk (by simp (disch := omega) [aRes, aResL, aRes1, g5, g6, idf_Wd', idf_numI, cells_numI, numI_fold, Sp.av, Sp.cells, Sg.av, Sg.cells, spA, spC]; rfl)).cast (by rw [hm', hli, if_neg (by rw [h114]; simp), if_neg h122]; try rfl))
              refine AWP.seqk fun K27 hK27 => ?_
              refine AWP.region ?_
              refine AOPS.runk 3 (by simp (disch := first|omega|(simp only[ln];omega)) [List.take_succ_cons, List.take_zero, idf_Wd', idf_numI, cells_numI, numI_fold, Sp.av, Sp.cells, Sg.av, Sg.cells, spA, spC, g2, g3, g5, g6, g7, g10, g11, hU, hV, hP, hQ, hL, hH]; rfl) ?_
              simp only [List.drop_succ_cons, List.drop_zero]
              refine AOPS.fcall (cmpSpots_fc v.b u.b) rfl rfl rfl hb127 (by simp (disch := first|omega|(simp only[ln];omega)) [idf_Wd', g2, g3, g5, g6, g7, g10, g11, hU, hV, hP, hQ, hL, hH, idf_numI, cells_numI, numI_fold, Sp.av, Sp.cells, Sg.av, Sg.cells, spA, spC]) (by simp (disch := first|omega|(simp only[ln];omega)) [g2, g3, g5, g6, g7, g10, g11, hU, hV, hP, hQ, hL, hH]) (by simp) ?_
              simp only [puts_some, updo]
              refine AOPS.all (by simp (disch := first|omega|(simp only[ln];omega)) [idf_Wd', idf_numI, cells_numI, numI_fold, Sp.av, Sp.cells, Sg.av, Sg.cells, spA, spC, g2, g3, g5, g6, g7, g10, g11, hU, hV, hP, hQ, hL, hH]; rfl) ?_
              refine hK27 _ ?_
              refine cond_ok (lsS v.b u.b) (by simp (disch := first|omega|(simp only[ln];omega)) [lsS_dec]) (fun h108 => ?_) (fun h108 => ?_)
              · try simp only [decide_eq_true_eq, decide_eq_false_iff_not] at h108
                refine AWP.region (AOPS.all (by simp (disch := first|omega|(simp only[ln];omega)) [idf_Wd', idf_numI, cells_numI, numI_fold, Sp.av, Sp.cells, Sg.av, Sg.cells, spA, spC, g2, g3, g5, g6, g7, g10, g11, hU, hV, hP, hQ, hL, hH]; rfl) ?_)
                refine J17 _ ?_
                exact ⟨lo, v.b, ia, ib, hlo, by unfold highS; rw [if_pos h108], by first | (simp; done) | (simp [g2, g3, g5, g6, g7, g10, g11]; done), by first | (simp; done) | (simp [g2, g3, g5, g6, g7, g10, g11]; done), by first | (simp; done) | (simp [g2, g3, g5, g6, g7, g10, g11]; done), by first | (simp; done) | (simp [g2, g3, g5, g6, g7, g10, g11]; done), by first | (simp; done) | (simp [g2, g3, g5, g6, g7, g10, g11]; done), by first | (simp; done) | (simp [g2, g3, g5, g6, g7, g10, g11]; done), by first | (simp; done) | (simp [g2, g3, g5, g6, g7, g10, g11]; done), by first | (simp (disch := omega); done) | (simp (disch := omega) [hU, hV, hP, hQ, hL, hH]; done), by first | (simp (disch := omega); done) | (simp (disch := omega) [hU, hV, hP, hQ, hL, hH]; done), by first | (simp (disch := omega); done) | (simp (disch := omega) [hU, hV, hP, hQ, hL, hH]; done), by first | (simp (disch := omega); done) | (simp (disch := omega) [hU, hV, hP, hQ, hL, hH]; done), by first | (simp (disch := omega); done) | (simp (disch := omega) [hU, hV, hP, hQ, hL, hH]; done), by first | (simp (disch := omega); done) | (simp (disch := omega) [hU, hV, hP, hQ, hL, hH]; done), by omega, by omega, by first | omega | (simp; done) | (simp; omega), rfl⟩
              · try simp only [decide_eq_true_eq, decide_eq_false_iff_not] at h108
                refine AWP.skip ?_
                refine J17 _ ?_
                exact ⟨lo, u.b, ia, ib, hlo, by unfold highS; rw [h108]; rfl, by first | (simp; done) | (simp [g2, g3, g5, g6, g7, g10, g11]; done), by first | (simp; done) | (simp [g2, g3, g5, g6, g7, g10, g11]; done), by first | (simp; done) | (simp [g2, g3, g5, g6, g7, g10, g11]; done), by first | (simp; done) | (simp [g2, g3, g5, g6, g7, g10, g11]; done), by first | (simp; done) | (simp [g2, g3, g5, g6, g7, g10, g11]; done), by first | (simp; done) | (simp [g2, g3, g5, g6, g7, g10, g11]; done), by first | (simp; done) | (simp [g2, g3, g5, g6, g7, g10, g11]; done), by first | (simp (disch := omega); done) | (simp (disch := omega) [hU, hV, hP, hQ, hL, hH]; done), by first | (simp (disch := omega); done) | (simp (disch := omega) [hU, hV, hP, hQ, hL, hH]; done), by first | (simp (disch := omega); done) | (simp (disch := omega) [hU, hV, hP, hQ, hL, hH]; done), by first | (simp (disch := omega); done) | (simp (disch := omega) [hU, hV, hP, hQ, hL, hH]; done), by first | (simp (disch := omega); done) | (simp (disch := omega) [hU, hV, hP, hQ, hL, hH]; done), by first | (simp (disch := omega); done) | (simp (disch := omega) [hU, hV, hP, hQ, hL, hH]; done), by omega, by omega, by first | omega | (simp; done) | (simp; omega), rfl⟩
            refine AWP.seqk fun K28 hK28 => ?_
            refine AWP.region ?_
            refine AOPS.runk 3 (by simp (disch := first|omega|(simp only[ln];omega)) [List.take_succ_cons, List.take_zero, idf_Wd', idf_numI, cells_numI, numI_fold, Sp.av, Sp.cells, Sg.av, Sg.cells, spA, spC]; rfl) ?_
            simp only [List.drop_succ_cons, List.drop_zero]
            refine AOPS.fcall (cmpSpots_fc v.a u.a) rfl rfl rfl hb127 (by simp (disch := first|omega|(simp only[ln];omega)) [idf_Wd', idf_numI, cells_numI, numI_fold, Sp.av, Sp.cells, Sg.av, Sg.cells, spA, spC]) (by simp (disch := first|omega|(simp only[ln];omega))) (by simp) ?_
            simp only [puts_some, updo]
            refine AOPS.all (by simp (disch := first|omega|(simp only[ln];omega)) [idf_Wd', idf_numI, cells_numI, numI_fold, Sp.av, Sp.cells, Sg.av, Sg.cells, spA, spC]; rfl) ?_
            refine hK28 _ ?_
            refine cond_ok (lsS u.a v.a) (by simp (disch := first|omega|(simp only[ln];omega)) [lsS_dec2]) (fun h101 => ?_) (fun h101 => ?_)
            · try simp only [decide_eq_true_eq, decide_eq_false_iff_not] at h101
              refine AWP.region (AOPS.all (by simp (disch := first|omega|(simp only[ln];omega)) [idf_Wd', idf_numI, cells_numI, numI_fold, Sp.av, Sp.cells, Sg.av, Sg.cells, spA, spC]; rfl) ?_)
              refine J16 _ ?_
              exact ⟨v.a, u.b, (nx + 1 + 1 + 1 + 1) + 16 + 4, (nx + 1 + 1 + 1 + 1) + 16 + 5, by unfold lowS; rw [if_pos h101], rfl, by simp, by simp, by simp, by simp, by simp, by simp, by simp, by simp (disch := omega), by simp (disch := omega), by simp (disch := omega), by simp (disch := omega), by simp (disch := omega), by simp (disch := omega), by omega, by omega, by first | omega | (simp; done) | (simp; omega), rfl⟩
            · try simp only [decide_eq_true_eq, decide_eq_false_iff_not] at h101
              refine AWP.skip ?_
              refine J16 _ ?_
              exact ⟨u.a, u.b, (nx + 1 + 1 + 1 + 1) + 16 + 4, (nx + 1 + 1 + 1 + 1) + 16 + 5, by unfold lowS; rw [h101]; rfl, rfl, by simp, by simp, by simp, by simp, by simp, by simp, by simp, by simp (disch := omega), by simp (disch := omega), by simp (disch := omega), by simp (disch := omega), by simp (disch := omega), by simp (disch := omega), by omega, by omega, by first | omega | (simp; done) | (simp; omega), rfl⟩
          · simp at h92
        · have c2 : (B == 0) = false := by simp [hB0]
          have hm' := hm
          rw [if_neg (fun h => hB0 h.2)] at hm'
          refine AWP.region (AOPS.all (by simp (disch := first|omega|(simp only[ln];omega)) [idf_Wd', idf_numI, cells_numI, numI_fold, Sp.av, Sp.cells, Sg.av, Sg.cells, spA, spC, c1, c2]; rfl) ?_)
          refine hK10 _ ?_
          refine cond_ok _ (by simp (disch := first|omega|(simp only[ln];omega)); rfl) (fun h92 => ?_) (fun h92 => ?_)
          · simp at h92
          · try simp only [decide_eq_true_eq, decide_eq_false_iff_not] at h92
            refine AWP.skip ?_
            refine hK9 _ ?_
            refine AWP.seqk fun K29 hK29 => ?_
            refine AWP.draw 14 Try.checked.mixed (by kernel_rfl) (by simp) ?_
            simp only [List.take_succ_cons, List.take_zero, List.drop_succ_cons, List.drop_zero]
            refine DP.runFk 6 (by simp (disch := first|omega|(simp only[ln];omega)) [runDf.eq_def, runF1, runF2, stepF.eq_def, updo.eq_def, hupo.eq_def, opSto1.eq_def, List.take_succ_cons, List.take_zero, idf_Wd', idf_numI, cells_numI, numI_fold, Sp.av, Sp.cells, Sg.av, Sg.cells, spA, spC]; rfl) fun fs30 hfs30 => ?_
            replace hfs30 : fs30.length = 6 := hfs30.trans rfl
            simp only [List.drop_succ_cons, List.drop_zero]
            refine DP.fcall (cC) rfl rfl rfl hb129 (by simp (disch := first|omega|(simp only[ln];omega)) [idf_Wd', idf_numI, cells_numI, numI_fold, Sp.av, Sp.cells, Sg.av, Sg.cells, spA, spC]) (by simp (disch := first|omega|(simp only[ln];omega))) (by simp) ?_
            simp only [updo]
            refine DP.runFk 6 (by simp (disch := first|omega|(simp only[ln];omega)) [runDf.eq_def, runF1, runF2, stepF.eq_def, updo.eq_def, hupo.eq_def, opSto1.eq_def, List.take_succ_cons, List.take_zero, idf_Wd', idf_numI, cells_numI, numI_fold, Sp.av, Sp.cells, Sg.av, Sg.cells, spA, spC]; rfl) fun fs31 hfs31 => ?_
            replace hfs31 : fs31.length = 6 := hfs31.trans rfl
            simp only [List.drop_succ_cons, List.drop_zero]
            refine DP.fcall (cD) rfl rfl rfl hb129 (by simp (disch := first|omega|(simp only[ln];omega)) [idf_Wd', idf_numI, cells_numI, numI_fold, Sp.av, Sp.cells, Sg.av, Sg.cells, spA, spC]) (by simp (disch := first|omega|(simp only[ln];omega))) (by simp) ?_
            simp only [updo]
            refine DQ.runF (m := 14) (by simp only [List.length_append, List.length_cons, List.length_nil, hfs30, hfs31]; omega) _ _ _ (by kernel_rfl) rfl (by simp (disch := first|omega|(simp only[ln];omega)) [runDf.eq_def, runF1, runF2, stepF.eq_def, updo.eq_def, hupo.eq_def, opSto1.eq_def, idf_Wd', idf_numI, cells_numI, numI_fold, Sp.av, Sp.cells, Sg.av, Sg.cells, spA, spC]; rfl) ?_
            refine hK29 _ ?_
            refine AWP.seqk fun K32 hK32 => ?_
            refine AWP.seqk fun K33 hK33 => ?_
            cases q3 : decide (0 < sg3 A * sg3 B)
            · refine AWP.region ?_
              refine AOPS.runk 1 (by simp (disch := first|omega|(simp only[ln];omega)) [List.take_succ_cons, List.take_zero, idf_Wd', idf_numI, cells_numI, numI_fold, Sp.av, Sp.cells, Sg.av, Sg.cells, spA, spC, q3]; rfl) ?_
              simp only [List.drop_succ_cons, List.drop_zero]
              refine AOPS.fcall (signI_fc A) rfl rfl rfl hb131 (by simp (disch := first|omega|(simp only[ln];omega)) [idf_Wd', q3, idf_numI, cells_numI, numI_fold, Sp.av, Sp.cells, Sg.av, Sg.cells, spA, spC]) (by simp (disch := first|omega|(simp only[ln];omega)) [q3]) (by simp) ?_
              simp only [puts_some, updo]
              refine AOPS.runk 1 (by simp (disch := first|omega|(simp only[ln];omega)) [List.take_succ_cons, List.take_zero, idf_Wd', idf_numI, cells_numI, numI_fold, Sp.av, Sp.cells, Sg.av, Sg.cells, spA, spC, q3]; rfl) ?_
              simp only [List.drop_succ_cons, List.drop_zero]
              refine AOPS.fcall (signI_fc B) rfl rfl rfl hb131 (by simp (disch := first|omega|(simp only[ln];omega)) [idf_Wd', q3, idf_numI, cells_numI, numI_fold, Sp.av, Sp.cells, Sg.av, Sg.cells, spA, spC]) (by simp (disch := first|omega|(simp only[ln];omega)) [q3]) (by simp) ?_
              simp only [puts_some, updo]
              refine AOPS.runk 4 (by simp (disch := first|omega|(simp only[ln];omega)) [List.take_succ_cons, List.take_zero, idf_Wd', idf_numI, cells_numI, numI_fold, Sp.av, Sp.cells, Sg.av, Sg.cells, spA, spC, q3]; rfl) ?_
              simp only [List.drop_succ_cons, List.drop_zero]
              refine AOPS.fcall (signI_fc C) rfl rfl rfl hb131 (by simp (disch := first|omega|(simp only[ln];omega)) [idf_Wd', q3, idf_numI, cells_numI, numI_fold, Sp.av, Sp.cells, Sg.av, Sg.cells, spA, spC]) (by simp (disch := first|omega|(simp only[ln];omega)) [q3]) (by simp) ?_
              simp only [puts_some, updo]
              refine AOPS.runk 1 (by simp (disch := first|omega|(simp only[ln];omega)) [List.take_succ_cons, List.take_zero, idf_Wd', idf_numI, cells_numI, numI_fold, Sp.av, Sp.cells, Sg.av, Sg.cells, spA, spC, q3]; rfl) ?_
              simp only [List.drop_succ_cons, List.drop_zero]
              refine AOPS.fcall (signI_fc D) rfl rfl rfl hb131 (by simp (disch := first|omega|(simp only[ln];omega)) [idf_Wd', q3, idf_numI, cells_numI, numI_fold, Sp.av, Sp.cells, Sg.av, Sg.cells, spA, spC]) (by simp (disch := first|omega|(simp only[ln];omega)) [q3]) (by simp) ?_
              simp only [puts_some, updo]
              refine AOPS.all (by simp (disch := first|omega|(simp only[ln];omega)) [idf_Wd', idf_numI, cells_numI, numI_fold, Sp.av, Sp.cells, Sg.av, Sg.cells, spA, spC, q3]; rfl) ?_
              refine hK33 _ ?_
              refine cond_ok (decide (0 < sg3 C * sg3 D)) (by simp (disch := first|omega|(simp only[ln];omega))) (fun h159 => ?_) (fun h159 => ?_)
              · try simp only [decide_eq_true_eq, decide_eq_false_iff_not] at h159
                have hw : noWay u v = true := by rw [hnw, q3]; simp [h159]
                refine AWP.seqk fun K34 hK34 => ?_
                refine AWP.region ?_
                refine AOPS.runk 1 (by simp (disch := first|omega|(simp only[ln];omega)) [List.take_succ_cons, List.take_zero, idf_Wd', idf_numI, cells_numI, numI_fold, Sp.av, Sp.cells, Sg.av, Sg.cells, spA, spC]; rfl) ?_
                simp only [List.drop_succ_cons, List.drop_zero]
                refine AOPS.fcall (none_fc) rfl rfl (by simp; rfl) hbNone (by simp (disch := first|omega|(simp only[ln];omega)) [idf_Wd', idf_numI, cells_numI, numI_fold, Sp.av, Sp.cells, Sg.av, Sg.cells, spA, spC]) (by simp (disch := first|omega|(simp only[ln];omega))) (by simp) ?_
                simp only [puts_some, updo]
                refine AOPS.all (by simp (disch := first|omega|(simp only[ln];omega)) [idf_Wd', idf_numI, cells_numI, numI_fold, Sp.av, Sp.cells, Sg.av, Sg.cells, spA, spC]; rfl) ?_
                refine hK34 _ ?_
                refine AWP.ret ?_
                exact hK _ _ _ _ trivial ((Fin.mk (by simp [aRes, aResL, aRes1, idf_Wd', idf_numI, cells_numI, numI_fold, Sp.av, Sp.cells, Sg.av, Sg.cells, spA, spC]; rfl)).cast (by rw [hm', if_pos hw]; try rfl))
              · try simp only [decide_eq_true_eq, decide_eq_false_iff_not] at h159
                have hw : ¬ noWay u v = true := by rw [hnw, q3]; simp; omega
                have b1 : Bg 1 v.a.x := Bg.i64 (by omega) (by omega)
                have b2 : Bg 1 v.a.y := Bg.i64 (by omega) (by omega)
                have b3 : Bg 1 A := Bg.i64 (by omega) (by omega)
                have b4 : Bg 1 (A - B) := Bg.i64 (by omega) (by omega)
                have b5 : Bg 1 (v.b.x - v.a.x) := Bg.i64 (by omega) (by omega)
                have b6 : Bg 1 (v.b.y - v.a.y) := Bg.i64 (by omega) (by omega)
                refine AWP.skip ?_
                refine hK32 _ ?_
                refine AWP.seqk fun K35 hK35 => ?_
                refine AWP.region ?_
                refine AOPS.runk 3 (by simp (disch := first|omega|(simp only[ln];omega)) [List.take_succ_cons, List.take_zero, idf_Wd', idf_numI, cells_numI, numI_fold, Sp.av, Sp.cells, Sg.av, Sg.cells, spA, spC]; rfl) ?_
                simp only [List.drop_succ_cons, List.drop_zero]
                refine AOPS.fcall (whole_fc (A - B) (by omega) (by omega)) rfl rfl rfl hb66 (by simp (disch := first|omega|(simp only[ln];omega)) [idf_Wd', idf_numI, cells_numI, numI_fold, Sp.av, Sp.cells, Sg.av, Sg.cells, spA, spC]) (by simp (disch := first|omega|(simp only[ln];omega))) (by simp) ?_
                simp only [puts_some, updo]
                refine AOPS.all (by simp (disch := first|omega|(simp only[ln];omega)) [idf_Wd', idf_numI, cells_numI, numI_fold, Sp.av, Sp.cells, Sg.av, Sg.cells, spA, spC]; rfl) ?_
                refine hK35 _ ?_
                refine AWP.seqk fun K36 hK36 => ?_
                refine AWP.draw 19 Try.checked.mixed (by kernel_rfl) (by simp) ?_
                simp only [List.take_succ_cons, List.take_zero, List.drop_succ_cons, List.drop_zero]
                refine DP.runFk 3 (by simp (disch := first|omega|(simp only[ln];omega)) [runDf.eq_def, runF1, runF2, stepF.eq_def, updo.eq_def, hupo.eq_def, opSto1.eq_def, List.take_succ_cons, List.take_zero, idf_Wd', idf_numI, cells_numI, numI_fold, Sp.av, Sp.cells, Sg.av, Sg.cells, spA, spC]; rfl) fun fs37 hfs37 => ?_
                replace hfs37 : fs37.length = 3 := hfs37.trans rfl
                simp only [List.drop_succ_cons, List.drop_zero]
                refine DP.fcall (whole_fc v.a.x (by omega) (by omega)) rfl rfl rfl hb66 (by simp (disch := first|omega|(simp only[ln];omega)) [idf_Wd', idf_numI, cells_numI, numI_fold, Sp.av, Sp.cells, Sg.av, Sg.cells, spA, spC]) (by simp (disch := first|omega|(simp only[ln];omega))) (by simp) ?_
                simp only [updo]
                refine DP.runFk 1 (by simp (disch := first|omega|(simp only[ln];omega)) [runDf.eq_def, runF1, runF2, stepF.eq_def, updo.eq_def, hupo.eq_def, opSto1.eq_def, List.take_succ_cons, List.take_zero, idf_Wd', idf_numI, cells_numI, numI_fold, Sp.av, Sp.cells, Sg.av, Sg.cells, spA, spC]; rfl) fun fs38 hfs38 => ?_
                replace hfs38 : fs38.length = 1 := hfs38.trans rfl
                simp only [List.drop_succ_cons, List.drop_zero]
                refine DP.fcall (by_fc b1 b4 (by omega) (by omega)) rfl rfl rfl hb62 (by simp (disch := first|omega|(simp only[ln];omega)) [idf_Wd', idf_numI, cells_numI, numI_fold, Sp.av, Sp.cells, Sg.av, Sg.cells, spA, spC]) (by simp (disch := first|omega|(simp only[ln];omega))) (by simp) ?_
                simp only [updo]
                refine DP.runFk 1 (by simp (disch := first|omega|(simp only[ln];omega)) [runDf.eq_def, runF1, runF2, stepF.eq_def, updo.eq_def, hupo.eq_def, opSto1.eq_def, List.take_succ_cons, List.take_zero, idf_Wd', idf_numI, cells_numI, numI_fold, Sp.av, Sp.cells, Sg.av, Sg.cells, spA, spC]; rfl) fun fs39 hfs39 => ?_
                replace hfs39 : fs39.length = 1 := hfs39.trans rfl
                simp only [List.drop_succ_cons, List.drop_zero]
                refine DP.fcall (whole_fc A (by omega) (by omega)) rfl rfl rfl hb66 (by simp (disch := first|omega|(simp only[ln];omega)) [idf_Wd', idf_numI, cells_numI, numI_fold, Sp.av, Sp.cells, Sg.av, Sg.cells, spA, spC]) (by simp (disch := first|omega|(simp only[ln];omega))) (by simp) ?_
                simp only [updo]
                refine DP.runFk 7 (by simp (disch := first|omega|(simp only[ln];omega)) [runDf.eq_def, runF1, runF2, stepF.eq_def, updo.eq_def, hupo.eq_def, opSto1.eq_def, List.take_succ_cons, List.take_zero, idf_Wd', idf_numI, cells_numI, numI_fold, Sp.av, Sp.cells, Sg.av, Sg.cells, spA, spC]; rfl) fun fs40 hfs40 => ?_
                replace hfs40 : fs40.length = 7 := hfs40.trans rfl
                simp only [List.drop_succ_cons, List.drop_zero]
                refine DP.fcall (whole_fc (v.b.x - v.a.x) (by omega) (by omega)) rfl rfl rfl hb66 (by simp (disch := first|omega|(simp only[ln];omega)) [idf_Wd', idf_numI, cells_numI, numI_fold, Sp.av, Sp.cells, Sg.av, Sg.cells, spA, spC]) (by simp (disch := first|omega|(simp only[ln];omega))) (by simp) ?_
                simp only [updo]
                refine DP.fcall (by_fc b3 b5 (by omega) (by omega)) rfl rfl rfl hb62 (by simp (disch := first|omega|(simp only[ln];omega)) [idf_Wd', idf_numI, cells_numI, numI_fold, Sp.av, Sp.cells, Sg.av, Sg.cells, spA, spC]) (by simp (disch := first|omega|(simp only[ln];omega))) (by simp) ?_
                simp only [updo]
                refine DP.fcall (plus_fc (b1.mul b4) (b3.mul b5) (by omega) (by omega)) rfl rfl rfl hb70 (by simp (disch := first|omega|(simp only[ln];omega)) [idf_Wd', idf_numI, cells_numI, numI_fold, Sp.av, Sp.cells, Sg.av, Sg.cells, spA, spC]) (by simp (disch := first|omega|(simp only[ln];omega))) (by simp) ?_
                simp only [updo]
                refine DP.runFk 1 (by simp (disch := first|omega|(simp only[ln];omega)) [runDf.eq_def, runF1, runF2, stepF.eq_def, updo.eq_def, hupo.eq_def, opSto1.eq_def, List.take_succ_cons, List.take_zero, idf_Wd', idf_numI, cells_numI, numI_fold, Sp.av, Sp.cells, Sg.av, Sg.cells, spA, spC]; rfl) fun fs41 hfs41 => ?_
                replace hfs41 : fs41.length = 1 := hfs41.trans rfl
                simp only [List.drop_succ_cons, List.drop_zero]
                refine DQ.runF (m := 19) (by simp only [List.length_append, List.length_cons, List.length_nil, hfs37, hfs38, hfs39, hfs40, hfs41]; omega) _ _ _ (by kernel_rfl) rfl (by simp (disch := first|omega|(simp only[ln];omega)) [runDf.eq_def, runF1, runF2, stepF.eq_def, updo.eq_def, hupo.eq_def, opSto1.eq_def, idf_Wd', idf_numI, cells_numI, numI_fold, Sp.av, Sp.cells, Sg.av, Sg.cells, spA, spC]; rfl) ?_
                refine hK36 _ ?_
                refine AWP.seqk fun K42 hK42 => ?_
                refine AWP.draw 19 Try.checked.mixed (by kernel_rfl) (by simp) ?_
                simp only [List.take_succ_cons, List.take_zero, List.drop_succ_cons, List.drop_zero]
                refine DP.runFk 3 (by simp (disch := first|omega|(simp only[ln];omega)) [runDf.eq_def, runF1, runF2, stepF.eq_def, updo.eq_def, hupo.eq_def, opSto1.eq_def, List.take_succ_cons, List.take_zero, idf_Wd', idf_numI, cells_numI, numI_fold, Sp.av, Sp.cells, Sg.av, Sg.cells, spA, spC]; rfl) fun fs43 hfs43 => ?_
                replace hfs43 : fs43.length = 3 := hfs43.trans rfl
                simp only [List.drop_succ_cons, List.drop_zero]
                refine DP.fcall (whole_fc v.a.y (by omega) (by omega)) rfl rfl rfl hb66 (by simp (disch := first|omega|(simp only[ln];omega)) [idf_Wd', idf_numI, cells_numI, numI_fold, Sp.av, Sp.cells, Sg.av, Sg.cells, spA, spC]) (by simp (disch := first|omega|(simp only[ln];omega))) (by simp) ?_
                simp only [updo]
                refine DP.runFk 1 (by simp (disch := first|omega|(simp only[ln];omega)) [runDf.eq_def, runF1, runF2, stepF.eq_def, updo.eq_def, hupo.eq_def, opSto1.eq_def, List.take_succ_cons, List.take_zero, idf_Wd', idf_numI, cells_numI, numI_fold, Sp.av, Sp.cells, Sg.av, Sg.cells, spA, spC]; rfl) fun fs44 hfs44 => ?_
                replace hfs44 : fs44.length = 1 := hfs44.trans rfl
                simp only [List.drop_succ_cons, List.drop_zero]
                refine DP.fcall (by_fc b2 b4 (by omega) (by omega)) rfl rfl rfl hb62 (by simp (disch := first|omega|(simp only[ln];omega)) [idf_Wd', idf_numI, cells_numI, numI_fold, Sp.av, Sp.cells, Sg.av, Sg.cells, spA, spC]) (by simp (disch := first|omega|(simp only[ln];omega))) (by simp) ?_
                simp only [updo]
                refine DP.runFk 1 (by simp (disch := first|omega|(simp only[ln];omega)) [runDf.eq_def, runF1, runF2, stepF.eq_def, updo.eq_def, hupo.eq_def, opSto1.eq_def, List.take_succ_cons, List.take_zero, idf_Wd', idf_numI, cells_numI, numI_fold, Sp.av, Sp.cells, Sg.av, Sg.cells, spA, spC]; rfl) fun fs45 hfs45 => ?_
                replace hfs45 : fs45.length = 1 := hfs45.trans rfl
                simp only [List.drop_succ_cons, List.drop_zero]
                refine DP.fcall (whole_fc A (by omega) (by omega)) rfl rfl rfl hb66 (by simp (disch := first|omega|(simp only[ln];omega)) [idf_Wd', idf_numI, cells_numI, numI_fold, Sp.av, Sp.cells, Sg.av, Sg.cells, spA, spC]) (by simp (disch := first|omega|(simp only[ln];omega))) (by simp) ?_
                simp only [updo]
                refine DP.runFk 7 (by simp (disch := first|omega|(simp only[ln];omega)) [runDf.eq_def, runF1, runF2, stepF.eq_def, updo.eq_def, hupo.eq_def, opSto1.eq_def, List.take_succ_cons, List.take_zero, idf_Wd', idf_numI, cells_numI, numI_fold, Sp.av, Sp.cells, Sg.av, Sg.cells, spA, spC]; rfl) fun fs46 hfs46 => ?_
                replace hfs46 : fs46.length = 7 := hfs46.trans rfl
                simp only [List.drop_succ_cons, List.drop_zero]
                refine DP.fcall (whole_fc (v.b.y - v.a.y) (by omega) (by omega)) rfl rfl rfl hb66 (by simp (disch := first|omega|(simp only[ln];omega)) [idf_Wd', idf_numI, cells_numI, numI_fold, Sp.av, Sp.cells, Sg.av, Sg.cells, spA, spC]) (by simp (disch := first|omega|(simp only[ln];omega))) (by simp) ?_
                simp only [updo]
                refine DP.fcall (by_fc b3 b6 (by omega) (by omega)) rfl rfl rfl hb62 (by simp (disch := first|omega|(simp only[ln];omega)) [idf_Wd', idf_numI, cells_numI, numI_fold, Sp.av, Sp.cells, Sg.av, Sg.cells, spA, spC]) (by simp (disch := first|omega|(simp only[ln];omega))) (by simp) ?_
                simp only [updo]
                refine DP.fcall (plus_fc (b2.mul b4) (b3.mul b6) (by omega) (by omega)) rfl rfl rfl hb70 (by simp (disch := first|omega|(simp only[ln];omega)) [idf_Wd', idf_numI, cells_numI, numI_fold, Sp.av, Sp.cells, Sg.av, Sg.cells, spA, spC]) (by simp (disch := first|omega|(simp only[ln];omega))) (by simp) ?_
                simp only [updo]
                refine DP.runFk 1 (by simp (disch := first|omega|(simp only[ln];omega)) [runDf.eq_def, runF1, runF2, stepF.eq_def, updo.eq_def, hupo.eq_def, opSto1.eq_def, List.take_succ_cons, List.take_zero, idf_Wd', idf_numI, cells_numI, numI_fold, Sp.av, Sp.cells, Sg.av, Sg.cells, spA, spC]; rfl) fun fs47 hfs47 => ?_
                replace hfs47 : fs47.length = 1 := hfs47.trans rfl
                simp only [List.drop_succ_cons, List.drop_zero]
                refine DQ.runF (m := 19) (by simp only [List.length_append, List.length_cons, List.length_nil, hfs43, hfs44, hfs45, hfs46, hfs47]; omega) _ _ _ (by kernel_rfl) rfl (by simp (disch := first|omega|(simp only[ln];omega)) [runDf.eq_def, runF1, runF2, stepF.eq_def, updo.eq_def, hupo.eq_def, opSto1.eq_def, idf_Wd', idf_numI, cells_numI, numI_fold, Sp.av, Sp.cells, Sg.av, Sg.cells, spA, spC]; rfl) ?_
                refine hK42 _ ?_
                refine AWP.seqk fun K48 hK48 => ?_
                refine AWP.region ?_
                refine AOPS.runk 4 (by simp (disch := first|omega|(simp only[ln];omega)) [List.take_succ_cons, List.take_zero, idf_Wd', idf_numI, cells_numI, numI_fold, Sp.av, Sp.cells, Sg.av, Sg.cells, spA, spC]; rfl) ?_
                simp only [List.drop_succ_cons, List.drop_zero]
                refine AOPS.fcall (spotPoint_fc (j := 3) (v.a.x * (A - B) + A * (v.b.x - v.a.x)) (v.a.y * (A - B) + A * (v.b.y - v.a.y)) (A - B) (((b1.mul b4).add (b3.mul b5)).le (by omega)) (((b2.mul b4).add (b3.mul b6)).le (by omega)) (b4.le (by omega)) (by omega)) rfl rfl rfl hb132 (by simp (disch := first|omega|(simp only[ln];omega)) [idf_Wd', idf_numI, cells_numI, numI_fold, Sp.av, Sp.cells, Sg.av, Sg.cells, spA, spC]) (by simp (disch := first|omega|(simp only[ln];omega))) (by simp) ?_
                simp only [puts_some, updo]
                refine AOPS.all (by simp (disch := first|omega|(simp only[ln];omega)) [idf_Wd', idf_numI, cells_numI, numI_fold, Sp.av, Sp.cells, Sg.av, Sg.cells, spA, spC]; rfl) ?_
                refine hK48 _ ?_
                refine AWP.seqk fun K49 hK49 => ?_
                refine AWP.old fun hold => ?_
                refine AWP.draw 2 Try.checked.mixed (by kernel_rfl) (by simp) ?_
                simp only [List.take_succ_cons, List.take_zero, List.drop_succ_cons, List.drop_zero]
                refine DP.runFk 1 (by simp (disch := first|omega|(simp only[ln];omega)) [runDf.eq_def, runF1, runF2, stepF.eq_def, updo.eq_def, hupo.eq_def, opSto1.eq_def, List.take_succ_cons, List.take_zero, idf_Wd', idf_numI, cells_numI, numI_fold, Sp.av, Sp.cells, Sg.av, Sg.cells, spA, spC]; rfl) fun fs50 hfs50 => ?_
                replace hfs50 : fs50.length = 1 := hfs50.trans rfl
                simp only [List.drop_succ_cons, List.drop_zero]
                refine DP.runF1q (by simp (disch := first|omega|(simp only[ln];omega)) [runDf.eq_def, runF1, runF2, stepF.eq_def, updo.eq_def, hupo.eq_def, opSto1.eq_def, idf_Wd', idf_numI, cells_numI, numI_fold, Sp.av, Sp.cells, Sg.av, Sg.cells, spA, spC]; rfl) fun fq51 hfq51 => ?_
                simp [qids, Op.operands, topId] at hfq51
                simp only [updo]
                refine DQ.asg1 _ rfl rfl ?_
                simp only [updo]
                refine DQ.sto1 (m := 2) [1] _ (by simp (disch := first|omega|(simp only[ln];omega)) [runDf.eq_def, runF1, runF2, stepF.eq_def, updo.eq_def, hupo.eq_def, opSto1.eq_def, idf_Wd', idf_numI, cells_numI, numI_fold, Sp.av, Sp.cells, Sg.av, Sg.cells, spA, spC]; rfl) rfl (by simp only [List.length_append, List.length_cons, List.length_nil, hfs50]; omega) (by kernel_rfl) (by intro k f hk hex; simp only [List.mem_cons, List.not_mem_nil, or_false] at hex; rcases hex with rfl <;> (simp [List.getElem?_append, hfs50] at hk; subst hk; refine ⟨?_, by first | omega | (simp; done) | (simp; omega)⟩; simp [qids, Op.operands, Call.operands, topId, numS, numI, Wd, hfq51]; try omega)) ?_
                try simp only []
                refine DQ.sto1 (m := 2) [] _ (by simp (disch := first|omega|(simp only[ln];omega)) [runDf.eq_def, runF1, runF2, stepF.eq_def, updo.eq_def, hupo.eq_def, opSto1.eq_def, idf_Wd', idf_numI, cells_numI, numI_fold, Sp.av, Sp.cells, Sg.av, Sg.cells, spA, spC]; rfl) rfl (by simp only [List.length_append, List.length_cons, List.length_nil, hfs50]; omega) (by kernel_rfl) (by intro k f hk hex; simp only [List.not_mem_nil] at hex) ?_
                try simp only []
                refine hK49 _ ?_
                refine AWP.ret ?_
                exact hK _ _ _ _ trivial ((Fin.mk (by simp [aRes, aResL, aRes1, idf_Wd', idf_numI, cells_numI, numI_fold, Sp.av, Sp.cells, Sg.av, Sg.cells, spA, spC]; rfl)).cast (by rw [hm', if_neg hw, eX, eY, eW]; try rfl))
            · refine AWP.region ?_
              refine AOPS.runk 1 (by simp (disch := first|omega|(simp only[ln];omega)) [List.take_succ_cons, List.take_zero, idf_Wd', idf_numI, cells_numI, numI_fold, Sp.av, Sp.cells, Sg.av, Sg.cells, spA, spC, q3]; rfl) ?_
              simp only [List.drop_succ_cons, List.drop_zero]
              refine AOPS.fcall (signI_fc A) rfl rfl rfl hb131 (by simp (disch := first|omega|(simp only[ln];omega)) [idf_Wd', q3, idf_numI, cells_numI, numI_fold, Sp.av, Sp.cells, Sg.av, Sg.cells, spA, spC]) (by simp (disch := first|omega|(simp only[ln];omega)) [q3]) (by simp) ?_
              simp only [puts_some, updo]
              refine AOPS.runk 1 (by simp (disch := first|omega|(simp only[ln];omega)) [List.take_succ_cons, List.take_zero, idf_Wd', idf_numI, cells_numI, numI_fold, Sp.av, Sp.cells, Sg.av, Sg.cells, spA, spC, q3]; rfl) ?_
              simp only [List.drop_succ_cons, List.drop_zero]
              refine AOPS.fcall (signI_fc B) rfl rfl rfl hb131 (by simp (disch := first|omega|(simp only[ln];omega)) [idf_Wd', q3, idf_numI, cells_numI, numI_fold, Sp.av, Sp.cells, Sg.av, Sg.cells, spA, spC]) (by simp (disch := first|omega|(simp only[ln];omega)) [q3]) (by simp) ?_
              simp only [puts_some, updo]
              refine AOPS.all (by simp (disch := first|omega|(simp only[ln];omega)) [idf_Wd', idf_numI, cells_numI, numI_fold, Sp.av, Sp.cells, Sg.av, Sg.cells, spA, spC, q3]; rfl) ?_
              refine hK33 _ ?_
              refine cond_ok _ (by simp (disch := first|omega|(simp only[ln];omega)); rfl) (fun h159 => ?_) (fun h159 => ?_)
              · try simp only [decide_eq_true_eq, decide_eq_false_iff_not] at h159
                have hw : noWay u v = true := by rw [hnw, q3]; rfl
                refine AWP.seqk fun K52 hK52 => ?_
                refine AWP.region ?_
                refine AOPS.runk 1 (by simp (disch := first|omega|(simp only[ln];omega)) [List.take_succ_cons, List.take_zero, idf_Wd', idf_numI, cells_numI, numI_fold, Sp.av, Sp.cells, Sg.av, Sg.cells, spA, spC]; rfl) ?_
                simp only [List.drop_succ_cons, List.drop_zero]
                refine AOPS.fcall (none_fc) rfl rfl (by simp; rfl) hbNone (by simp (disch := first|omega|(simp only[ln];omega)) [idf_Wd', idf_numI, cells_numI, numI_fold, Sp.av, Sp.cells, Sg.av, Sg.cells, spA, spC]) (by simp (disch := first|omega|(simp only[ln];omega))) (by simp) ?_
                simp only [puts_some, updo]
                refine AOPS.all (by simp (disch := first|omega|(simp only[ln];omega)) [idf_Wd', idf_numI, cells_numI, numI_fold, Sp.av, Sp.cells, Sg.av, Sg.cells, spA, spC]; rfl) ?_
                refine hK52 _ ?_
                refine AWP.ret ?_
                exact hK _ _ _ _ trivial ((Fin.mk (by simp [aRes, aResL, aRes1, idf_Wd', idf_numI, cells_numI, numI_fold, Sp.av, Sp.cells, Sg.av, Sg.cells, spA, spC]; rfl)).cast (by rw [hm', if_pos hw]; try rfl))
              · simp at h159
      · have c1 : (A == 0) = false := by simp [hA0]
        have hm' := hm
        rw [if_neg (fun h => hA0 h.1)] at hm'
        refine AWP.region (AOPS.all (by simp (disch := first|omega|(simp only[ln];omega)) [idf_Wd', idf_numI, cells_numI, numI_fold, Sp.av, Sp.cells, Sg.av, Sg.cells, spA, spC, c1]; rfl) ?_)
        refine hK10 _ ?_
        refine cond_ok _ (by simp (disch := first|omega|(simp only[ln];omega)); rfl) (fun h92 => ?_) (fun h92 => ?_)
        · simp at h92
        · try simp only [decide_eq_true_eq, decide_eq_false_iff_not] at h92
          refine AWP.skip ?_
          refine hK9 _ ?_
          refine AWP.seqk fun K53 hK53 => ?_
          refine AWP.draw 14 Try.checked.mixed (by kernel_rfl) (by simp) ?_
          simp only [List.take_succ_cons, List.take_zero, List.drop_succ_cons, List.drop_zero]
          refine DP.runFk 6 (by simp (disch := first|omega|(simp only[ln];omega)) [runDf.eq_def, runF1, runF2, stepF.eq_def, updo.eq_def, hupo.eq_def, opSto1.eq_def, List.take_succ_cons, List.take_zero, idf_Wd', idf_numI, cells_numI, numI_fold, Sp.av, Sp.cells, Sg.av, Sg.cells, spA, spC]; rfl) fun fs54 hfs54 => ?_
          replace hfs54 : fs54.length = 6 := hfs54.trans rfl
          simp only [List.drop_succ_cons, List.drop_zero]
          refine DP.fcall (cC) rfl rfl rfl hb129 (by simp (disch := first|omega|(simp only[ln];omega)) [idf_Wd', idf_numI, cells_numI, numI_fold, Sp.av, Sp.cells, Sg.av, Sg.cells, spA, spC]) (by simp (disch := first|omega|(simp only[ln];omega))) (by simp) ?_
          simp only [updo]
          refine DP.runFk 6 (by simp (disch := first|omega|(simp only[ln];omega)) [runDf.eq_def, runF1, runF2, stepF.eq_def, updo.eq_def, hupo.eq_def, opSto1.eq_def, List.take_succ_cons, List.take_zero, idf_Wd', idf_numI, cells_numI, numI_fold, Sp.av, Sp.cells, Sg.av, Sg.cells, spA, spC]; rfl) fun fs55 hfs55 => ?_
          replace hfs55 : fs55.length = 6 := hfs55.trans rfl
          simp only [List.drop_succ_cons, List.drop_zero]
          refine DP.fcall (cD) rfl rfl rfl hb129 (by simp (disch := first|omega|(simp only[ln];omega)) [idf_Wd', idf_numI, cells_numI, numI_fold, Sp.av, Sp.cells, Sg.av, Sg.cells, spA, spC]) (by simp (disch := first|omega|(simp only[ln];omega))) (by simp) ?_
          simp only [updo]
          refine DQ.runF (m := 14) (by simp only [List.length_append, List.length_cons, List.length_nil, hfs54, hfs55]; omega) _ _ _ (by kernel_rfl) rfl (by simp (disch := first|omega|(simp only[ln];omega)) [runDf.eq_def, runF1, runF2, stepF.eq_def, updo.eq_def, hupo.eq_def, opSto1.eq_def, idf_Wd', idf_numI, cells_numI, numI_fold, Sp.av, Sp.cells, Sg.av, Sg.cells, spA, spC]; rfl) ?_
          refine hK53 _ ?_
          refine AWP.seqk fun K56 hK56 => ?_
          refine AWP.seqk fun K57 hK57 => ?_
          cases q3 : decide (0 < sg3 A * sg3 B)
          · refine AWP.region ?_
            refine AOPS.runk 1 (by simp (disch := first|omega|(simp only[ln];omega)) [List.take_succ_cons, List.take_zero, idf_Wd', idf_numI, cells_numI, numI_fold, Sp.av, Sp.cells, Sg.av, Sg.cells, spA, spC, q3]; rfl) ?_
            simp only [List.drop_succ_cons, List.drop_zero]
            refine AOPS.fcall (signI_fc A) rfl rfl rfl hb131 (by simp (disch := first|omega|(simp only[ln];omega)) [idf_Wd', q3, idf_numI, cells_numI, numI_fold, Sp.av, Sp.cells, Sg.av, Sg.cells, spA, spC]) (by simp (disch := first|omega|(simp only[ln];omega)) [q3]) (by simp) ?_
            simp only [puts_some, updo]
            refine AOPS.runk 1 (by simp (disch := first|omega|(simp only[ln];omega)) [List.take_succ_cons, List.take_zero, idf_Wd', idf_numI, cells_numI, numI_fold, Sp.av, Sp.cells, Sg.av, Sg.cells, spA, spC, q3]; rfl) ?_
            simp only [List.drop_succ_cons, List.drop_zero]
            refine AOPS.fcall (signI_fc B) rfl rfl rfl hb131 (by simp (disch := first|omega|(simp only[ln];omega)) [idf_Wd', q3, idf_numI, cells_numI, numI_fold, Sp.av, Sp.cells, Sg.av, Sg.cells, spA, spC]) (by simp (disch := first|omega|(simp only[ln];omega)) [q3]) (by simp) ?_
            simp only [puts_some, updo]
            refine AOPS.runk 4 (by simp (disch := first|omega|(simp only[ln];omega)) [List.take_succ_cons, List.take_zero, idf_Wd', idf_numI, cells_numI, numI_fold, Sp.av, Sp.cells, Sg.av, Sg.cells, spA, spC, q3]; rfl) ?_
            simp only [List.drop_succ_cons, List.drop_zero]
            refine AOPS.fcall (signI_fc C) rfl rfl rfl hb131 (by simp (disch := first|omega|(simp only[ln];omega)) [idf_Wd', q3, idf_numI, cells_numI, numI_fold, Sp.av, Sp.cells, Sg.av, Sg.cells, spA, spC]) (by simp (disch := first|omega|(simp only[ln];omega)) [q3]) (by simp) ?_
            simp only [puts_some, updo]
            refine AOPS.runk 1 (by simp (disch := first|omega|(simp only[ln];omega)) [List.take_succ_cons, List.take_zero, idf_Wd', idf_numI, cells_numI, numI_fold, Sp.av, Sp.cells, Sg.av, Sg.cells, spA, spC, q3]; rfl) ?_
            simp only [List.drop_succ_cons, List.drop_zero]
            refine AOPS.fcall (signI_fc D) rfl rfl rfl hb131 (by simp (disch := first|omega|(simp only[ln];omega)) [idf_Wd', q3, idf_numI, cells_numI, numI_fold, Sp.av, Sp.cells, Sg.av, Sg.cells, spA, spC]) (by simp (disch := first|omega|(simp only[ln];omega)) [q3]) (by simp) ?_
            simp only [puts_some, updo]
            refine AOPS.all (by simp (disch := first|omega|(simp only[ln];omega)) [idf_Wd', idf_numI, cells_numI, numI_fold, Sp.av, Sp.cells, Sg.av, Sg.cells, spA, spC, q3]; rfl) ?_
            refine hK57 _ ?_
            refine cond_ok (decide (0 < sg3 C * sg3 D)) (by simp (disch := first|omega|(simp only[ln];omega))) (fun h159 => ?_) (fun h159 => ?_)
            · try simp only [decide_eq_true_eq, decide_eq_false_iff_not] at h159
              have hw : noWay u v = true := by rw [hnw, q3]; simp [h159]
              refine AWP.seqk fun K58 hK58 => ?_
              refine AWP.region ?_
              refine AOPS.runk 1 (by simp (disch := first|omega|(simp only[ln];omega)) [List.take_succ_cons, List.take_zero, idf_Wd', idf_numI, cells_numI, numI_fold, Sp.av, Sp.cells, Sg.av, Sg.cells, spA, spC]; rfl) ?_
              simp only [List.drop_succ_cons, List.drop_zero]
              refine AOPS.fcall (none_fc) rfl rfl (by simp; rfl) hbNone (by simp (disch := first|omega|(simp only[ln];omega)) [idf_Wd', idf_numI, cells_numI, numI_fold, Sp.av, Sp.cells, Sg.av, Sg.cells, spA, spC]) (by simp (disch := first|omega|(simp only[ln];omega))) (by simp) ?_
              simp only [puts_some, updo]
              refine AOPS.all (by simp (disch := first|omega|(simp only[ln];omega)) [idf_Wd', idf_numI, cells_numI, numI_fold, Sp.av, Sp.cells, Sg.av, Sg.cells, spA, spC]; rfl) ?_
              refine hK58 _ ?_
              refine AWP.ret ?_
              exact hK _ _ _ _ trivial ((Fin.mk (by simp [aRes, aResL, aRes1, idf_Wd', idf_numI, cells_numI, numI_fold, Sp.av, Sp.cells, Sg.av, Sg.cells, spA, spC]; rfl)).cast (by rw [hm', if_pos hw]; try rfl))
            · try simp only [decide_eq_true_eq, decide_eq_false_iff_not] at h159
              have hw : ¬ noWay u v = true := by rw [hnw, q3]; simp; omega
              have b1 : Bg 1 v.a.x := Bg.i64 (by omega) (by omega)
              have b2 : Bg 1 v.a.y := Bg.i64 (by omega) (by omega)
              have b3 : Bg 1 A := Bg.i64 (by omega) (by omega)
              have b4 : Bg 1 (A - B) := Bg.i64 (by omega) (by omega)
              have b5 : Bg 1 (v.b.x - v.a.x) := Bg.i64 (by omega) (by omega)
              have b6 : Bg 1 (v.b.y - v.a.y) := Bg.i64 (by omega) (by omega)
              refine AWP.skip ?_
              refine hK56 _ ?_
              refine AWP.seqk fun K59 hK59 => ?_
              refine AWP.region ?_
              refine AOPS.runk 3 (by simp (disch := first|omega|(simp only[ln];omega)) [List.take_succ_cons, List.take_zero, idf_Wd', idf_numI, cells_numI, numI_fold, Sp.av, Sp.cells, Sg.av, Sg.cells, spA, spC]; rfl) ?_
              simp only [List.drop_succ_cons, List.drop_zero]
              refine AOPS.fcall (whole_fc (A - B) (by omega) (by omega)) rfl rfl rfl hb66 (by simp (disch := first|omega|(simp only[ln];omega)) [idf_Wd', idf_numI, cells_numI, numI_fold, Sp.av, Sp.cells, Sg.av, Sg.cells, spA, spC]) (by simp (disch := first|omega|(simp only[ln];omega))) (by simp) ?_
              simp only [puts_some, updo]
              refine AOPS.all (by simp (disch := first|omega|(simp only[ln];omega)) [idf_Wd', idf_numI, cells_numI, numI_fold, Sp.av, Sp.cells, Sg.av, Sg.cells, spA, spC]; rfl) ?_
              refine hK59 _ ?_
              refine AWP.seqk fun K60 hK60 => ?_
              refine AWP.draw 19 Try.checked.mixed (by kernel_rfl) (by simp) ?_
              simp only [List.take_succ_cons, List.take_zero, List.drop_succ_cons, List.drop_zero]
              refine DP.runFk 3 (by simp (disch := first|omega|(simp only[ln];omega)) [runDf.eq_def, runF1, runF2, stepF.eq_def, updo.eq_def, hupo.eq_def, opSto1.eq_def, List.take_succ_cons, List.take_zero, idf_Wd', idf_numI, cells_numI, numI_fold, Sp.av, Sp.cells, Sg.av, Sg.cells, spA, spC]; rfl) fun fs61 hfs61 => ?_
              replace hfs61 : fs61.length = 3 := hfs61.trans rfl
              simp only [List.drop_succ_cons, List.drop_zero]
              refine DP.fcall (whole_fc v.a.x (by omega) (by omega)) rfl rfl rfl hb66 (by simp (disch := first|omega|(simp only[ln];omega)) [idf_Wd', idf_numI, cells_numI, numI_fold, Sp.av, Sp.cells, Sg.av, Sg.cells, spA, spC]) (by simp (disch := first|omega|(simp only[ln];omega))) (by simp) ?_
              simp only [updo]
              refine DP.runFk 1 (by simp (disch := first|omega|(simp only[ln];omega)) [runDf.eq_def, runF1, runF2, stepF.eq_def, updo.eq_def, hupo.eq_def, opSto1.eq_def, List.take_succ_cons, List.take_zero, idf_Wd', idf_numI, cells_numI, numI_fold, Sp.av, Sp.cells, Sg.av, Sg.cells, spA, spC]; rfl) fun fs62 hfs62 => ?_
              replace hfs62 : fs62.length = 1 := hfs62.trans rfl
              simp only [List.drop_succ_cons, List.drop_zero]
              refine DP.fcall (by_fc b1 b4 (by omega) (by omega)) rfl rfl rfl hb62 (by simp (disch := first|omega|(simp only[ln];omega)) [idf_Wd', idf_numI, cells_numI, numI_fold, Sp.av, Sp.cells, Sg.av, Sg.cells, spA, spC]) (by simp (disch := first|omega|(simp only[ln];omega))) (by simp) ?_
              simp only [updo]
              refine DP.runFk 1 (by simp (disch := first|omega|(simp only[ln];omega)) [runDf.eq_def, runF1, runF2, stepF.eq_def, updo.eq_def, hupo.eq_def, opSto1.eq_def, List.take_succ_cons, List.take_zero, idf_Wd', idf_numI, cells_numI, numI_fold, Sp.av, Sp.cells, Sg.av, Sg.cells, spA, spC]; rfl) fun fs63 hfs63 => ?_
              replace hfs63 : fs63.length = 1 := hfs63.trans rfl
              simp only [List.drop_succ_cons, List.drop_zero]
              refine DP.fcall (whole_fc A (by omega) (by omega)) rfl rfl rfl hb66 (by simp (disch := first|omega|(simp only[ln];omega)) [idf_Wd', idf_numI, cells_numI, numI_fold, Sp.av, Sp.cells, Sg.av, Sg.cells, spA, spC]) (by simp (disch := first|omega|(simp only[ln];omega))) (by simp) ?_
              simp only [updo]
              refine DP.runFk 7 (by simp (disch := first|omega|(simp only[ln];omega)) [runDf.eq_def, runF1, runF2, stepF.eq_def, updo.eq_def, hupo.eq_def, opSto1.eq_def, List.take_succ_cons, List.take_zero, idf_Wd', idf_numI, cells_numI, numI_fold, Sp.av, Sp.cells, Sg.av, Sg.cells, spA, spC]; rfl) fun fs64 hfs64 => ?_
              replace hfs64 : fs64.length = 7 := hfs64.trans rfl
              simp only [List.drop_succ_cons, List.drop_zero]
              refine DP.fcall (whole_fc (v.b.x - v.a.x) (by omega) (by omega)) rfl rfl rfl hb66 (by simp (disch := first|omega|(simp only[ln];omega)) [idf_Wd', idf_numI, cells_numI, numI_fold, Sp.av, Sp.cells, Sg.av, Sg.cells, spA, spC]) (by simp (disch := first|omega|(simp only[ln];omega))) (by simp) ?_
              simp only [updo]
              refine DP.fcall (by_fc b3 b5 (by omega) (by omega)) rfl rfl rfl hb62 (by simp (disch := first|omega|(simp only[ln];omega)) [idf_Wd', idf_numI, cells_numI, numI_fold, Sp.av, Sp.cells, Sg.av, Sg.cells, spA, spC]) (by simp (disch := first|omega|(simp only[ln];omega))) (by simp) ?_
              simp only [updo]
              refine DP.fcall (plus_fc (b1.mul b4) (b3.mul b5) (by omega) (by omega)) rfl rfl rfl hb70 (by simp (disch := first|omega|(simp only[ln];omega)) [idf_Wd', idf_numI, cells_numI, numI_fold, Sp.av, Sp.cells, Sg.av, Sg.cells, spA, spC]) (by simp (disch := first|omega|(simp only[ln];omega))) (by simp) ?_
              simp only [updo]
              refine DP.runFk 1 (by simp (disch := first|omega|(simp only[ln];omega)) [runDf.eq_def, runF1, runF2, stepF.eq_def, updo.eq_def, hupo.eq_def, opSto1.eq_def, List.take_succ_cons, List.take_zero, idf_Wd', idf_numI, cells_numI, numI_fold, Sp.av, Sp.cells, Sg.av, Sg.cells, spA, spC]; rfl) fun fs65 hfs65 => ?_
              replace hfs65 : fs65.length = 1 := hfs65.trans rfl
              simp only [List.drop_succ_cons, List.drop_zero]
              refine DQ.runF (m := 19) (by simp only [List.length_append, List.length_cons, List.length_nil, hfs61, hfs62, hfs63, hfs64, hfs65]; omega) _ _ _ (by kernel_rfl) rfl (by simp (disch := first|omega|(simp only[ln];omega)) [runDf.eq_def, runF1, runF2, stepF.eq_def, updo.eq_def, hupo.eq_def, opSto1.eq_def, idf_Wd', idf_numI, cells_numI, numI_fold, Sp.av, Sp.cells, Sg.av, Sg.cells, spA, spC]; rfl) ?_
              refine hK60 _ ?_
              refine AWP.seqk fun K66 hK66 => ?_
              refine AWP.draw 19 Try.checked.mixed (by kernel_rfl) (by simp) ?_
              simp only [List.take_succ_cons, List.take_zero, List.drop_succ_cons, List.drop_zero]
              refine DP.runFk 3 (by simp (disch := first|omega|(simp only[ln];omega)) [runDf.eq_def, runF1, runF2, stepF.eq_def, updo.eq_def, hupo.eq_def, opSto1.eq_def, List.take_succ_cons, List.take_zero, idf_Wd', idf_numI, cells_numI, numI_fold, Sp.av, Sp.cells, Sg.av, Sg.cells, spA, spC]; rfl) fun fs67 hfs67 => ?_
              replace hfs67 : fs67.length = 3 := hfs67.trans rfl
              simp only [List.drop_succ_cons, List.drop_zero]
              refine DP.fcall (whole_fc v.a.y (by omega) (by omega)) rfl rfl rfl hb66 (by simp (disch := first|omega|(simp only[ln];omega)) [idf_Wd', idf_numI, cells_numI, numI_fold, Sp.av, Sp.cells, Sg.av, Sg.cells, spA, spC]) (by simp (disch := first|omega|(simp only[ln];omega))) (by simp) ?_
              simp only [updo]
              refine DP.runFk 1 (by simp (disch := first|omega|(simp only[ln];omega)) [runDf.eq_def, runF1, runF2, stepF.eq_def, updo.eq_def, hupo.eq_def, opSto1.eq_def, List.take_succ_cons, List.take_zero, idf_Wd', idf_numI, cells_numI, numI_fold, Sp.av, Sp.cells, Sg.av, Sg.cells, spA, spC]; rfl) fun fs68 hfs68 => ?_
              replace hfs68 : fs68.length = 1 := hfs68.trans rfl
              simp only [List.drop_succ_cons, List.drop_zero]
              refine DP.fcall (by_fc b2 b4 (by omega) (by omega)) rfl rfl rfl hb62 (by simp (disch := first|omega|(simp only[ln];omega)) [idf_Wd', idf_numI, cells_numI, numI_fold, Sp.av, Sp.cells, Sg.av, Sg.cells, spA, spC]) (by simp (disch := first|omega|(simp only[ln];omega))) (by simp) ?_
              simp only [updo]
              refine DP.runFk 1 (by simp (disch := first|omega|(simp only[ln];omega)) [runDf.eq_def, runF1, runF2, stepF.eq_def, updo.eq_def, hupo.eq_def, opSto1.eq_def, List.take_succ_cons, List.take_zero, idf_Wd', idf_numI, cells_numI, numI_fold, Sp.av, Sp.cells, Sg.av, Sg.cells, spA, spC]; rfl) fun fs69 hfs69 => ?_
              replace hfs69 : fs69.length = 1 := hfs69.trans rfl
              simp only [List.drop_succ_cons, List.drop_zero]
              refine DP.fcall (whole_fc A (by omega) (by omega)) rfl rfl rfl hb66 (by simp (disch := first|omega|(simp only[ln];omega)) [idf_Wd', idf_numI, cells_numI, numI_fold, Sp.av, Sp.cells, Sg.av, Sg.cells, spA, spC]) (by simp (disch := first|omega|(simp only[ln];omega))) (by simp) ?_
              simp only [updo]
              refine DP.runFk 7 (by simp (disch := first|omega|(simp only[ln];omega)) [runDf.eq_def, runF1, runF2, stepF.eq_def, updo.eq_def, hupo.eq_def, opSto1.eq_def, List.take_succ_cons, List.take_zero, idf_Wd', idf_numI, cells_numI, numI_fold, Sp.av, Sp.cells, Sg.av, Sg.cells, spA, spC]; rfl) fun fs70 hfs70 => ?_
              replace hfs70 : fs70.length = 7 := hfs70.trans rfl
              simp only [List.drop_succ_cons, List.drop_zero]
              refine DP.fcall (whole_fc (v.b.y - v.a.y) (by omega) (by omega)) rfl rfl rfl hb66 (by simp (disch := first|omega|(simp only[ln];omega)) [idf_Wd', idf_numI, cells_numI, numI_fold, Sp.av, Sp.cells, Sg.av, Sg.cells, spA, spC]) (by simp (disch := first|omega|(simp only[ln];omega))) (by simp) ?_
              simp only [updo]
              refine DP.fcall (by_fc b3 b6 (by omega) (by omega)) rfl rfl rfl hb62 (by simp (disch := first|omega|(simp only[ln];omega)) [idf_Wd', idf_numI, cells_numI, numI_fold, Sp.av, Sp.cells, Sg.av, Sg.cells, spA, spC]) (by simp (disch := first|omega|(simp only[ln];omega))) (by simp) ?_
              simp only [updo]
              refine DP.fcall (plus_fc (b2.mul b4) (b3.mul b6) (by omega) (by omega)) rfl rfl rfl hb70 (by simp (disch := first|omega|(simp only[ln];omega)) [idf_Wd', idf_numI, cells_numI, numI_fold, Sp.av, Sp.cells, Sg.av, Sg.cells, spA, spC]) (by simp (disch := first|omega|(simp only[ln];omega))) (by simp) ?_
              simp only [updo]
              refine DP.runFk 1 (by simp (disch := first|omega|(simp only[ln];omega)) [runDf.eq_def, runF1, runF2, stepF.eq_def, updo.eq_def, hupo.eq_def, opSto1.eq_def, List.take_succ_cons, List.take_zero, idf_Wd', idf_numI, cells_numI, numI_fold, Sp.av, Sp.cells, Sg.av, Sg.cells, spA, spC]; rfl) fun fs71 hfs71 => ?_
              replace hfs71 : fs71.length = 1 := hfs71.trans rfl
              simp only [List.drop_succ_cons, List.drop_zero]
              refine DQ.runF (m := 19) (by simp only [List.length_append, List.length_cons, List.length_nil, hfs67, hfs68, hfs69, hfs70, hfs71]; omega) _ _ _ (by kernel_rfl) rfl (by simp (disch := first|omega|(simp only[ln];omega)) [runDf.eq_def, runF1, runF2, stepF.eq_def, updo.eq_def, hupo.eq_def, opSto1.eq_def, idf_Wd', idf_numI, cells_numI, numI_fold, Sp.av, Sp.cells, Sg.av, Sg.cells, spA, spC]; rfl) ?_
              refine hK66 _ ?_
              refine AWP.seqk fun K72 hK72 => ?_
              refine AWP.region ?_
              refine AOPS.runk 4 (by simp (disch := first|omega|(simp only[ln];omega)) [List.take_succ_cons, List.take_zero, idf_Wd', idf_numI, cells_numI, numI_fold, Sp.av, Sp.cells, Sg.av, Sg.cells, spA, spC]; rfl) ?_
              simp only [List.drop_succ_cons, List.drop_zero]
              refine AOPS.fcall (spotPoint_fc (j := 3) (v.a.x * (A - B) + A * (v.b.x - v.a.x)) (v.a.y * (A - B) + A * (v.b.y - v.a.y)) (A - B) (((b1.mul b4).add (b3.mul b5)).le (by omega)) (((b2.mul b4).add (b3.mul b6)).le (by omega)) (b4.le (by omega)) (by omega)) rfl rfl rfl hb132 (by simp (disch := first|omega|(simp only[ln];omega)) [idf_Wd', idf_numI, cells_numI, numI_fold, Sp.av, Sp.cells, Sg.av, Sg.cells, spA, spC]) (by simp (disch := first|omega|(simp only[ln];omega))) (by simp) ?_
              simp only [puts_some, updo]
              refine AOPS.all (by simp (disch := first|omega|(simp only[ln];omega)) [idf_Wd', idf_numI, cells_numI, numI_fold, Sp.av, Sp.cells, Sg.av, Sg.cells, spA, spC]; rfl) ?_
              refine hK72 _ ?_
              refine AWP.seqk fun K73 hK73 => ?_
              refine AWP.old fun hold => ?_
              refine AWP.draw 2 Try.checked.mixed (by kernel_rfl) (by simp) ?_
              simp only [List.take_succ_cons, List.take_zero, List.drop_succ_cons, List.drop_zero]
              refine DP.runFk 1 (by simp (disch := first|omega|(simp only[ln];omega)) [runDf.eq_def, runF1, runF2, stepF.eq_def, updo.eq_def, hupo.eq_def, opSto1.eq_def, List.take_succ_cons, List.take_zero, idf_Wd', idf_numI, cells_numI, numI_fold, Sp.av, Sp.cells, Sg.av, Sg.cells, spA, spC]; rfl) fun fs74 hfs74 => ?_
              replace hfs74 : fs74.length = 1 := hfs74.trans rfl
              simp only [List.drop_succ_cons, List.drop_zero]
              refine DP.runF1q (by simp (disch := first|omega|(simp only[ln];omega)) [runDf.eq_def, runF1, runF2, stepF.eq_def, updo.eq_def, hupo.eq_def, opSto1.eq_def, idf_Wd', idf_numI, cells_numI, numI_fold, Sp.av, Sp.cells, Sg.av, Sg.cells, spA, spC]; rfl) fun fq75 hfq75 => ?_
              simp [qids, Op.operands, topId] at hfq75
              simp only [updo]
              refine DQ.asg1 _ rfl rfl ?_
              simp only [updo]
              refine DQ.sto1 (m := 2) [1] _ (by simp (disch := first|omega|(simp only[ln];omega)) [runDf.eq_def, runF1, runF2, stepF.eq_def, updo.eq_def, hupo.eq_def, opSto1.eq_def, idf_Wd', idf_numI, cells_numI, numI_fold, Sp.av, Sp.cells, Sg.av, Sg.cells, spA, spC]; rfl) rfl (by simp only [List.length_append, List.length_cons, List.length_nil, hfs74]; omega) (by kernel_rfl) (by intro k f hk hex; simp only [List.mem_cons, List.not_mem_nil, or_false] at hex; rcases hex with rfl <;> (simp [List.getElem?_append, hfs74] at hk; subst hk; refine ⟨?_, by first | omega | (simp; done) | (simp; omega)⟩; simp [qids, Op.operands, Call.operands, topId, numS, numI, Wd, hfq75]; try omega)) ?_
              try simp only []
              refine DQ.sto1 (m := 2) [] _ (by simp (disch := first|omega|(simp only[ln];omega)) [runDf.eq_def, runF1, runF2, stepF.eq_def, updo.eq_def, hupo.eq_def, opSto1.eq_def, idf_Wd', idf_numI, cells_numI, numI_fold, Sp.av, Sp.cells, Sg.av, Sg.cells, spA, spC]; rfl) rfl (by simp only [List.length_append, List.length_cons, List.length_nil, hfs74]; omega) (by kernel_rfl) (by intro k f hk hex; simp only [List.not_mem_nil] at hex) ?_
              try simp only []
              refine hK73 _ ?_
              refine AWP.ret ?_
              exact hK _ _ _ _ trivial ((Fin.mk (by simp [aRes, aResL, aRes1, idf_Wd', idf_numI, cells_numI, numI_fold, Sp.av, Sp.cells, Sg.av, Sg.cells, spA, spC]; rfl)).cast (by rw [hm', if_neg hw, eX, eY, eW]; try rfl))
          · refine AWP.region ?_
            refine AOPS.runk 1 (by simp (disch := first|omega|(simp only[ln];omega)) [List.take_succ_cons, List.take_zero, idf_Wd', idf_numI, cells_numI, numI_fold, Sp.av, Sp.cells, Sg.av, Sg.cells, spA, spC, q3]; rfl) ?_
            simp only [List.drop_succ_cons, List.drop_zero]
            refine AOPS.fcall (signI_fc A) rfl rfl rfl hb131 (by simp (disch := first|omega|(simp only[ln];omega)) [idf_Wd', q3, idf_numI, cells_numI, numI_fold, Sp.av, Sp.cells, Sg.av, Sg.cells, spA, spC]) (by simp (disch := first|omega|(simp only[ln];omega)) [q3]) (by simp) ?_
            simp only [puts_some, updo]
            refine AOPS.runk 1 (by simp (disch := first|omega|(simp only[ln];omega)) [List.take_succ_cons, List.take_zero, idf_Wd', idf_numI, cells_numI, numI_fold, Sp.av, Sp.cells, Sg.av, Sg.cells, spA, spC, q3]; rfl) ?_
            simp only [List.drop_succ_cons, List.drop_zero]
            refine AOPS.fcall (signI_fc B) rfl rfl rfl hb131 (by simp (disch := first|omega|(simp only[ln];omega)) [idf_Wd', q3, idf_numI, cells_numI, numI_fold, Sp.av, Sp.cells, Sg.av, Sg.cells, spA, spC]) (by simp (disch := first|omega|(simp only[ln];omega)) [q3]) (by simp) ?_
            simp only [puts_some, updo]
            refine AOPS.all (by simp (disch := first|omega|(simp only[ln];omega)) [idf_Wd', idf_numI, cells_numI, numI_fold, Sp.av, Sp.cells, Sg.av, Sg.cells, spA, spC, q3]; rfl) ?_
            refine hK57 _ ?_
            refine cond_ok _ (by simp (disch := first|omega|(simp only[ln];omega)); rfl) (fun h159 => ?_) (fun h159 => ?_)
            · try simp only [decide_eq_true_eq, decide_eq_false_iff_not] at h159
              have hw : noWay u v = true := by rw [hnw, q3]; rfl
              refine AWP.seqk fun K76 hK76 => ?_
              refine AWP.region ?_
              refine AOPS.runk 1 (by simp (disch := first|omega|(simp only[ln];omega)) [List.take_succ_cons, List.take_zero, idf_Wd', idf_numI, cells_numI, numI_fold, Sp.av, Sp.cells, Sg.av, Sg.cells, spA, spC]; rfl) ?_
              simp only [List.drop_succ_cons, List.drop_zero]
              refine AOPS.fcall (none_fc) rfl rfl (by simp; rfl) hbNone (by simp (disch := first|omega|(simp only[ln];omega)) [idf_Wd', idf_numI, cells_numI, numI_fold, Sp.av, Sp.cells, Sg.av, Sg.cells, spA, spC]) (by simp (disch := first|omega|(simp only[ln];omega))) (by simp) ?_
              simp only [puts_some, updo]
              refine AOPS.all (by simp (disch := first|omega|(simp only[ln];omega)) [idf_Wd', idf_numI, cells_numI, numI_fold, Sp.av, Sp.cells, Sg.av, Sg.cells, spA, spC]; rfl) ?_
              refine hK76 _ ?_
              refine AWP.ret ?_
              exact hK _ _ _ _ trivial ((Fin.mk (by simp [aRes, aResL, aRes1, idf_Wd', idf_numI, cells_numI, numI_fold, Sp.av, Sp.cells, Sg.av, Sg.cells, spA, spC]; rfl)).cast (by rw [hm', if_pos hw]; try rfl))
            · simp at h159
  · refine AWP.region (AOPS.all (by simp (disch := first|omega|(simp only[ln];omega)) [idf_Wd', idf_numI, cells_numI, numI_fold, Sp.av, Sp.cells, Sg.av, Sg.cells, spA, spC, mx_fold, mn_fold, q1]; rfl) ?_)
    refine hK4 _ ?_
    refine cond_ok _ (by simp (disch := first|omega|(simp only[ln];omega)); rfl) (fun h67 => ?_) (fun h67 => ?_)
    · try simp only [decide_eq_true_eq, decide_eq_false_iff_not] at h67
      have hm := hmt (by rw [hap, q1]; rfl)
      refine AWP.seqk fun K77 hK77 => ?_
      refine AWP.region ?_
      refine AOPS.runk 1 (by simp (disch := first|omega|(simp only[ln];omega)) [List.take_succ_cons, List.take_zero, idf_Wd', idf_numI, cells_numI, numI_fold, Sp.av, Sp.cells, Sg.av, Sg.cells, spA, spC]; rfl) ?_
      simp only [List.drop_succ_cons, List.drop_zero]
      refine AOPS.fcall (none_fc) rfl rfl (by simp; rfl) hbNone (by simp (disch := first|omega|(simp only[ln];omega)) [idf_Wd', idf_numI, cells_numI, numI_fold, Sp.av, Sp.cells, Sg.av, Sg.cells, spA, spC]) (by simp (disch := first|omega|(simp only[ln];omega))) (by simp) ?_
      simp only [puts_some, updo]
      refine AOPS.all (by simp (disch := first|omega|(simp only[ln];omega)) [idf_Wd', idf_numI, cells_numI, numI_fold, Sp.av, Sp.cells, Sg.av, Sg.cells, spA, spC]; rfl) ?_
      refine hK77 _ ?_
      refine AWP.ret ?_
      exact hK _ _ _ _ trivial ((Fin.mk (by simp [aRes, aResL, aRes1, idf_Wd', idf_numI, cells_numI, numI_fold, Sp.av, Sp.cells, Sg.av, Sg.cells, spA, spC]; rfl)).cast (by rw [hm]; try rfl))
    · simp at h67

set_option maxHeartbeats 2000000 in
theorem meetF_fc (u v : Sg) : FC Try.prog 34 [u.av, v.av] (.tup [.int .i64 (mtF meetI u v).1, .agg [.int .u64 ((mtF meetI u v).2.1).x.a, .int .u64 ((mtF meetI u v).2.1).x.b, .int .u64 ((mtF meetI u v).2.1).x.c, .int .u64 ((mtF meetI u v).2.1).x.d, .int .u64 ((mtF meetI u v).2.1).y.a, .int .u64 ((mtF meetI u v).2.1).y.b, .int .u64 ((mtF meetI u v).2.1).y.c, .int .u64 ((mtF meetI u v).2.1).y.d, .int .u64 ((mtF meetI u v).2.1).w.a, .int .u64 ((mtF meetI u v).2.1).w.b, .int .u64 ((mtF meetI u v).2.1).w.c, .int .u64 ((mtF meetI u v).2.1).w.d], .agg [.int .u64 ((mtF meetI u v).2.2).x.a, .int .u64 ((mtF meetI u v).2.2).x.b, .int .u64 ((mtF meetI u v).2.2).x.c, .int .u64 ((mtF meetI u v).2.2).x.d, .int .u64 ((mtF meetI u v).2.2).y.a, .int .u64 ((mtF meetI u v).2.2).y.b, .int .u64 ((mtF meetI u v).2.2).y.c, .int .u64 ((mtF meetI u v).2.2).y.d, .int .u64 ((mtF meetI u v).2.2).w.a, .int .u64 ((mtF meetI u v).2.2).w.b, .int .u64 ((mtF meetI u v).2.2).w.c, .int .u64 ((mtF meetI u v).2.2).w.d]]) := by
  refine FC.body Try.func34 rfl (by simp [idfL, idf, Sp.av, Sp.cells, Sg.av, Sg.cells]) (by simp [idfL, idf, idfLL_iff, idf_Wd', idf_numI, cells_numI, numI_fold, Sp.av, Sp.cells, Sg.av, Sg.cells]) 23 rfl fun nx K hK => ?_
  refine AWP.seqk fun K1 hK1 => ?_
  refine AWP.region (AOPS.all (by simp (disch := first|omega|(simp only[ln];omega)) [idf_Wd', idf_numI, cells_numI, numI_fold, Sp.av, Sp.cells, Sg.av, Sg.cells]; rfl) ?_)
  refine hK1 _ ?_
  refine AWP.seqk fun K2 hK2 => ?_
  refine AWP.seqk fun K3 hK3 => ?_
  cases hga : u.good
  · refine AWP.region ?_
    refine AOPS.runk 1 (by simp (disch := first|omega|(simp only[ln];omega)) [List.take_succ_cons, List.take_zero, idf_Wd', idf_numI, cells_numI, numI_fold, Sp.av, Sp.cells, Sg.av, Sg.cells, hga]; rfl) ?_
    simp only [List.drop_succ_cons, List.drop_zero]
    refine AOPS.fcall (segOkI_fc u) rfl rfl rfl hb75 (by simp (disch := first|omega|(simp only[ln];omega)) [idf_Wd', hga, idf_numI, cells_numI, numI_fold, Sp.av, Sp.cells, Sg.av, Sg.cells]) (by simp (disch := first|omega|(simp only[ln];omega)) [hga]) (by simp) ?_
    simp only [puts_some, updo]
    refine AOPS.all (by simp (disch := first|omega|(simp only[ln];omega)) [idf_Wd', idf_numI, cells_numI, numI_fold, Sp.av, Sp.cells, Sg.av, Sg.cells, hga]; rfl) ?_
    refine hK3 _ ?_
    refine cond_ok _ (by simp (disch := first|omega|(simp only[ln];omega)); rfl) (fun h14 => ?_) (fun h14 => ?_)
    · try simp only [decide_eq_true_eq, decide_eq_false_iff_not] at h14
      refine AWP.seqk fun K4 hK4 => ?_
      refine AWP.region (AOPS.all (by simp (disch := first|omega|(simp only[ln];omega)) [idf_Wd', idf_numI, cells_numI, numI_fold, Sp.av, Sp.cells, Sg.av, Sg.cells]; rfl) ?_)
      refine hK4 _ ?_
      refine AWP.ret ?_
      exact hK _ _ _ _ trivial ((Fin.mk (by simp [aRes, aResL, aRes1, idf_Wd', idf_numI, cells_numI, numI_fold, Sp.av, Sp.cells, Sg.av, Sg.cells]; rfl)).cast (by unfold mtF; rw [hga]; rfl))
    · simp at h14
  · refine AWP.region ?_
    refine AOPS.runk 1 (by simp (disch := first|omega|(simp only[ln];omega)) [List.take_succ_cons, List.take_zero, idf_Wd', idf_numI, cells_numI, numI_fold, Sp.av, Sp.cells, Sg.av, Sg.cells, hga]; rfl) ?_
    simp only [List.drop_succ_cons, List.drop_zero]
    refine AOPS.fcall (segOkI_fc u) rfl rfl rfl hb75 (by simp (disch := first|omega|(simp only[ln];omega)) [idf_Wd', hga, idf_numI, cells_numI, numI_fold, Sp.av, Sp.cells, Sg.av, Sg.cells]) (by simp (disch := first|omega|(simp only[ln];omega)) [hga]) (by simp) ?_
    simp only [puts_some, updo]
    refine AOPS.runk 3 (by simp (disch := first|omega|(simp only[ln];omega)) [List.take_succ_cons, List.take_zero, idf_Wd', idf_numI, cells_numI, numI_fold, Sp.av, Sp.cells, Sg.av, Sg.cells, hga]; rfl) ?_
    simp only [List.drop_succ_cons, List.drop_zero]
    refine AOPS.fcall (segOkI_fc v) rfl rfl rfl hb75 (by simp (disch := first|omega|(simp only[ln];omega)) [idf_Wd', hga, idf_numI, cells_numI, numI_fold, Sp.av, Sp.cells, Sg.av, Sg.cells]) (by simp (disch := first|omega|(simp only[ln];omega)) [hga]) (by simp) ?_
    simp only [puts_some, updo]
    refine AOPS.all (by simp (disch := first|omega|(simp only[ln];omega)) [idf_Wd', idf_numI, cells_numI, numI_fold, Sp.av, Sp.cells, Sg.av, Sg.cells, hga]; rfl) ?_
    refine hK3 _ ?_
    refine cond_ok (!v.good) (by simp (disch := first|omega|(simp only[ln];omega))) (fun h14 => ?_) (fun h14 => ?_)
    · try simp only [decide_eq_true_eq, decide_eq_false_iff_not] at h14
      have hgb : v.good = false := by simpa using h14
      refine AWP.seqk fun K5 hK5 => ?_
      refine AWP.region (AOPS.all (by simp (disch := first|omega|(simp only[ln];omega)) [idf_Wd', idf_numI, cells_numI, numI_fold, Sp.av, Sp.cells, Sg.av, Sg.cells]; rfl) ?_)
      refine hK5 _ ?_
      refine AWP.ret ?_
      exact hK _ _ _ _ trivial ((Fin.mk (by simp [aRes, aResL, aRes1, idf_Wd', idf_numI, cells_numI, numI_fold, Sp.av, Sp.cells, Sg.av, Sg.cells]; rfl)).cast (by unfold mtF; rw [hga, hgb]; rfl))
    · try simp only [decide_eq_true_eq, decide_eq_false_iff_not] at h14
      have hgb : v.good = true := by simpa using h14
      refine AWP.skip ?_
      refine hK2 _ ?_
      refine AWP.seqk fun K6 hK6 => ?_
      refine AWP.region ?_
      refine AOPS.runk 2 (by simp (disch := first|omega|(simp only[ln];omega)) [List.take_succ_cons, List.take_zero, idf_Wd', idf_numI, cells_numI, numI_fold, Sp.av, Sp.cells, Sg.av, Sg.cells]; rfl) ?_
      simp only [List.drop_succ_cons, List.drop_zero]
      refine AOPS.fcall (meetI_fc u v hga hgb) rfl rfl rfl hb76 (by simp (disch := first|omega|(simp only[ln];omega)) [idf_Wd', idf_numI, cells_numI, numI_fold, Sp.av, Sp.cells, Sg.av, Sg.cells]) (by simp (disch := first|omega|(simp only[ln];omega))) (by simp) ?_
      simp only [puts_some, updo]
      refine AOPS.all (by simp (disch := first|omega|(simp only[ln];omega)) [idf_Wd', idf_numI, cells_numI, numI_fold, Sp.av, Sp.cells, Sg.av, Sg.cells]; rfl) ?_
      refine hK6 _ ?_
      refine AWP.ret ?_
      exact hK _ _ _ _ trivial ((Fin.mk (by simp [aRes, aResL, aRes1, idf_Wd', idf_numI, cells_numI, numI_fold, Sp.av, Sp.cells, Sg.av, Sg.cells]; rfl)).cast (by unfold mtF; rw [hga, hgb]; rfl))

end Go.Proofs.Ytdcggmbnjonemaa

/- Walks: where segments meet, by the reference; FnExactMeet. -/
namespace Go.Proofs.Ytdcggmbnjonemaa
open Go Go.RowKit
set_option linter.unusedSimpArgs false
set_option linter.unusedVariables false
set_option maxRecDepth 100000
attribute [local simp] List.getElem?_cons_zero List.getElem?_cons_succ List.getElem?_toArray runOps stepOp.eq_def agd.eq_def dstOk.eq_def opVal.eq_def opNew.eq_def opSto.eq_def ev.eq_def cv.eq_def puts_some puts_none upd_ap lst.eq_def aBin.eq_def aUn.eq_def aBi_str aBi_isl aBi_osl aBi_nsl aBi_max aBi_min aBi_max3 aConv.eq_def aLd.eq_def aLoad.eq_def aField.eq_def aFld.eq_def aIdx_isl aIdx_osl aSlc_isl aSlc_osl aSlc_str aSlc_nsl bnd.eq_def evs_nil evs_cons aBuild.eq_def aFill splice.eq_def cells_agg cells_int cells_bool cells_str cells_nil cells_nsl cells_isl cells_osl cells_ptr cells_ip cells_fn cells_Wd one_int one_bool one_str one_nil one_nsl one_isl one_osl one_ptr one_ip one_fn one_Wd aSets hupd_eq hupd_ne wrap_i64s wrap_u64s wrap_u32s wrap_u8s wd_getD wd_set wd_len wd_replicate wd_one wd_fold fz_osl hupd_same aSix.eq_def aEqS.eq_def aEqB_bool aEqB_nsl aEqB_nil
attribute [local simp] szT2 byT2 agT2 unT2 zoT2 szT4 byT4 agT4 unT4 zoT4 szT60 byT60 agT60 flT60 fdT60_0 fdT60_1 zoT60 szT62 byT62 agT62 flT62 fdT62_0 fdT62_1 zoT62 szT90 byT90 agT90 elT90 unT90 zoT90 szT92 byT92 agT92 flT92 fdT92_0 fdT92_1 zoT92 szT94 byT94 agT94 flT94 fdT94_0 fdT94_1 fdT94_2 zoT94

def z3 : AV := .agg [.bool false, .nsl, .bool false, .nsl, .bool false, .nsl]
def nX (u v : Sg) : Int := nrm (denS u v) (wayX2 u v) / gcd3 (wayX2 u v) (wayY2 u v) (denS u v)
def nY (u v : Sg) : Int := nrm (denS u v) (wayY2 u v) / gcd3 (wayX2 u v) (wayY2 u v) (denS u v)
def nW (u v : Sg) : Int := nrm (denS u v) (denS u v) / gcd3 (wayX2 u v) (wayY2 u v) (denS u v)
def l4V (u v : Sg) : AV := if crs u.a u.b v.a = 0 ∧ crs u.a u.b v.b = 0 then (if lsS (highS u v) (lowS u v) = true then .tup [.int .i64 0, z3, z3] else if lowS u v = highS u v then .tup [.int .i64 1, l3A (lowS u v).x (lowS u v).y 1, z3] else .tup [.int .i64 2, l3A (lowS u v).x (lowS u v).y 1, l3A (highS u v).x (highS u v).y 1])
  else if noWay u v = true then .tup [.int .i64 0, z3, z3] else .tup [.int .i64 1, l3A (nX u v) (nY u v) (nW u v), z3]
theorem idf_l4V (u v : Sg) : idf (l4V u v) := by
  unfold l4V; repeat' split
  all_goals simp [idf, idfL, z3, l3A, l3C, idf_Wd']
theorem sg0 {z : Int} (h : z = 0) : (sg3 z == 0) = true := by simp [sg3_zero, h]
theorem sg1 {z : Int} (h : ¬ z = 0) : (sg3 z == 0) = false := by simp [sg3_zero, h]
theorem den_ne {u v : Sg} (gu : u.good = true) (gv : v.good = true) (h0 : ¬ (crs u.a u.b v.a = 0 ∧ crs u.a u.b v.b = 0)) (h : ¬ noWay u v = true) : denS u v ≠ 0 := by
  have := (way_apart (good_ls gu) (good_ls gv) h0 (by simpa using h)).1
  rw [den_w]; omega
theorem low_good {u v : Sg} (gu : u.good = true) (gv : v.good = true) : (lowS u v).good = true := by unfold lowS; split; exact good_a gv; exact good_a gu
theorem high_good {u v : Sg} (gu : u.good = true) (gv : v.good = true) : (highS u v).good = true := by unfold highS; split; exact good_b gv; exact good_b gu

theorem l1In_fc (n a b : Int) : FC Try.prog 150 [.int .i64 n, .int .i64 a, .int .i64 b] (.bool (decide (a ≤ n) && decide (n ≤ b))) := by
  refine FC.body Try.func150 rfl (by simp [idfL, idf, idfLL_iff, idf_Wd']) (by simp [idfL, idf, idfLL_iff, idf_Wd']) 15 rfl fun nx K hK => ?_
  refine AWP.seqk fun K1 hK1 => ?_
  refine AWP.region (AOPS.all (by simp (disch := first|omega|(simp only[ln];omega)) [idf_Wd']; rfl) ?_)
  refine hK1 _ ?_
  refine AWP.seqk fun K2 hK2 => ?_
  cases h : decide (a ≤ n)
  · refine AWP.region (AOPS.all (by simp (disch := first|omega|(simp only[ln];omega)) [idf_Wd', h]; rfl) ?_)
    refine hK2 _ ?_
    refine AWP.ret ?_
    exact hK _ _ _ _ trivial ((Fin.mk (by simp [aRes, aResL, aRes1, idf_Wd']; rfl)).cast (by rw [h]; rfl))
  · refine AWP.region (AOPS.all (by simp (disch := first|omega|(simp only[ln];omega)) [idf_Wd', h]; rfl) ?_)
    refine hK2 _ ?_
    refine AWP.ret ?_
    exact hK _ _ _ _ trivial ((Fin.mk (by simp [aRes, aResL, aRes1, idf_Wd']; rfl)).cast (by rw [h]; rfl))

theorem l1InM_fc (n : Int) : FC Try.prog 150 [.int .i64 n, .int .i64 (-1000000), .int .i64 1000000] (.bool (inM n)) := l1In_fc n (-1000000) 1000000
theorem spotOkS_fc (p : Sp) : FC Try.prog 122 [p.av] (.bool p.good) := by
  refine FC.body Try.func122 rfl (by simp [idfL, idf, Sp.av, Sp.cells, Sg.av, Sg.cells]) (by simp [idfL, idf, idfLL_iff, idf_Wd', Sp.av, Sp.cells, Sg.av, Sg.cells]) 11 rfl fun nx K hK => ?_
  refine AWP.seqk fun K1 hK1 => ?_
  refine AWP.region (AOPS.all (by simp (disch := first|omega|(simp only[ln];omega)) [idf_Wd', Sp.av, Sp.cells, Sg.av, Sg.cells]; rfl) ?_)
  refine hK1 _ ?_
  refine AWP.seqk fun K2 hK2 => ?_
  cases hx : inM p.x
  · refine AWP.region ?_
    refine AOPS.runk 2 (by simp (disch := first|omega|(simp only[ln];omega)) [List.take_succ_cons, List.take_zero, idf_Wd', Sp.av, Sp.cells, Sg.av, Sg.cells, hx]; rfl) ?_
    simp only [List.drop_succ_cons, List.drop_zero]
    refine AOPS.fcall (l1InM_fc p.x) rfl rfl rfl hb150 (by simp (disch := first|omega|(simp only[ln];omega)) [idf_Wd', hx, Sp.av, Sp.cells, Sg.av, Sg.cells]) (by simp (disch := first|omega|(simp only[ln];omega)) [hx]) (by simp) ?_
    simp only [puts_some, updo]
    refine AOPS.all (by simp (disch := first|omega|(simp only[ln];omega)) [idf_Wd', Sp.av, Sp.cells, Sg.av, Sg.cells, hx]; rfl) ?_
    refine hK2 _ ?_
    refine AWP.ret ?_
    exact hK _ _ _ _ trivial ((Fin.mk (by simp [aRes, aResL, aRes1, idf_Wd', Sp.av, Sp.cells, Sg.av, Sg.cells]; rfl)).cast (by unfold Sp.good; rw [hx]; rfl))
  · refine AWP.region ?_
    refine AOPS.runk 2 (by simp (disch := first|omega|(simp only[ln];omega)) [List.take_succ_cons, List.take_zero, idf_Wd', Sp.av, Sp.cells, Sg.av, Sg.cells, hx]; rfl) ?_
    simp only [List.drop_succ_cons, List.drop_zero]
    refine AOPS.fcall (l1InM_fc p.x) rfl rfl rfl hb150 (by simp (disch := first|omega|(simp only[ln];omega)) [idf_Wd', hx, Sp.av, Sp.cells, Sg.av, Sg.cells]) (by simp (disch := first|omega|(simp only[ln];omega)) [hx]) (by simp) ?_
    simp only [puts_some, updo]
    refine AOPS.runk 3 (by simp (disch := first|omega|(simp only[ln];omega)) [List.take_succ_cons, List.take_zero, idf_Wd', Sp.av, Sp.cells, Sg.av, Sg.cells, hx]; rfl) ?_
    simp only [List.drop_succ_cons, List.drop_zero]
    refine AOPS.fcall (l1InM_fc p.y) rfl rfl rfl hb150 (by simp (disch := first|omega|(simp only[ln];omega)) [idf_Wd', hx, Sp.av, Sp.cells, Sg.av, Sg.cells]) (by simp (disch := first|omega|(simp only[ln];omega)) [hx]) (by simp) ?_
    simp only [puts_some, updo]
    refine AOPS.all (by simp (disch := first|omega|(simp only[ln];omega)) [idf_Wd', Sp.av, Sp.cells, Sg.av, Sg.cells, hx]; rfl) ?_
    refine hK2 _ ?_
    refine AWP.ret ?_
    exact hK _ _ _ _ trivial ((Fin.mk (by simp [aRes, aResL, aRes1, idf_Wd', Sp.av, Sp.cells, Sg.av, Sg.cells]; rfl)).cast (by unfold Sp.good; rw [hx]; rfl))

theorem l4Less_fc (p q : Sp) : FC Try.prog 123 [p.av, q.av] (.bool (lsS p q)) := by
  refine FC.body Try.func123 rfl (by simp [idfL, idf, Sp.av, Sp.cells, Sg.av, Sg.cells]) (by simp [idfL, idf, idfLL_iff, idf_Wd', Sp.av, Sp.cells, Sg.av, Sg.cells]) 24 rfl fun nx K hK => ?_
  refine AWP.seqk fun K1 hK1 => ?_
  refine AWP.region (AOPS.all (by simp (disch := first|omega|(simp only[ln];omega)) [idf_Wd', Sp.av, Sp.cells, Sg.av, Sg.cells]; rfl) ?_)
  refine hK1 _ ?_
  refine AWP.seqk fun K2 hK2 => ?_
  by_cases q1 : p.x < q.x
  · have hl : lsS p q = true := by simp [lsS, q1]
    have c1 : decide (p.x < q.x) = true := by simp [q1]
    refine AWP.region (AOPS.all (by simp (disch := first|omega|(simp only[ln];omega)) [idf_Wd', Sp.av, Sp.cells, Sg.av, Sg.cells, c1]; rfl) ?_)
    refine hK2 _ ?_
    refine AWP.ret ?_
    exact hK _ _ _ _ trivial ((Fin.mk (by simp [aRes, aResL, aRes1, idf_Wd', Sp.av, Sp.cells, Sg.av, Sg.cells]; rfl)).cast (by rw [hl]; try rfl))
  · have c1 : decide (p.x < q.x) = false := by simp; omega
    by_cases q2 : p.x = q.x
    · have c2 : (p.x == q.x) = true := by simp [q2]
      have hl : lsS p q = decide (p.y < q.y) := by simp [lsS, q2]
      refine AWP.region (AOPS.all (by simp (disch := first|omega|(simp only[ln];omega)) [idf_Wd', Sp.av, Sp.cells, Sg.av, Sg.cells, c1, c2]; rfl) ?_)
      refine hK2 _ ?_
      refine AWP.ret ?_
      exact hK _ _ _ _ trivial ((Fin.mk (by simp [aRes, aResL, aRes1, idf_Wd', Sp.av, Sp.cells, Sg.av, Sg.cells]; rfl)).cast (by rw [hl]))
    · have c2 : (p.x == q.x) = false := by simp [q2]
      have hl : lsS p q = false := by simp [lsS, q2]; omega
      refine AWP.region (AOPS.all (by simp (disch := first|omega|(simp only[ln];omega)) [idf_Wd', Sp.av, Sp.cells, Sg.av, Sg.cells, c1, c2]; rfl) ?_)
      refine hK2 _ ?_
      refine AWP.ret ?_
      exact hK _ _ _ _ trivial ((Fin.mk (by simp [aRes, aResL, aRes1, idf_Wd', Sp.av, Sp.cells, Sg.av, Sg.cells]; rfl)).cast (by rw [hl]; try rfl))

theorem segOkS_fc (s : Sg) : FC Try.prog 71 [s.av] (.bool s.good) := by
  refine FC.body Try.func71 rfl (by simp [idfL, idf, Sp.av, Sp.cells, Sg.av, Sg.cells]) (by simp [idfL, idf, idfLL_iff, idf_Wd', Sp.av, Sp.cells, Sg.av, Sg.cells]) 18 rfl fun nx K hK => ?_
  refine AWP.seqk fun K1 hK1 => ?_
  refine AWP.region (AOPS.all (by simp (disch := first|omega|(simp only[ln];omega)) [idf_Wd', Sp.av, Sp.cells, Sg.av, Sg.cells]; rfl) ?_)
  refine hK1 _ ?_
  refine AWP.seqk fun K2 hK2 => ?_
  cases ha : s.a.good
  · refine AWP.region ?_
    refine AOPS.runk 2 (by simp (disch := first|omega|(simp only[ln];omega)) [List.take_succ_cons, List.take_zero, idf_Wd', Sp.av, Sp.cells, Sg.av, Sg.cells, ha]; rfl) ?_
    simp only [List.drop_succ_cons, List.drop_zero]
    refine AOPS.fcall (spotOkS_fc s.a) rfl rfl rfl hb122 (by simp (disch := first|omega|(simp only[ln];omega)) [idf_Wd', ha, Sp.av, Sp.cells, Sg.av, Sg.cells]) (by simp (disch := first|omega|(simp only[ln];omega)) [ha]) (by simp) ?_
    simp only [puts_some, updo]
    refine AOPS.all (by simp (disch := first|omega|(simp only[ln];omega)) [idf_Wd', Sp.av, Sp.cells, Sg.av, Sg.cells, ha]; rfl) ?_
    refine hK2 _ ?_
    refine AWP.ret ?_
    exact hK _ _ _ _ trivial ((Fin.mk (by simp [aRes, aResL, aRes1, idf_Wd', Sp.av, Sp.cells, Sg.av, Sg.cells]; rfl)).cast (by unfold Sg.good; rw [ha]; rfl))
  · cases hb : s.b.good
    · refine AWP.region ?_
      refine AOPS.runk 2 (by simp (disch := first|omega|(simp only[ln];omega)) [List.take_succ_cons, List.take_zero, idf_Wd', Sp.av, Sp.cells, Sg.av, Sg.cells, ha, hb]; rfl) ?_
      simp only [List.drop_succ_cons, List.drop_zero]
      refine AOPS.fcall (spotOkS_fc s.a) rfl rfl rfl hb122 (by simp (disch := first|omega|(simp only[ln];omega)) [idf_Wd', ha, hb, Sp.av, Sp.cells, Sg.av, Sg.cells]) (by simp (disch := first|omega|(simp only[ln];omega)) [ha, hb]) (by simp) ?_
      simp only [puts_some, updo]
      refine AOPS.runk 3 (by simp (disch := first|omega|(simp only[ln];omega)) [List.take_succ_cons, List.take_zero, idf_Wd', Sp.av, Sp.cells, Sg.av, Sg.cells, ha, hb]; rfl) ?_
      simp only [List.drop_succ_cons, List.drop_zero]
      refine AOPS.fcall (spotOkS_fc s.b) rfl rfl rfl hb122 (by simp (disch := first|omega|(simp only[ln];omega)) [idf_Wd', ha, hb, Sp.av, Sp.cells, Sg.av, Sg.cells]) (by simp (disch := first|omega|(simp only[ln];omega)) [ha, hb]) (by simp) ?_
      simp only [puts_some, updo]
      refine AOPS.all (by simp (disch := first|omega|(simp only[ln];omega)) [idf_Wd', Sp.av, Sp.cells, Sg.av, Sg.cells, ha, hb]; rfl) ?_
      refine hK2 _ ?_
      refine AWP.ret ?_
      exact hK _ _ _ _ trivial ((Fin.mk (by simp [aRes, aResL, aRes1, idf_Wd', Sp.av, Sp.cells, Sg.av, Sg.cells]; rfl)).cast (by unfold Sg.good; rw [ha, hb]; rfl))
    · refine AWP.region ?_
      refine AOPS.runk 2 (by simp (disch := first|omega|(simp only[ln];omega)) [List.take_succ_cons, List.take_zero, idf_Wd', Sp.av, Sp.cells, Sg.av, Sg.cells, ha, hb, lsS_dec]; rfl) ?_
      simp only [List.drop_succ_cons, List.drop_zero]
      refine AOPS.fcall (spotOkS_fc s.a) rfl rfl rfl hb122 (by simp (disch := first|omega|(simp only[ln];omega)) [idf_Wd', ha, hb, lsS_dec, Sp.av, Sp.cells, Sg.av, Sg.cells]) (by simp (disch := first|omega|(simp only[ln];omega)) [ha, hb, lsS_dec]) (by simp) ?_
      simp only [puts_some, updo]
      refine AOPS.runk 3 (by simp (disch := first|omega|(simp only[ln];omega)) [List.take_succ_cons, List.take_zero, idf_Wd', Sp.av, Sp.cells, Sg.av, Sg.cells, ha, hb, lsS_dec]; rfl) ?_
      simp only [List.drop_succ_cons, List.drop_zero]
      refine AOPS.fcall (spotOkS_fc s.b) rfl rfl rfl hb122 (by simp (disch := first|omega|(simp only[ln];omega)) [idf_Wd', ha, hb, lsS_dec, Sp.av, Sp.cells, Sg.av, Sg.cells]) (by simp (disch := first|omega|(simp only[ln];omega)) [ha, hb, lsS_dec]) (by simp) ?_
      simp only [puts_some, updo]
      refine AOPS.runk 6 (by simp (disch := first|omega|(simp only[ln];omega)) [List.take_succ_cons, List.take_zero, idf_Wd', Sp.av, Sp.cells, Sg.av, Sg.cells, ha, hb, lsS_dec]; rfl) ?_
      simp only [List.drop_succ_cons, List.drop_zero]
      refine AOPS.fcall (l4Less_fc s.a s.b) rfl rfl rfl hb123 (by simp (disch := first|omega|(simp only[ln];omega)) [idf_Wd', ha, hb, lsS_dec, Sp.av, Sp.cells, Sg.av, Sg.cells]) (by simp (disch := first|omega|(simp only[ln];omega)) [ha, hb, lsS_dec]) (by simp) ?_
      simp only [puts_some, updo]
      refine AOPS.all (by simp (disch := first|omega|(simp only[ln];omega)) [idf_Wd', Sp.av, Sp.cells, Sg.av, Sg.cells, ha, hb, lsS_dec]; rfl) ?_
      refine hK2 _ ?_
      refine AWP.ret ?_
      exact hK _ _ _ _ trivial ((Fin.mk (by simp [aRes, aResL, aRes1, idf_Wd', Sp.av, Sp.cells, Sg.av, Sg.cells]; rfl)).cast (by unfold Sg.good; rw [ha, hb]; rfl))

set_option maxHeartbeats 1000000 in
theorem l4Turn_fc (a b c : Sp) (ha : a.good = true) (hb : b.good = true) (hc : c.good = true) : FC Try.prog 124 [a.av, b.av, c.av] (.int .i64 (sg3 (crs a b c))) := by
  have pa := Sp.b ha
  have pb := Sp.b hb
  have pc := Sp.b hc
  have m1 := mul_b (u := b.x - a.x) (v := c.y - a.y) (m := 2000000) (n := 2000000) (by omega) (by omega) (by omega) (by omega) (by omega)
  have m2 := mul_b (u := b.y - a.y) (v := c.x - a.x) (m := 2000000) (n := 2000000) (by omega) (by omega) (by omega) (by omega) (by omega)
  have e : (b.x - a.x) * (c.y - a.y) - (b.y - a.y) * (c.x - a.x) = crs a b c := rfl
  refine FC.body Try.func124 rfl (by simp [idfL, idf, Sp.av, Sp.cells, Sg.av, Sg.cells]) (by simp [idfL, idf, idfLL_iff, idf_Wd', Sp.av, Sp.cells, Sg.av, Sg.cells]) 35 rfl fun nx K hK => ?_
  refine AWP.seqk fun K1 hK1 => ?_
  refine AWP.region (AOPS.all (by simp (disch := first|omega|(simp only[ln];omega)) [idf_Wd', Sp.av, Sp.cells, Sg.av, Sg.cells]; rfl) ?_)
  refine hK1 _ ?_
  refine AWP.seqk fun K2 hK2 => ?_
  refine AWP.region (AOPS.all (by simp (disch := first|omega|(simp only[ln];omega)) [idf_Wd', Sp.av, Sp.cells, Sg.av, Sg.cells]; rfl) ?_)
  refine hK2 _ ?_
  refine AWP.seqk fun K3 hK3 => ?_
  refine AWP.seqk fun K4 hK4 => ?_
  refine AWP.region (AOPS.all (by simp (disch := first|omega|(simp only[ln];omega)) [idf_Wd', Sp.av, Sp.cells, Sg.av, Sg.cells, e]; rfl) ?_)
  refine hK4 _ ?_
  refine cond_ok (decide (crs a b c < 0)) (by simp (disch := first|omega|(simp only[ln];omega))) (fun h32 => ?_) (fun h32 => ?_)
  · try simp only [decide_eq_true_eq, decide_eq_false_iff_not] at h32
    refine AWP.seqk fun K5 hK5 => ?_
    refine AWP.region (AOPS.all (by simp (disch := first|omega|(simp only[ln];omega)) [idf_Wd', Sp.av, Sp.cells, Sg.av, Sg.cells]; rfl) ?_)
    refine hK5 _ ?_
    refine AWP.ret ?_
    exact hK _ _ _ _ trivial ((Fin.mk (by simp [aRes, aResL, aRes1, idf_Wd', Sp.av, Sp.cells, Sg.av, Sg.cells]; rfl)).cast (by unfold sg3; rw [if_pos h32]))
  · try simp only [decide_eq_true_eq, decide_eq_false_iff_not] at h32
    refine AWP.skip ?_
    refine hK3 _ ?_
    refine AWP.seqk fun K6 hK6 => ?_
    refine AWP.seqk fun K7 hK7 => ?_
    refine AWP.region (AOPS.all (by simp (disch := first|omega|(simp only[ln];omega)) [idf_Wd', Sp.av, Sp.cells, Sg.av, Sg.cells, e]; rfl) ?_)
    refine hK7 _ ?_
    refine cond_ok (decide (0 < crs a b c)) (by simp (disch := first|omega|(simp only[ln];omega))) (fun h34 => ?_) (fun h34 => ?_)
    · try simp only [decide_eq_true_eq, decide_eq_false_iff_not] at h34
      refine AWP.seqk fun K8 hK8 => ?_
      refine AWP.region (AOPS.all (by simp (disch := first|omega|(simp only[ln];omega)) [idf_Wd', Sp.av, Sp.cells, Sg.av, Sg.cells]; rfl) ?_)
      refine hK8 _ ?_
      refine AWP.ret ?_
      exact hK _ _ _ _ trivial ((Fin.mk (by simp [aRes, aResL, aRes1, idf_Wd', Sp.av, Sp.cells, Sg.av, Sg.cells]; rfl)).cast (by unfold sg3; rw [if_neg h32, if_pos h34]))
    · try simp only [decide_eq_true_eq, decide_eq_false_iff_not] at h34
      refine AWP.skip ?_
      refine hK6 _ ?_
      refine AWP.seqk fun K9 hK9 => ?_
      refine AWP.region (AOPS.all (by simp (disch := first|omega|(simp only[ln];omega)) [idf_Wd', Sp.av, Sp.cells, Sg.av, Sg.cells]; rfl) ?_)
      refine hK9 _ ?_
      refine AWP.ret ?_
      exact hK _ _ _ _ trivial ((Fin.mk (by simp [aRes, aResL, aRes1, idf_Wd', Sp.av, Sp.cells, Sg.av, Sg.cells]; rfl)).cast (by unfold sg3; rw [if_neg h32, if_neg h34]))

set_option maxHeartbeats 8000000 in
theorem l4Meet_fc (u v : Sg) (gu : u.good = true) (gv : v.good = true) : FC Try.prog 72 [u.av, v.av] (l4V u v) := by
  have ua := good_a gu
  have ub := good_b gu
  have va := good_a gv
  have vb := good_b gv
  have pua := Sp.b ua
  have pub := Sp.b ub
  have pva := Sp.b va
  have pvb := Sp.b vb
  have cA := l4Turn_fc u.a u.b v.a ua ub va
  have cB := l4Turn_fc u.a u.b v.b ua ub vb
  have cC := l4Turn_fc v.a v.b u.a va vb ua
  have cD := l4Turn_fc v.a v.b u.b va vb ub
  have hnw : noWay u v = (decide (0 < sg3 (crs u.a u.b v.a) * sg3 (crs u.a u.b v.b)) || decide (0 < sg3 (crs v.a v.b u.a) * sg3 (crs v.a v.b u.b))) := rfl
  have sAB := mul_sg (crs u.a u.b v.a) (crs u.a u.b v.b)
  have sCD := mul_sg (crs v.a v.b u.a) (crs v.a v.b u.b)
  obtain ⟨A, hA⟩ : ∃ A, crs u.a u.b v.a = A := ⟨_, rfl⟩
  obtain ⟨B, hB⟩ : ∃ B, crs u.a u.b v.b = B := ⟨_, rfl⟩
  rw [hA] at cA sAB hnw
  rw [hB] at cB sAB hnw
  generalize crs v.a v.b u.a = C at *
  generalize crs v.a v.b u.b = D at *
  refine FC.body Try.func72 rfl (by simp [idfL, idf, Sp.av, Sp.cells, Sg.av, Sg.cells]) (idf_l4V u v) 181 rfl fun nx K hK => ?_
  refine AWP.seqk fun K1 hK1 => ?_
  refine AWP.region (AOPS.all (by simp (disch := first|omega|(simp only[ln];omega)) [idf_Wd', idf_numS, cells_numS, numS_fold, Sp.av, Sp.cells, Sg.av, Sg.cells, l3A, l3C]; rfl) ?_)
  refine hK1 _ ?_
  refine AWP.seqk fun K2 hK2 => ?_
  refine AWP.region ?_
  refine AOPS.runk 6 (by simp (disch := first|omega|(simp only[ln];omega)) [List.take_succ_cons, List.take_zero, idf_Wd', idf_numS, cells_numS, numS_fold, Sp.av, Sp.cells, Sg.av, Sg.cells, l3A, l3C]; rfl) ?_
  simp only [List.drop_succ_cons, List.drop_zero]
  refine AOPS.fcall (cA) rfl rfl rfl hb124 (by simp (disch := first|omega|(simp only[ln];omega)) [idf_Wd', idf_numS, cells_numS, numS_fold, Sp.av, Sp.cells, Sg.av, Sg.cells, l3A, l3C]) (by simp (disch := first|omega|(simp only[ln];omega))) (by simp) ?_
  simp only [puts_some, updo]
  refine AOPS.all (by simp (disch := first|omega|(simp only[ln];omega)) [idf_Wd', idf_numS, cells_numS, numS_fold, Sp.av, Sp.cells, Sg.av, Sg.cells, l3A, l3C]; rfl) ?_
  refine hK2 _ ?_
  refine AWP.seqk fun K3 hK3 => ?_
  refine AWP.region ?_
  refine AOPS.runk 6 (by simp (disch := first|omega|(simp only[ln];omega)) [List.take_succ_cons, List.take_zero, idf_Wd', idf_numS, cells_numS, numS_fold, Sp.av, Sp.cells, Sg.av, Sg.cells, l3A, l3C]; rfl) ?_
  simp only [List.drop_succ_cons, List.drop_zero]
  refine AOPS.fcall (cB) rfl rfl rfl hb124 (by simp (disch := first|omega|(simp only[ln];omega)) [idf_Wd', idf_numS, cells_numS, numS_fold, Sp.av, Sp.cells, Sg.av, Sg.cells, l3A, l3C]) (by simp (disch := first|omega|(simp only[ln];omega))) (by simp) ?_
  simp only [puts_some, updo]
  refine AOPS.all (by simp (disch := first|omega|(simp only[ln];omega)) [idf_Wd', idf_numS, cells_numS, numS_fold, Sp.av, Sp.cells, Sg.av, Sg.cells, l3A, l3C]; rfl) ?_
  refine hK3 _ ?_
  refine AWP.seqk fun K4 hK4 => ?_
  refine AWP.region ?_
  refine AOPS.runk 6 (by simp (disch := first|omega|(simp only[ln];omega)) [List.take_succ_cons, List.take_zero, idf_Wd', idf_numS, cells_numS, numS_fold, Sp.av, Sp.cells, Sg.av, Sg.cells, l3A, l3C]; rfl) ?_
  simp only [List.drop_succ_cons, List.drop_zero]
  refine AOPS.fcall (cC) rfl rfl rfl hb124 (by simp (disch := first|omega|(simp only[ln];omega)) [idf_Wd', idf_numS, cells_numS, numS_fold, Sp.av, Sp.cells, Sg.av, Sg.cells, l3A, l3C]) (by simp (disch := first|omega|(simp only[ln];omega))) (by simp) ?_
  simp only [puts_some, updo]
  refine AOPS.all (by simp (disch := first|omega|(simp only[ln];omega)) [idf_Wd', idf_numS, cells_numS, numS_fold, Sp.av, Sp.cells, Sg.av, Sg.cells, l3A, l3C]; rfl) ?_
  refine hK4 _ ?_
  refine AWP.seqk fun K5 hK5 => ?_
  refine AWP.region ?_
  refine AOPS.runk 6 (by simp (disch := first|omega|(simp only[ln];omega)) [List.take_succ_cons, List.take_zero, idf_Wd', idf_numS, cells_numS, numS_fold, Sp.av, Sp.cells, Sg.av, Sg.cells, l3A, l3C]; rfl) ?_
  simp only [List.drop_succ_cons, List.drop_zero]
  refine AOPS.fcall (cD) rfl rfl rfl hb124 (by simp (disch := first|omega|(simp only[ln];omega)) [idf_Wd', idf_numS, cells_numS, numS_fold, Sp.av, Sp.cells, Sg.av, Sg.cells, l3A, l3C]) (by simp (disch := first|omega|(simp only[ln];omega))) (by simp) ?_
  simp only [puts_some, updo]
  refine AOPS.all (by simp (disch := first|omega|(simp only[ln];omega)) [idf_Wd', idf_numS, cells_numS, numS_fold, Sp.av, Sp.cells, Sg.av, Sg.cells, l3A, l3C]; rfl) ?_
  refine hK5 _ ?_
  refine AWP.seqk fun K6 hK6 => ?_
  refine AWP.seqk fun K7 hK7 => ?_
  by_cases hA0 : A = 0
  · have c1 := sg0 hA0
    by_cases hB0 : B = 0
    · have c2 := sg0 hB0
      have h0 : A = 0 ∧ B = 0 := ⟨hA0, hB0⟩
      refine AWP.region (AOPS.all (by simp (disch := first|omega|(simp only[ln];omega)) [idf_Wd', idf_numS, cells_numS, numS_fold, Sp.av, Sp.cells, Sg.av, Sg.cells, l3A, l3C, c1, c2]; rfl) ?_)
      refine hK7 _ ?_
      refine cond_ok _ (by simp (disch := first|omega|(simp only[ln];omega)); rfl) (fun h54 => ?_) (fun h54 => ?_)
      · try simp only [decide_eq_true_eq, decide_eq_false_iff_not] at h54
        refine AWP.seqk fun K8 hK8 => ?_
        refine AWP.region (AOPS.all (by simp (disch := first|omega|(simp only[ln];omega)) [idf_Wd', idf_numS, cells_numS, numS_fold, Sp.av, Sp.cells, Sg.av, Sg.cells, l3A, l3C]; rfl) ?_)
        refine hK8 _ ?_
        refine AWP.seqk fun K9 hK9 => ?_
        have J9 : ∀ s : St, (∃ lo : Sp, lo = lowS u v ∧ s.env 2 = .ptr nx 0 0 ∧ s.env 3 = .ptr (nx + 1) 0 0 ∧ s.env 5 = .ptr (nx + 1 + 1) 0 0 ∧ s.env 6 = .ptr (nx + 1 + 1 + 1) 0 0 ∧ s.env 11 = .ptr (nx + 1 + 1 + 1 + 1) 0 0 ∧ s.heap nx = some (4, [[.int .i64 u.a.x, .int .i64 u.a.y, .int .i64 u.b.x, .int .i64 u.b.y]]) ∧ s.heap (nx + 1) = some (4, [[.int .i64 v.a.x, .int .i64 v.a.y, .int .i64 v.b.x, .int .i64 v.b.y]]) ∧ s.heap (nx + 1 + 1) = some (6, [[.bool false, .nsl, .bool false, .nsl, .bool false, .nsl]]) ∧ s.heap (nx + 1 + 1 + 1) = some (6, [[.bool false, .nsl, .bool false, .nsl, .bool false, .nsl]]) ∧ s.heap (nx + 1 + 1 + 1 + 1) = some (2, [[.int .i64 lo.x, .int .i64 lo.y]]) ∧ (nx + 1 + 1 + 1 + 1) < s.nx ∧ s.nt = 181) → K9 s := by
          rintro ⟨e, H, mm, nt⟩ ⟨lo, hlo, g2, g3, g5, g6, g11, hU, hV, hP, hQ, hL, hm, rfl⟩
          simp only [] at g2 g3 g5 g6 g11 hU hV hP hQ hL hm
          refine hK9 _ ?_
          refine AWP.seqk fun K10 hK10 => ?_
          refine AWP.region (AOPS.all (by simp (disch := first|omega|(simp only[ln];omega)) [idf_Wd', idf_numS, cells_numS, numS_fold, Sp.av, Sp.cells, Sg.av, Sg.cells, l3A, l3C, g2, g3, g5, g6, g11, hU, hV, hP, hQ, hL]; rfl) ?_)
          refine hK10 _ ?_
          refine AWP.seqk fun K11 hK11 => ?_
          have J11 : ∀ s : St, (∃ (lo hi : Sp) (ib : Nat), lo = lowS u v ∧ hi = highS u v ∧ s.env 2 = .ptr nx 0 0 ∧ s.env 3 = .ptr (nx + 1) 0 0 ∧ s.env 5 = .ptr (nx + 1 + 1) 0 0 ∧ s.env 6 = .ptr (nx + 1 + 1 + 1) 0 0 ∧ s.env 11 = .ptr (nx + 1 + 1 + 1 + 1) 0 0 ∧ s.heap nx = some (4, [[.int .i64 u.a.x, .int .i64 u.a.y, .int .i64 u.b.x, .int .i64 u.b.y]]) ∧ s.heap (nx + 1) = some (4, [[.int .i64 v.a.x, .int .i64 v.a.y, .int .i64 v.b.x, .int .i64 v.b.y]]) ∧ s.heap (nx + 1 + 1) = some (6, [[.bool false, .nsl, .bool false, .nsl, .bool false, .nsl]]) ∧ s.heap (nx + 1 + 1 + 1) = some (6, [[.bool false, .nsl, .bool false, .nsl, .bool false, .nsl]]) ∧ s.heap (nx + 1 + 1 + 1 + 1) = some (2, [[.int .i64 lo.x, .int .i64 lo.y]]) ∧ s.env 12 = .ptr ib 0 0 ∧ s.heap ib = some (2, [[.int .i64 hi.x, .int .i64 hi.y]]) ∧ (nx + 1 + 1 + 1 + 1) < ib ∧ ib < s.nx ∧ s.nt = 181) → K11 s := by
            clear g2 g3 g5 g6 g11 hU hV hP hQ hL hm hlo lo
            rintro ⟨e, H, mm, nt⟩ ⟨lo, hi, ib, hlo, hhi, g2, g3, g5, g6, g11, hU, hV, hP, hQ, hL, g12, hI, hib, hm, rfl⟩
            simp only [] at g2 g3 g5 g6 g11 g12 hU hV hP hQ hL hI hm
            have hli : l4V u v = if lsS hi lo = true then .tup [.int .i64 0, z3, z3] else if lo = hi then .tup [.int .i64 1, l3A lo.x lo.y 1, z3] else .tup [.int .i64 2, l3A lo.x lo.y 1, l3A hi.x hi.y 1] := by unfold l4V; rw [hA, hB, if_pos h0, hlo, hhi]
            have pl := Sp.b (by rw [hlo]; exact low_good gu gv : lo.good = true)
            have ph := Sp.b (by rw [hhi]; exact high_good gu gv : hi.good = true)
            clear hlo hhi
            refine hK11 _ ?_
            refine AWP.seqk fun K12 hK12 => ?_
            refine AWP.seqk fun K13 hK13 => ?_
            refine AWP.region ?_
            refine AOPS.runk 2 (by simp (disch := first|omega|(simp only[ln];omega)) [List.take_succ_cons, List.take_zero, idf_Wd', idf_numS, cells_numS, numS_fold, Sp.av, Sp.cells, Sg.av, Sg.cells, l3A, l3C, g2, g3, g5, g6, g11, hU, hV, hP, hQ, hL, g12, hI]; rfl) ?_
            simp only [List.drop_succ_cons, List.drop_zero]
            refine AOPS.fcall (l4Less_fc hi lo) rfl rfl rfl hb123 (by simp (disch := first|omega|(simp only[ln];omega)) [idf_Wd', g2, g3, g5, g6, g11, hU, hV, hP, hQ, hL, g12, hI, idf_numS, cells_numS, numS_fold, Sp.av, Sp.cells, Sg.av, Sg.cells, l3A, l3C]) (by simp (disch := first|omega|(simp only[ln];omega)) [g2, g3, g5, g6, g11, hU, hV, hP, hQ, hL, g12, hI]) (by simp) ?_
            simp only [puts_some, updo]
            refine AOPS.nil ?_
            refine hK13 _ ?_
            refine cond_ok (lsS hi lo) (by simp (disch := first|omega|(simp only[ln];omega))) (fun h73 => ?_) (fun h73 => ?_)
            · try simp only [decide_eq_true_eq, decide_eq_false_iff_not] at h73
              refine AWP.seqk fun K14 hK14 => ?_
              refine AWP.region (AOPS.all (by simp (disch := first|omega|(simp only[ln];omega)) [idf_Wd', idf_numS, cells_numS, numS_fold, Sp.av, Sp.cells, Sg.av, Sg.cells, l3A, l3C, g2, g3, g5, g6, g11, hU, hV, hP, hQ, hL]; rfl) ?_)
              refine hK14 _ ?_
              refine AWP.ret ?_
              exact hK _ _ _ _ trivial ((Fin.mk (by simp (disch := omega) [aRes, aResL, aRes1, g5, g6, idf_Wd', idf_numS, cells_numS, numS_fold, Sp.av, Sp.cells, Sg.av, Sg.cells, l3A, l3C]; rfl)).cast (by rw [hli, if_pos h73]; rfl))
            · try simp only [decide_eq_true_eq, decide_eq_false_iff_not] at h73
              refine AWP.skip ?_
              refine hK12 _ ?_
              refine AWP.seqk fun K15 hK15 => ?_
              refine AWP.seqk fun K16 hK16 => ?_
              refine AWP.region (AOPS.all (by simp (disch := first|omega|(simp only[ln];omega)) [idf_Wd', idf_numS, cells_numS, numS_fold, Sp.av, Sp.cells, Sg.av, Sg.cells, l3A, l3C, g2, g3, g5, g6, g11, hU, hV, hP, hQ, hL, g12, hI, eqW2]; rfl) ?_)
              refine hK16 _ ?_
              refine cond_ok (decide (lo = hi)) (by simp (disch := first|omega|(simp only[ln];omega))) (fun h78 => ?_) (fun h78 => ?_)
              · try simp only [decide_eq_true_eq, decide_eq_false_iff_not] at h78
                refine AWP.seqk fun K17 hK17 => ?_
                refine AWP.region ?_
                refine AOPS.runk 1 (by simp (disch := first|omega|(simp only[ln];omega)) [List.take_succ_cons, List.take_zero, idf_Wd', idf_numS, cells_numS, numS_fold, Sp.av, Sp.cells, Sg.av, Sg.cells, l3A, l3C, g2, g3, g5, g6, g11, hU, hV, hP, hQ, hL]; rfl) ?_
                simp only [List.drop_succ_cons, List.drop_zero]
                refine AOPS.fcall (l3Spot_fc lo.x lo.y (by omega) (by omega) (by omega) (by omega)) rfl rfl rfl hb125 (by simp (disch := first|omega|(simp only[ln];omega)) [idf_Wd', g2, g3, g5, g6, g11, hU, hV, hP, hQ, hL, idf_numS, cells_numS, numS_fold, Sp.av, Sp.cells, Sg.av, Sg.cells, l3A, l3C]) (by simp (disch := first|omega|(simp only[ln];omega)) [g2, g3, g5, g6, g11, hU, hV, hP, hQ, hL]) (by simp) ?_
                simp only [puts_some, updo]
                refine AOPS.all (by simp (disch := first|omega|(simp only[ln];omega)) [idf_Wd', idf_numS, cells_numS, numS_fold, Sp.av, Sp.cells, Sg.av, Sg.cells, l3A, l3C, g2, g3, g5, g6, g11, hU, hV, hP, hQ, hL]; rfl) ?_
                refine hK17 _ ?_
                refine AWP.ret ?_
                exact hK _ _ _ _ trivial ((Fin.mk (by simp (disch := omega) [aRes, aResL, aRes1, g5, g6, idf_Wd', idf_numS, cells_numS, numS_fold, Sp.av, Sp.cells, Sg.av, Sg.cells, l3A, l3C]; rfl)).cast (by rw [hli, if_neg (by rw [h73]; simp), if_pos h78]; rfl))
              · try simp only [decide_eq_true_eq, decide_eq_false_iff_not] at h78
                refine AWP.skip ?_
                refine hK15 _ ?_
                refine AWP.seqk fun K18 hK18 => ?_
                refine AWP.old fun hold => ?_
                refine AWP.draw 4 Try.checked.mixed (by kernel_rfl) (by simp) ?_
                simp only [List.take_succ_cons, List.take_zero, List.drop_succ_cons, List.drop_zero]
                refine DP.runFk 1 (by simp (disch := first|omega|(simp only[ln];omega)) [runDf.eq_def, runF1, runF2, stepF.eq_def, updo.eq_def, hupo.eq_def, opSto1.eq_def, List.take_succ_cons, List.take_zero, idf_Wd', idf_numS, cells_numS, numS_fold, Sp.av, Sp.cells, Sg.av, Sg.cells, l3A, l3C, g2, g3, g5, g6, g11, hU, hV, hP, hQ, hL, g12, hI]; rfl) fun fs19 hfs19 => ?_
                replace hfs19 : fs19.length = 1 := hfs19.trans rfl
                simp only [List.drop_succ_cons, List.drop_zero]
                refine DP.fcall (l3Spot_fc lo.x lo.y (by omega) (by omega) (by omega) (by omega)) rfl rfl rfl hb125 (by simp (disch := first|omega|(simp only[ln];omega)) [idf_Wd', g2, g3, g5, g6, g11, hU, hV, hP, hQ, hL, g12, hI, idf_numS, cells_numS, numS_fold, Sp.av, Sp.cells, Sg.av, Sg.cells, l3A, l3C]) (by simp (disch := first|omega|(simp only[ln];omega)) [g2, g3, g5, g6, g11, hU, hV, hP, hQ, hL, g12, hI]) (by simp) ?_
                simp only [updo]
                refine DP.runF1q (by simp (disch := first|omega|(simp only[ln];omega)) [runDf.eq_def, runF1, runF2, stepF.eq_def, updo.eq_def, hupo.eq_def, opSto1.eq_def, idf_Wd', idf_numS, cells_numS, numS_fold, Sp.av, Sp.cells, Sg.av, Sg.cells, l3A, l3C, g2, g3, g5, g6, g11, hU, hV, hP, hQ, hL, g12, hI]; rfl) fun fq20 hfq20 => ?_
                simp [qids, Op.operands, topId] at hfq20
                simp only [updo]
                refine DP.fcall (l3Spot_fc hi.x hi.y (by omega) (by omega) (by omega) (by omega)) rfl rfl rfl hb125 (by simp (disch := first|omega|(simp only[ln];omega)) [idf_Wd', g2, g3, g5, g6, g11, hU, hV, hP, hQ, hL, g12, hI, idf_numS, cells_numS, numS_fold, Sp.av, Sp.cells, Sg.av, Sg.cells, l3A, l3C]) (by simp (disch := first|omega|(simp only[ln];omega)) [g2, g3, g5, g6, g11, hU, hV, hP, hQ, hL, g12, hI]) (by simp) ?_
                simp only [updo]
                refine DQ.asg1 _ rfl rfl ?_
                simp only [updo]
                refine DQ.sto1 (m := 4) [2, 3] _ (by simp (disch := first|omega|(simp only[ln];omega)) [runDf.eq_def, runF1, runF2, stepF.eq_def, updo.eq_def, hupo.eq_def, opSto1.eq_def, idf_Wd', idf_numS, cells_numS, numS_fold, Sp.av, Sp.cells, Sg.av, Sg.cells, l3A, l3C, g2, g3, g5, g6, g11, hU, hV, hP, hQ, hL, g12, hI]; rfl) rfl (by simp only [List.length_append, List.length_cons, List.length_nil, hfs19]; omega) (by kernel_rfl) (by intro k f hk hex; simp only [List.mem_cons, List.not_mem_nil, or_false] at hex; rcases hex with rfl | rfl <;> (simp [List.getElem?_append, hfs19] at hk; subst hk; refine ⟨?_, by first | omega | (simp; done) | (simp; omega)⟩; simp [qids, Op.operands, Call.operands, topId, numS, numI, Wd, hfq20, g2, g3, g5, g6, g11, g12]; try omega)) ?_
                try simp only []
                refine DQ.sto1 (m := 4) [] _ (by simp (disch := first|omega|(simp only[ln];omega)) [runDf.eq_def, runF1, runF2, stepF.eq_def, updo.eq_def, hupo.eq_def, opSto1.eq_def, idf_Wd', idf_numS, cells_numS, numS_fold, Sp.av, Sp.cells, Sg.av, Sg.cells, l3A, l3C, g2, g3, g5, g6, g11, hU, hV, hP, hQ, hL, g12, hI]; rfl) rfl (by simp only [List.length_append, List.length_cons, List.length_nil, hfs19]; omega) (by kernel_rfl) (by intro k f hk hex; simp only [List.not_mem_nil] at hex) ?_
                try simp only []
                refine hK18 _ ?_
                refine AWP.ret ?_
                exact hK _ _ _ _ trivial ((Fin.mk (by simp (disch := omega) [aRes, aResL, aRes1, g5, g6, idf_Wd', idf_numS, cells_numS, numS_fold, Sp.av, Sp.cells, Sg.av, Sg.cells, l3A, l3C]; rfl)).cast (by rw [hli, if_neg (by rw [h73]; simp), if_neg h78]; rfl))
          refine AWP.seqk fun K21 hK21 => ?_
          refine AWP.region ?_
          refine AOPS.runk 3 (by simp (disch := first|omega|(simp only[ln];omega)) [List.take_succ_cons, List.take_zero, idf_Wd', idf_numS, cells_numS, numS_fold, Sp.av, Sp.cells, Sg.av, Sg.cells, l3A, l3C, g2, g3, g5, g6, g11, hU, hV, hP, hQ, hL]; rfl) ?_
          simp only [List.drop_succ_cons, List.drop_zero]
          refine AOPS.fcall (l4Less_fc v.b u.b) rfl rfl rfl hb123 (by simp (disch := first|omega|(simp only[ln];omega)) [idf_Wd', g2, g3, g5, g6, g11, hU, hV, hP, hQ, hL, idf_numS, cells_numS, numS_fold, Sp.av, Sp.cells, Sg.av, Sg.cells, l3A, l3C]) (by simp (disch := first|omega|(simp only[ln];omega)) [g2, g3, g5, g6, g11, hU, hV, hP, hQ, hL]) (by simp) ?_
          simp only [puts_some, updo]
          refine AOPS.nil ?_
          refine hK21 _ ?_
          refine cond_ok (lsS v.b u.b) (by simp (disch := first|omega|(simp only[ln];omega))) (fun h68 => ?_) (fun h68 => ?_)
          · try simp only [decide_eq_true_eq, decide_eq_false_iff_not] at h68
            refine AWP.region (AOPS.all (by simp (disch := first|omega|(simp only[ln];omega)) [idf_Wd', idf_numS, cells_numS, numS_fold, Sp.av, Sp.cells, Sg.av, Sg.cells, l3A, l3C, g2, g3, g5, g6, g11, hU, hV, hP, hQ, hL]; rfl) ?_)
            refine J11 _ ?_
            exact ⟨lo, v.b, mm, hlo, by unfold highS; rw [if_pos h68], by simp [g2, g3, g5, g6, g11], by simp [g2, g3, g5, g6, g11], by simp [g2, g3, g5, g6, g11], by simp [g2, g3, g5, g6, g11], by simp [g2, g3, g5, g6, g11], by simp (disch := omega) [hU, hV, hP, hQ, hL], by simp (disch := omega) [hU, hV, hP, hQ, hL], by simp (disch := omega) [hU, hV, hP, hQ, hL], by simp (disch := omega) [hU, hV, hP, hQ, hL], by simp (disch := omega) [hU, hV, hP, hQ, hL], by simp, by simp (disch := omega), by omega, by first | omega | (simp; done) | (simp; omega), rfl⟩
          · try simp only [decide_eq_true_eq, decide_eq_false_iff_not] at h68
            refine AWP.skip ?_
            refine J11 _ ?_
            exact ⟨lo, u.b, mm, hlo, by unfold highS; rw [h68]; rfl, by simp [g2, g3, g5, g6, g11], by simp [g2, g3, g5, g6, g11], by simp [g2, g3, g5, g6, g11], by simp [g2, g3, g5, g6, g11], by simp [g2, g3, g5, g6, g11], by simp (disch := omega) [hU, hV, hP, hQ, hL], by simp (disch := omega) [hU, hV, hP, hQ, hL], by simp (disch := omega) [hU, hV, hP, hQ, hL], by simp (disch := omega) [hU, hV, hP, hQ, hL], by simp (disch := omega) [hU, hV, hP, hQ, hL], by simp, by simp (disch := omega), by omega, by first | omega | (simp; done) | (simp; omega), rfl⟩
        refine AWP.seqk fun K22 hK22 => ?_
        refine AWP.region ?_
        refine AOPS.runk 3 (by simp (disch := first|omega|(simp only[ln];omega)) [List.take_succ_cons, List.take_zero, idf_Wd', idf_numS, cells_numS, numS_fold, Sp.av, Sp.cells, Sg.av, Sg.cells, l3A, l3C]; rfl) ?_
        simp only [List.drop_succ_cons, List.drop_zero]
        refine AOPS.fcall (l4Less_fc u.a v.a) rfl rfl rfl hb123 (by simp (disch := first|omega|(simp only[ln];omega)) [idf_Wd', idf_numS, cells_numS, numS_fold, Sp.av, Sp.cells, Sg.av, Sg.cells, l3A, l3C]) (by simp (disch := first|omega|(simp only[ln];omega))) (by simp) ?_
        simp only [puts_some, updo]
        refine AOPS.nil ?_
        refine hK22 _ ?_
        refine cond_ok (lsS u.a v.a) (by simp (disch := first|omega|(simp only[ln];omega))) (fun h60 => ?_) (fun h60 => ?_)
        · try simp only [decide_eq_true_eq, decide_eq_false_iff_not] at h60
          refine AWP.region (AOPS.all (by simp (disch := first|omega|(simp only[ln];omega)) [idf_Wd', idf_numS, cells_numS, numS_fold, Sp.av, Sp.cells, Sg.av, Sg.cells, l3A, l3C]; rfl) ?_)
          refine J9 _ ?_
          exact ⟨v.a, by unfold lowS; rw [if_pos h60], by simp, by simp, by simp, by simp, by simp, by simp (disch := omega), by simp (disch := omega), by simp (disch := omega), by simp (disch := omega), by simp (disch := omega), by first | omega | (simp; done) | (simp; omega), rfl⟩
        · try simp only [decide_eq_true_eq, decide_eq_false_iff_not] at h60
          refine AWP.skip ?_
          refine J9 _ ?_
          exact ⟨u.a, by unfold lowS; rw [h60]; rfl, by simp, by simp, by simp, by simp, by simp, by simp (disch := omega), by simp (disch := omega), by simp (disch := omega), by simp (disch := omega), by simp (disch := omega), by first | omega | (simp; done) | (simp; omega), rfl⟩
      · simp at h54
    · have c2 := sg1 hB0
      have h0 : ¬ (A = 0 ∧ B = 0) := fun h => hB0 h.2
      refine AWP.region (AOPS.all (by simp (disch := first|omega|(simp only[ln];omega)) [idf_Wd', idf_numS, cells_numS, numS_fold, Sp.av, Sp.cells, Sg.av, Sg.cells, l3A, l3C, c1, c2]; rfl) ?_)
      refine hK7 _ ?_
      refine cond_ok _ (by simp (disch := first|omega|(simp only[ln];omega)); rfl) (fun h54 => ?_) (fun h54 => ?_)
      · simp at h54
      · try simp only [decide_eq_true_eq, decide_eq_false_iff_not] at h54
        refine AWP.skip ?_
        refine hK6 _ ?_
        refine AWP.seqk fun K23 hK23 => ?_
        refine AWP.seqk fun K24 hK24 => ?_
        cases q3 : decide (0 < sg3 A * sg3 B)
        · refine AWP.region (AOPS.all (by simp (disch := first|omega|(simp only[ln];omega)) [idf_Wd', idf_numS, cells_numS, numS_fold, Sp.av, Sp.cells, Sg.av, Sg.cells, l3A, l3C, q3]; rfl) ?_)
          refine hK24 _ ?_
          refine cond_ok (decide (0 < sg3 C * sg3 D)) (by simp (disch := first|omega|(simp only[ln];omega))) (fun h95 => ?_) (fun h95 => ?_)
          · try simp only [decide_eq_true_eq, decide_eq_false_iff_not] at h95
            have hw : noWay u v = true := by rw [hnw, q3]; simp [h95]
            refine AWP.seqk fun K25 hK25 => ?_
            refine AWP.region (AOPS.all (by simp (disch := first|omega|(simp only[ln];omega)) [idf_Wd', idf_numS, cells_numS, numS_fold, Sp.av, Sp.cells, Sg.av, Sg.cells, l3A, l3C]; rfl) ?_)
            refine hK25 _ ?_
            refine AWP.ret ?_
            exact hK _ _ _ _ trivial ((Fin.mk (by simp [aRes, aResL, aRes1, idf_Wd', idf_numS, cells_numS, numS_fold, Sp.av, Sp.cells, Sg.av, Sg.cells, l3A, l3C]; rfl)).cast (by unfold l4V; rw [hA, hB, if_neg h0, if_pos hw]; try rfl))
          · try simp only [decide_eq_true_eq, decide_eq_false_iff_not] at h95
            have hw : ¬ noWay u v = true := by rw [hnw, q3]; simp; omega
            have m1 := mul_b (u := u.b.x - u.a.x) (v := v.b.y - v.a.y) (m := 2000000) (n := 2000000) (by omega) (by omega) (by omega) (by omega) (by omega)
            have m2 := mul_b (u := u.b.y - u.a.y) (v := v.b.x - v.a.x) (m := 2000000) (n := 2000000) (by omega) (by omega) (by omega) (by omega) (by omega)
            have m3 := mul_b (u := v.a.x - u.a.x) (v := v.b.y - v.a.y) (m := 2000000) (n := 2000000) (by omega) (by omega) (by omega) (by omega) (by omega)
            have m4 := mul_b (u := v.a.y - u.a.y) (v := v.b.x - v.a.x) (m := 2000000) (n := 2000000) (by omega) (by omega) (by omega) (by omega) (by omega)
            have hdn := den_ne gu gv (by rw [hA, hB]; exact h0) hw
            have eD : denS u v = (u.b.x - u.a.x) * (v.b.y - v.a.y) - (u.b.y - u.a.y) * (v.b.x - v.a.x) := rfl
            have eN : numT u v = (v.a.x - u.a.x) * (v.b.y - v.a.y) - (v.a.y - u.a.y) * (v.b.x - v.a.x) := rfl
            have b1 : Bg 1 u.a.x := Bg.i64 (by omega) (by omega)
            have b2 : Bg 1 u.a.y := Bg.i64 (by omega) (by omega)
            have b3 : Bg 1 (denS u v) := Bg.i64 (by rw [eD]; omega) (by rw [eD]; omega)
            have b4 : Bg 1 (numT u v) := Bg.i64 (by rw [eN]; omega) (by rw [eN]; omega)
            have b5 : Bg 1 (u.b.x - u.a.x) := Bg.i64 (by omega) (by omega)
            have b6 : Bg 1 (u.b.y - u.a.y) := Bg.i64 (by omega) (by omega)
            have i1 := l1Int_fc (denS u v) (by rw [eD]; omega) (by rw [eD]; omega)
            have i2 := l1Int_fc (numT u v) (by rw [eN]; omega) (by rw [eN]; omega)
            rw [eD] at i1
            rw [eN] at i2
            have x1 := l1Mul_fc b1 b3 (by omega) (by omega)
            have x2 := l1Mul_fc b5 b4 (by omega) (by omega)
            have x3 := l1Add_fc (b1.mul b3) (b5.mul b4) (by omega) (by omega)
            have y1 := l1Mul_fc b2 b3 (by omega) (by omega)
            have y2 := l1Mul_fc b6 b4 (by omega) (by omega)
            have y3 := l1Add_fc (b2.mul b3) (b6.mul b4) (by omega) (by omega)
            have l3 := l3Make_fc (j := 3) (wayX2 u v) (wayY2 u v) (denS u v) hdn (((b1.mul b3).add (b5.mul b4)).le (by omega)) (((b2.mul b3).add (b6.mul b4)).le (by omega)) (b3.le (by omega)) (by omega) (by omega)
            unfold wayX2 wayY2 at l3
            rw [eD] at x1 x3 y1 y3
            rw [eN] at x2 x3 y2 y3
            simp only [eD, eN] at l3
            have eV : l3A (nX u v) (nY u v) (nW u v) = l3A (nX u v) (nY u v) (nW u v) := rfl
            unfold nX nY nW wayX2 wayY2 at eV
            simp only [eD, eN] at eV
            have hl4 : l4V u v = .tup [.int .i64 1, l3A (nX u v) (nY u v) (nW u v), z3] := by unfold l4V; rw [hA, hB, if_neg h0, if_neg hw]
            unfold nX nY nW wayX2 wayY2 at hl4
            simp only [eD, eN] at hl4
            clear b3 b4 eV
            refine AWP.skip ?_
            refine hK23 _ ?_
            refine AWP.seqk fun K26 hK26 => ?_
            refine AWP.region (AOPS.all (by simp (disch := first|omega|(simp only[ln];omega)) [idf_Wd', idf_numS, cells_numS, numS_fold, Sp.av, Sp.cells, Sg.av, Sg.cells, l3A, l3C]; rfl) ?_)
            refine hK26 _ ?_
            refine AWP.seqk fun K27 hK27 => ?_
            refine AWP.region (AOPS.all (by simp (disch := first|omega|(simp only[ln];omega)) [idf_Wd', idf_numS, cells_numS, numS_fold, Sp.av, Sp.cells, Sg.av, Sg.cells, l3A, l3C]; rfl) ?_)
            refine hK27 _ ?_
            refine AWP.seqk fun K28 hK28 => ?_
            refine AWP.region (AOPS.all (by simp (disch := first|omega|(simp only[ln];omega)) [idf_Wd', idf_numS, cells_numS, numS_fold, Sp.av, Sp.cells, Sg.av, Sg.cells, l3A, l3C]; rfl) ?_)
            refine hK28 _ ?_
            refine AWP.seqk fun K29 hK29 => ?_
            refine AWP.region (AOPS.all (by simp (disch := first|omega|(simp only[ln];omega)) [idf_Wd', idf_numS, cells_numS, numS_fold, Sp.av, Sp.cells, Sg.av, Sg.cells, l3A, l3C]; rfl) ?_)
            refine hK29 _ ?_
            refine AWP.seqk fun K30 hK30 => ?_
            refine AWP.region ?_
            refine AOPS.runk 7 (by simp (disch := first|omega|(simp only[ln];omega)) [List.take_succ_cons, List.take_zero, idf_Wd', idf_numS, cells_numS, numS_fold, Sp.av, Sp.cells, Sg.av, Sg.cells, l3A, l3C]; rfl) ?_
            simp only [List.drop_succ_cons, List.drop_zero]
            refine AOPS.fcall (i1) rfl rfl rfl hb89 (by simp (disch := first|omega|(simp only[ln];omega)) [idf_Wd', idf_numS, cells_numS, numS_fold, Sp.av, Sp.cells, Sg.av, Sg.cells, l3A, l3C]) (by simp (disch := first|omega|(simp only[ln];omega))) (by simp) ?_
            simp only [puts_some, updo]
            refine AOPS.all (by simp (disch := first|omega|(simp only[ln];omega)) [idf_Wd', idf_numS, cells_numS, numS_fold, Sp.av, Sp.cells, Sg.av, Sg.cells, l3A, l3C]; rfl) ?_
            refine hK30 _ ?_
            refine AWP.seqk fun K31 hK31 => ?_
            refine AWP.region ?_
            refine AOPS.runk 19 (by simp (disch := first|omega|(simp only[ln];omega)) [List.take_succ_cons, List.take_zero, idf_Wd', idf_numS, cells_numS, numS_fold, Sp.av, Sp.cells, Sg.av, Sg.cells, l3A, l3C]; rfl) ?_
            simp only [List.drop_succ_cons, List.drop_zero]
            refine AOPS.fcall (i2) rfl rfl rfl hb89 (by simp (disch := first|omega|(simp only[ln];omega)) [idf_Wd', idf_numS, cells_numS, numS_fold, Sp.av, Sp.cells, Sg.av, Sg.cells, l3A, l3C]) (by simp (disch := first|omega|(simp only[ln];omega))) (by simp) ?_
            simp only [puts_some, updo]
            refine AOPS.all (by simp (disch := first|omega|(simp only[ln];omega)) [idf_Wd', idf_numS, cells_numS, numS_fold, Sp.av, Sp.cells, Sg.av, Sg.cells, l3A, l3C]; rfl) ?_
            refine hK31 _ ?_
            refine AWP.seqk fun K32 hK32 => ?_
            refine AWP.draw 12 Try.checked.mixed (by kernel_rfl) (by simp) ?_
            simp only [List.take_succ_cons, List.take_zero, List.drop_succ_cons, List.drop_zero]
            refine DP.runFk 3 (by simp (disch := first|omega|(simp only[ln];omega)) [runDf.eq_def, runF1, runF2, stepF.eq_def, updo.eq_def, hupo.eq_def, opSto1.eq_def, List.take_succ_cons, List.take_zero, idf_Wd', idf_numS, cells_numS, numS_fold, Sp.av, Sp.cells, Sg.av, Sg.cells, l3A, l3C]; rfl) fun fs33 hfs33 => ?_
            replace hfs33 : fs33.length = 3 := hfs33.trans rfl
            simp only [List.drop_succ_cons, List.drop_zero]
            refine DP.fcall (l1Int_fc u.a.x (by omega) (by omega)) rfl rfl rfl hb89 (by simp (disch := first|omega|(simp only[ln];omega)) [idf_Wd', idf_numS, cells_numS, numS_fold, Sp.av, Sp.cells, Sg.av, Sg.cells, l3A, l3C]) (by simp (disch := first|omega|(simp only[ln];omega))) (by simp) ?_
            simp only [updo]
            refine DP.runFk 1 (by simp (disch := first|omega|(simp only[ln];omega)) [runDf.eq_def, runF1, runF2, stepF.eq_def, updo.eq_def, hupo.eq_def, opSto1.eq_def, List.take_succ_cons, List.take_zero, idf_Wd', idf_numS, cells_numS, numS_fold, Sp.av, Sp.cells, Sg.av, Sg.cells, l3A, l3C]; rfl) fun fs34 hfs34 => ?_
            replace hfs34 : fs34.length = 1 := hfs34.trans rfl
            simp only [List.drop_succ_cons, List.drop_zero]
            refine DP.fcall (x1) rfl rfl rfl hb102 (by simp (disch := first|omega|(simp only[ln];omega)) [idf_Wd', idf_numS, cells_numS, numS_fold, Sp.av, Sp.cells, Sg.av, Sg.cells, l3A, l3C]) (by simp (disch := first|omega|(simp only[ln];omega))) (by simp) ?_
            simp only [updo]
            refine DP.runFk 1 (by simp (disch := first|omega|(simp only[ln];omega)) [runDf.eq_def, runF1, runF2, stepF.eq_def, updo.eq_def, hupo.eq_def, opSto1.eq_def, List.take_succ_cons, List.take_zero, idf_Wd', idf_numS, cells_numS, numS_fold, Sp.av, Sp.cells, Sg.av, Sg.cells, l3A, l3C]; rfl) fun fs35 hfs35 => ?_
            replace hfs35 : fs35.length = 1 := hfs35.trans rfl
            simp only [List.drop_succ_cons, List.drop_zero]
            refine DP.fcall (l1Int_fc (u.b.x - u.a.x) (by omega) (by omega)) rfl rfl rfl hb89 (by simp (disch := first|omega|(simp only[ln];omega)) [idf_Wd', idf_numS, cells_numS, numS_fold, Sp.av, Sp.cells, Sg.av, Sg.cells, l3A, l3C]) (by simp (disch := first|omega|(simp only[ln];omega))) (by simp) ?_
            simp only [updo]
            refine DP.runFk 1 (by simp (disch := first|omega|(simp only[ln];omega)) [runDf.eq_def, runF1, runF2, stepF.eq_def, updo.eq_def, hupo.eq_def, opSto1.eq_def, List.take_succ_cons, List.take_zero, idf_Wd', idf_numS, cells_numS, numS_fold, Sp.av, Sp.cells, Sg.av, Sg.cells, l3A, l3C]; rfl) fun fs36 hfs36 => ?_
            replace hfs36 : fs36.length = 1 := hfs36.trans rfl
            simp only [List.drop_succ_cons, List.drop_zero]
            refine DP.fcall (x2) rfl rfl rfl hb102 (by simp (disch := first|omega|(simp only[ln];omega)) [idf_Wd', idf_numS, cells_numS, numS_fold, Sp.av, Sp.cells, Sg.av, Sg.cells, l3A, l3C]) (by simp (disch := first|omega|(simp only[ln];omega))) (by simp) ?_
            simp only [updo]
            refine DP.fcall (x3) rfl rfl rfl hb101 (by simp (disch := first|omega|(simp only[ln];omega)) [idf_Wd', idf_numS, cells_numS, numS_fold, Sp.av, Sp.cells, Sg.av, Sg.cells, l3A, l3C]) (by simp (disch := first|omega|(simp only[ln];omega))) (by simp) ?_
            simp only [updo]
            refine DP.runFk 1 (by simp (disch := first|omega|(simp only[ln];omega)) [runDf.eq_def, runF1, runF2, stepF.eq_def, updo.eq_def, hupo.eq_def, opSto1.eq_def, List.take_succ_cons, List.take_zero, idf_Wd', idf_numS, cells_numS, numS_fold, Sp.av, Sp.cells, Sg.av, Sg.cells, l3A, l3C]; rfl) fun fs37 hfs37 => ?_
            replace hfs37 : fs37.length = 1 := hfs37.trans rfl
            simp only [List.drop_succ_cons, List.drop_zero]
            refine DQ.runF (m := 12) (by simp only [List.length_append, List.length_cons, List.length_nil, hfs33, hfs34, hfs35, hfs36, hfs37]; omega) _ _ _ (by kernel_rfl) rfl (by simp (disch := first|omega|(simp only[ln];omega)) [runDf.eq_def, runF1, runF2, stepF.eq_def, updo.eq_def, hupo.eq_def, opSto1.eq_def, idf_Wd', idf_numS, cells_numS, numS_fold, Sp.av, Sp.cells, Sg.av, Sg.cells, l3A, l3C]; rfl) ?_
            refine hK32 _ ?_
            refine AWP.seqk fun K38 hK38 => ?_
            refine AWP.draw 12 Try.checked.mixed (by kernel_rfl) (by simp) ?_
            simp only [List.take_succ_cons, List.take_zero, List.drop_succ_cons, List.drop_zero]
            refine DP.runFk 3 (by simp (disch := first|omega|(simp only[ln];omega)) [runDf.eq_def, runF1, runF2, stepF.eq_def, updo.eq_def, hupo.eq_def, opSto1.eq_def, List.take_succ_cons, List.take_zero, idf_Wd', idf_numS, cells_numS, numS_fold, Sp.av, Sp.cells, Sg.av, Sg.cells, l3A, l3C]; rfl) fun fs39 hfs39 => ?_
            replace hfs39 : fs39.length = 3 := hfs39.trans rfl
            simp only [List.drop_succ_cons, List.drop_zero]
            refine DP.fcall (l1Int_fc u.a.y (by omega) (by omega)) rfl rfl rfl hb89 (by simp (disch := first|omega|(simp only[ln];omega)) [idf_Wd', idf_numS, cells_numS, numS_fold, Sp.av, Sp.cells, Sg.av, Sg.cells, l3A, l3C]) (by simp (disch := first|omega|(simp only[ln];omega))) (by simp) ?_
            simp only [updo]
            refine DP.runFk 1 (by simp (disch := first|omega|(simp only[ln];omega)) [runDf.eq_def, runF1, runF2, stepF.eq_def, updo.eq_def, hupo.eq_def, opSto1.eq_def, List.take_succ_cons, List.take_zero, idf_Wd', idf_numS, cells_numS, numS_fold, Sp.av, Sp.cells, Sg.av, Sg.cells, l3A, l3C]; rfl) fun fs40 hfs40 => ?_
            replace hfs40 : fs40.length = 1 := hfs40.trans rfl
            simp only [List.drop_succ_cons, List.drop_zero]
            refine DP.fcall (y1) rfl rfl rfl hb102 (by simp (disch := first|omega|(simp only[ln];omega)) [idf_Wd', idf_numS, cells_numS, numS_fold, Sp.av, Sp.cells, Sg.av, Sg.cells, l3A, l3C]) (by simp (disch := first|omega|(simp only[ln];omega))) (by simp) ?_
            simp only [updo]
            refine DP.runFk 1 (by simp (disch := first|omega|(simp only[ln];omega)) [runDf.eq_def, runF1, runF2, stepF.eq_def, updo.eq_def, hupo.eq_def, opSto1.eq_def, List.take_succ_cons, List.take_zero, idf_Wd', idf_numS, cells_numS, numS_fold, Sp.av, Sp.cells, Sg.av, Sg.cells, l3A, l3C]; rfl) fun fs41 hfs41 => ?_
            replace hfs41 : fs41.length = 1 := hfs41.trans rfl
            simp only [List.drop_succ_cons, List.drop_zero]
            refine DP.fcall (l1Int_fc (u.b.y - u.a.y) (by omega) (by omega)) rfl rfl rfl hb89 (by simp (disch := first|omega|(simp only[ln];omega)) [idf_Wd', idf_numS, cells_numS, numS_fold, Sp.av, Sp.cells, Sg.av, Sg.cells, l3A, l3C]) (by simp (disch := first|omega|(simp only[ln];omega))) (by simp) ?_
            simp only [updo]
            refine DP.runFk 1 (by simp (disch := first|omega|(simp only[ln];omega)) [runDf.eq_def, runF1, runF2, stepF.eq_def, updo.eq_def, hupo.eq_def, opSto1.eq_def, List.take_succ_cons, List.take_zero, idf_Wd', idf_numS, cells_numS, numS_fold, Sp.av, Sp.cells, Sg.av, Sg.cells, l3A, l3C]; rfl) fun fs42 hfs42 => ?_
            replace hfs42 : fs42.length = 1 := hfs42.trans rfl
            simp only [List.drop_succ_cons, List.drop_zero]
            refine DP.fcall (y2) rfl rfl rfl hb102 (by simp (disch := first|omega|(simp only[ln];omega)) [idf_Wd', idf_numS, cells_numS, numS_fold, Sp.av, Sp.cells, Sg.av, Sg.cells, l3A, l3C]) (by simp (disch := first|omega|(simp only[ln];omega))) (by simp) ?_
            simp only [updo]
            refine DP.fcall (y3) rfl rfl rfl hb101 (by simp (disch := first|omega|(simp only[ln];omega)) [idf_Wd', idf_numS, cells_numS, numS_fold, Sp.av, Sp.cells, Sg.av, Sg.cells, l3A, l3C]) (by simp (disch := first|omega|(simp only[ln];omega))) (by simp) ?_
            simp only [updo]
            refine DP.runFk 1 (by simp (disch := first|omega|(simp only[ln];omega)) [runDf.eq_def, runF1, runF2, stepF.eq_def, updo.eq_def, hupo.eq_def, opSto1.eq_def, List.take_succ_cons, List.take_zero, idf_Wd', idf_numS, cells_numS, numS_fold, Sp.av, Sp.cells, Sg.av, Sg.cells, l3A, l3C]; rfl) fun fs43 hfs43 => ?_
            replace hfs43 : fs43.length = 1 := hfs43.trans rfl
            simp only [List.drop_succ_cons, List.drop_zero]
            refine DQ.runF (m := 12) (by simp only [List.length_append, List.length_cons, List.length_nil, hfs39, hfs40, hfs41, hfs42, hfs43]; omega) _ _ _ (by kernel_rfl) rfl (by simp (disch := first|omega|(simp only[ln];omega)) [runDf.eq_def, runF1, runF2, stepF.eq_def, updo.eq_def, hupo.eq_def, opSto1.eq_def, idf_Wd', idf_numS, cells_numS, numS_fold, Sp.av, Sp.cells, Sg.av, Sg.cells, l3A, l3C]; rfl) ?_
            refine hK38 _ ?_
            refine AWP.seqk fun K44 hK44 => ?_
            refine AWP.region ?_
            refine AOPS.runk 3 (by simp (disch := first|omega|(simp only[ln];omega)) [List.take_succ_cons, List.take_zero, idf_Wd', idf_numS, cells_numS, numS_fold, Sp.av, Sp.cells, Sg.av, Sg.cells, l3A, l3C]; rfl) ?_
            simp only [List.drop_succ_cons, List.drop_zero]
            refine AOPS.fcall (l3) rfl rfl rfl hb100 (by simp (disch := first|omega|(simp only[ln];omega)) [idf_Wd', idf_numS, cells_numS, numS_fold, Sp.av, Sp.cells, Sg.av, Sg.cells, l3A, l3C]) (by simp (disch := first|omega|(simp only[ln];omega))) (by simp) ?_
            simp only [puts_some, updo]
            refine AOPS.all (by simp (disch := first|omega|(simp only[ln];omega)) [idf_Wd', idf_numS, cells_numS, numS_fold, Sp.av, Sp.cells, Sg.av, Sg.cells, l3A, l3C]; rfl) ?_
            refine hK44 _ ?_
            refine AWP.ret ?_
            exact hK _ _ _ _ trivial ((Fin.mk (by simp [aRes, aResL, aRes1, idf_Wd', idf_numS, cells_numS, numS_fold, Sp.av, Sp.cells, Sg.av, Sg.cells, l3A, l3C]; rfl)).cast (by rw [hl4]; rfl))
        · refine AWP.region (AOPS.all (by simp (disch := first|omega|(simp only[ln];omega)) [idf_Wd', idf_numS, cells_numS, numS_fold, Sp.av, Sp.cells, Sg.av, Sg.cells, l3A, l3C, q3]; rfl) ?_)
          refine hK24 _ ?_
          refine cond_ok _ (by simp (disch := first|omega|(simp only[ln];omega)); rfl) (fun h95 => ?_) (fun h95 => ?_)
          · try simp only [decide_eq_true_eq, decide_eq_false_iff_not] at h95
            have hw : noWay u v = true := by rw [hnw, q3]; rfl
            refine AWP.seqk fun K45 hK45 => ?_
            refine AWP.region (AOPS.all (by simp (disch := first|omega|(simp only[ln];omega)) [idf_Wd', idf_numS, cells_numS, numS_fold, Sp.av, Sp.cells, Sg.av, Sg.cells, l3A, l3C]; rfl) ?_)
            refine hK45 _ ?_
            refine AWP.ret ?_
            exact hK _ _ _ _ trivial ((Fin.mk (by simp [aRes, aResL, aRes1, idf_Wd', idf_numS, cells_numS, numS_fold, Sp.av, Sp.cells, Sg.av, Sg.cells, l3A, l3C]; rfl)).cast (by unfold l4V; rw [hA, hB, if_neg h0, if_pos hw]; try rfl))
          · simp at h95
  · have c1 := sg1 hA0
    have h0 : ¬ (A = 0 ∧ B = 0) := fun h => hA0 h.1
    refine AWP.region (AOPS.all (by simp (disch := first|omega|(simp only[ln];omega)) [idf_Wd', idf_numS, cells_numS, numS_fold, Sp.av, Sp.cells, Sg.av, Sg.cells, l3A, l3C, c1]; rfl) ?_)
    refine hK7 _ ?_
    refine cond_ok _ (by simp (disch := first|omega|(simp only[ln];omega)); rfl) (fun h54 => ?_) (fun h54 => ?_)
    · simp at h54
    · try simp only [decide_eq_true_eq, decide_eq_false_iff_not] at h54
      refine AWP.skip ?_
      refine hK6 _ ?_
      refine AWP.seqk fun K46 hK46 => ?_
      refine AWP.seqk fun K47 hK47 => ?_
      cases q3 : decide (0 < sg3 A * sg3 B)
      · refine AWP.region (AOPS.all (by simp (disch := first|omega|(simp only[ln];omega)) [idf_Wd', idf_numS, cells_numS, numS_fold, Sp.av, Sp.cells, Sg.av, Sg.cells, l3A, l3C, q3]; rfl) ?_)
        refine hK47 _ ?_
        refine cond_ok (decide (0 < sg3 C * sg3 D)) (by simp (disch := first|omega|(simp only[ln];omega))) (fun h95 => ?_) (fun h95 => ?_)
        · try simp only [decide_eq_true_eq, decide_eq_false_iff_not] at h95
          have hw : noWay u v = true := by rw [hnw, q3]; simp [h95]
          refine AWP.seqk fun K48 hK48 => ?_
          refine AWP.region (AOPS.all (by simp (disch := first|omega|(simp only[ln];omega)) [idf_Wd', idf_numS, cells_numS, numS_fold, Sp.av, Sp.cells, Sg.av, Sg.cells, l3A, l3C]; rfl) ?_)
          refine hK48 _ ?_
          refine AWP.ret ?_
          exact hK _ _ _ _ trivial ((Fin.mk (by simp [aRes, aResL, aRes1, idf_Wd', idf_numS, cells_numS, numS_fold, Sp.av, Sp.cells, Sg.av, Sg.cells, l3A, l3C]; rfl)).cast (by unfold l4V; rw [hA, hB, if_neg h0, if_pos hw]; try rfl))
        · try simp only [decide_eq_true_eq, decide_eq_false_iff_not] at h95
          have hw : ¬ noWay u v = true := by rw [hnw, q3]; simp; omega
          have m1 := mul_b (u := u.b.x - u.a.x) (v := v.b.y - v.a.y) (m := 2000000) (n := 2000000) (by omega) (by omega) (by omega) (by omega) (by omega)
          have m2 := mul_b (u := u.b.y - u.a.y) (v := v.b.x - v.a.x) (m := 2000000) (n := 2000000) (by omega) (by omega) (by omega) (by omega) (by omega)
          have m3 := mul_b (u := v.a.x - u.a.x) (v := v.b.y - v.a.y) (m := 2000000) (n := 2000000) (by omega) (by omega) (by omega) (by omega) (by omega)
          have m4 := mul_b (u := v.a.y - u.a.y) (v := v.b.x - v.a.x) (m := 2000000) (n := 2000000) (by omega) (by omega) (by omega) (by omega) (by omega)
          have hdn := den_ne gu gv (by rw [hA, hB]; exact h0) hw
          have eD : denS u v = (u.b.x - u.a.x) * (v.b.y - v.a.y) - (u.b.y - u.a.y) * (v.b.x - v.a.x) := rfl
          have eN : numT u v = (v.a.x - u.a.x) * (v.b.y - v.a.y) - (v.a.y - u.a.y) * (v.b.x - v.a.x) := rfl
          have b1 : Bg 1 u.a.x := Bg.i64 (by omega) (by omega)
          have b2 : Bg 1 u.a.y := Bg.i64 (by omega) (by omega)
          have b3 : Bg 1 (denS u v) := Bg.i64 (by rw [eD]; omega) (by rw [eD]; omega)
          have b4 : Bg 1 (numT u v) := Bg.i64 (by rw [eN]; omega) (by rw [eN]; omega)
          have b5 : Bg 1 (u.b.x - u.a.x) := Bg.i64 (by omega) (by omega)
          have b6 : Bg 1 (u.b.y - u.a.y) := Bg.i64 (by omega) (by omega)
          have i1 := l1Int_fc (denS u v) (by rw [eD]; omega) (by rw [eD]; omega)
          have i2 := l1Int_fc (numT u v) (by rw [eN]; omega) (by rw [eN]; omega)
          rw [eD] at i1
          rw [eN] at i2
          have x1 := l1Mul_fc b1 b3 (by omega) (by omega)
          have x2 := l1Mul_fc b5 b4 (by omega) (by omega)
          have x3 := l1Add_fc (b1.mul b3) (b5.mul b4) (by omega) (by omega)
          have y1 := l1Mul_fc b2 b3 (by omega) (by omega)
          have y2 := l1Mul_fc b6 b4 (by omega) (by omega)
          have y3 := l1Add_fc (b2.mul b3) (b6.mul b4) (by omega) (by omega)
          have l3 := l3Make_fc (j := 3) (wayX2 u v) (wayY2 u v) (denS u v) hdn (((b1.mul b3).add (b5.mul b4)).le (by omega)) (((b2.mul b3).add (b6.mul b4)).le (by omega)) (b3.le (by omega)) (by omega) (by omega)
          unfold wayX2 wayY2 at l3
          rw [eD] at x1 x3 y1 y3
          rw [eN] at x2 x3 y2 y3
          simp only [eD, eN] at l3
          have eV : l3A (nX u v) (nY u v) (nW u v) = l3A (nX u v) (nY u v) (nW u v) := rfl
          unfold nX nY nW wayX2 wayY2 at eV
          simp only [eD, eN] at eV
          have hl4 : l4V u v = .tup [.int .i64 1, l3A (nX u v) (nY u v) (nW u v), z3] := by unfold l4V; rw [hA, hB, if_neg h0, if_neg hw]
          unfold nX nY nW wayX2 wayY2 at hl4
          simp only [eD, eN] at hl4
          clear b3 b4 eV
          refine AWP.skip ?_
          refine hK46 _ ?_
          refine AWP.seqk fun K49 hK49 => ?_
          refine AWP.region (AOPS.all (by simp (disch := first|omega|(simp only[ln];omega)) [idf_Wd', idf_numS, cells_numS, numS_fold, Sp.av, Sp.cells, Sg.av, Sg.cells, l3A, l3C]; rfl) ?_)
          refine hK49 _ ?_
          refine AWP.seqk fun K50 hK50 => ?_
          refine AWP.region (AOPS.all (by simp (disch := first|omega|(simp only[ln];omega)) [idf_Wd', idf_numS, cells_numS, numS_fold, Sp.av, Sp.cells, Sg.av, Sg.cells, l3A, l3C]; rfl) ?_)
          refine hK50 _ ?_
          refine AWP.seqk fun K51 hK51 => ?_
          refine AWP.region (AOPS.all (by simp (disch := first|omega|(simp only[ln];omega)) [idf_Wd', idf_numS, cells_numS, numS_fold, Sp.av, Sp.cells, Sg.av, Sg.cells, l3A, l3C]; rfl) ?_)
          refine hK51 _ ?_
          refine AWP.seqk fun K52 hK52 => ?_
          refine AWP.region (AOPS.all (by simp (disch := first|omega|(simp only[ln];omega)) [idf_Wd', idf_numS, cells_numS, numS_fold, Sp.av, Sp.cells, Sg.av, Sg.cells, l3A, l3C]; rfl) ?_)
          refine hK52 _ ?_
          refine AWP.seqk fun K53 hK53 => ?_
          refine AWP.region ?_
          refine AOPS.runk 7 (by simp (disch := first|omega|(simp only[ln];omega)) [List.take_succ_cons, List.take_zero, idf_Wd', idf_numS, cells_numS, numS_fold, Sp.av, Sp.cells, Sg.av, Sg.cells, l3A, l3C]; rfl) ?_
          simp only [List.drop_succ_cons, List.drop_zero]
          refine AOPS.fcall (i1) rfl rfl rfl hb89 (by simp (disch := first|omega|(simp only[ln];omega)) [idf_Wd', idf_numS, cells_numS, numS_fold, Sp.av, Sp.cells, Sg.av, Sg.cells, l3A, l3C]) (by simp (disch := first|omega|(simp only[ln];omega))) (by simp) ?_
          simp only [puts_some, updo]
          refine AOPS.all (by simp (disch := first|omega|(simp only[ln];omega)) [idf_Wd', idf_numS, cells_numS, numS_fold, Sp.av, Sp.cells, Sg.av, Sg.cells, l3A, l3C]; rfl) ?_
          refine hK53 _ ?_
          refine AWP.seqk fun K54 hK54 => ?_
          refine AWP.region ?_
          refine AOPS.runk 19 (by simp (disch := first|omega|(simp only[ln];omega)) [List.take_succ_cons, List.take_zero, idf_Wd', idf_numS, cells_numS, numS_fold, Sp.av, Sp.cells, Sg.av, Sg.cells, l3A, l3C]; rfl) ?_
          simp only [List.drop_succ_cons, List.drop_zero]
          refine AOPS.fcall (i2) rfl rfl rfl hb89 (by simp (disch := first|omega|(simp only[ln];omega)) [idf_Wd', idf_numS, cells_numS, numS_fold, Sp.av, Sp.cells, Sg.av, Sg.cells, l3A, l3C]) (by simp (disch := first|omega|(simp only[ln];omega))) (by simp) ?_
          simp only [puts_some, updo]
          refine AOPS.all (by simp (disch := first|omega|(simp only[ln];omega)) [idf_Wd', idf_numS, cells_numS, numS_fold, Sp.av, Sp.cells, Sg.av, Sg.cells, l3A, l3C]; rfl) ?_
          refine hK54 _ ?_
          refine AWP.seqk fun K55 hK55 => ?_
          refine AWP.draw 12 Try.checked.mixed (by kernel_rfl) (by simp) ?_
          simp only [List.take_succ_cons, List.take_zero, List.drop_succ_cons, List.drop_zero]
          refine DP.runFk 3 (by simp (disch := first|omega|(simp only[ln];omega)) [runDf.eq_def, runF1, runF2, stepF.eq_def, updo.eq_def, hupo.eq_def, opSto1.eq_def, List.take_succ_cons, List.take_zero, idf_Wd', idf_numS, cells_numS, numS_fold, Sp.av, Sp.cells, Sg.av, Sg.cells, l3A, l3C]; rfl) fun fs56 hfs56 => ?_
          replace hfs56 : fs56.length = 3 := hfs56.trans rfl
          simp only [List.drop_succ_cons, List.drop_zero]
          refine DP.fcall (l1Int_fc u.a.x (by omega) (by omega)) rfl rfl rfl hb89 (by simp (disch := first|omega|(simp only[ln];omega)) [idf_Wd', idf_numS, cells_numS, numS_fold, Sp.av, Sp.cells, Sg.av, Sg.cells, l3A, l3C]) (by simp (disch := first|omega|(simp only[ln];omega))) (by simp) ?_
          simp only [updo]
          refine DP.runFk 1 (by simp (disch := first|omega|(simp only[ln];omega)) [runDf.eq_def, runF1, runF2, stepF.eq_def, updo.eq_def, hupo.eq_def, opSto1.eq_def, List.take_succ_cons, List.take_zero, idf_Wd', idf_numS, cells_numS, numS_fold, Sp.av, Sp.cells, Sg.av, Sg.cells, l3A, l3C]; rfl) fun fs57 hfs57 => ?_
          replace hfs57 : fs57.length = 1 := hfs57.trans rfl
          simp only [List.drop_succ_cons, List.drop_zero]
          refine DP.fcall (x1) rfl rfl rfl hb102 (by simp (disch := first|omega|(simp only[ln];omega)) [idf_Wd', idf_numS, cells_numS, numS_fold, Sp.av, Sp.cells, Sg.av, Sg.cells, l3A, l3C]) (by simp (disch := first|omega|(simp only[ln];omega))) (by simp) ?_
          simp only [updo]
          refine DP.runFk 1 (by simp (disch := first|omega|(simp only[ln];omega)) [runDf.eq_def, runF1, runF2, stepF.eq_def, updo.eq_def, hupo.eq_def, opSto1.eq_def, List.take_succ_cons, List.take_zero, idf_Wd', idf_numS, cells_numS, numS_fold, Sp.av, Sp.cells, Sg.av, Sg.cells, l3A, l3C]; rfl) fun fs58 hfs58 => ?_
          replace hfs58 : fs58.length = 1 := hfs58.trans rfl
          simp only [List.drop_succ_cons, List.drop_zero]
          refine DP.fcall (l1Int_fc (u.b.x - u.a.x) (by omega) (by omega)) rfl rfl rfl hb89 (by simp (disch := first|omega|(simp only[ln];omega)) [idf_Wd', idf_numS, cells_numS, numS_fold, Sp.av, Sp.cells, Sg.av, Sg.cells, l3A, l3C]) (by simp (disch := first|omega|(simp only[ln];omega))) (by simp) ?_
          simp only [updo]
          refine DP.runFk 1 (by simp (disch := first|omega|(simp only[ln];omega)) [runDf.eq_def, runF1, runF2, stepF.eq_def, updo.eq_def, hupo.eq_def, opSto1.eq_def, List.take_succ_cons, List.take_zero, idf_Wd', idf_numS, cells_numS, numS_fold, Sp.av, Sp.cells, Sg.av, Sg.cells, l3A, l3C]; rfl) fun fs59 hfs59 => ?_
          replace hfs59 : fs59.length = 1 := hfs59.trans rfl
          simp only [List.drop_succ_cons, List.drop_zero]
          refine DP.fcall (x2) rfl rfl rfl hb102 (by simp (disch := first|omega|(simp only[ln];omega)) [idf_Wd', idf_numS, cells_numS, numS_fold, Sp.av, Sp.cells, Sg.av, Sg.cells, l3A, l3C]) (by simp (disch := first|omega|(simp only[ln];omega))) (by simp) ?_
          simp only [updo]
          refine DP.fcall (x3) rfl rfl rfl hb101 (by simp (disch := first|omega|(simp only[ln];omega)) [idf_Wd', idf_numS, cells_numS, numS_fold, Sp.av, Sp.cells, Sg.av, Sg.cells, l3A, l3C]) (by simp (disch := first|omega|(simp only[ln];omega))) (by simp) ?_
          simp only [updo]
          refine DP.runFk 1 (by simp (disch := first|omega|(simp only[ln];omega)) [runDf.eq_def, runF1, runF2, stepF.eq_def, updo.eq_def, hupo.eq_def, opSto1.eq_def, List.take_succ_cons, List.take_zero, idf_Wd', idf_numS, cells_numS, numS_fold, Sp.av, Sp.cells, Sg.av, Sg.cells, l3A, l3C]; rfl) fun fs60 hfs60 => ?_
          replace hfs60 : fs60.length = 1 := hfs60.trans rfl
          simp only [List.drop_succ_cons, List.drop_zero]
          refine DQ.runF (m := 12) (by simp only [List.length_append, List.length_cons, List.length_nil, hfs56, hfs57, hfs58, hfs59, hfs60]; omega) _ _ _ (by kernel_rfl) rfl (by simp (disch := first|omega|(simp only[ln];omega)) [runDf.eq_def, runF1, runF2, stepF.eq_def, updo.eq_def, hupo.eq_def, opSto1.eq_def, idf_Wd', idf_numS, cells_numS, numS_fold, Sp.av, Sp.cells, Sg.av, Sg.cells, l3A, l3C]; rfl) ?_
          refine hK55 _ ?_
          refine AWP.seqk fun K61 hK61 => ?_
          refine AWP.draw 12 Try.checked.mixed (by kernel_rfl) (by simp) ?_
          simp only [List.take_succ_cons, List.take_zero, List.drop_succ_cons, List.drop_zero]
          refine DP.runFk 3 (by simp (disch := first|omega|(simp only[ln];omega)) [runDf.eq_def, runF1, runF2, stepF.eq_def, updo.eq_def, hupo.eq_def, opSto1.eq_def, List.take_succ_cons, List.take_zero, idf_Wd', idf_numS, cells_numS, numS_fold, Sp.av, Sp.cells, Sg.av, Sg.cells, l3A, l3C]; rfl) fun fs62 hfs62 => ?_
          replace hfs62 : fs62.length = 3 := hfs62.trans rfl
          simp only [List.drop_succ_cons, List.drop_zero]
          refine DP.fcall (l1Int_fc u.a.y (by omega) (by omega)) rfl rfl rfl hb89 (by simp (disch := first|omega|(simp only[ln];omega)) [idf_Wd', idf_numS, cells_numS, numS_fold, Sp.av, Sp.cells, Sg.av, Sg.cells, l3A, l3C]) (by simp (disch := first|omega|(simp only[ln];omega))) (by simp) ?_
          simp only [updo]
          refine DP.runFk 1 (by simp (disch := first|omega|(simp only[ln];omega)) [runDf.eq_def, runF1, runF2, stepF.eq_def, updo.eq_def, hupo.eq_def, opSto1.eq_def, List.take_succ_cons, List.take_zero, idf_Wd', idf_numS, cells_numS, numS_fold, Sp.av, Sp.cells, Sg.av, Sg.cells, l3A, l3C]; rfl) fun fs63 hfs63 => ?_
          replace hfs63 : fs63.length = 1 := hfs63.trans rfl
          simp only [List.drop_succ_cons, List.drop_zero]
          refine DP.fcall (y1) rfl rfl rfl hb102 (by simp (disch := first|omega|(simp only[ln];omega)) [idf_Wd', idf_numS, cells_numS, numS_fold, Sp.av, Sp.cells, Sg.av, Sg.cells, l3A, l3C]) (by simp (disch := first|omega|(simp only[ln];omega))) (by simp) ?_
          simp only [updo]
          refine DP.runFk 1 (by simp (disch := first|omega|(simp only[ln];omega)) [runDf.eq_def, runF1, runF2, stepF.eq_def, updo.eq_def, hupo.eq_def, opSto1.eq_def, List.take_succ_cons, List.take_zero, idf_Wd', idf_numS, cells_numS, numS_fold, Sp.av, Sp.cells, Sg.av, Sg.cells, l3A, l3C]; rfl) fun fs64 hfs64 => ?_
          replace hfs64 : fs64.length = 1 := hfs64.trans rfl
          simp only [List.drop_succ_cons, List.drop_zero]
          refine DP.fcall (l1Int_fc (u.b.y - u.a.y) (by omega) (by omega)) rfl rfl rfl hb89 (by simp (disch := first|omega|(simp only[ln];omega)) [idf_Wd', idf_numS, cells_numS, numS_fold, Sp.av, Sp.cells, Sg.av, Sg.cells, l3A, l3C]) (by simp (disch := first|omega|(simp only[ln];omega))) (by simp) ?_
          simp only [updo]
          refine DP.runFk 1 (by simp (disch := first|omega|(simp only[ln];omega)) [runDf.eq_def, runF1, runF2, stepF.eq_def, updo.eq_def, hupo.eq_def, opSto1.eq_def, List.take_succ_cons, List.take_zero, idf_Wd', idf_numS, cells_numS, numS_fold, Sp.av, Sp.cells, Sg.av, Sg.cells, l3A, l3C]; rfl) fun fs65 hfs65 => ?_
          replace hfs65 : fs65.length = 1 := hfs65.trans rfl
          simp only [List.drop_succ_cons, List.drop_zero]
          refine DP.fcall (y2) rfl rfl rfl hb102 (by simp (disch := first|omega|(simp only[ln];omega)) [idf_Wd', idf_numS, cells_numS, numS_fold, Sp.av, Sp.cells, Sg.av, Sg.cells, l3A, l3C]) (by simp (disch := first|omega|(simp only[ln];omega))) (by simp) ?_
          simp only [updo]
          refine DP.fcall (y3) rfl rfl rfl hb101 (by simp (disch := first|omega|(simp only[ln];omega)) [idf_Wd', idf_numS, cells_numS, numS_fold, Sp.av, Sp.cells, Sg.av, Sg.cells, l3A, l3C]) (by simp (disch := first|omega|(simp only[ln];omega))) (by simp) ?_
          simp only [updo]
          refine DP.runFk 1 (by simp (disch := first|omega|(simp only[ln];omega)) [runDf.eq_def, runF1, runF2, stepF.eq_def, updo.eq_def, hupo.eq_def, opSto1.eq_def, List.take_succ_cons, List.take_zero, idf_Wd', idf_numS, cells_numS, numS_fold, Sp.av, Sp.cells, Sg.av, Sg.cells, l3A, l3C]; rfl) fun fs66 hfs66 => ?_
          replace hfs66 : fs66.length = 1 := hfs66.trans rfl
          simp only [List.drop_succ_cons, List.drop_zero]
          refine DQ.runF (m := 12) (by simp only [List.length_append, List.length_cons, List.length_nil, hfs62, hfs63, hfs64, hfs65, hfs66]; omega) _ _ _ (by kernel_rfl) rfl (by simp (disch := first|omega|(simp only[ln];omega)) [runDf.eq_def, runF1, runF2, stepF.eq_def, updo.eq_def, hupo.eq_def, opSto1.eq_def, idf_Wd', idf_numS, cells_numS, numS_fold, Sp.av, Sp.cells, Sg.av, Sg.cells, l3A, l3C]; rfl) ?_
          refine hK61 _ ?_
          refine AWP.seqk fun K67 hK67 => ?_
          refine AWP.region ?_
          refine AOPS.runk 3 (by simp (disch := first|omega|(simp only[ln];omega)) [List.take_succ_cons, List.take_zero, idf_Wd', idf_numS, cells_numS, numS_fold, Sp.av, Sp.cells, Sg.av, Sg.cells, l3A, l3C]; rfl) ?_
          simp only [List.drop_succ_cons, List.drop_zero]
          refine AOPS.fcall (l3) rfl rfl rfl hb100 (by simp (disch := first|omega|(simp only[ln];omega)) [idf_Wd', idf_numS, cells_numS, numS_fold, Sp.av, Sp.cells, Sg.av, Sg.cells, l3A, l3C]) (by simp (disch := first|omega|(simp only[ln];omega))) (by simp) ?_
          simp only [puts_some, updo]
          refine AOPS.all (by simp (disch := first|omega|(simp only[ln];omega)) [idf_Wd', idf_numS, cells_numS, numS_fold, Sp.av, Sp.cells, Sg.av, Sg.cells, l3A, l3C]; rfl) ?_
          refine hK67 _ ?_
          refine AWP.ret ?_
          exact hK _ _ _ _ trivial ((Fin.mk (by simp [aRes, aResL, aRes1, idf_Wd', idf_numS, cells_numS, numS_fold, Sp.av, Sp.cells, Sg.av, Sg.cells, l3A, l3C]; rfl)).cast (by rw [hl4]; rfl))
      · refine AWP.region (AOPS.all (by simp (disch := first|omega|(simp only[ln];omega)) [idf_Wd', idf_numS, cells_numS, numS_fold, Sp.av, Sp.cells, Sg.av, Sg.cells, l3A, l3C, q3]; rfl) ?_)
        refine hK47 _ ?_
        refine cond_ok _ (by simp (disch := first|omega|(simp only[ln];omega)); rfl) (fun h95 => ?_) (fun h95 => ?_)
        · try simp only [decide_eq_true_eq, decide_eq_false_iff_not] at h95
          have hw : noWay u v = true := by rw [hnw, q3]; rfl
          refine AWP.seqk fun K68 hK68 => ?_
          refine AWP.region (AOPS.all (by simp (disch := first|omega|(simp only[ln];omega)) [idf_Wd', idf_numS, cells_numS, numS_fold, Sp.av, Sp.cells, Sg.av, Sg.cells, l3A, l3C]; rfl) ?_)
          refine hK68 _ ?_
          refine AWP.ret ?_
          exact hK _ _ _ _ trivial ((Fin.mk (by simp [aRes, aResL, aRes1, idf_Wd', idf_numS, cells_numS, numS_fold, Sp.av, Sp.cells, Sg.av, Sg.cells, l3A, l3C]; rfl)).cast (by unfold l4V; rw [hA, hB, if_neg h0, if_pos hw]; try rfl))
        · simp at h95

end Go.Proofs.Ytdcggmbnjonemaa

/- Walks: FnExactMeet, walked. -/
namespace Go.Proofs.Ytdcggmbnjonemaa
open Go Go.RowKit
set_option linter.unusedSimpArgs false
set_option linter.unusedVariables false
set_option maxRecDepth 100000
attribute [local simp] List.getElem?_cons_zero List.getElem?_cons_succ List.getElem?_toArray runOps stepOp.eq_def agd.eq_def dstOk.eq_def opVal.eq_def opNew.eq_def opSto.eq_def ev.eq_def cv.eq_def puts_some puts_none upd_ap lst.eq_def aBin.eq_def aUn.eq_def aBi_str aBi_isl aBi_osl aBi_nsl aBi_max aBi_min aBi_max3 aConv.eq_def aLd.eq_def aLoad.eq_def aField.eq_def aFld.eq_def aIdx_isl aIdx_osl aSlc_isl aSlc_osl aSlc_str aSlc_nsl bnd.eq_def evs_nil evs_cons aBuild.eq_def aFill splice.eq_def cells_agg cells_int cells_bool cells_str cells_nil cells_nsl cells_isl cells_osl cells_ptr cells_ip cells_fn cells_Wd one_int one_bool one_str one_nil one_nsl one_isl one_osl one_ptr one_ip one_fn one_Wd aSets hupd_eq hupd_ne wrap_i64s wrap_u64s wrap_u32s wrap_u8s wd_getD wd_set wd_len wd_replicate wd_one wd_fold fz_osl hupd_same aSix.eq_def aEqS.eq_def aEqB_bool aEqB_nsl aEqB_nil
attribute [local simp] szT2 byT2 agT2 unT2 zoT2 szT33 byT33 agT33 flT33 fdT33_0 fdT33_1 fdT33_2 fdT33_3 zoT33 szT35 byT35 agT35 flT35 fdT35_0 fdT35_1 fdT35_2 zoT35 szT55 byT55 agT55 flT55 fdT55_0 fdT55_1 zoT55 szT57 byT57 agT57 flT57 fdT57_0 fdT57_1 zoT57 szT60 byT60 agT60 flT60 fdT60_0 fdT60_1 zoT60 szT62 byT62 agT62 flT62 fdT62_0 fdT62_1 zoT62 szT92 byT92 agT92 flT92 fdT92_0 fdT92_1 zoT92 szT94 byT94 agT94 flT94 fdT94_0 fdT94_1 fdT94_2 zoT94

theorem pt3_fc {j : Nat} {x y w : Int} (bx : Bg j x) (bY : Bg j y) (bw : Bg j w) (hj : j ≤ 68719476736) : FC Try.prog 73 [l3A x y w] (.tup [.agg [.int .u64 (pt3 x y w).x.a, .int .u64 (pt3 x y w).x.b, .int .u64 (pt3 x y w).x.c, .int .u64 (pt3 x y w).x.d, .int .u64 (pt3 x y w).y.a, .int .u64 (pt3 x y w).y.b, .int .u64 (pt3 x y w).y.c, .int .u64 (pt3 x y w).y.d, .int .u64 (pt3 x y w).w.a, .int .u64 (pt3 x y w).w.b, .int .u64 (pt3 x y w).w.c, .int .u64 (pt3 x y w).w.d], .bool (sm x y w)]) := l3Point_fc x y w bx bY bw hj
theorem mtS_lin {u v : Sg} (gu : u.good = true) (gv : v.good = true) (h0 : crs u.a u.b v.a = 0 ∧ crs u.a u.b v.b = 0) : mtF meetS u v = linP u v := by unfold mtF meetS; rw [gu, gv, if_pos h0]; rfl
theorem mtS_no {u v : Sg} (gu : u.good = true) (gv : v.good = true) (h0 : ¬ (crs u.a u.b v.a = 0 ∧ crs u.a u.b v.b = 0)) (hw : noWay u v = true) : mtF meetS u v = (0, pt0, pt0) := by unfold mtF meetS; rw [gu, gv, if_neg h0, if_pos hw]; rfl
theorem mtS_way {u v : Sg} (gu : u.good = true) (gv : v.good = true) (h0 : ¬ (crs u.a u.b v.a = 0 ∧ crs u.a u.b v.b = 0)) (hw : ¬ noWay u v = true) : mtF meetS u v = (1, pt3 (nX u v) (nY u v) (nW u v), pt0) := by
  have e : mkP (wayX2 u v) (wayY2 u v) (denS u v) = pt3 (nX u v) (nY u v) (nW u v) := by unfold mkP; rw [if_neg (den_ne gu gv h0 hw)]; rfl
  unfold mtF meetS; rw [gu, gv, if_neg h0, if_neg hw, e]; rfl
theorem way_bg {u v : Sg} (gu : u.good = true) (gv : v.good = true) (h0 : ¬ (crs u.a u.b v.a = 0 ∧ crs u.a u.b v.b = 0)) (hw : ¬ noWay u v = true) : Bg 3 (nX u v) ∧ Bg 3 (nY u v) ∧ Bg 3 (nW u v) := by
  have pua := Sp.b (good_a gu)
  have pub := Sp.b (good_b gu)
  have pva := Sp.b (good_a gv)
  have pvb := Sp.b (good_b gv)
  have m1 := mul_b (u := u.b.x - u.a.x) (v := v.b.y - v.a.y) (m := 2000000) (n := 2000000) (by omega) (by omega) (by omega) (by omega) (by omega)
  have m2 := mul_b (u := u.b.y - u.a.y) (v := v.b.x - v.a.x) (m := 2000000) (n := 2000000) (by omega) (by omega) (by omega) (by omega) (by omega)
  have m3 := mul_b (u := v.a.x - u.a.x) (v := v.b.y - v.a.y) (m := 2000000) (n := 2000000) (by omega) (by omega) (by omega) (by omega) (by omega)
  have m4 := mul_b (u := v.a.y - u.a.y) (v := v.b.x - v.a.x) (m := 2000000) (n := 2000000) (by omega) (by omega) (by omega) (by omega) (by omega)
  have b3 : Bg 1 (denS u v) := Bg.i64 (by unfold denS; omega) (by unfold denS; omega)
  have b4 : Bg 1 (numT u v) := Bg.i64 (by unfold numT; omega) (by unfold numT; omega)
  have hg := gcd3_pos (x := wayX2 u v) (y := wayY2 u v) (den_ne gu gv h0 hw)
  have bx : Bg 3 (wayX2 u v) := (((Bg.i64 (n := u.a.x) (by omega) (by omega)).mul b3).add ((Bg.i64 (n := u.b.x - u.a.x) (by omega) (by omega)).mul b4)).le (by omega)
  have bY : Bg 3 (wayY2 u v) := (((Bg.i64 (n := u.a.y) (by omega) (by omega)).mul b3).add ((Bg.i64 (n := u.b.y - u.a.y) (by omega) (by omega)).mul b4)).le (by omega)
  exact ⟨bx.nrm.div hg, bY.nrm.div hg, (b3.le (by omega)).nrm.div hg⟩

set_option maxHeartbeats 4000000 in
theorem meetS_fc (u v : Sg) : FC Try.prog 32 [u.av, v.av] (.tup [.int .i64 (mtF meetS u v).1, .agg [.int .u64 ((mtF meetS u v).2.1).x.a, .int .u64 ((mtF meetS u v).2.1).x.b, .int .u64 ((mtF meetS u v).2.1).x.c, .int .u64 ((mtF meetS u v).2.1).x.d, .int .u64 ((mtF meetS u v).2.1).y.a, .int .u64 ((mtF meetS u v).2.1).y.b, .int .u64 ((mtF meetS u v).2.1).y.c, .int .u64 ((mtF meetS u v).2.1).y.d, .int .u64 ((mtF meetS u v).2.1).w.a, .int .u64 ((mtF meetS u v).2.1).w.b, .int .u64 ((mtF meetS u v).2.1).w.c, .int .u64 ((mtF meetS u v).2.1).w.d], .agg [.int .u64 ((mtF meetS u v).2.2).x.a, .int .u64 ((mtF meetS u v).2.2).x.b, .int .u64 ((mtF meetS u v).2.2).x.c, .int .u64 ((mtF meetS u v).2.2).x.d, .int .u64 ((mtF meetS u v).2.2).y.a, .int .u64 ((mtF meetS u v).2.2).y.b, .int .u64 ((mtF meetS u v).2.2).y.c, .int .u64 ((mtF meetS u v).2.2).y.d, .int .u64 ((mtF meetS u v).2.2).w.a, .int .u64 ((mtF meetS u v).2.2).w.b, .int .u64 ((mtF meetS u v).2.2).w.c, .int .u64 ((mtF meetS u v).2.2).w.d]]) := by
  refine FC.body Try.func32 rfl (by simp [idfL, idf, Sp.av, Sp.cells, Sg.av, Sg.cells]) (by simp [idfL, idf, idfLL_iff, idf_Wd', idf_numS, cells_numS, numS_fold, Sp.av, Sp.cells, Sg.av, Sg.cells, l3A, l3C, z3]) 54 rfl fun nx K hK => ?_
  refine AWP.seqk fun K1 hK1 => ?_
  refine AWP.region (AOPS.all (by simp (disch := first|omega|(simp only[ln];omega)) [idf_Wd', idf_numS, cells_numS, numS_fold, Sp.av, Sp.cells, Sg.av, Sg.cells, l3A, l3C, z3]; rfl) ?_)
  refine hK1 _ ?_
  refine AWP.seqk fun K2 hK2 => ?_
  refine AWP.seqk fun K3 hK3 => ?_
  cases hga : u.good
  · refine AWP.region ?_
    refine AOPS.runk 1 (by simp (disch := first|omega|(simp only[ln];omega)) [List.take_succ_cons, List.take_zero, idf_Wd', idf_numS, cells_numS, numS_fold, Sp.av, Sp.cells, Sg.av, Sg.cells, l3A, l3C, z3, hga]; rfl) ?_
    simp only [List.drop_succ_cons, List.drop_zero]
    refine AOPS.fcall (segOkS_fc u) rfl rfl rfl hb71 (by simp (disch := first|omega|(simp only[ln];omega)) [idf_Wd', hga, idf_numS, cells_numS, numS_fold, Sp.av, Sp.cells, Sg.av, Sg.cells, l3A, l3C, z3]) (by simp (disch := first|omega|(simp only[ln];omega)) [hga]) (by simp) ?_
    simp only [puts_some, updo]
    refine AOPS.all (by simp (disch := first|omega|(simp only[ln];omega)) [idf_Wd', idf_numS, cells_numS, numS_fold, Sp.av, Sp.cells, Sg.av, Sg.cells, l3A, l3C, z3, hga]; rfl) ?_
    refine hK3 _ ?_
    refine cond_ok _ (by simp (disch := first|omega|(simp only[ln];omega)); rfl) (fun h21 => ?_) (fun h21 => ?_)
    · try simp only [decide_eq_true_eq, decide_eq_false_iff_not] at h21
      refine AWP.seqk fun K4 hK4 => ?_
      refine AWP.region (AOPS.all (by simp (disch := first|omega|(simp only[ln];omega)) [idf_Wd', idf_numS, cells_numS, numS_fold, Sp.av, Sp.cells, Sg.av, Sg.cells, l3A, l3C, z3]; rfl) ?_)
      refine hK4 _ ?_
      refine AWP.ret ?_
      exact hK _ _ _ _ trivial ((Fin.mk (by simp [aRes, aResL, aRes1, idf_Wd', idf_numS, cells_numS, numS_fold, Sp.av, Sp.cells, Sg.av, Sg.cells, l3A, l3C, z3]; rfl)).cast (by unfold mtF; rw [hga]; rfl))
    · simp at h21
  · refine AWP.region ?_
    refine AOPS.runk 1 (by simp (disch := first|omega|(simp only[ln];omega)) [List.take_succ_cons, List.take_zero, idf_Wd', idf_numS, cells_numS, numS_fold, Sp.av, Sp.cells, Sg.av, Sg.cells, l3A, l3C, z3, hga]; rfl) ?_
    simp only [List.drop_succ_cons, List.drop_zero]
    refine AOPS.fcall (segOkS_fc u) rfl rfl rfl hb71 (by simp (disch := first|omega|(simp only[ln];omega)) [idf_Wd', hga, idf_numS, cells_numS, numS_fold, Sp.av, Sp.cells, Sg.av, Sg.cells, l3A, l3C, z3]) (by simp (disch := first|omega|(simp only[ln];omega)) [hga]) (by simp) ?_
    simp only [puts_some, updo]
    refine AOPS.runk 3 (by simp (disch := first|omega|(simp only[ln];omega)) [List.take_succ_cons, List.take_zero, idf_Wd', idf_numS, cells_numS, numS_fold, Sp.av, Sp.cells, Sg.av, Sg.cells, l3A, l3C, z3, hga]; rfl) ?_
    simp only [List.drop_succ_cons, List.drop_zero]
    refine AOPS.fcall (segOkS_fc v) rfl rfl rfl hb71 (by simp (disch := first|omega|(simp only[ln];omega)) [idf_Wd', hga, idf_numS, cells_numS, numS_fold, Sp.av, Sp.cells, Sg.av, Sg.cells, l3A, l3C, z3]) (by simp (disch := first|omega|(simp only[ln];omega)) [hga]) (by simp) ?_
    simp only [puts_some, updo]
    refine AOPS.all (by simp (disch := first|omega|(simp only[ln];omega)) [idf_Wd', idf_numS, cells_numS, numS_fold, Sp.av, Sp.cells, Sg.av, Sg.cells, l3A, l3C, z3, hga]; rfl) ?_
    refine hK3 _ ?_
    refine cond_ok (!v.good) (by simp (disch := first|omega|(simp only[ln];omega))) (fun h21 => ?_) (fun h21 => ?_)
    · try simp only [decide_eq_true_eq, decide_eq_false_iff_not] at h21
      have hgb : v.good = false := by simpa using h21
      refine AWP.seqk fun K5 hK5 => ?_
      refine AWP.region (AOPS.all (by simp (disch := first|omega|(simp only[ln];omega)) [idf_Wd', idf_numS, cells_numS, numS_fold, Sp.av, Sp.cells, Sg.av, Sg.cells, l3A, l3C, z3]; rfl) ?_)
      refine hK5 _ ?_
      refine AWP.ret ?_
      exact hK _ _ _ _ trivial ((Fin.mk (by simp [aRes, aResL, aRes1, idf_Wd', idf_numS, cells_numS, numS_fold, Sp.av, Sp.cells, Sg.av, Sg.cells, l3A, l3C, z3]; rfl)).cast (by unfold mtF; rw [hga, hgb]; rfl))
    · try simp only [decide_eq_true_eq, decide_eq_false_iff_not] at h21
      have hgb : v.good = true := by simpa using h21
      have o := l4Meet_fc u v hga hgb
      unfold l4V at o
      refine AWP.skip ?_
      refine hK2 _ ?_
      refine AWP.seqk fun K6 hK6 => ?_
      by_cases h0 : crs u.a u.b v.a = 0 ∧ crs u.a u.b v.b = 0
      · rw [if_pos h0] at o
        have hM := mtS_lin hga hgb h0
        unfold linP at hM
        have pl := Sp.b (low_good hga hgb)
        have ph := Sp.b (high_good hga hgb)
        by_cases k1 : lsS (highS u v) (lowS u v) = true
        · rw [if_pos k1] at o hM
          refine AWP.region ?_
          refine AOPS.runk 2 (by simp (disch := first|omega|(simp only[ln];omega)) [List.take_succ_cons, List.take_zero, idf_Wd', idf_numS, cells_numS, numS_fold, Sp.av, Sp.cells, Sg.av, Sg.cells, l3A, l3C, z3]; rfl) ?_
          simp only [List.drop_succ_cons, List.drop_zero]
          refine AOPS.fcall (o) rfl rfl rfl hb72 (by simp (disch := first|omega|(simp only[ln];omega)) [idf_Wd', idf_numS, cells_numS, numS_fold, Sp.av, Sp.cells, Sg.av, Sg.cells, l3A, l3C, z3]) (by simp (disch := first|omega|(simp only[ln];omega))) (by simp) ?_
          simp only [puts_some, updo]
          refine AOPS.all (by simp (disch := first|omega|(simp only[ln];omega)) [idf_Wd', idf_numS, cells_numS, numS_fold, Sp.av, Sp.cells, Sg.av, Sg.cells, l3A, l3C, z3]; rfl) ?_
          refine hK6 _ ?_
          refine AWP.seqk fun K7 hK7 => ?_
          refine AWP.seqk fun K8 hK8 => ?_
          refine AWP.region (AOPS.all (by simp (disch := first|omega|(simp only[ln];omega)) [idf_Wd', idf_numS, cells_numS, numS_fold, Sp.av, Sp.cells, Sg.av, Sg.cells, l3A, l3C, z3]; rfl) ?_)
          refine hK8 _ ?_
          refine cond_ok _ (by simp (disch := first|omega|(simp only[ln];omega)); rfl) (fun h32 => ?_) (fun h32 => ?_)
          · try simp only [decide_eq_true_eq, decide_eq_false_iff_not] at h32
            refine AWP.seqk fun K9 hK9 => ?_
            refine AWP.region (AOPS.all (by simp (disch := first|omega|(simp only[ln];omega)) [idf_Wd', idf_numS, cells_numS, numS_fold, Sp.av, Sp.cells, Sg.av, Sg.cells, l3A, l3C, z3]; rfl) ?_)
            refine hK9 _ ?_
            refine AWP.ret ?_
            exact hK _ _ _ _ trivial ((Fin.mk (by simp [aRes, aResL, aRes1, idf_Wd', idf_numS, cells_numS, numS_fold, Sp.av, Sp.cells, Sg.av, Sg.cells, l3A, l3C, z3]; rfl)).cast (by rw [hM]; try rfl))
          · simp at h32
        · rw [if_neg k1] at o hM
          generalize lowS u v = lo at *
          generalize highS u v = hi at *
          by_cases k2 : lo = hi
          · rw [if_pos k2] at o hM
            refine AWP.region ?_
            refine AOPS.runk 2 (by simp (disch := first|omega|(simp only[ln];omega)) [List.take_succ_cons, List.take_zero, idf_Wd', idf_numS, cells_numS, numS_fold, Sp.av, Sp.cells, Sg.av, Sg.cells, l3A, l3C, z3]; rfl) ?_
            simp only [List.drop_succ_cons, List.drop_zero]
            refine AOPS.fcall (o) rfl rfl rfl hb72 (by simp (disch := first|omega|(simp only[ln];omega)) [idf_Wd', idf_numS, cells_numS, numS_fold, Sp.av, Sp.cells, Sg.av, Sg.cells, l3A, l3C, z3]) (by simp (disch := first|omega|(simp only[ln];omega))) (by simp) ?_
            simp only [puts_some, updo]
            refine AOPS.all (by simp (disch := first|omega|(simp only[ln];omega)) [idf_Wd', idf_numS, cells_numS, numS_fold, Sp.av, Sp.cells, Sg.av, Sg.cells, l3A, l3C, z3]; rfl) ?_
            refine hK6 _ ?_
            refine AWP.seqk fun K10 hK10 => ?_
            refine AWP.seqk fun K11 hK11 => ?_
            refine AWP.region (AOPS.all (by simp (disch := first|omega|(simp only[ln];omega)) [idf_Wd', idf_numS, cells_numS, numS_fold, Sp.av, Sp.cells, Sg.av, Sg.cells, l3A, l3C, z3]; rfl) ?_)
            refine hK11 _ ?_
            refine cond_ok _ (by simp (disch := first|omega|(simp only[ln];omega)); rfl) (fun h32 => ?_) (fun h32 => ?_)
            · simp at h32
            · try simp only [decide_eq_true_eq, decide_eq_false_iff_not] at h32
              refine AWP.skip ?_
              refine hK10 _ ?_
              refine AWP.seqk fun K12 hK12 => ?_
              refine AWP.region ?_
              refine AOPS.runk 1 (by simp (disch := first|omega|(simp only[ln];omega)) [List.take_succ_cons, List.take_zero, idf_Wd', idf_numS, cells_numS, numS_fold, Sp.av, Sp.cells, Sg.av, Sg.cells, l3A, l3C, z3]; rfl) ?_
              simp only [List.drop_succ_cons, List.drop_zero]
              refine AOPS.fcall (pt3_fc (Bg.i64 (n := lo.x) (by omega) (by omega)) (Bg.i64 (n := lo.y) (by omega) (by omega)) (Bg.i64 (n := 1) (by omega) (by omega)) (by omega)) rfl rfl rfl hb73 (by simp (disch := first|omega|(simp only[ln];omega)) [idf_Wd', idf_numS, cells_numS, numS_fold, Sp.av, Sp.cells, Sg.av, Sg.cells, l3A, l3C, z3]) (by simp (disch := first|omega|(simp only[ln];omega))) (by simp) ?_
              simp only [puts_some, updo]
              refine AOPS.all (by simp (disch := first|omega|(simp only[ln];omega)) [idf_Wd', idf_numS, cells_numS, numS_fold, Sp.av, Sp.cells, Sg.av, Sg.cells, l3A, l3C, z3]; rfl) ?_
              refine hK12 _ ?_
              refine AWP.seqk fun K13 hK13 => ?_
              refine AWP.seqk fun K14 hK14 => ?_
              refine AWP.region (AOPS.all (by simp (disch := first|omega|(simp only[ln];omega)) [idf_Wd', idf_numS, cells_numS, numS_fold, Sp.av, Sp.cells, Sg.av, Sg.cells, l3A, l3C, z3]; rfl) ?_)
              refine hK14 _ ?_
              refine cond_ok _ (by simp (disch := first|omega|(simp only[ln];omega)); rfl) (fun h42 => ?_) (fun h42 => ?_)
              · try simp only [decide_eq_true_eq, decide_eq_false_iff_not] at h42
                refine AWP.seqk fun K15 hK15 => ?_
                refine AWP.old fun hold => ?_
                refine AWP.draw 3 Try.checked.mixed (by kernel_rfl) (by simp) ?_
                simp only [List.take_succ_cons, List.take_zero, List.drop_succ_cons, List.drop_zero]
                refine DP.runFk 2 (by simp (disch := first|omega|(simp only[ln];omega)) [runDf.eq_def, runF1, runF2, stepF.eq_def, updo.eq_def, hupo.eq_def, opSto1.eq_def, List.take_succ_cons, List.take_zero, idf_Wd', idf_numS, cells_numS, numS_fold, Sp.av, Sp.cells, Sg.av, Sg.cells, l3A, l3C, z3]; rfl) fun fs16 hfs16 => ?_
                replace hfs16 : fs16.length = 2 := hfs16.trans rfl
                simp only [List.drop_succ_cons, List.drop_zero]
                refine DP.runF1q (by simp (disch := first|omega|(simp only[ln];omega)) [runDf.eq_def, runF1, runF2, stepF.eq_def, updo.eq_def, hupo.eq_def, opSto1.eq_def, idf_Wd', idf_numS, cells_numS, numS_fold, Sp.av, Sp.cells, Sg.av, Sg.cells, l3A, l3C, z3]; rfl) fun fq17 hfq17 => ?_
                simp [qids, Op.operands, topId] at hfq17
                simp only [updo]
                refine DQ.asg1 _ rfl rfl ?_
                simp only [updo]
                refine DQ.sto1 (m := 3) [2] _ (by simp (disch := first|omega|(simp only[ln];omega)) [runDf.eq_def, runF1, runF2, stepF.eq_def, updo.eq_def, hupo.eq_def, opSto1.eq_def, idf_Wd', idf_numS, cells_numS, numS_fold, Sp.av, Sp.cells, Sg.av, Sg.cells, l3A, l3C, z3]; rfl) rfl (by simp only [List.length_append, List.length_cons, List.length_nil, hfs16]; omega) (by kernel_rfl) (by intro k f hk hex; simp only [List.mem_cons, List.not_mem_nil, or_false] at hex; rcases hex with rfl <;> (simp [List.getElem?_append, hfs16] at hk; subst hk; refine ⟨?_, by first | omega | (simp; done) | (simp; omega)⟩; simp [qids, Op.operands, Call.operands, topId, numS, numI, Wd, hfq17]; try omega)) ?_
                try simp only []
                refine DQ.sto1 (m := 3) [] _ (by simp (disch := first|omega|(simp only[ln];omega)) [runDf.eq_def, runF1, runF2, stepF.eq_def, updo.eq_def, hupo.eq_def, opSto1.eq_def, idf_Wd', idf_numS, cells_numS, numS_fold, Sp.av, Sp.cells, Sg.av, Sg.cells, l3A, l3C, z3]; rfl) rfl (by simp only [List.length_append, List.length_cons, List.length_nil, hfs16]; omega) (by kernel_rfl) (by intro k f hk hex; simp only [List.not_mem_nil] at hex) ?_
                try simp only []
                refine hK15 _ ?_
                refine AWP.ret ?_
                exact hK _ _ _ _ trivial ((Fin.mk (by simp [aRes, aResL, aRes1, idf_Wd', idf_numS, cells_numS, numS_fold, Sp.av, Sp.cells, Sg.av, Sg.cells, l3A, l3C, z3]; rfl)).cast (by rw [hM]; try rfl))
              · simp at h42
          · rw [if_neg k2] at o hM
            refine AWP.region ?_
            refine AOPS.runk 2 (by simp (disch := first|omega|(simp only[ln];omega)) [List.take_succ_cons, List.take_zero, idf_Wd', idf_numS, cells_numS, numS_fold, Sp.av, Sp.cells, Sg.av, Sg.cells, l3A, l3C, z3]; rfl) ?_
            simp only [List.drop_succ_cons, List.drop_zero]
            refine AOPS.fcall (o) rfl rfl rfl hb72 (by simp (disch := first|omega|(simp only[ln];omega)) [idf_Wd', idf_numS, cells_numS, numS_fold, Sp.av, Sp.cells, Sg.av, Sg.cells, l3A, l3C, z3]) (by simp (disch := first|omega|(simp only[ln];omega))) (by simp) ?_
            simp only [puts_some, updo]
            refine AOPS.all (by simp (disch := first|omega|(simp only[ln];omega)) [idf_Wd', idf_numS, cells_numS, numS_fold, Sp.av, Sp.cells, Sg.av, Sg.cells, l3A, l3C, z3]; rfl) ?_
            refine hK6 _ ?_
            refine AWP.seqk fun K18 hK18 => ?_
            refine AWP.seqk fun K19 hK19 => ?_
            refine AWP.region (AOPS.all (by simp (disch := first|omega|(simp only[ln];omega)) [idf_Wd', idf_numS, cells_numS, numS_fold, Sp.av, Sp.cells, Sg.av, Sg.cells, l3A, l3C, z3]; rfl) ?_)
            refine hK19 _ ?_
            refine cond_ok _ (by simp (disch := first|omega|(simp only[ln];omega)); rfl) (fun h32 => ?_) (fun h32 => ?_)
            · simp at h32
            · try simp only [decide_eq_true_eq, decide_eq_false_iff_not] at h32
              refine AWP.skip ?_
              refine hK18 _ ?_
              refine AWP.seqk fun K20 hK20 => ?_
              refine AWP.region ?_
              refine AOPS.runk 1 (by simp (disch := first|omega|(simp only[ln];omega)) [List.take_succ_cons, List.take_zero, idf_Wd', idf_numS, cells_numS, numS_fold, Sp.av, Sp.cells, Sg.av, Sg.cells, l3A, l3C, z3]; rfl) ?_
              simp only [List.drop_succ_cons, List.drop_zero]
              refine AOPS.fcall (pt3_fc (Bg.i64 (n := lo.x) (by omega) (by omega)) (Bg.i64 (n := lo.y) (by omega) (by omega)) (Bg.i64 (n := 1) (by omega) (by omega)) (by omega)) rfl rfl rfl hb73 (by simp (disch := first|omega|(simp only[ln];omega)) [idf_Wd', idf_numS, cells_numS, numS_fold, Sp.av, Sp.cells, Sg.av, Sg.cells, l3A, l3C, z3]) (by simp (disch := first|omega|(simp only[ln];omega))) (by simp) ?_
              simp only [puts_some, updo]
              refine AOPS.all (by simp (disch := first|omega|(simp only[ln];omega)) [idf_Wd', idf_numS, cells_numS, numS_fold, Sp.av, Sp.cells, Sg.av, Sg.cells, l3A, l3C, z3]; rfl) ?_
              refine hK20 _ ?_
              refine AWP.seqk fun K21 hK21 => ?_
              refine AWP.seqk fun K22 hK22 => ?_
              refine AWP.region (AOPS.all (by simp (disch := first|omega|(simp only[ln];omega)) [idf_Wd', idf_numS, cells_numS, numS_fold, Sp.av, Sp.cells, Sg.av, Sg.cells, l3A, l3C, z3]; rfl) ?_)
              refine hK22 _ ?_
              refine cond_ok _ (by simp (disch := first|omega|(simp only[ln];omega)); rfl) (fun h42 => ?_) (fun h42 => ?_)
              · simp at h42
              · try simp only [decide_eq_true_eq, decide_eq_false_iff_not] at h42
                refine AWP.skip ?_
                refine hK21 _ ?_
                refine AWP.seqk fun K23 hK23 => ?_
                refine AWP.region ?_
                refine AOPS.runk 1 (by simp (disch := first|omega|(simp only[ln];omega)) [List.take_succ_cons, List.take_zero, idf_Wd', idf_numS, cells_numS, numS_fold, Sp.av, Sp.cells, Sg.av, Sg.cells, l3A, l3C, z3]; rfl) ?_
                simp only [List.drop_succ_cons, List.drop_zero]
                refine AOPS.fcall (pt3_fc (Bg.i64 (n := hi.x) (by omega) (by omega)) (Bg.i64 (n := hi.y) (by omega) (by omega)) (Bg.i64 (n := 1) (by omega) (by omega)) (by omega)) rfl rfl rfl hb73 (by simp (disch := first|omega|(simp only[ln];omega)) [idf_Wd', idf_numS, cells_numS, numS_fold, Sp.av, Sp.cells, Sg.av, Sg.cells, l3A, l3C, z3]) (by simp (disch := first|omega|(simp only[ln];omega))) (by simp) ?_
                simp only [puts_some, updo]
                refine AOPS.all (by simp (disch := first|omega|(simp only[ln];omega)) [idf_Wd', idf_numS, cells_numS, numS_fold, Sp.av, Sp.cells, Sg.av, Sg.cells, l3A, l3C, z3]; rfl) ?_
                refine hK23 _ ?_
                refine AWP.seqk fun K24 hK24 => ?_
                refine AWP.old fun hold => ?_
                refine AWP.draw 3 Try.checked.mixed (by kernel_rfl) (by simp) ?_
                simp only [List.take_succ_cons, List.take_zero, List.drop_succ_cons, List.drop_zero]
                refine DP.runFk 2 (by simp (disch := first|omega|(simp only[ln];omega)) [runDf.eq_def, runF1, runF2, stepF.eq_def, updo.eq_def, hupo.eq_def, opSto1.eq_def, List.take_succ_cons, List.take_zero, idf_Wd', idf_numS, cells_numS, numS_fold, Sp.av, Sp.cells, Sg.av, Sg.cells, l3A, l3C, z3]; rfl) fun fs25 hfs25 => ?_
                replace hfs25 : fs25.length = 2 := hfs25.trans rfl
                simp only [List.drop_succ_cons, List.drop_zero]
                refine DP.runF1q (by simp (disch := first|omega|(simp only[ln];omega)) [runDf.eq_def, runF1, runF2, stepF.eq_def, updo.eq_def, hupo.eq_def, opSto1.eq_def, idf_Wd', idf_numS, cells_numS, numS_fold, Sp.av, Sp.cells, Sg.av, Sg.cells, l3A, l3C, z3]; rfl) fun fq26 hfq26 => ?_
                simp [qids, Op.operands, topId] at hfq26
                simp only [updo]
                refine DQ.asg1 _ rfl rfl ?_
                simp only [updo]
                refine DQ.sto1 (m := 3) [2] _ (by simp (disch := first|omega|(simp only[ln];omega)) [runDf.eq_def, runF1, runF2, stepF.eq_def, updo.eq_def, hupo.eq_def, opSto1.eq_def, idf_Wd', idf_numS, cells_numS, numS_fold, Sp.av, Sp.cells, Sg.av, Sg.cells, l3A, l3C, z3]; rfl) rfl (by simp only [List.length_append, List.length_cons, List.length_nil, hfs25]; omega) (by kernel_rfl) (by intro k f hk hex; simp only [List.mem_cons, List.not_mem_nil, or_false] at hex; rcases hex with rfl <;> (simp [List.getElem?_append, hfs25] at hk; subst hk; refine ⟨?_, by first | omega | (simp; done) | (simp; omega)⟩; simp [qids, Op.operands, Call.operands, topId, numS, numI, Wd, hfq26]; try omega)) ?_
                try simp only []
                refine DQ.sto1 (m := 3) [] _ (by simp (disch := first|omega|(simp only[ln];omega)) [runDf.eq_def, runF1, runF2, stepF.eq_def, updo.eq_def, hupo.eq_def, opSto1.eq_def, idf_Wd', idf_numS, cells_numS, numS_fold, Sp.av, Sp.cells, Sg.av, Sg.cells, l3A, l3C, z3]; rfl) rfl (by simp only [List.length_append, List.length_cons, List.length_nil, hfs25]; omega) (by kernel_rfl) (by intro k f hk hex; simp only [List.not_mem_nil] at hex) ?_
                try simp only []
                refine hK24 _ ?_
                refine AWP.ret ?_
                exact hK _ _ _ _ trivial ((Fin.mk (by simp [aRes, aResL, aRes1, idf_Wd', idf_numS, cells_numS, numS_fold, Sp.av, Sp.cells, Sg.av, Sg.cells, l3A, l3C, z3]; rfl)).cast (by rw [hM]; try rfl))
      · rw [if_neg h0] at o
        by_cases hw : noWay u v = true
        · rw [if_pos hw] at o
          have hM := mtS_no hga hgb h0 hw
          refine AWP.region ?_
          refine AOPS.runk 2 (by simp (disch := first|omega|(simp only[ln];omega)) [List.take_succ_cons, List.take_zero, idf_Wd', idf_numS, cells_numS, numS_fold, Sp.av, Sp.cells, Sg.av, Sg.cells, l3A, l3C, z3]; rfl) ?_
          simp only [List.drop_succ_cons, List.drop_zero]
          refine AOPS.fcall (o) rfl rfl rfl hb72 (by simp (disch := first|omega|(simp only[ln];omega)) [idf_Wd', idf_numS, cells_numS, numS_fold, Sp.av, Sp.cells, Sg.av, Sg.cells, l3A, l3C, z3]) (by simp (disch := first|omega|(simp only[ln];omega))) (by simp) ?_
          simp only [puts_some, updo]
          refine AOPS.all (by simp (disch := first|omega|(simp only[ln];omega)) [idf_Wd', idf_numS, cells_numS, numS_fold, Sp.av, Sp.cells, Sg.av, Sg.cells, l3A, l3C, z3]; rfl) ?_
          refine hK6 _ ?_
          refine AWP.seqk fun K27 hK27 => ?_
          refine AWP.seqk fun K28 hK28 => ?_
          refine AWP.region (AOPS.all (by simp (disch := first|omega|(simp only[ln];omega)) [idf_Wd', idf_numS, cells_numS, numS_fold, Sp.av, Sp.cells, Sg.av, Sg.cells, l3A, l3C, z3]; rfl) ?_)
          refine hK28 _ ?_
          refine cond_ok _ (by simp (disch := first|omega|(simp only[ln];omega)); rfl) (fun h32 => ?_) (fun h32 => ?_)
          · try simp only [decide_eq_true_eq, decide_eq_false_iff_not] at h32
            refine AWP.seqk fun K29 hK29 => ?_
            refine AWP.region (AOPS.all (by simp (disch := first|omega|(simp only[ln];omega)) [idf_Wd', idf_numS, cells_numS, numS_fold, Sp.av, Sp.cells, Sg.av, Sg.cells, l3A, l3C, z3]; rfl) ?_)
            refine hK29 _ ?_
            refine AWP.ret ?_
            exact hK _ _ _ _ trivial ((Fin.mk (by simp [aRes, aResL, aRes1, idf_Wd', idf_numS, cells_numS, numS_fold, Sp.av, Sp.cells, Sg.av, Sg.cells, l3A, l3C, z3]; rfl)).cast (by rw [hM]; try rfl))
          · simp at h32
        · rw [if_neg hw] at o
          have hM := mtS_way hga hgb h0 hw
          obtain ⟨bX, bYY, bW⟩ := way_bg hga hgb h0 hw
          refine AWP.region ?_
          refine AOPS.runk 2 (by simp (disch := first|omega|(simp only[ln];omega)) [List.take_succ_cons, List.take_zero, idf_Wd', idf_numS, cells_numS, numS_fold, Sp.av, Sp.cells, Sg.av, Sg.cells, l3A, l3C, z3]; rfl) ?_
          simp only [List.drop_succ_cons, List.drop_zero]
          refine AOPS.fcall (o) rfl rfl rfl hb72 (by simp (disch := first|omega|(simp only[ln];omega)) [idf_Wd', idf_numS, cells_numS, numS_fold, Sp.av, Sp.cells, Sg.av, Sg.cells, l3A, l3C, z3]) (by simp (disch := first|omega|(simp only[ln];omega))) (by simp) ?_
          simp only [puts_some, updo]
          refine AOPS.all (by simp (disch := first|omega|(simp only[ln];omega)) [idf_Wd', idf_numS, cells_numS, numS_fold, Sp.av, Sp.cells, Sg.av, Sg.cells, l3A, l3C, z3]; rfl) ?_
          refine hK6 _ ?_
          refine AWP.seqk fun K30 hK30 => ?_
          refine AWP.seqk fun K31 hK31 => ?_
          refine AWP.region (AOPS.all (by simp (disch := first|omega|(simp only[ln];omega)) [idf_Wd', idf_numS, cells_numS, numS_fold, Sp.av, Sp.cells, Sg.av, Sg.cells, l3A, l3C, z3]; rfl) ?_)
          refine hK31 _ ?_
          refine cond_ok _ (by simp (disch := first|omega|(simp only[ln];omega)); rfl) (fun h32 => ?_) (fun h32 => ?_)
          · simp at h32
          · try simp only [decide_eq_true_eq, decide_eq_false_iff_not] at h32
            refine AWP.skip ?_
            refine hK30 _ ?_
            refine AWP.seqk fun K32 hK32 => ?_
            refine AWP.region ?_
            refine AOPS.runk 1 (by simp (disch := first|omega|(simp only[ln];omega)) [List.take_succ_cons, List.take_zero, idf_Wd', idf_numS, cells_numS, numS_fold, Sp.av, Sp.cells, Sg.av, Sg.cells, l3A, l3C, z3]; rfl) ?_
            simp only [List.drop_succ_cons, List.drop_zero]
            refine AOPS.fcall (pt3_fc bX bYY bW (by omega)) rfl rfl rfl hb73 (by simp (disch := first|omega|(simp only[ln];omega)) [idf_Wd', idf_numS, cells_numS, numS_fold, Sp.av, Sp.cells, Sg.av, Sg.cells, l3A, l3C, z3]) (by simp (disch := first|omega|(simp only[ln];omega))) (by simp) ?_
            simp only [puts_some, updo]
            refine AOPS.all (by simp (disch := first|omega|(simp only[ln];omega)) [idf_Wd', idf_numS, cells_numS, numS_fold, Sp.av, Sp.cells, Sg.av, Sg.cells, l3A, l3C, z3]; rfl) ?_
            refine hK32 _ ?_
            refine AWP.seqk fun K33 hK33 => ?_
            refine AWP.seqk fun K34 hK34 => ?_
            refine AWP.region (AOPS.all (by simp (disch := first|omega|(simp only[ln];omega)) [idf_Wd', idf_numS, cells_numS, numS_fold, Sp.av, Sp.cells, Sg.av, Sg.cells, l3A, l3C, z3]; rfl) ?_)
            refine hK34 _ ?_
            refine cond_ok _ (by simp (disch := first|omega|(simp only[ln];omega)); rfl) (fun h42 => ?_) (fun h42 => ?_)
            · try simp only [decide_eq_true_eq, decide_eq_false_iff_not] at h42
              refine AWP.seqk fun K35 hK35 => ?_
              refine AWP.old fun hold => ?_
              refine AWP.draw 3 Try.checked.mixed (by kernel_rfl) (by simp) ?_
              simp only [List.take_succ_cons, List.take_zero, List.drop_succ_cons, List.drop_zero]
              refine DP.runFk 2 (by simp (disch := first|omega|(simp only[ln];omega)) [runDf.eq_def, runF1, runF2, stepF.eq_def, updo.eq_def, hupo.eq_def, opSto1.eq_def, List.take_succ_cons, List.take_zero, idf_Wd', idf_numS, cells_numS, numS_fold, Sp.av, Sp.cells, Sg.av, Sg.cells, l3A, l3C, z3]; rfl) fun fs36 hfs36 => ?_
              replace hfs36 : fs36.length = 2 := hfs36.trans rfl
              simp only [List.drop_succ_cons, List.drop_zero]
              refine DP.runF1q (by simp (disch := first|omega|(simp only[ln];omega)) [runDf.eq_def, runF1, runF2, stepF.eq_def, updo.eq_def, hupo.eq_def, opSto1.eq_def, idf_Wd', idf_numS, cells_numS, numS_fold, Sp.av, Sp.cells, Sg.av, Sg.cells, l3A, l3C, z3]; rfl) fun fq37 hfq37 => ?_
              simp [qids, Op.operands, topId] at hfq37
              simp only [updo]
              refine DQ.asg1 _ rfl rfl ?_
              simp only [updo]
              refine DQ.sto1 (m := 3) [2] _ (by simp (disch := first|omega|(simp only[ln];omega)) [runDf.eq_def, runF1, runF2, stepF.eq_def, updo.eq_def, hupo.eq_def, opSto1.eq_def, idf_Wd', idf_numS, cells_numS, numS_fold, Sp.av, Sp.cells, Sg.av, Sg.cells, l3A, l3C, z3]; rfl) rfl (by simp only [List.length_append, List.length_cons, List.length_nil, hfs36]; omega) (by kernel_rfl) (by intro k f hk hex; simp only [List.mem_cons, List.not_mem_nil, or_false] at hex; rcases hex with rfl <;> (simp [List.getElem?_append, hfs36] at hk; subst hk; refine ⟨?_, by first | omega | (simp; done) | (simp; omega)⟩; simp [qids, Op.operands, Call.operands, topId, numS, numI, Wd, hfq37]; try omega)) ?_
              try simp only []
              refine DQ.sto1 (m := 3) [] _ (by simp (disch := first|omega|(simp only[ln];omega)) [runDf.eq_def, runF1, runF2, stepF.eq_def, updo.eq_def, hupo.eq_def, opSto1.eq_def, idf_Wd', idf_numS, cells_numS, numS_fold, Sp.av, Sp.cells, Sg.av, Sg.cells, l3A, l3C, z3]; rfl) rfl (by simp only [List.length_append, List.length_cons, List.length_nil, hfs36]; omega) (by kernel_rfl) (by intro k f hk hex; simp only [List.not_mem_nil] at hex) ?_
              try simp only []
              refine hK35 _ ?_
              refine AWP.ret ?_
              exact hK _ _ _ _ trivial ((Fin.mk (by simp [aRes, aResL, aRes1, idf_Wd', idf_numS, cells_numS, numS_fold, Sp.av, Sp.cells, Sg.av, Sg.cells, l3A, l3C, z3]; rfl)).cast (by rw [hM]; try rfl))
            · simp at h42

set_option maxHeartbeats 4000000 in
theorem fnExactMeet_fc (u v : Sg) : FC Try.prog 7 [u.av, v.av] (.bool true) := by
  have o1 := meetF_fc u v
  rw [mtF_eq] at o1
  have o2 := meetS_fc u v
  generalize mtF meetS u v = m at *
  refine FC.body Try.func7 rfl (by simp [idfL, idf, Sp.av, Sp.cells, Sg.av, Sg.cells]) (by simp [idfL, idf, idfLL_iff, idf_Wd', idf_numS, cells_numS, numS_fold, Sp.av, Sp.cells, Sg.av, Sg.cells, Pt.cells]) 44 rfl fun nx K hK => ?_
  refine AWP.seqk fun K1 hK1 => ?_
  refine AWP.region (AOPS.all (by simp (disch := first|omega|(simp only[ln];omega)) [idf_Wd', idf_numS, cells_numS, numS_fold, Sp.av, Sp.cells, Sg.av, Sg.cells, Pt.cells]; rfl) ?_)
  refine hK1 _ ?_
  refine AWP.seqk fun K2 hK2 => ?_
  refine AWP.old fun hold => ?_
  refine AWP.draw 11 Try.checked.mixed (by kernel_rfl) (by simp) ?_
  simp only [List.take_succ_cons, List.take_zero, List.drop_succ_cons, List.drop_zero]
  refine DP.runFk 1 (by simp (disch := first|omega|(simp only[ln];omega)) [runDf.eq_def, runF1, runF2, stepF.eq_def, updo.eq_def, hupo.eq_def, opSto1.eq_def, List.take_succ_cons, List.take_zero, idf_Wd', idf_numS, cells_numS, numS_fold, Sp.av, Sp.cells, Sg.av, Sg.cells, Pt.cells]; rfl) fun fs3 hfs3 => ?_
  replace hfs3 : fs3.length = 1 := hfs3.trans rfl
  simp only [List.drop_succ_cons, List.drop_zero]
  refine DP.fcall (toSeg_fc u) rfl rfl rfl hb33 (by simp (disch := first|omega|(simp only[ln];omega)) [idf_Wd', idf_numS, cells_numS, numS_fold, Sp.av, Sp.cells, Sg.av, Sg.cells, Pt.cells]) (by simp (disch := first|omega|(simp only[ln];omega))) (by simp) ?_
  simp only [updo]
  refine DP.runFk 1 (by simp (disch := first|omega|(simp only[ln];omega)) [runDf.eq_def, runF1, runF2, stepF.eq_def, updo.eq_def, hupo.eq_def, opSto1.eq_def, List.take_succ_cons, List.take_zero, idf_Wd', idf_numS, cells_numS, numS_fold, Sp.av, Sp.cells, Sg.av, Sg.cells, Pt.cells]; rfl) fun fs4 hfs4 => ?_
  replace hfs4 : fs4.length = 1 := hfs4.trans rfl
  simp only [List.drop_succ_cons, List.drop_zero]
  refine DP.fcall (toSeg_fc v) rfl rfl rfl hb33 (by simp (disch := first|omega|(simp only[ln];omega)) [idf_Wd', idf_numS, cells_numS, numS_fold, Sp.av, Sp.cells, Sg.av, Sg.cells, Pt.cells]) (by simp (disch := first|omega|(simp only[ln];omega))) (by simp) ?_
  simp only [updo]
  refine DP.fcall (o2) rfl rfl rfl hb32 (by simp (disch := first|omega|(simp only[ln];omega)) [idf_Wd', idf_numS, cells_numS, numS_fold, Sp.av, Sp.cells, Sg.av, Sg.cells, Pt.cells]) (by simp (disch := first|omega|(simp only[ln];omega))) (by simp) ?_
  simp only [updo]
  refine DP.runFk 3 (by simp (disch := first|omega|(simp only[ln];omega)) [runDf.eq_def, runF1, runF2, stepF.eq_def, updo.eq_def, hupo.eq_def, opSto1.eq_def, List.take_succ_cons, List.take_zero, idf_Wd', idf_numS, cells_numS, numS_fold, Sp.av, Sp.cells, Sg.av, Sg.cells, Pt.cells]; rfl) fun fs5 hfs5 => ?_
  replace hfs5 : fs5.length = 3 := hfs5.trans rfl
  simp only [List.drop_succ_cons, List.drop_zero]
  refine DP.runF1q (by simp (disch := first|omega|(simp only[ln];omega)) [runDf.eq_def, runF1, runF2, stepF.eq_def, updo.eq_def, hupo.eq_def, opSto1.eq_def, idf_Wd', idf_numS, cells_numS, numS_fold, Sp.av, Sp.cells, Sg.av, Sg.cells, Pt.cells]; rfl) fun fq6 hfq6 => ?_
  simp [qids, Op.operands, topId] at hfq6
  simp only [updo]
  refine DP.runFk 2 (by simp (disch := first|omega|(simp only[ln];omega)) [runDf.eq_def, runF1, runF2, stepF.eq_def, updo.eq_def, hupo.eq_def, opSto1.eq_def, List.take_succ_cons, List.take_zero, idf_Wd', idf_numS, cells_numS, numS_fold, Sp.av, Sp.cells, Sg.av, Sg.cells, Pt.cells]; rfl) fun fs7 hfs7 => ?_
  replace hfs7 : fs7.length = 2 := hfs7.trans rfl
  simp only [List.drop_succ_cons, List.drop_zero]
  refine DQ.asg1 _ rfl rfl ?_
  simp only [updo]
  refine DQ.sto1 (m := 11) [8] _ (by simp (disch := first|omega|(simp only[ln];omega)) [runDf.eq_def, runF1, runF2, stepF.eq_def, updo.eq_def, hupo.eq_def, opSto1.eq_def, idf_Wd', idf_numS, cells_numS, numS_fold, Sp.av, Sp.cells, Sg.av, Sg.cells, Pt.cells]; rfl) rfl (by simp only [List.length_append, List.length_cons, List.length_nil, hfs3, hfs4, hfs5, hfs7]; omega) (by kernel_rfl) (by intro k f hk hex; simp only [List.mem_cons, List.not_mem_nil, or_false] at hex; rcases hex with rfl <;> (simp [List.getElem?_append, hfs3, hfs4, hfs5, hfs7] at hk; subst hk; refine ⟨?_, by first | omega | (simp; done) | (simp; omega)⟩; simp [qids, Op.operands, Call.operands, topId, numS, numI, Wd, hfq6]; try omega)) ?_
  try simp only []
  refine DQ.sto1 (m := 11) [] _ (by simp (disch := first|omega|(simp only[ln];omega)) [runDf.eq_def, runF1, runF2, stepF.eq_def, updo.eq_def, hupo.eq_def, opSto1.eq_def, idf_Wd', idf_numS, cells_numS, numS_fold, Sp.av, Sp.cells, Sg.av, Sg.cells, Pt.cells]; rfl) rfl (by simp only [List.length_append, List.length_cons, List.length_nil, hfs3, hfs4, hfs5, hfs7]; omega) (by kernel_rfl) (by intro k f hk hex; simp only [List.not_mem_nil] at hex) ?_
  try simp only []
  refine hK2 _ ?_
  refine AWP.seqk fun K8 hK8 => ?_
  refine AWP.old fun hold => ?_
  refine AWP.draw 11 Try.checked.mixed (by kernel_rfl) (by simp) ?_
  simp only [List.take_succ_cons, List.take_zero, List.drop_succ_cons, List.drop_zero]
  refine DP.runFk 1 (by simp (disch := first|omega|(simp only[ln];omega)) [runDf.eq_def, runF1, runF2, stepF.eq_def, updo.eq_def, hupo.eq_def, opSto1.eq_def, List.take_succ_cons, List.take_zero, idf_Wd', idf_numS, cells_numS, numS_fold, Sp.av, Sp.cells, Sg.av, Sg.cells, Pt.cells]; rfl) fun fs9 hfs9 => ?_
  replace hfs9 : fs9.length = 1 := hfs9.trans rfl
  simp only [List.drop_succ_cons, List.drop_zero]
  refine DP.fcall (toSeg_fc u) rfl rfl rfl hb33 (by simp (disch := first|omega|(simp only[ln];omega)) [idf_Wd', idf_numS, cells_numS, numS_fold, Sp.av, Sp.cells, Sg.av, Sg.cells, Pt.cells]) (by simp (disch := first|omega|(simp only[ln];omega))) (by simp) ?_
  simp only [updo]
  refine DP.runFk 1 (by simp (disch := first|omega|(simp only[ln];omega)) [runDf.eq_def, runF1, runF2, stepF.eq_def, updo.eq_def, hupo.eq_def, opSto1.eq_def, List.take_succ_cons, List.take_zero, idf_Wd', idf_numS, cells_numS, numS_fold, Sp.av, Sp.cells, Sg.av, Sg.cells, Pt.cells]; rfl) fun fs10 hfs10 => ?_
  replace hfs10 : fs10.length = 1 := hfs10.trans rfl
  simp only [List.drop_succ_cons, List.drop_zero]
  refine DP.fcall (toSeg_fc v) rfl rfl rfl hb33 (by simp (disch := first|omega|(simp only[ln];omega)) [idf_Wd', idf_numS, cells_numS, numS_fold, Sp.av, Sp.cells, Sg.av, Sg.cells, Pt.cells]) (by simp (disch := first|omega|(simp only[ln];omega))) (by simp) ?_
  simp only [updo]
  refine DP.fcall (o1) rfl rfl rfl hb34 (by simp (disch := first|omega|(simp only[ln];omega)) [idf_Wd', idf_numS, cells_numS, numS_fold, Sp.av, Sp.cells, Sg.av, Sg.cells, Pt.cells]) (by simp (disch := first|omega|(simp only[ln];omega))) (by simp) ?_
  simp only [updo]
  refine DP.runFk 3 (by simp (disch := first|omega|(simp only[ln];omega)) [runDf.eq_def, runF1, runF2, stepF.eq_def, updo.eq_def, hupo.eq_def, opSto1.eq_def, List.take_succ_cons, List.take_zero, idf_Wd', idf_numS, cells_numS, numS_fold, Sp.av, Sp.cells, Sg.av, Sg.cells, Pt.cells]; rfl) fun fs11 hfs11 => ?_
  replace hfs11 : fs11.length = 3 := hfs11.trans rfl
  simp only [List.drop_succ_cons, List.drop_zero]
  refine DP.runF1q (by simp (disch := first|omega|(simp only[ln];omega)) [runDf.eq_def, runF1, runF2, stepF.eq_def, updo.eq_def, hupo.eq_def, opSto1.eq_def, idf_Wd', idf_numS, cells_numS, numS_fold, Sp.av, Sp.cells, Sg.av, Sg.cells, Pt.cells]; rfl) fun fq12 hfq12 => ?_
  simp [qids, Op.operands, topId] at hfq12
  simp only [updo]
  refine DP.runFk 2 (by simp (disch := first|omega|(simp only[ln];omega)) [runDf.eq_def, runF1, runF2, stepF.eq_def, updo.eq_def, hupo.eq_def, opSto1.eq_def, List.take_succ_cons, List.take_zero, idf_Wd', idf_numS, cells_numS, numS_fold, Sp.av, Sp.cells, Sg.av, Sg.cells, Pt.cells]; rfl) fun fs13 hfs13 => ?_
  replace hfs13 : fs13.length = 2 := hfs13.trans rfl
  simp only [List.drop_succ_cons, List.drop_zero]
  refine DQ.asg1 _ rfl rfl ?_
  simp only [updo]
  refine DQ.sto1 (m := 11) [8] _ (by simp (disch := first|omega|(simp only[ln];omega)) [runDf.eq_def, runF1, runF2, stepF.eq_def, updo.eq_def, hupo.eq_def, opSto1.eq_def, idf_Wd', idf_numS, cells_numS, numS_fold, Sp.av, Sp.cells, Sg.av, Sg.cells, Pt.cells]; rfl) rfl (by simp only [List.length_append, List.length_cons, List.length_nil, hfs9, hfs10, hfs11, hfs13]; omega) (by kernel_rfl) (by intro k f hk hex; simp only [List.mem_cons, List.not_mem_nil, or_false] at hex; rcases hex with rfl <;> (simp [List.getElem?_append, hfs9, hfs10, hfs11, hfs13] at hk; subst hk; refine ⟨?_, by first | omega | (simp; done) | (simp; omega)⟩; simp [qids, Op.operands, Call.operands, topId, numS, numI, Wd, hfq12]; try omega)) ?_
  try simp only []
  refine DQ.sto1 (m := 11) [] _ (by simp (disch := first|omega|(simp only[ln];omega)) [runDf.eq_def, runF1, runF2, stepF.eq_def, updo.eq_def, hupo.eq_def, opSto1.eq_def, idf_Wd', idf_numS, cells_numS, numS_fold, Sp.av, Sp.cells, Sg.av, Sg.cells, Pt.cells]; rfl) rfl (by simp only [List.length_append, List.length_cons, List.length_nil, hfs9, hfs10, hfs11, hfs13]; omega) (by kernel_rfl) (by intro k f hk hex; simp only [List.not_mem_nil] at hex) ?_
  try simp only []
  refine hK8 _ ?_
  refine AWP.seqk fun K14 hK14 => ?_
  refine AWP.seqk fun K15 hK15 => ?_
  refine AWP.region ?_
  refine AOPS.runk 6 (by simp (disch := first|omega|(simp only[ln];omega)) [List.take_succ_cons, List.take_zero, idf_Wd', idf_numS, cells_numS, numS_fold, Sp.av, Sp.cells, Sg.av, Sg.cells, Pt.cells]; rfl) ?_
  simp only [List.drop_succ_cons, List.drop_zero]
  refine AOPS.fcall (eqPoint_fc m.2.1) rfl rfl rfl hb35 (by simp (disch := first|omega|(simp only[ln];omega)) [idf_Wd', idf_numS, cells_numS, numS_fold, Sp.av, Sp.cells, Sg.av, Sg.cells, Pt.cells]) (by simp (disch := first|omega|(simp only[ln];omega))) (by simp) ?_
  simp only [puts_some, updo]
  refine AOPS.runk 5 (by simp (disch := first|omega|(simp only[ln];omega)) [List.take_succ_cons, List.take_zero, idf_Wd', idf_numS, cells_numS, numS_fold, Sp.av, Sp.cells, Sg.av, Sg.cells, Pt.cells]; rfl) ?_
  simp only [List.drop_succ_cons, List.drop_zero]
  refine AOPS.fcall (eqPoint_fc m.2.2) rfl rfl rfl hb35 (by simp (disch := first|omega|(simp only[ln];omega)) [idf_Wd', idf_numS, cells_numS, numS_fold, Sp.av, Sp.cells, Sg.av, Sg.cells, Pt.cells]) (by simp (disch := first|omega|(simp only[ln];omega))) (by simp) ?_
  simp only [puts_some, updo]
  refine AOPS.all (by simp (disch := first|omega|(simp only[ln];omega)) [idf_Wd', idf_numS, cells_numS, numS_fold, Sp.av, Sp.cells, Sg.av, Sg.cells, Pt.cells]; rfl) ?_
  refine hK15 _ ?_
  refine cond_ok _ (by simp (disch := first|omega|(simp only[ln];omega)); rfl) (fun h43 => ?_) (fun h43 => ?_)
  · simp at h43
  · try simp only [decide_eq_true_eq, decide_eq_false_iff_not] at h43
    refine AWP.skip ?_
    refine hK14 _ ?_
    refine AWP.seqk fun K16 hK16 => ?_
    refine AWP.region (AOPS.all (by simp (disch := first|omega|(simp only[ln];omega)) [idf_Wd', idf_numS, cells_numS, numS_fold, Sp.av, Sp.cells, Sg.av, Sg.cells, Pt.cells]; rfl) ?_)
    refine hK16 _ ?_
    refine AWP.ret ?_
    exact hK _ _ _ _ trivial (Fin.mk (by simp (disch := first|omega|(simp only[ln];omega)) [aRes, aResL, aRes1, idf_Wd', idf_numS, cells_numS, numS_fold, Sp.av, Sp.cells, Sg.av, Sg.cells, Pt.cells]))

end Go.Proofs.Ytdcggmbnjonemaa
