/- Walks: FnTurns, walked. -/
import Derived.Test.YtdcggmbnjonemaaG0X

namespace Go.Proofs.Ytdcggmbnjonemaa
open Go Go.RowKit
set_option linter.unusedSimpArgs false
set_option linter.unusedVariables false
set_option maxRecDepth 100000
attribute [local simp] List.getElem?_cons_zero List.getElem?_cons_succ List.getElem?_toArray runOps stepOp.eq_def agd.eq_def dstOk.eq_def opVal.eq_def opNew.eq_def opSto.eq_def ev.eq_def cv.eq_def puts_some puts_none upd_ap lst.eq_def aBin.eq_def aUn.eq_def aBi_str aBi_isl aBi_osl aBi_nsl aBi_max aBi_min aBi_max3 aConv.eq_def aLd.eq_def aLoad.eq_def aField.eq_def aFld.eq_def aIdx_isl aIdx_osl aSlc_isl aSlc_osl aSlc_str aSlc_nsl bnd.eq_def evs_nil evs_cons aBuild.eq_def aFill splice.eq_def cells_agg cells_int cells_bool cells_str cells_nil cells_nsl cells_isl cells_osl cells_ptr cells_ip cells_fn cells_Wd one_int one_bool one_str one_nil one_nsl one_isl one_osl one_ptr one_ip one_fn one_Wd aSets hupd_eq hupd_ne wrap_i64s wrap_u64s wrap_u32s wrap_u8s wd_getD wd_set wd_len wd_replicate wd_one wd_fold fz_osl hupd_same aSix.eq_def aEqS.eq_def aEqB_bool aEqB_nsl aEqB_nil
attribute [local simp] szT2 byT2 agT2 unT2 zoT2 szT3 byT3 agT3 unT3 zoT3 szT5 byT5 agT5 unT5 zoT5 szT29 byT29 agT29 elT29 unT29 zoT29 szT33 byT33 agT33 flT33 fdT33_0 fdT33_1 fdT33_2 fdT33_3 zoT33 szT35 byT35 agT35 flT35 fdT35_0 fdT35_1 fdT35_2 zoT35

set_option maxHeartbeats 8000000 in
theorem drawOrient_ac (l : List Int) (H : Heap) (nx : Nat) (dl : Dig 256 l) (hl : l.length ≤ 1048576) (hd : ∀ i q, H i = some q → i < nx) : ACall Try.prog 15 [Wd .u8 l] H nx (fun r H' nx' => (∃ p q s : Pt, p.ok ∧ q.ok ∧ s.ok ∧ r = .tup [.agg [.int .u64 (p).x.a, .int .u64 (p).x.b, .int .u64 (p).x.c, .int .u64 (p).x.d, .int .u64 (p).y.a, .int .u64 (p).y.b, .int .u64 (p).y.c, .int .u64 (p).y.d, .int .u64 (p).w.a, .int .u64 (p).w.b, .int .u64 (p).w.c, .int .u64 (p).w.d], .agg [.int .u64 (q).x.a, .int .u64 (q).x.b, .int .u64 (q).x.c, .int .u64 (q).x.d, .int .u64 (q).y.a, .int .u64 (q).y.b, .int .u64 (q).y.c, .int .u64 (q).y.d, .int .u64 (q).w.a, .int .u64 (q).w.b, .int .u64 (q).w.c, .int .u64 (q).w.d], .agg [.int .u64 (s).x.a, .int .u64 (s).x.b, .int .u64 (s).x.c, .int .u64 (s).x.d, .int .u64 (s).y.a, .int .u64 (s).y.b, .int .u64 (s).y.c, .int .u64 (s).y.d, .int .u64 (s).w.a, .int .u64 (s).w.b, .int .u64 (s).w.c, .int .u64 (s).w.d]]) ∧ H' = H ∧ nx ≤ nx') := by
  refine ACall.body Try.func15 rfl 31 rfl fun K hK => ?_
  refine AWP.seqk fun K1 hK1 => ?_
  refine AWP.region (AOPS.all (by simp (disch := first | omega | (simp only [List.length_append, List.length_cons, List.length_nil, List.length_set, List.length_replicate, Int.toNat_natCast]; omega)) [idf_Wd']; rfl) ?_)
  refine hK1 _ ?_
  refine AWP.seqk fun K2 hK2 => ?_
  refine AWP.region ?_
  refine AOPS.runk 1 (by simp (disch := first | omega | (simp only [List.length_append, List.length_cons, List.length_nil, List.length_set, List.length_replicate, Int.toNat_natCast]; omega)) [List.take_succ_cons, List.take_zero, idf_Wd']; rfl) ?_
  simp only [List.drop_succ_cons, List.drop_zero]
  refine AOPS.old fun hold1 => ?_
  refine AOPS.acall (open_ac l _ _) rfl rfl rfl hb44 (by simp (disch := first | omega | (simp only [List.length_append, List.length_cons, List.length_nil, List.length_set, List.length_replicate, Int.toNat_natCast]; omega)) [idf_Wd', idf_Wd']) (by simp (disch := first | omega | (simp only [List.length_append, List.length_cons, List.length_nil, List.length_set, List.length_replicate, Int.toNat_natCast]; omega))) (by simp) ?_
  rintro _ _ nx1 ⟨rfl, rfl, rfl⟩
  clear hold1
  obtain ⟨id, hid⟩ : ∃ id, id = nx + 1 + 1 + 1 := ⟨_, rfl⟩
  obtain ⟨p, hH⟩ : ∃ p : Nat, p = 0 := ⟨_, rfl⟩
  have hp : p ≤ l.length := by omega
  simp only []
  rw [← hid]
  simp only [puts_some, updo]
  refine AOPS.all (by simp (disch := first | omega | (simp only [List.length_append, List.length_cons, List.length_nil, List.length_set, List.length_replicate, Int.toNat_natCast]; omega)) [idf_Wd']; rfl) ?_
  refine hK2 _ ?_
  refine AWP.seqk fun K3 hK3 => ?_
  refine AWP.region ?_
  refine AOPS.runk 1 (by simp (disch := first | omega | (simp only [List.length_append, List.length_cons, List.length_nil, List.length_set, List.length_replicate, Int.toNat_natCast]; omega)) [List.take_succ_cons, List.take_zero, idf_Wd']; rfl) ?_
  simp only [List.drop_succ_cons, List.drop_zero]
  refine AOPS.old fun hold1 => ?_
  refine AOPS.acall (point_ac l p id _ _ dl hl hp (by simp (disch := omega) [hH]) hold1) rfl rfl rfl hb45 (by simp (disch := first | omega | (simp only [List.length_append, List.length_cons, List.length_nil, List.length_set, List.length_replicate, Int.toNat_natCast]; omega)) [idf_Wd', idf_Wd']) (by simp (disch := first | omega | (simp only [List.length_append, List.length_cons, List.length_nil, List.length_set, List.length_replicate, Int.toNat_natCast]; omega))) (by simp) ?_
  rintro _ _ nx2 ⟨⟨P1, rfl, P1o⟩, ⟨p2, hp2, rfl⟩, hnx2⟩
  try simp only [] at hnx2
  clear hold1
  simp only [puts_some, updo]
  refine AOPS.all (by simp (disch := first | omega | (simp only [List.length_append, List.length_cons, List.length_nil, List.length_set, List.length_replicate, Int.toNat_natCast]; omega)) [idf_Wd']; rfl) ?_
  refine hK3 _ ?_
  refine AWP.seqk fun K4 hK4 => ?_
  refine AWP.region ?_
  refine AOPS.runk 1 (by simp (disch := first | omega | (simp only [List.length_append, List.length_cons, List.length_nil, List.length_set, List.length_replicate, Int.toNat_natCast]; omega)) [List.take_succ_cons, List.take_zero, idf_Wd']; rfl) ?_
  simp only [List.drop_succ_cons, List.drop_zero]
  refine AOPS.old fun hold1 => ?_
  refine AOPS.acall (point_ac l p2 id _ _ dl hl hp2 (by simp (disch := omega) [hH]) hold1) rfl rfl rfl hb45 (by simp (disch := first | omega | (simp only [List.length_append, List.length_cons, List.length_nil, List.length_set, List.length_replicate, Int.toNat_natCast]; omega)) [idf_Wd', idf_Wd']) (by simp (disch := first | omega | (simp only [List.length_append, List.length_cons, List.length_nil, List.length_set, List.length_replicate, Int.toNat_natCast]; omega))) (by simp) ?_
  rintro _ _ nx3 ⟨⟨P2, rfl, P2o⟩, ⟨p3, hp3, rfl⟩, hnx3⟩
  try simp only [] at hnx3
  clear hold1
  simp only [puts_some, updo]
  refine AOPS.all (by simp (disch := first | omega | (simp only [List.length_append, List.length_cons, List.length_nil, List.length_set, List.length_replicate, Int.toNat_natCast]; omega)) [idf_Wd']; rfl) ?_
  refine hK4 _ ?_
  refine AWP.seqk fun K5 hK5 => ?_
  refine AWP.seqk fun K6 hK6 => ?_
  refine AWP.region ?_
  refine AOPS.runk 1 (by simp (disch := first | omega | (simp only [List.length_append, List.length_cons, List.length_nil, List.length_set, List.length_replicate, Int.toNat_natCast]; omega)) [List.take_succ_cons, List.take_zero, idf_Wd']; rfl) ?_
  simp only [List.drop_succ_cons, List.drop_zero]
  refine AOPS.old fun hold1 => ?_
  refine AOPS.acall (once_ac 4 (by omega) (by omega) l p3 id _ _ dl hl hp3 (by simp (disch := omega) [hH]) hold1) rfl rfl rfl hb46 (by simp (disch := first | omega | (simp only [List.length_append, List.length_cons, List.length_nil, List.length_set, List.length_replicate, Int.toNat_natCast]; omega)) [idf_Wd', idf_Wd']) (by simp (disch := first | omega | (simp only [List.length_append, List.length_cons, List.length_nil, List.length_set, List.length_replicate, Int.toNat_natCast]; omega))) (by simp) ?_
  rintro _ _ nx4 ⟨⟨b, rfl⟩, ⟨p4, hp4, rfl⟩, hnx4⟩
  try simp only [] at hnx4
  clear hold1
  simp only [puts_some, updo]
  refine AOPS.nil ?_
  refine hK6 _ ?_
  refine cond_ok (b) (by simp (disch := first | omega | (simp only [List.length_append, List.length_cons, List.length_nil, List.length_set, List.length_replicate, Int.toNat_natCast]; omega))) (fun h17 => ?_) (fun h17 => ?_)
  · try simp only [decide_eq_true_eq, decide_eq_false_iff_not] at h17
    refine AWP.seqk fun K7 hK7 => ?_
    refine AWP.region ?_
    refine AOPS.runk 2 (by simp (disch := first | omega | (simp only [List.length_append, List.length_cons, List.length_nil, List.length_set, List.length_replicate, Int.toNat_natCast]; omega)) [List.take_succ_cons, List.take_zero, idf_Wd', Pt.av, Pt.cells]; rfl) ?_
    simp only [List.drop_succ_cons, List.drop_zero]
    refine AOPS.fcall (middleS_fc P1 P2 P1o P2o) rfl rfl rfl hb47 (by simp (disch := first | omega | (simp only [List.length_append, List.length_cons, List.length_nil, List.length_set, List.length_replicate, Int.toNat_natCast]; omega)) [idf_Wd', Pt.av, Pt.cells, idf_Wd']) (by simp (disch := first | omega | (simp only [List.length_append, List.length_cons, List.length_nil, List.length_set, List.length_replicate, Int.toNat_natCast]; omega)) [Pt.av, Pt.cells]) (by simp) ?_
    simp only [puts_some, updo]
    refine AOPS.all (by simp (disch := first | omega | (simp only [List.length_append, List.length_cons, List.length_nil, List.length_set, List.length_replicate, Int.toNat_natCast]; omega)) [idf_Wd', Pt.av, Pt.cells]; rfl) ?_
    refine hK7 _ ?_
    refine AWP.seqk fun K8 hK8 => ?_
    refine AWP.old fun hold => ?_
    refine AWP.draw 3 Try.checked.mixed (by kernel_rfl) (by simp) ?_
    simp only [List.take_succ_cons, List.take_zero, List.drop_succ_cons, List.drop_zero]
    refine DP.runFk 1 (by simp (disch := first | omega | (simp only [List.length_append, List.length_cons, List.length_nil, List.length_set, List.length_replicate, Int.toNat_natCast]; omega)) [runDf.eq_def, runF1, runF2, stepF.eq_def, updo.eq_def, hupo.eq_def, opSto1.eq_def, List.take_succ_cons, List.take_zero, idf_Wd']; rfl) fun fs9 hfs9 => ?_
    replace hfs9 : fs9.length = 1 := hfs9.trans rfl
    simp only [List.drop_succ_cons, List.drop_zero]
    refine DP.runF1q (by simp (disch := first | omega | (simp only [List.length_append, List.length_cons, List.length_nil, List.length_set, List.length_replicate, Int.toNat_natCast]; omega)) [runDf.eq_def, runF1, runF2, stepF.eq_def, updo.eq_def, hupo.eq_def, opSto1.eq_def, idf_Wd']; rfl) fun fq10 hfq10 => ?_
    simp [qids, Op.operands, topId] at hfq10
    simp only [updo]
    refine DP.runF1q (by simp (disch := first | omega | (simp only [List.length_append, List.length_cons, List.length_nil, List.length_set, List.length_replicate, Int.toNat_natCast]; omega)) [runDf.eq_def, runF1, runF2, stepF.eq_def, updo.eq_def, hupo.eq_def, opSto1.eq_def, idf_Wd']; rfl) fun fq11 hfq11 => ?_
    simp [qids, Op.operands, topId] at hfq11
    simp only [updo]
    refine DQ.sto1 (m := 3) [1, 2] _ (by simp (disch := first | omega | (simp only [List.length_append, List.length_cons, List.length_nil, List.length_set, List.length_replicate, Int.toNat_natCast]; omega)) [runDf.eq_def, runF1, runF2, stepF.eq_def, updo.eq_def, hupo.eq_def, opSto1.eq_def, idf_Wd']; rfl) rfl (by simp only [List.length_append, List.length_cons, List.length_nil, hfs9]; omega) (by kernel_rfl) (by intro k f hk hex; simp only [List.mem_cons, List.not_mem_nil, or_false] at hex; rcases hex with rfl | rfl <;> (simp [List.getElem?_append, hfs9] at hk; subst hk; refine ⟨?_, by first | omega | (simp; done) | (simp; omega)⟩; simp [qids, Op.operands, Call.operands, topId, numS, numI, Wd, hfq10, hfq11]; try omega)) ?_
    try simp only []
    refine DQ.sto1 (m := 3) [2] _ (by simp (disch := first | omega | (simp only [List.length_append, List.length_cons, List.length_nil, List.length_set, List.length_replicate, Int.toNat_natCast]; omega)) [runDf.eq_def, runF1, runF2, stepF.eq_def, updo.eq_def, hupo.eq_def, opSto1.eq_def, idf_Wd']; rfl) rfl (by simp only [List.length_append, List.length_cons, List.length_nil, hfs9]; omega) (by kernel_rfl) (by intro k f hk hex; simp only [List.mem_cons, List.not_mem_nil, or_false] at hex; rcases hex with rfl <;> (simp [List.getElem?_append, hfs9] at hk; subst hk; refine ⟨?_, by first | omega | (simp; done) | (simp; omega)⟩; simp [qids, Op.operands, Call.operands, topId, numS, numI, Wd, hfq10, hfq11]; try omega)) ?_
    try simp only []
    refine DQ.sto1 (m := 3) [] _ (by simp (disch := first | omega | (simp only [List.length_append, List.length_cons, List.length_nil, List.length_set, List.length_replicate, Int.toNat_natCast]; omega)) [runDf.eq_def, runF1, runF2, stepF.eq_def, updo.eq_def, hupo.eq_def, opSto1.eq_def, idf_Wd']; rfl) rfl (by simp only [List.length_append, List.length_cons, List.length_nil, hfs9]; omega) (by kernel_rfl) (by intro k f hk hex; simp only [List.not_mem_nil] at hex) ?_
    try simp only []
    refine hK8 _ ?_
    refine AWP.ret ?_
    exact hK _ _ _ _ _ trivial ((Fin.mk (r := .tup [.agg [.int .u64 (P1).x.a, .int .u64 (P1).x.b, .int .u64 (P1).x.c, .int .u64 (P1).x.d, .int .u64 (P1).y.a, .int .u64 (P1).y.b, .int .u64 (P1).y.c, .int .u64 (P1).y.d, .int .u64 (P1).w.a, .int .u64 (P1).w.b, .int .u64 (P1).w.c, .int .u64 (P1).w.d], .agg [.int .u64 (P2).x.a, .int .u64 (P2).x.b, .int .u64 (P2).x.c, .int .u64 (P2).x.d, .int .u64 (P2).y.a, .int .u64 (P2).y.b, .int .u64 (P2).y.c, .int .u64 (P2).y.d, .int .u64 (P2).w.a, .int .u64 (P2).w.b, .int .u64 (P2).w.c, .int .u64 (P2).w.d], .agg [.int .u64 (midP P1 P2).x.a, .int .u64 (midP P1 P2).x.b, .int .u64 (midP P1 P2).x.c, .int .u64 (midP P1 P2).x.d, .int .u64 (midP P1 P2).y.a, .int .u64 (midP P1 P2).y.b, .int .u64 (midP P1 P2).y.c, .int .u64 (midP P1 P2).y.d, .int .u64 (midP P1 P2).w.a, .int .u64 (midP P1 P2).w.b, .int .u64 (midP P1 P2).w.c, .int .u64 (midP P1 P2).w.d]]) (by simp (disch := omega) [aRes, aResL, aRes1, idf_Wd'])).restr (fun i => decide (i < nx))) (⟨⟨P1, P2, midP P1 P2, P1o, P2o, midP_ok _ _, rfl⟩, by simp (disch := first | omega | (simp; done) | (simp; omega)) [hrestr_in, hrestr_out, hrestr_all hd, hupd_same], by first | omega | (simp at *; omega)⟩)
  · try simp only [decide_eq_true_eq, decide_eq_false_iff_not] at h17
    refine AWP.skip ?_
    refine hK5 _ ?_
    refine AWP.seqk fun K12 hK12 => ?_
    refine AWP.any Try.checked.mixed ?_
    refine AAny.step [0, 1, 2] (by kernel_rfl) (by simp) ?_
    intro i hi o ho
    simp only [List.mem_cons, List.not_mem_nil, or_false] at hi
    rcases hi with rfl | rfl | rfl
    · simp only [List.getElem?_toArray, List.getElem?_cons_zero, List.getElem?_cons_succ, Option.some.injEq] at ho
      subst ho
      refine AOPS.all (by simp (disch := first | omega | (simp only [List.length_append, List.length_cons, List.length_nil, List.length_set, List.length_replicate, Int.toNat_natCast]; omega)) [idf_Wd']; rfl) ?_
      refine AAny.step [1, 2] (by kernel_rfl) (by simp) ?_
      intro i hi o ho
      simp only [List.mem_cons, List.not_mem_nil, or_false] at hi
      rcases hi with rfl | rfl
      · simp only [List.getElem?_toArray, List.getElem?_cons_zero, List.getElem?_cons_succ, Option.some.injEq] at ho
        subst ho
        refine AOPS.all (by simp (disch := first | omega | (simp only [List.length_append, List.length_cons, List.length_nil, List.length_set, List.length_replicate, Int.toNat_natCast]; omega)) [idf_Wd']; rfl) ?_
        refine AAny.step [2] (by kernel_rfl) (by simp) ?_
        intro i hi o ho
        simp only [List.mem_cons, List.not_mem_nil, or_false] at hi
        subst hi
        · simp only [List.getElem?_toArray, List.getElem?_cons_zero, List.getElem?_cons_succ, Option.some.injEq] at ho
          subst ho
          refine AOPS.all (by simp (disch := first | omega | (simp only [List.length_append, List.length_cons, List.length_nil, List.length_set, List.length_replicate, Int.toNat_natCast]; omega)) [idf_Wd']; rfl) ?_
          refine AAny.step [3] (by kernel_rfl) (by simp) ?_
          intro i hi o ho
          simp only [List.mem_cons, List.not_mem_nil, or_false] at hi
          subst hi
          · simp only [List.getElem?_toArray, List.getElem?_cons_zero, List.getElem?_cons_succ, Option.some.injEq] at ho
            subst ho
            refine AOPS.old fun hold3 => ?_
            refine AOPS.acall (point_ac l p4 id _ _ dl hl hp4 (by simp (disch := omega) [hH]) hold3) rfl rfl rfl hb45 (by simp (disch := first | omega | (simp only [List.length_append, List.length_cons, List.length_nil, List.length_set, List.length_replicate, Int.toNat_natCast]; omega)) [idf_Wd', idf_Wd']) (by simp (disch := first | omega | (simp only [List.length_append, List.length_cons, List.length_nil, List.length_set, List.length_replicate, Int.toNat_natCast]; omega))) (by simp) ?_
            rintro _ _ nx5 ⟨⟨P3, rfl, P3o⟩, ⟨p5, hp5, rfl⟩, hnx5⟩
            try simp only [] at hnx5
            clear hold3
            simp only [puts_some, updo]
            refine AOPS.nil ?_
            refine AAny.step [4] (by kernel_rfl) (by simp) ?_
            intro i hi o ho
            simp only [List.mem_cons, List.not_mem_nil, or_false] at hi
            subst hi
            · simp only [List.getElem?_toArray, List.getElem?_cons_zero, List.getElem?_cons_succ, Option.some.injEq] at ho
              subst ho
              refine AOPS.all (by simp (disch := first | omega | (simp only [List.length_append, List.length_cons, List.length_nil, List.length_set, List.length_replicate, Int.toNat_natCast]; omega)) [idf_Wd']; rfl) ?_
              refine AAny.step [5] (by kernel_rfl) (by simp) ?_
              intro i hi o ho
              simp only [List.mem_cons, List.not_mem_nil, or_false] at hi
              subst hi
              · simp only [List.getElem?_toArray, List.getElem?_cons_zero, List.getElem?_cons_succ, Option.some.injEq] at ho
                subst ho
                refine AOPS.all (by simp (disch := first | omega | (simp only [List.length_append, List.length_cons, List.length_nil, List.length_set, List.length_replicate, Int.toNat_natCast]; omega)) [idf_Wd']; rfl) ?_
                refine AAny.step [6] (by kernel_rfl) (by simp) ?_
                intro i hi o ho
                simp only [List.mem_cons, List.not_mem_nil, or_false] at hi
                subst hi
                · simp only [List.getElem?_toArray, List.getElem?_cons_zero, List.getElem?_cons_succ, Option.some.injEq] at ho
                  subst ho
                  refine AOPS.all (by simp (disch := first | omega | (simp only [List.length_append, List.length_cons, List.length_nil, List.length_set, List.length_replicate, Int.toNat_natCast]; omega)) [idf_Wd']; rfl) ?_
                  refine AAny.done (by kernel_rfl) ?_
                  refine hK12 _ ?_
                  refine AWP.ret ?_
                  exact hK _ _ _ _ _ trivial ((Fin.mk (r := .tup [.agg [.int .u64 (P1).x.a, .int .u64 (P1).x.b, .int .u64 (P1).x.c, .int .u64 (P1).x.d, .int .u64 (P1).y.a, .int .u64 (P1).y.b, .int .u64 (P1).y.c, .int .u64 (P1).y.d, .int .u64 (P1).w.a, .int .u64 (P1).w.b, .int .u64 (P1).w.c, .int .u64 (P1).w.d], .agg [.int .u64 (P2).x.a, .int .u64 (P2).x.b, .int .u64 (P2).x.c, .int .u64 (P2).x.d, .int .u64 (P2).y.a, .int .u64 (P2).y.b, .int .u64 (P2).y.c, .int .u64 (P2).y.d, .int .u64 (P2).w.a, .int .u64 (P2).w.b, .int .u64 (P2).w.c, .int .u64 (P2).w.d], .agg [.int .u64 (P3).x.a, .int .u64 (P3).x.b, .int .u64 (P3).x.c, .int .u64 (P3).x.d, .int .u64 (P3).y.a, .int .u64 (P3).y.b, .int .u64 (P3).y.c, .int .u64 (P3).y.d, .int .u64 (P3).w.a, .int .u64 (P3).w.b, .int .u64 (P3).w.c, .int .u64 (P3).w.d]]) (by simp (disch := omega) [aRes, aResL, aRes1, idf_Wd'])).restr (fun i => decide (i < nx))) (⟨⟨P1, P2, P3, P1o, P2o, P3o, rfl⟩, by simp (disch := first | omega | (simp; done) | (simp; omega)) [hrestr_in, hrestr_out, hrestr_all hd, hupd_same], by first | omega | (simp at *; omega)⟩)
      · simp only [List.getElem?_toArray, List.getElem?_cons_zero, List.getElem?_cons_succ, Option.some.injEq] at ho
        subst ho
        refine AOPS.all (by simp (disch := first | omega | (simp only [List.length_append, List.length_cons, List.length_nil, List.length_set, List.length_replicate, Int.toNat_natCast]; omega)) [idf_Wd']; rfl) ?_
        refine AAny.step [1, 3] (by kernel_rfl) (by simp) ?_
        intro i hi o ho
        simp only [List.mem_cons, List.not_mem_nil, or_false] at hi
        rcases hi with rfl | rfl
        · simp only [List.getElem?_toArray, List.getElem?_cons_zero, List.getElem?_cons_succ, Option.some.injEq] at ho
          subst ho
          refine AOPS.all (by simp (disch := first | omega | (simp only [List.length_append, List.length_cons, List.length_nil, List.length_set, List.length_replicate, Int.toNat_natCast]; omega)) [idf_Wd']; rfl) ?_
          refine AAny.step [3] (by kernel_rfl) (by simp) ?_
          intro i hi o ho
          simp only [List.mem_cons, List.not_mem_nil, or_false] at hi
          subst hi
          · simp only [List.getElem?_toArray, List.getElem?_cons_zero, List.getElem?_cons_succ, Option.some.injEq] at ho
            subst ho
            refine AOPS.old fun hold3 => ?_
            refine AOPS.acall (point_ac l p4 id _ _ dl hl hp4 (by simp (disch := omega) [hH]) hold3) rfl rfl rfl hb45 (by simp (disch := first | omega | (simp only [List.length_append, List.length_cons, List.length_nil, List.length_set, List.length_replicate, Int.toNat_natCast]; omega)) [idf_Wd', idf_Wd']) (by simp (disch := first | omega | (simp only [List.length_append, List.length_cons, List.length_nil, List.length_set, List.length_replicate, Int.toNat_natCast]; omega))) (by simp) ?_
            rintro _ _ nx5 ⟨⟨P3, rfl, P3o⟩, ⟨p5, hp5, rfl⟩, hnx5⟩
            try simp only [] at hnx5
            clear hold3
            simp only [puts_some, updo]
            refine AOPS.nil ?_
            refine AAny.step [4] (by kernel_rfl) (by simp) ?_
            intro i hi o ho
            simp only [List.mem_cons, List.not_mem_nil, or_false] at hi
            subst hi
            · simp only [List.getElem?_toArray, List.getElem?_cons_zero, List.getElem?_cons_succ, Option.some.injEq] at ho
              subst ho
              refine AOPS.all (by simp (disch := first | omega | (simp only [List.length_append, List.length_cons, List.length_nil, List.length_set, List.length_replicate, Int.toNat_natCast]; omega)) [idf_Wd']; rfl) ?_
              refine AAny.step [5] (by kernel_rfl) (by simp) ?_
              intro i hi o ho
              simp only [List.mem_cons, List.not_mem_nil, or_false] at hi
              subst hi
              · simp only [List.getElem?_toArray, List.getElem?_cons_zero, List.getElem?_cons_succ, Option.some.injEq] at ho
                subst ho
                refine AOPS.all (by simp (disch := first | omega | (simp only [List.length_append, List.length_cons, List.length_nil, List.length_set, List.length_replicate, Int.toNat_natCast]; omega)) [idf_Wd']; rfl) ?_
                refine AAny.step [6] (by kernel_rfl) (by simp) ?_
                intro i hi o ho
                simp only [List.mem_cons, List.not_mem_nil, or_false] at hi
                subst hi
                · simp only [List.getElem?_toArray, List.getElem?_cons_zero, List.getElem?_cons_succ, Option.some.injEq] at ho
                  subst ho
                  refine AOPS.all (by simp (disch := first | omega | (simp only [List.length_append, List.length_cons, List.length_nil, List.length_set, List.length_replicate, Int.toNat_natCast]; omega)) [idf_Wd']; rfl) ?_
                  refine AAny.done (by kernel_rfl) ?_
                  refine hK12 _ ?_
                  refine AWP.ret ?_
                  exact hK _ _ _ _ _ trivial ((Fin.mk (r := .tup [.agg [.int .u64 (P1).x.a, .int .u64 (P1).x.b, .int .u64 (P1).x.c, .int .u64 (P1).x.d, .int .u64 (P1).y.a, .int .u64 (P1).y.b, .int .u64 (P1).y.c, .int .u64 (P1).y.d, .int .u64 (P1).w.a, .int .u64 (P1).w.b, .int .u64 (P1).w.c, .int .u64 (P1).w.d], .agg [.int .u64 (P2).x.a, .int .u64 (P2).x.b, .int .u64 (P2).x.c, .int .u64 (P2).x.d, .int .u64 (P2).y.a, .int .u64 (P2).y.b, .int .u64 (P2).y.c, .int .u64 (P2).y.d, .int .u64 (P2).w.a, .int .u64 (P2).w.b, .int .u64 (P2).w.c, .int .u64 (P2).w.d], .agg [.int .u64 (P3).x.a, .int .u64 (P3).x.b, .int .u64 (P3).x.c, .int .u64 (P3).x.d, .int .u64 (P3).y.a, .int .u64 (P3).y.b, .int .u64 (P3).y.c, .int .u64 (P3).y.d, .int .u64 (P3).w.a, .int .u64 (P3).w.b, .int .u64 (P3).w.c, .int .u64 (P3).w.d]]) (by simp (disch := omega) [aRes, aResL, aRes1, idf_Wd'])).restr (fun i => decide (i < nx))) (⟨⟨P1, P2, P3, P1o, P2o, P3o, rfl⟩, by simp (disch := first | omega | (simp; done) | (simp; omega)) [hrestr_in, hrestr_out, hrestr_all hd, hupd_same], by first | omega | (simp at *; omega)⟩)
        · simp only [List.getElem?_toArray, List.getElem?_cons_zero, List.getElem?_cons_succ, Option.some.injEq] at ho
          subst ho
          refine AOPS.old fun hold3 => ?_
          refine AOPS.acall (point_ac l p4 id _ _ dl hl hp4 (by simp (disch := omega) [hH]) hold3) rfl rfl rfl hb45 (by simp (disch := first | omega | (simp only [List.length_append, List.length_cons, List.length_nil, List.length_set, List.length_replicate, Int.toNat_natCast]; omega)) [idf_Wd', idf_Wd']) (by simp (disch := first | omega | (simp only [List.length_append, List.length_cons, List.length_nil, List.length_set, List.length_replicate, Int.toNat_natCast]; omega))) (by simp) ?_
          rintro _ _ nx5 ⟨⟨P3, rfl, P3o⟩, ⟨p5, hp5, rfl⟩, hnx5⟩
          try simp only [] at hnx5
          clear hold3
          simp only [puts_some, updo]
          refine AOPS.nil ?_
          refine AAny.step [1, 4] (by kernel_rfl) (by simp) ?_
          intro i hi o ho
          simp only [List.mem_cons, List.not_mem_nil, or_false] at hi
          rcases hi with rfl | rfl
          · simp only [List.getElem?_toArray, List.getElem?_cons_zero, List.getElem?_cons_succ, Option.some.injEq] at ho
            subst ho
            refine AOPS.all (by simp (disch := first | omega | (simp only [List.length_append, List.length_cons, List.length_nil, List.length_set, List.length_replicate, Int.toNat_natCast]; omega)) [idf_Wd']; rfl) ?_
            refine AAny.step [4] (by kernel_rfl) (by simp) ?_
            intro i hi o ho
            simp only [List.mem_cons, List.not_mem_nil, or_false] at hi
            subst hi
            · simp only [List.getElem?_toArray, List.getElem?_cons_zero, List.getElem?_cons_succ, Option.some.injEq] at ho
              subst ho
              refine AOPS.all (by simp (disch := first | omega | (simp only [List.length_append, List.length_cons, List.length_nil, List.length_set, List.length_replicate, Int.toNat_natCast]; omega)) [idf_Wd']; rfl) ?_
              refine AAny.step [5] (by kernel_rfl) (by simp) ?_
              intro i hi o ho
              simp only [List.mem_cons, List.not_mem_nil, or_false] at hi
              subst hi
              · simp only [List.getElem?_toArray, List.getElem?_cons_zero, List.getElem?_cons_succ, Option.some.injEq] at ho
                subst ho
                refine AOPS.all (by simp (disch := first | omega | (simp only [List.length_append, List.length_cons, List.length_nil, List.length_set, List.length_replicate, Int.toNat_natCast]; omega)) [idf_Wd']; rfl) ?_
                refine AAny.step [6] (by kernel_rfl) (by simp) ?_
                intro i hi o ho
                simp only [List.mem_cons, List.not_mem_nil, or_false] at hi
                subst hi
                · simp only [List.getElem?_toArray, List.getElem?_cons_zero, List.getElem?_cons_succ, Option.some.injEq] at ho
                  subst ho
                  refine AOPS.all (by simp (disch := first | omega | (simp only [List.length_append, List.length_cons, List.length_nil, List.length_set, List.length_replicate, Int.toNat_natCast]; omega)) [idf_Wd']; rfl) ?_
                  refine AAny.done (by kernel_rfl) ?_
                  refine hK12 _ ?_
                  refine AWP.ret ?_
                  exact hK _ _ _ _ _ trivial ((Fin.mk (r := .tup [.agg [.int .u64 (P1).x.a, .int .u64 (P1).x.b, .int .u64 (P1).x.c, .int .u64 (P1).x.d, .int .u64 (P1).y.a, .int .u64 (P1).y.b, .int .u64 (P1).y.c, .int .u64 (P1).y.d, .int .u64 (P1).w.a, .int .u64 (P1).w.b, .int .u64 (P1).w.c, .int .u64 (P1).w.d], .agg [.int .u64 (P2).x.a, .int .u64 (P2).x.b, .int .u64 (P2).x.c, .int .u64 (P2).x.d, .int .u64 (P2).y.a, .int .u64 (P2).y.b, .int .u64 (P2).y.c, .int .u64 (P2).y.d, .int .u64 (P2).w.a, .int .u64 (P2).w.b, .int .u64 (P2).w.c, .int .u64 (P2).w.d], .agg [.int .u64 (P3).x.a, .int .u64 (P3).x.b, .int .u64 (P3).x.c, .int .u64 (P3).x.d, .int .u64 (P3).y.a, .int .u64 (P3).y.b, .int .u64 (P3).y.c, .int .u64 (P3).y.d, .int .u64 (P3).w.a, .int .u64 (P3).w.b, .int .u64 (P3).w.c, .int .u64 (P3).w.d]]) (by simp (disch := omega) [aRes, aResL, aRes1, idf_Wd'])).restr (fun i => decide (i < nx))) (⟨⟨P1, P2, P3, P1o, P2o, P3o, rfl⟩, by simp (disch := first | omega | (simp; done) | (simp; omega)) [hrestr_in, hrestr_out, hrestr_all hd, hupd_same], by first | omega | (simp at *; omega)⟩)
          · simp only [List.getElem?_toArray, List.getElem?_cons_zero, List.getElem?_cons_succ, Option.some.injEq] at ho
            subst ho
            refine AOPS.all (by simp (disch := first | omega | (simp only [List.length_append, List.length_cons, List.length_nil, List.length_set, List.length_replicate, Int.toNat_natCast]; omega)) [idf_Wd']; rfl) ?_
            refine AAny.step [1] (by kernel_rfl) (by simp) ?_
            intro i hi o ho
            simp only [List.mem_cons, List.not_mem_nil, or_false] at hi
            subst hi
            · simp only [List.getElem?_toArray, List.getElem?_cons_zero, List.getElem?_cons_succ, Option.some.injEq] at ho
              subst ho
              refine AOPS.all (by simp (disch := first | omega | (simp only [List.length_append, List.length_cons, List.length_nil, List.length_set, List.length_replicate, Int.toNat_natCast]; omega)) [idf_Wd']; rfl) ?_
              refine AAny.step [5] (by kernel_rfl) (by simp) ?_
              intro i hi o ho
              simp only [List.mem_cons, List.not_mem_nil, or_false] at hi
              subst hi
              · simp only [List.getElem?_toArray, List.getElem?_cons_zero, List.getElem?_cons_succ, Option.some.injEq] at ho
                subst ho
                refine AOPS.all (by simp (disch := first | omega | (simp only [List.length_append, List.length_cons, List.length_nil, List.length_set, List.length_replicate, Int.toNat_natCast]; omega)) [idf_Wd']; rfl) ?_
                refine AAny.step [6] (by kernel_rfl) (by simp) ?_
                intro i hi o ho
                simp only [List.mem_cons, List.not_mem_nil, or_false] at hi
                subst hi
                · simp only [List.getElem?_toArray, List.getElem?_cons_zero, List.getElem?_cons_succ, Option.some.injEq] at ho
                  subst ho
                  refine AOPS.all (by simp (disch := first | omega | (simp only [List.length_append, List.length_cons, List.length_nil, List.length_set, List.length_replicate, Int.toNat_natCast]; omega)) [idf_Wd']; rfl) ?_
                  refine AAny.done (by kernel_rfl) ?_
                  refine hK12 _ ?_
                  refine AWP.ret ?_
                  exact hK _ _ _ _ _ trivial ((Fin.mk (r := .tup [.agg [.int .u64 (P1).x.a, .int .u64 (P1).x.b, .int .u64 (P1).x.c, .int .u64 (P1).x.d, .int .u64 (P1).y.a, .int .u64 (P1).y.b, .int .u64 (P1).y.c, .int .u64 (P1).y.d, .int .u64 (P1).w.a, .int .u64 (P1).w.b, .int .u64 (P1).w.c, .int .u64 (P1).w.d], .agg [.int .u64 (P2).x.a, .int .u64 (P2).x.b, .int .u64 (P2).x.c, .int .u64 (P2).x.d, .int .u64 (P2).y.a, .int .u64 (P2).y.b, .int .u64 (P2).y.c, .int .u64 (P2).y.d, .int .u64 (P2).w.a, .int .u64 (P2).w.b, .int .u64 (P2).w.c, .int .u64 (P2).w.d], .agg [.int .u64 (P3).x.a, .int .u64 (P3).x.b, .int .u64 (P3).x.c, .int .u64 (P3).x.d, .int .u64 (P3).y.a, .int .u64 (P3).y.b, .int .u64 (P3).y.c, .int .u64 (P3).y.d, .int .u64 (P3).w.a, .int .u64 (P3).w.b, .int .u64 (P3).w.c, .int .u64 (P3).w.d]]) (by simp (disch := omega) [aRes, aResL, aRes1, idf_Wd'])).restr (fun i => decide (i < nx))) (⟨⟨P1, P2, P3, P1o, P2o, P3o, rfl⟩, by simp (disch := first | omega | (simp; done) | (simp; omega)) [hrestr_in, hrestr_out, hrestr_all hd, hupd_same], by first | omega | (simp at *; omega)⟩)
    · simp only [List.getElem?_toArray, List.getElem?_cons_zero, List.getElem?_cons_succ, Option.some.injEq] at ho
      subst ho
      refine AOPS.all (by simp (disch := first | omega | (simp only [List.length_append, List.length_cons, List.length_nil, List.length_set, List.length_replicate, Int.toNat_natCast]; omega)) [idf_Wd']; rfl) ?_
      refine AAny.step [0, 2] (by kernel_rfl) (by simp) ?_
      intro i hi o ho
      simp only [List.mem_cons, List.not_mem_nil, or_false] at hi
      rcases hi with rfl | rfl
      · simp only [List.getElem?_toArray, List.getElem?_cons_zero, List.getElem?_cons_succ, Option.some.injEq] at ho
        subst ho
        refine AOPS.all (by simp (disch := first | omega | (simp only [List.length_append, List.length_cons, List.length_nil, List.length_set, List.length_replicate, Int.toNat_natCast]; omega)) [idf_Wd']; rfl) ?_
        refine AAny.step [2] (by kernel_rfl) (by simp) ?_
        intro i hi o ho
        simp only [List.mem_cons, List.not_mem_nil, or_false] at hi
        subst hi
        · simp only [List.getElem?_toArray, List.getElem?_cons_zero, List.getElem?_cons_succ, Option.some.injEq] at ho
          subst ho
          refine AOPS.all (by simp (disch := first | omega | (simp only [List.length_append, List.length_cons, List.length_nil, List.length_set, List.length_replicate, Int.toNat_natCast]; omega)) [idf_Wd']; rfl) ?_
          refine AAny.step [3] (by kernel_rfl) (by simp) ?_
          intro i hi o ho
          simp only [List.mem_cons, List.not_mem_nil, or_false] at hi
          subst hi
          · simp only [List.getElem?_toArray, List.getElem?_cons_zero, List.getElem?_cons_succ, Option.some.injEq] at ho
            subst ho
            refine AOPS.old fun hold3 => ?_
            refine AOPS.acall (point_ac l p4 id _ _ dl hl hp4 (by simp (disch := omega) [hH]) hold3) rfl rfl rfl hb45 (by simp (disch := first | omega | (simp only [List.length_append, List.length_cons, List.length_nil, List.length_set, List.length_replicate, Int.toNat_natCast]; omega)) [idf_Wd', idf_Wd']) (by simp (disch := first | omega | (simp only [List.length_append, List.length_cons, List.length_nil, List.length_set, List.length_replicate, Int.toNat_natCast]; omega))) (by simp) ?_
            rintro _ _ nx5 ⟨⟨P3, rfl, P3o⟩, ⟨p5, hp5, rfl⟩, hnx5⟩
            try simp only [] at hnx5
            clear hold3
            simp only [puts_some, updo]
            refine AOPS.nil ?_
            refine AAny.step [4] (by kernel_rfl) (by simp) ?_
            intro i hi o ho
            simp only [List.mem_cons, List.not_mem_nil, or_false] at hi
            subst hi
            · simp only [List.getElem?_toArray, List.getElem?_cons_zero, List.getElem?_cons_succ, Option.some.injEq] at ho
              subst ho
              refine AOPS.all (by simp (disch := first | omega | (simp only [List.length_append, List.length_cons, List.length_nil, List.length_set, List.length_replicate, Int.toNat_natCast]; omega)) [idf_Wd']; rfl) ?_
              refine AAny.step [5] (by kernel_rfl) (by simp) ?_
              intro i hi o ho
              simp only [List.mem_cons, List.not_mem_nil, or_false] at hi
              subst hi
              · simp only [List.getElem?_toArray, List.getElem?_cons_zero, List.getElem?_cons_succ, Option.some.injEq] at ho
                subst ho
                refine AOPS.all (by simp (disch := first | omega | (simp only [List.length_append, List.length_cons, List.length_nil, List.length_set, List.length_replicate, Int.toNat_natCast]; omega)) [idf_Wd']; rfl) ?_
                refine AAny.step [6] (by kernel_rfl) (by simp) ?_
                intro i hi o ho
                simp only [List.mem_cons, List.not_mem_nil, or_false] at hi
                subst hi
                · simp only [List.getElem?_toArray, List.getElem?_cons_zero, List.getElem?_cons_succ, Option.some.injEq] at ho
                  subst ho
                  refine AOPS.all (by simp (disch := first | omega | (simp only [List.length_append, List.length_cons, List.length_nil, List.length_set, List.length_replicate, Int.toNat_natCast]; omega)) [idf_Wd']; rfl) ?_
                  refine AAny.done (by kernel_rfl) ?_
                  refine hK12 _ ?_
                  refine AWP.ret ?_
                  exact hK _ _ _ _ _ trivial ((Fin.mk (r := .tup [.agg [.int .u64 (P1).x.a, .int .u64 (P1).x.b, .int .u64 (P1).x.c, .int .u64 (P1).x.d, .int .u64 (P1).y.a, .int .u64 (P1).y.b, .int .u64 (P1).y.c, .int .u64 (P1).y.d, .int .u64 (P1).w.a, .int .u64 (P1).w.b, .int .u64 (P1).w.c, .int .u64 (P1).w.d], .agg [.int .u64 (P2).x.a, .int .u64 (P2).x.b, .int .u64 (P2).x.c, .int .u64 (P2).x.d, .int .u64 (P2).y.a, .int .u64 (P2).y.b, .int .u64 (P2).y.c, .int .u64 (P2).y.d, .int .u64 (P2).w.a, .int .u64 (P2).w.b, .int .u64 (P2).w.c, .int .u64 (P2).w.d], .agg [.int .u64 (P3).x.a, .int .u64 (P3).x.b, .int .u64 (P3).x.c, .int .u64 (P3).x.d, .int .u64 (P3).y.a, .int .u64 (P3).y.b, .int .u64 (P3).y.c, .int .u64 (P3).y.d, .int .u64 (P3).w.a, .int .u64 (P3).w.b, .int .u64 (P3).w.c, .int .u64 (P3).w.d]]) (by simp (disch := omega) [aRes, aResL, aRes1, idf_Wd'])).restr (fun i => decide (i < nx))) (⟨⟨P1, P2, P3, P1o, P2o, P3o, rfl⟩, by simp (disch := first | omega | (simp; done) | (simp; omega)) [hrestr_in, hrestr_out, hrestr_all hd, hupd_same], by first | omega | (simp at *; omega)⟩)
      · simp only [List.getElem?_toArray, List.getElem?_cons_zero, List.getElem?_cons_succ, Option.some.injEq] at ho
        subst ho
        refine AOPS.all (by simp (disch := first | omega | (simp only [List.length_append, List.length_cons, List.length_nil, List.length_set, List.length_replicate, Int.toNat_natCast]; omega)) [idf_Wd']; rfl) ?_
        refine AAny.step [0, 3] (by kernel_rfl) (by simp) ?_
        intro i hi o ho
        simp only [List.mem_cons, List.not_mem_nil, or_false] at hi
        rcases hi with rfl | rfl
        · simp only [List.getElem?_toArray, List.getElem?_cons_zero, List.getElem?_cons_succ, Option.some.injEq] at ho
          subst ho
          refine AOPS.all (by simp (disch := first | omega | (simp only [List.length_append, List.length_cons, List.length_nil, List.length_set, List.length_replicate, Int.toNat_natCast]; omega)) [idf_Wd']; rfl) ?_
          refine AAny.step [3] (by kernel_rfl) (by simp) ?_
          intro i hi o ho
          simp only [List.mem_cons, List.not_mem_nil, or_false] at hi
          subst hi
          · simp only [List.getElem?_toArray, List.getElem?_cons_zero, List.getElem?_cons_succ, Option.some.injEq] at ho
            subst ho
            refine AOPS.old fun hold3 => ?_
            refine AOPS.acall (point_ac l p4 id _ _ dl hl hp4 (by simp (disch := omega) [hH]) hold3) rfl rfl rfl hb45 (by simp (disch := first | omega | (simp only [List.length_append, List.length_cons, List.length_nil, List.length_set, List.length_replicate, Int.toNat_natCast]; omega)) [idf_Wd', idf_Wd']) (by simp (disch := first | omega | (simp only [List.length_append, List.length_cons, List.length_nil, List.length_set, List.length_replicate, Int.toNat_natCast]; omega))) (by simp) ?_
            rintro _ _ nx5 ⟨⟨P3, rfl, P3o⟩, ⟨p5, hp5, rfl⟩, hnx5⟩
            try simp only [] at hnx5
            clear hold3
            simp only [puts_some, updo]
            refine AOPS.nil ?_
            refine AAny.step [4] (by kernel_rfl) (by simp) ?_
            intro i hi o ho
            simp only [List.mem_cons, List.not_mem_nil, or_false] at hi
            subst hi
            · simp only [List.getElem?_toArray, List.getElem?_cons_zero, List.getElem?_cons_succ, Option.some.injEq] at ho
              subst ho
              refine AOPS.all (by simp (disch := first | omega | (simp only [List.length_append, List.length_cons, List.length_nil, List.length_set, List.length_replicate, Int.toNat_natCast]; omega)) [idf_Wd']; rfl) ?_
              refine AAny.step [5] (by kernel_rfl) (by simp) ?_
              intro i hi o ho
              simp only [List.mem_cons, List.not_mem_nil, or_false] at hi
              subst hi
              · simp only [List.getElem?_toArray, List.getElem?_cons_zero, List.getElem?_cons_succ, Option.some.injEq] at ho
                subst ho
                refine AOPS.all (by simp (disch := first | omega | (simp only [List.length_append, List.length_cons, List.length_nil, List.length_set, List.length_replicate, Int.toNat_natCast]; omega)) [idf_Wd']; rfl) ?_
                refine AAny.step [6] (by kernel_rfl) (by simp) ?_
                intro i hi o ho
                simp only [List.mem_cons, List.not_mem_nil, or_false] at hi
                subst hi
                · simp only [List.getElem?_toArray, List.getElem?_cons_zero, List.getElem?_cons_succ, Option.some.injEq] at ho
                  subst ho
                  refine AOPS.all (by simp (disch := first | omega | (simp only [List.length_append, List.length_cons, List.length_nil, List.length_set, List.length_replicate, Int.toNat_natCast]; omega)) [idf_Wd']; rfl) ?_
                  refine AAny.done (by kernel_rfl) ?_
                  refine hK12 _ ?_
                  refine AWP.ret ?_
                  exact hK _ _ _ _ _ trivial ((Fin.mk (r := .tup [.agg [.int .u64 (P1).x.a, .int .u64 (P1).x.b, .int .u64 (P1).x.c, .int .u64 (P1).x.d, .int .u64 (P1).y.a, .int .u64 (P1).y.b, .int .u64 (P1).y.c, .int .u64 (P1).y.d, .int .u64 (P1).w.a, .int .u64 (P1).w.b, .int .u64 (P1).w.c, .int .u64 (P1).w.d], .agg [.int .u64 (P2).x.a, .int .u64 (P2).x.b, .int .u64 (P2).x.c, .int .u64 (P2).x.d, .int .u64 (P2).y.a, .int .u64 (P2).y.b, .int .u64 (P2).y.c, .int .u64 (P2).y.d, .int .u64 (P2).w.a, .int .u64 (P2).w.b, .int .u64 (P2).w.c, .int .u64 (P2).w.d], .agg [.int .u64 (P3).x.a, .int .u64 (P3).x.b, .int .u64 (P3).x.c, .int .u64 (P3).x.d, .int .u64 (P3).y.a, .int .u64 (P3).y.b, .int .u64 (P3).y.c, .int .u64 (P3).y.d, .int .u64 (P3).w.a, .int .u64 (P3).w.b, .int .u64 (P3).w.c, .int .u64 (P3).w.d]]) (by simp (disch := omega) [aRes, aResL, aRes1, idf_Wd'])).restr (fun i => decide (i < nx))) (⟨⟨P1, P2, P3, P1o, P2o, P3o, rfl⟩, by simp (disch := first | omega | (simp; done) | (simp; omega)) [hrestr_in, hrestr_out, hrestr_all hd, hupd_same], by first | omega | (simp at *; omega)⟩)
        · simp only [List.getElem?_toArray, List.getElem?_cons_zero, List.getElem?_cons_succ, Option.some.injEq] at ho
          subst ho
          refine AOPS.old fun hold3 => ?_
          refine AOPS.acall (point_ac l p4 id _ _ dl hl hp4 (by simp (disch := omega) [hH]) hold3) rfl rfl rfl hb45 (by simp (disch := first | omega | (simp only [List.length_append, List.length_cons, List.length_nil, List.length_set, List.length_replicate, Int.toNat_natCast]; omega)) [idf_Wd', idf_Wd']) (by simp (disch := first | omega | (simp only [List.length_append, List.length_cons, List.length_nil, List.length_set, List.length_replicate, Int.toNat_natCast]; omega))) (by simp) ?_
          rintro _ _ nx5 ⟨⟨P3, rfl, P3o⟩, ⟨p5, hp5, rfl⟩, hnx5⟩
          try simp only [] at hnx5
          clear hold3
          simp only [puts_some, updo]
          refine AOPS.nil ?_
          refine AAny.step [0] (by kernel_rfl) (by simp) ?_
          intro i hi o ho
          simp only [List.mem_cons, List.not_mem_nil, or_false] at hi
          subst hi
          · simp only [List.getElem?_toArray, List.getElem?_cons_zero, List.getElem?_cons_succ, Option.some.injEq] at ho
            subst ho
            refine AOPS.all (by simp (disch := first | omega | (simp only [List.length_append, List.length_cons, List.length_nil, List.length_set, List.length_replicate, Int.toNat_natCast]; omega)) [idf_Wd']; rfl) ?_
            refine AAny.step [4] (by kernel_rfl) (by simp) ?_
            intro i hi o ho
            simp only [List.mem_cons, List.not_mem_nil, or_false] at hi
            subst hi
            · simp only [List.getElem?_toArray, List.getElem?_cons_zero, List.getElem?_cons_succ, Option.some.injEq] at ho
              subst ho
              refine AOPS.all (by simp (disch := first | omega | (simp only [List.length_append, List.length_cons, List.length_nil, List.length_set, List.length_replicate, Int.toNat_natCast]; omega)) [idf_Wd']; rfl) ?_
              refine AAny.step [5] (by kernel_rfl) (by simp) ?_
              intro i hi o ho
              simp only [List.mem_cons, List.not_mem_nil, or_false] at hi
              subst hi
              · simp only [List.getElem?_toArray, List.getElem?_cons_zero, List.getElem?_cons_succ, Option.some.injEq] at ho
                subst ho
                refine AOPS.all (by simp (disch := first | omega | (simp only [List.length_append, List.length_cons, List.length_nil, List.length_set, List.length_replicate, Int.toNat_natCast]; omega)) [idf_Wd']; rfl) ?_
                refine AAny.step [6] (by kernel_rfl) (by simp) ?_
                intro i hi o ho
                simp only [List.mem_cons, List.not_mem_nil, or_false] at hi
                subst hi
                · simp only [List.getElem?_toArray, List.getElem?_cons_zero, List.getElem?_cons_succ, Option.some.injEq] at ho
                  subst ho
                  refine AOPS.all (by simp (disch := first | omega | (simp only [List.length_append, List.length_cons, List.length_nil, List.length_set, List.length_replicate, Int.toNat_natCast]; omega)) [idf_Wd']; rfl) ?_
                  refine AAny.done (by kernel_rfl) ?_
                  refine hK12 _ ?_
                  refine AWP.ret ?_
                  exact hK _ _ _ _ _ trivial ((Fin.mk (r := .tup [.agg [.int .u64 (P1).x.a, .int .u64 (P1).x.b, .int .u64 (P1).x.c, .int .u64 (P1).x.d, .int .u64 (P1).y.a, .int .u64 (P1).y.b, .int .u64 (P1).y.c, .int .u64 (P1).y.d, .int .u64 (P1).w.a, .int .u64 (P1).w.b, .int .u64 (P1).w.c, .int .u64 (P1).w.d], .agg [.int .u64 (P2).x.a, .int .u64 (P2).x.b, .int .u64 (P2).x.c, .int .u64 (P2).x.d, .int .u64 (P2).y.a, .int .u64 (P2).y.b, .int .u64 (P2).y.c, .int .u64 (P2).y.d, .int .u64 (P2).w.a, .int .u64 (P2).w.b, .int .u64 (P2).w.c, .int .u64 (P2).w.d], .agg [.int .u64 (P3).x.a, .int .u64 (P3).x.b, .int .u64 (P3).x.c, .int .u64 (P3).x.d, .int .u64 (P3).y.a, .int .u64 (P3).y.b, .int .u64 (P3).y.c, .int .u64 (P3).y.d, .int .u64 (P3).w.a, .int .u64 (P3).w.b, .int .u64 (P3).w.c, .int .u64 (P3).w.d]]) (by simp (disch := omega) [aRes, aResL, aRes1, idf_Wd'])).restr (fun i => decide (i < nx))) (⟨⟨P1, P2, P3, P1o, P2o, P3o, rfl⟩, by simp (disch := first | omega | (simp; done) | (simp; omega)) [hrestr_in, hrestr_out, hrestr_all hd, hupd_same], by first | omega | (simp at *; omega)⟩)
    · simp only [List.getElem?_toArray, List.getElem?_cons_zero, List.getElem?_cons_succ, Option.some.injEq] at ho
      subst ho
      refine AOPS.all (by simp (disch := first | omega | (simp only [List.length_append, List.length_cons, List.length_nil, List.length_set, List.length_replicate, Int.toNat_natCast]; omega)) [idf_Wd']; rfl) ?_
      refine AAny.step [0, 1, 3] (by kernel_rfl) (by simp) ?_
      intro i hi o ho
      simp only [List.mem_cons, List.not_mem_nil, or_false] at hi
      rcases hi with rfl | rfl | rfl
      · simp only [List.getElem?_toArray, List.getElem?_cons_zero, List.getElem?_cons_succ, Option.some.injEq] at ho
        subst ho
        refine AOPS.all (by simp (disch := first | omega | (simp only [List.length_append, List.length_cons, List.length_nil, List.length_set, List.length_replicate, Int.toNat_natCast]; omega)) [idf_Wd']; rfl) ?_
        refine AAny.step [1, 3] (by kernel_rfl) (by simp) ?_
        intro i hi o ho
        simp only [List.mem_cons, List.not_mem_nil, or_false] at hi
        rcases hi with rfl | rfl
        · simp only [List.getElem?_toArray, List.getElem?_cons_zero, List.getElem?_cons_succ, Option.some.injEq] at ho
          subst ho
          refine AOPS.all (by simp (disch := first | omega | (simp only [List.length_append, List.length_cons, List.length_nil, List.length_set, List.length_replicate, Int.toNat_natCast]; omega)) [idf_Wd']; rfl) ?_
          refine AAny.step [3] (by kernel_rfl) (by simp) ?_
          intro i hi o ho
          simp only [List.mem_cons, List.not_mem_nil, or_false] at hi
          subst hi
          · simp only [List.getElem?_toArray, List.getElem?_cons_zero, List.getElem?_cons_succ, Option.some.injEq] at ho
            subst ho
            refine AOPS.old fun hold3 => ?_
            refine AOPS.acall (point_ac l p4 id _ _ dl hl hp4 (by simp (disch := omega) [hH]) hold3) rfl rfl rfl hb45 (by simp (disch := first | omega | (simp only [List.length_append, List.length_cons, List.length_nil, List.length_set, List.length_replicate, Int.toNat_natCast]; omega)) [idf_Wd', idf_Wd']) (by simp (disch := first | omega | (simp only [List.length_append, List.length_cons, List.length_nil, List.length_set, List.length_replicate, Int.toNat_natCast]; omega))) (by simp) ?_
            rintro _ _ nx5 ⟨⟨P3, rfl, P3o⟩, ⟨p5, hp5, rfl⟩, hnx5⟩
            try simp only [] at hnx5
            clear hold3
            simp only [puts_some, updo]
            refine AOPS.nil ?_
            refine AAny.step [4] (by kernel_rfl) (by simp) ?_
            intro i hi o ho
            simp only [List.mem_cons, List.not_mem_nil, or_false] at hi
            subst hi
            · simp only [List.getElem?_toArray, List.getElem?_cons_zero, List.getElem?_cons_succ, Option.some.injEq] at ho
              subst ho
              refine AOPS.all (by simp (disch := first | omega | (simp only [List.length_append, List.length_cons, List.length_nil, List.length_set, List.length_replicate, Int.toNat_natCast]; omega)) [idf_Wd']; rfl) ?_
              refine AAny.step [5] (by kernel_rfl) (by simp) ?_
              intro i hi o ho
              simp only [List.mem_cons, List.not_mem_nil, or_false] at hi
              subst hi
              · simp only [List.getElem?_toArray, List.getElem?_cons_zero, List.getElem?_cons_succ, Option.some.injEq] at ho
                subst ho
                refine AOPS.all (by simp (disch := first | omega | (simp only [List.length_append, List.length_cons, List.length_nil, List.length_set, List.length_replicate, Int.toNat_natCast]; omega)) [idf_Wd']; rfl) ?_
                refine AAny.step [6] (by kernel_rfl) (by simp) ?_
                intro i hi o ho
                simp only [List.mem_cons, List.not_mem_nil, or_false] at hi
                subst hi
                · simp only [List.getElem?_toArray, List.getElem?_cons_zero, List.getElem?_cons_succ, Option.some.injEq] at ho
                  subst ho
                  refine AOPS.all (by simp (disch := first | omega | (simp only [List.length_append, List.length_cons, List.length_nil, List.length_set, List.length_replicate, Int.toNat_natCast]; omega)) [idf_Wd']; rfl) ?_
                  refine AAny.done (by kernel_rfl) ?_
                  refine hK12 _ ?_
                  refine AWP.ret ?_
                  exact hK _ _ _ _ _ trivial ((Fin.mk (r := .tup [.agg [.int .u64 (P1).x.a, .int .u64 (P1).x.b, .int .u64 (P1).x.c, .int .u64 (P1).x.d, .int .u64 (P1).y.a, .int .u64 (P1).y.b, .int .u64 (P1).y.c, .int .u64 (P1).y.d, .int .u64 (P1).w.a, .int .u64 (P1).w.b, .int .u64 (P1).w.c, .int .u64 (P1).w.d], .agg [.int .u64 (P2).x.a, .int .u64 (P2).x.b, .int .u64 (P2).x.c, .int .u64 (P2).x.d, .int .u64 (P2).y.a, .int .u64 (P2).y.b, .int .u64 (P2).y.c, .int .u64 (P2).y.d, .int .u64 (P2).w.a, .int .u64 (P2).w.b, .int .u64 (P2).w.c, .int .u64 (P2).w.d], .agg [.int .u64 (P3).x.a, .int .u64 (P3).x.b, .int .u64 (P3).x.c, .int .u64 (P3).x.d, .int .u64 (P3).y.a, .int .u64 (P3).y.b, .int .u64 (P3).y.c, .int .u64 (P3).y.d, .int .u64 (P3).w.a, .int .u64 (P3).w.b, .int .u64 (P3).w.c, .int .u64 (P3).w.d]]) (by simp (disch := omega) [aRes, aResL, aRes1, idf_Wd'])).restr (fun i => decide (i < nx))) (⟨⟨P1, P2, P3, P1o, P2o, P3o, rfl⟩, by simp (disch := first | omega | (simp; done) | (simp; omega)) [hrestr_in, hrestr_out, hrestr_all hd, hupd_same], by first | omega | (simp at *; omega)⟩)
        · simp only [List.getElem?_toArray, List.getElem?_cons_zero, List.getElem?_cons_succ, Option.some.injEq] at ho
          subst ho
          refine AOPS.old fun hold3 => ?_
          refine AOPS.acall (point_ac l p4 id _ _ dl hl hp4 (by simp (disch := omega) [hH]) hold3) rfl rfl rfl hb45 (by simp (disch := first | omega | (simp only [List.length_append, List.length_cons, List.length_nil, List.length_set, List.length_replicate, Int.toNat_natCast]; omega)) [idf_Wd', idf_Wd']) (by simp (disch := first | omega | (simp only [List.length_append, List.length_cons, List.length_nil, List.length_set, List.length_replicate, Int.toNat_natCast]; omega))) (by simp) ?_
          rintro _ _ nx5 ⟨⟨P3, rfl, P3o⟩, ⟨p5, hp5, rfl⟩, hnx5⟩
          try simp only [] at hnx5
          clear hold3
          simp only [puts_some, updo]
          refine AOPS.nil ?_
          refine AAny.step [1, 4] (by kernel_rfl) (by simp) ?_
          intro i hi o ho
          simp only [List.mem_cons, List.not_mem_nil, or_false] at hi
          rcases hi with rfl | rfl
          · simp only [List.getElem?_toArray, List.getElem?_cons_zero, List.getElem?_cons_succ, Option.some.injEq] at ho
            subst ho
            refine AOPS.all (by simp (disch := first | omega | (simp only [List.length_append, List.length_cons, List.length_nil, List.length_set, List.length_replicate, Int.toNat_natCast]; omega)) [idf_Wd']; rfl) ?_
            refine AAny.step [4] (by kernel_rfl) (by simp) ?_
            intro i hi o ho
            simp only [List.mem_cons, List.not_mem_nil, or_false] at hi
            subst hi
            · simp only [List.getElem?_toArray, List.getElem?_cons_zero, List.getElem?_cons_succ, Option.some.injEq] at ho
              subst ho
              refine AOPS.all (by simp (disch := first | omega | (simp only [List.length_append, List.length_cons, List.length_nil, List.length_set, List.length_replicate, Int.toNat_natCast]; omega)) [idf_Wd']; rfl) ?_
              refine AAny.step [5] (by kernel_rfl) (by simp) ?_
              intro i hi o ho
              simp only [List.mem_cons, List.not_mem_nil, or_false] at hi
              subst hi
              · simp only [List.getElem?_toArray, List.getElem?_cons_zero, List.getElem?_cons_succ, Option.some.injEq] at ho
                subst ho
                refine AOPS.all (by simp (disch := first | omega | (simp only [List.length_append, List.length_cons, List.length_nil, List.length_set, List.length_replicate, Int.toNat_natCast]; omega)) [idf_Wd']; rfl) ?_
                refine AAny.step [6] (by kernel_rfl) (by simp) ?_
                intro i hi o ho
                simp only [List.mem_cons, List.not_mem_nil, or_false] at hi
                subst hi
                · simp only [List.getElem?_toArray, List.getElem?_cons_zero, List.getElem?_cons_succ, Option.some.injEq] at ho
                  subst ho
                  refine AOPS.all (by simp (disch := first | omega | (simp only [List.length_append, List.length_cons, List.length_nil, List.length_set, List.length_replicate, Int.toNat_natCast]; omega)) [idf_Wd']; rfl) ?_
                  refine AAny.done (by kernel_rfl) ?_
                  refine hK12 _ ?_
                  refine AWP.ret ?_
                  exact hK _ _ _ _ _ trivial ((Fin.mk (r := .tup [.agg [.int .u64 (P1).x.a, .int .u64 (P1).x.b, .int .u64 (P1).x.c, .int .u64 (P1).x.d, .int .u64 (P1).y.a, .int .u64 (P1).y.b, .int .u64 (P1).y.c, .int .u64 (P1).y.d, .int .u64 (P1).w.a, .int .u64 (P1).w.b, .int .u64 (P1).w.c, .int .u64 (P1).w.d], .agg [.int .u64 (P2).x.a, .int .u64 (P2).x.b, .int .u64 (P2).x.c, .int .u64 (P2).x.d, .int .u64 (P2).y.a, .int .u64 (P2).y.b, .int .u64 (P2).y.c, .int .u64 (P2).y.d, .int .u64 (P2).w.a, .int .u64 (P2).w.b, .int .u64 (P2).w.c, .int .u64 (P2).w.d], .agg [.int .u64 (P3).x.a, .int .u64 (P3).x.b, .int .u64 (P3).x.c, .int .u64 (P3).x.d, .int .u64 (P3).y.a, .int .u64 (P3).y.b, .int .u64 (P3).y.c, .int .u64 (P3).y.d, .int .u64 (P3).w.a, .int .u64 (P3).w.b, .int .u64 (P3).w.c, .int .u64 (P3).w.d]]) (by simp (disch := omega) [aRes, aResL, aRes1, idf_Wd'])).restr (fun i => decide (i < nx))) (⟨⟨P1, P2, P3, P1o, P2o, P3o, rfl⟩, by simp (disch := first | omega | (simp; done) | (simp; omega)) [hrestr_in, hrestr_out, hrestr_all hd, hupd_same], by first | omega | (simp at *; omega)⟩)
          · simp only [List.getElem?_toArray, List.getElem?_cons_zero, List.getElem?_cons_succ, Option.some.injEq] at ho
            subst ho
            refine AOPS.all (by simp (disch := first | omega | (simp only [List.length_append, List.length_cons, List.length_nil, List.length_set, List.length_replicate, Int.toNat_natCast]; omega)) [idf_Wd']; rfl) ?_
            refine AAny.step [1] (by kernel_rfl) (by simp) ?_
            intro i hi o ho
            simp only [List.mem_cons, List.not_mem_nil, or_false] at hi
            subst hi
            · simp only [List.getElem?_toArray, List.getElem?_cons_zero, List.getElem?_cons_succ, Option.some.injEq] at ho
              subst ho
              refine AOPS.all (by simp (disch := first | omega | (simp only [List.length_append, List.length_cons, List.length_nil, List.length_set, List.length_replicate, Int.toNat_natCast]; omega)) [idf_Wd']; rfl) ?_
              refine AAny.step [5] (by kernel_rfl) (by simp) ?_
              intro i hi o ho
              simp only [List.mem_cons, List.not_mem_nil, or_false] at hi
              subst hi
              · simp only [List.getElem?_toArray, List.getElem?_cons_zero, List.getElem?_cons_succ, Option.some.injEq] at ho
                subst ho
                refine AOPS.all (by simp (disch := first | omega | (simp only [List.length_append, List.length_cons, List.length_nil, List.length_set, List.length_replicate, Int.toNat_natCast]; omega)) [idf_Wd']; rfl) ?_
                refine AAny.step [6] (by kernel_rfl) (by simp) ?_
                intro i hi o ho
                simp only [List.mem_cons, List.not_mem_nil, or_false] at hi
                subst hi
                · simp only [List.getElem?_toArray, List.getElem?_cons_zero, List.getElem?_cons_succ, Option.some.injEq] at ho
                  subst ho
                  refine AOPS.all (by simp (disch := first | omega | (simp only [List.length_append, List.length_cons, List.length_nil, List.length_set, List.length_replicate, Int.toNat_natCast]; omega)) [idf_Wd']; rfl) ?_
                  refine AAny.done (by kernel_rfl) ?_
                  refine hK12 _ ?_
                  refine AWP.ret ?_
                  exact hK _ _ _ _ _ trivial ((Fin.mk (r := .tup [.agg [.int .u64 (P1).x.a, .int .u64 (P1).x.b, .int .u64 (P1).x.c, .int .u64 (P1).x.d, .int .u64 (P1).y.a, .int .u64 (P1).y.b, .int .u64 (P1).y.c, .int .u64 (P1).y.d, .int .u64 (P1).w.a, .int .u64 (P1).w.b, .int .u64 (P1).w.c, .int .u64 (P1).w.d], .agg [.int .u64 (P2).x.a, .int .u64 (P2).x.b, .int .u64 (P2).x.c, .int .u64 (P2).x.d, .int .u64 (P2).y.a, .int .u64 (P2).y.b, .int .u64 (P2).y.c, .int .u64 (P2).y.d, .int .u64 (P2).w.a, .int .u64 (P2).w.b, .int .u64 (P2).w.c, .int .u64 (P2).w.d], .agg [.int .u64 (P3).x.a, .int .u64 (P3).x.b, .int .u64 (P3).x.c, .int .u64 (P3).x.d, .int .u64 (P3).y.a, .int .u64 (P3).y.b, .int .u64 (P3).y.c, .int .u64 (P3).y.d, .int .u64 (P3).w.a, .int .u64 (P3).w.b, .int .u64 (P3).w.c, .int .u64 (P3).w.d]]) (by simp (disch := omega) [aRes, aResL, aRes1, idf_Wd'])).restr (fun i => decide (i < nx))) (⟨⟨P1, P2, P3, P1o, P2o, P3o, rfl⟩, by simp (disch := first | omega | (simp; done) | (simp; omega)) [hrestr_in, hrestr_out, hrestr_all hd, hupd_same], by first | omega | (simp at *; omega)⟩)
      · simp only [List.getElem?_toArray, List.getElem?_cons_zero, List.getElem?_cons_succ, Option.some.injEq] at ho
        subst ho
        refine AOPS.all (by simp (disch := first | omega | (simp only [List.length_append, List.length_cons, List.length_nil, List.length_set, List.length_replicate, Int.toNat_natCast]; omega)) [idf_Wd']; rfl) ?_
        refine AAny.step [0, 3] (by kernel_rfl) (by simp) ?_
        intro i hi o ho
        simp only [List.mem_cons, List.not_mem_nil, or_false] at hi
        rcases hi with rfl | rfl
        · simp only [List.getElem?_toArray, List.getElem?_cons_zero, List.getElem?_cons_succ, Option.some.injEq] at ho
          subst ho
          refine AOPS.all (by simp (disch := first | omega | (simp only [List.length_append, List.length_cons, List.length_nil, List.length_set, List.length_replicate, Int.toNat_natCast]; omega)) [idf_Wd']; rfl) ?_
          refine AAny.step [3] (by kernel_rfl) (by simp) ?_
          intro i hi o ho
          simp only [List.mem_cons, List.not_mem_nil, or_false] at hi
          subst hi
          · simp only [List.getElem?_toArray, List.getElem?_cons_zero, List.getElem?_cons_succ, Option.some.injEq] at ho
            subst ho
            refine AOPS.old fun hold3 => ?_
            refine AOPS.acall (point_ac l p4 id _ _ dl hl hp4 (by simp (disch := omega) [hH]) hold3) rfl rfl rfl hb45 (by simp (disch := first | omega | (simp only [List.length_append, List.length_cons, List.length_nil, List.length_set, List.length_replicate, Int.toNat_natCast]; omega)) [idf_Wd', idf_Wd']) (by simp (disch := first | omega | (simp only [List.length_append, List.length_cons, List.length_nil, List.length_set, List.length_replicate, Int.toNat_natCast]; omega))) (by simp) ?_
            rintro _ _ nx5 ⟨⟨P3, rfl, P3o⟩, ⟨p5, hp5, rfl⟩, hnx5⟩
            try simp only [] at hnx5
            clear hold3
            simp only [puts_some, updo]
            refine AOPS.nil ?_
            refine AAny.step [4] (by kernel_rfl) (by simp) ?_
            intro i hi o ho
            simp only [List.mem_cons, List.not_mem_nil, or_false] at hi
            subst hi
            · simp only [List.getElem?_toArray, List.getElem?_cons_zero, List.getElem?_cons_succ, Option.some.injEq] at ho
              subst ho
              refine AOPS.all (by simp (disch := first | omega | (simp only [List.length_append, List.length_cons, List.length_nil, List.length_set, List.length_replicate, Int.toNat_natCast]; omega)) [idf_Wd']; rfl) ?_
              refine AAny.step [5] (by kernel_rfl) (by simp) ?_
              intro i hi o ho
              simp only [List.mem_cons, List.not_mem_nil, or_false] at hi
              subst hi
              · simp only [List.getElem?_toArray, List.getElem?_cons_zero, List.getElem?_cons_succ, Option.some.injEq] at ho
                subst ho
                refine AOPS.all (by simp (disch := first | omega | (simp only [List.length_append, List.length_cons, List.length_nil, List.length_set, List.length_replicate, Int.toNat_natCast]; omega)) [idf_Wd']; rfl) ?_
                refine AAny.step [6] (by kernel_rfl) (by simp) ?_
                intro i hi o ho
                simp only [List.mem_cons, List.not_mem_nil, or_false] at hi
                subst hi
                · simp only [List.getElem?_toArray, List.getElem?_cons_zero, List.getElem?_cons_succ, Option.some.injEq] at ho
                  subst ho
                  refine AOPS.all (by simp (disch := first | omega | (simp only [List.length_append, List.length_cons, List.length_nil, List.length_set, List.length_replicate, Int.toNat_natCast]; omega)) [idf_Wd']; rfl) ?_
                  refine AAny.done (by kernel_rfl) ?_
                  refine hK12 _ ?_
                  refine AWP.ret ?_
                  exact hK _ _ _ _ _ trivial ((Fin.mk (r := .tup [.agg [.int .u64 (P1).x.a, .int .u64 (P1).x.b, .int .u64 (P1).x.c, .int .u64 (P1).x.d, .int .u64 (P1).y.a, .int .u64 (P1).y.b, .int .u64 (P1).y.c, .int .u64 (P1).y.d, .int .u64 (P1).w.a, .int .u64 (P1).w.b, .int .u64 (P1).w.c, .int .u64 (P1).w.d], .agg [.int .u64 (P2).x.a, .int .u64 (P2).x.b, .int .u64 (P2).x.c, .int .u64 (P2).x.d, .int .u64 (P2).y.a, .int .u64 (P2).y.b, .int .u64 (P2).y.c, .int .u64 (P2).y.d, .int .u64 (P2).w.a, .int .u64 (P2).w.b, .int .u64 (P2).w.c, .int .u64 (P2).w.d], .agg [.int .u64 (P3).x.a, .int .u64 (P3).x.b, .int .u64 (P3).x.c, .int .u64 (P3).x.d, .int .u64 (P3).y.a, .int .u64 (P3).y.b, .int .u64 (P3).y.c, .int .u64 (P3).y.d, .int .u64 (P3).w.a, .int .u64 (P3).w.b, .int .u64 (P3).w.c, .int .u64 (P3).w.d]]) (by simp (disch := omega) [aRes, aResL, aRes1, idf_Wd'])).restr (fun i => decide (i < nx))) (⟨⟨P1, P2, P3, P1o, P2o, P3o, rfl⟩, by simp (disch := first | omega | (simp; done) | (simp; omega)) [hrestr_in, hrestr_out, hrestr_all hd, hupd_same], by first | omega | (simp at *; omega)⟩)
        · simp only [List.getElem?_toArray, List.getElem?_cons_zero, List.getElem?_cons_succ, Option.some.injEq] at ho
          subst ho
          refine AOPS.old fun hold3 => ?_
          refine AOPS.acall (point_ac l p4 id _ _ dl hl hp4 (by simp (disch := omega) [hH]) hold3) rfl rfl rfl hb45 (by simp (disch := first | omega | (simp only [List.length_append, List.length_cons, List.length_nil, List.length_set, List.length_replicate, Int.toNat_natCast]; omega)) [idf_Wd', idf_Wd']) (by simp (disch := first | omega | (simp only [List.length_append, List.length_cons, List.length_nil, List.length_set, List.length_replicate, Int.toNat_natCast]; omega))) (by simp) ?_
          rintro _ _ nx5 ⟨⟨P3, rfl, P3o⟩, ⟨p5, hp5, rfl⟩, hnx5⟩
          try simp only [] at hnx5
          clear hold3
          simp only [puts_some, updo]
          refine AOPS.nil ?_
          refine AAny.step [0] (by kernel_rfl) (by simp) ?_
          intro i hi o ho
          simp only [List.mem_cons, List.not_mem_nil, or_false] at hi
          subst hi
          · simp only [List.getElem?_toArray, List.getElem?_cons_zero, List.getElem?_cons_succ, Option.some.injEq] at ho
            subst ho
            refine AOPS.all (by simp (disch := first | omega | (simp only [List.length_append, List.length_cons, List.length_nil, List.length_set, List.length_replicate, Int.toNat_natCast]; omega)) [idf_Wd']; rfl) ?_
            refine AAny.step [4] (by kernel_rfl) (by simp) ?_
            intro i hi o ho
            simp only [List.mem_cons, List.not_mem_nil, or_false] at hi
            subst hi
            · simp only [List.getElem?_toArray, List.getElem?_cons_zero, List.getElem?_cons_succ, Option.some.injEq] at ho
              subst ho
              refine AOPS.all (by simp (disch := first | omega | (simp only [List.length_append, List.length_cons, List.length_nil, List.length_set, List.length_replicate, Int.toNat_natCast]; omega)) [idf_Wd']; rfl) ?_
              refine AAny.step [5] (by kernel_rfl) (by simp) ?_
              intro i hi o ho
              simp only [List.mem_cons, List.not_mem_nil, or_false] at hi
              subst hi
              · simp only [List.getElem?_toArray, List.getElem?_cons_zero, List.getElem?_cons_succ, Option.some.injEq] at ho
                subst ho
                refine AOPS.all (by simp (disch := first | omega | (simp only [List.length_append, List.length_cons, List.length_nil, List.length_set, List.length_replicate, Int.toNat_natCast]; omega)) [idf_Wd']; rfl) ?_
                refine AAny.step [6] (by kernel_rfl) (by simp) ?_
                intro i hi o ho
                simp only [List.mem_cons, List.not_mem_nil, or_false] at hi
                subst hi
                · simp only [List.getElem?_toArray, List.getElem?_cons_zero, List.getElem?_cons_succ, Option.some.injEq] at ho
                  subst ho
                  refine AOPS.all (by simp (disch := first | omega | (simp only [List.length_append, List.length_cons, List.length_nil, List.length_set, List.length_replicate, Int.toNat_natCast]; omega)) [idf_Wd']; rfl) ?_
                  refine AAny.done (by kernel_rfl) ?_
                  refine hK12 _ ?_
                  refine AWP.ret ?_
                  exact hK _ _ _ _ _ trivial ((Fin.mk (r := .tup [.agg [.int .u64 (P1).x.a, .int .u64 (P1).x.b, .int .u64 (P1).x.c, .int .u64 (P1).x.d, .int .u64 (P1).y.a, .int .u64 (P1).y.b, .int .u64 (P1).y.c, .int .u64 (P1).y.d, .int .u64 (P1).w.a, .int .u64 (P1).w.b, .int .u64 (P1).w.c, .int .u64 (P1).w.d], .agg [.int .u64 (P2).x.a, .int .u64 (P2).x.b, .int .u64 (P2).x.c, .int .u64 (P2).x.d, .int .u64 (P2).y.a, .int .u64 (P2).y.b, .int .u64 (P2).y.c, .int .u64 (P2).y.d, .int .u64 (P2).w.a, .int .u64 (P2).w.b, .int .u64 (P2).w.c, .int .u64 (P2).w.d], .agg [.int .u64 (P3).x.a, .int .u64 (P3).x.b, .int .u64 (P3).x.c, .int .u64 (P3).x.d, .int .u64 (P3).y.a, .int .u64 (P3).y.b, .int .u64 (P3).y.c, .int .u64 (P3).y.d, .int .u64 (P3).w.a, .int .u64 (P3).w.b, .int .u64 (P3).w.c, .int .u64 (P3).w.d]]) (by simp (disch := omega) [aRes, aResL, aRes1, idf_Wd'])).restr (fun i => decide (i < nx))) (⟨⟨P1, P2, P3, P1o, P2o, P3o, rfl⟩, by simp (disch := first | omega | (simp; done) | (simp; omega)) [hrestr_in, hrestr_out, hrestr_all hd, hupd_same], by first | omega | (simp at *; omega)⟩)
      · simp only [List.getElem?_toArray, List.getElem?_cons_zero, List.getElem?_cons_succ, Option.some.injEq] at ho
        subst ho
        refine AOPS.old fun hold3 => ?_
        refine AOPS.acall (point_ac l p4 id _ _ dl hl hp4 (by simp (disch := omega) [hH]) hold3) rfl rfl rfl hb45 (by simp (disch := first | omega | (simp only [List.length_append, List.length_cons, List.length_nil, List.length_set, List.length_replicate, Int.toNat_natCast]; omega)) [idf_Wd', idf_Wd']) (by simp (disch := first | omega | (simp only [List.length_append, List.length_cons, List.length_nil, List.length_set, List.length_replicate, Int.toNat_natCast]; omega))) (by simp) ?_
        rintro _ _ nx5 ⟨⟨P3, rfl, P3o⟩, ⟨p5, hp5, rfl⟩, hnx5⟩
        try simp only [] at hnx5
        clear hold3
        simp only [puts_some, updo]
        refine AOPS.nil ?_
        refine AAny.step [0, 1] (by kernel_rfl) (by simp) ?_
        intro i hi o ho
        simp only [List.mem_cons, List.not_mem_nil, or_false] at hi
        rcases hi with rfl | rfl
        · simp only [List.getElem?_toArray, List.getElem?_cons_zero, List.getElem?_cons_succ, Option.some.injEq] at ho
          subst ho
          refine AOPS.all (by simp (disch := first | omega | (simp only [List.length_append, List.length_cons, List.length_nil, List.length_set, List.length_replicate, Int.toNat_natCast]; omega)) [idf_Wd']; rfl) ?_
          refine AAny.step [1, 4] (by kernel_rfl) (by simp) ?_
          intro i hi o ho
          simp only [List.mem_cons, List.not_mem_nil, or_false] at hi
          rcases hi with rfl | rfl
          · simp only [List.getElem?_toArray, List.getElem?_cons_zero, List.getElem?_cons_succ, Option.some.injEq] at ho
            subst ho
            refine AOPS.all (by simp (disch := first | omega | (simp only [List.length_append, List.length_cons, List.length_nil, List.length_set, List.length_replicate, Int.toNat_natCast]; omega)) [idf_Wd']; rfl) ?_
            refine AAny.step [4] (by kernel_rfl) (by simp) ?_
            intro i hi o ho
            simp only [List.mem_cons, List.not_mem_nil, or_false] at hi
            subst hi
            · simp only [List.getElem?_toArray, List.getElem?_cons_zero, List.getElem?_cons_succ, Option.some.injEq] at ho
              subst ho
              refine AOPS.all (by simp (disch := first | omega | (simp only [List.length_append, List.length_cons, List.length_nil, List.length_set, List.length_replicate, Int.toNat_natCast]; omega)) [idf_Wd']; rfl) ?_
              refine AAny.step [5] (by kernel_rfl) (by simp) ?_
              intro i hi o ho
              simp only [List.mem_cons, List.not_mem_nil, or_false] at hi
              subst hi
              · simp only [List.getElem?_toArray, List.getElem?_cons_zero, List.getElem?_cons_succ, Option.some.injEq] at ho
                subst ho
                refine AOPS.all (by simp (disch := first | omega | (simp only [List.length_append, List.length_cons, List.length_nil, List.length_set, List.length_replicate, Int.toNat_natCast]; omega)) [idf_Wd']; rfl) ?_
                refine AAny.step [6] (by kernel_rfl) (by simp) ?_
                intro i hi o ho
                simp only [List.mem_cons, List.not_mem_nil, or_false] at hi
                subst hi
                · simp only [List.getElem?_toArray, List.getElem?_cons_zero, List.getElem?_cons_succ, Option.some.injEq] at ho
                  subst ho
                  refine AOPS.all (by simp (disch := first | omega | (simp only [List.length_append, List.length_cons, List.length_nil, List.length_set, List.length_replicate, Int.toNat_natCast]; omega)) [idf_Wd']; rfl) ?_
                  refine AAny.done (by kernel_rfl) ?_
                  refine hK12 _ ?_
                  refine AWP.ret ?_
                  exact hK _ _ _ _ _ trivial ((Fin.mk (r := .tup [.agg [.int .u64 (P1).x.a, .int .u64 (P1).x.b, .int .u64 (P1).x.c, .int .u64 (P1).x.d, .int .u64 (P1).y.a, .int .u64 (P1).y.b, .int .u64 (P1).y.c, .int .u64 (P1).y.d, .int .u64 (P1).w.a, .int .u64 (P1).w.b, .int .u64 (P1).w.c, .int .u64 (P1).w.d], .agg [.int .u64 (P2).x.a, .int .u64 (P2).x.b, .int .u64 (P2).x.c, .int .u64 (P2).x.d, .int .u64 (P2).y.a, .int .u64 (P2).y.b, .int .u64 (P2).y.c, .int .u64 (P2).y.d, .int .u64 (P2).w.a, .int .u64 (P2).w.b, .int .u64 (P2).w.c, .int .u64 (P2).w.d], .agg [.int .u64 (P3).x.a, .int .u64 (P3).x.b, .int .u64 (P3).x.c, .int .u64 (P3).x.d, .int .u64 (P3).y.a, .int .u64 (P3).y.b, .int .u64 (P3).y.c, .int .u64 (P3).y.d, .int .u64 (P3).w.a, .int .u64 (P3).w.b, .int .u64 (P3).w.c, .int .u64 (P3).w.d]]) (by simp (disch := omega) [aRes, aResL, aRes1, idf_Wd'])).restr (fun i => decide (i < nx))) (⟨⟨P1, P2, P3, P1o, P2o, P3o, rfl⟩, by simp (disch := first | omega | (simp; done) | (simp; omega)) [hrestr_in, hrestr_out, hrestr_all hd, hupd_same], by first | omega | (simp at *; omega)⟩)
          · simp only [List.getElem?_toArray, List.getElem?_cons_zero, List.getElem?_cons_succ, Option.some.injEq] at ho
            subst ho
            refine AOPS.all (by simp (disch := first | omega | (simp only [List.length_append, List.length_cons, List.length_nil, List.length_set, List.length_replicate, Int.toNat_natCast]; omega)) [idf_Wd']; rfl) ?_
            refine AAny.step [1] (by kernel_rfl) (by simp) ?_
            intro i hi o ho
            simp only [List.mem_cons, List.not_mem_nil, or_false] at hi
            subst hi
            · simp only [List.getElem?_toArray, List.getElem?_cons_zero, List.getElem?_cons_succ, Option.some.injEq] at ho
              subst ho
              refine AOPS.all (by simp (disch := first | omega | (simp only [List.length_append, List.length_cons, List.length_nil, List.length_set, List.length_replicate, Int.toNat_natCast]; omega)) [idf_Wd']; rfl) ?_
              refine AAny.step [5] (by kernel_rfl) (by simp) ?_
              intro i hi o ho
              simp only [List.mem_cons, List.not_mem_nil, or_false] at hi
              subst hi
              · simp only [List.getElem?_toArray, List.getElem?_cons_zero, List.getElem?_cons_succ, Option.some.injEq] at ho
                subst ho
                refine AOPS.all (by simp (disch := first | omega | (simp only [List.length_append, List.length_cons, List.length_nil, List.length_set, List.length_replicate, Int.toNat_natCast]; omega)) [idf_Wd']; rfl) ?_
                refine AAny.step [6] (by kernel_rfl) (by simp) ?_
                intro i hi o ho
                simp only [List.mem_cons, List.not_mem_nil, or_false] at hi
                subst hi
                · simp only [List.getElem?_toArray, List.getElem?_cons_zero, List.getElem?_cons_succ, Option.some.injEq] at ho
                  subst ho
                  refine AOPS.all (by simp (disch := first | omega | (simp only [List.length_append, List.length_cons, List.length_nil, List.length_set, List.length_replicate, Int.toNat_natCast]; omega)) [idf_Wd']; rfl) ?_
                  refine AAny.done (by kernel_rfl) ?_
                  refine hK12 _ ?_
                  refine AWP.ret ?_
                  exact hK _ _ _ _ _ trivial ((Fin.mk (r := .tup [.agg [.int .u64 (P1).x.a, .int .u64 (P1).x.b, .int .u64 (P1).x.c, .int .u64 (P1).x.d, .int .u64 (P1).y.a, .int .u64 (P1).y.b, .int .u64 (P1).y.c, .int .u64 (P1).y.d, .int .u64 (P1).w.a, .int .u64 (P1).w.b, .int .u64 (P1).w.c, .int .u64 (P1).w.d], .agg [.int .u64 (P2).x.a, .int .u64 (P2).x.b, .int .u64 (P2).x.c, .int .u64 (P2).x.d, .int .u64 (P2).y.a, .int .u64 (P2).y.b, .int .u64 (P2).y.c, .int .u64 (P2).y.d, .int .u64 (P2).w.a, .int .u64 (P2).w.b, .int .u64 (P2).w.c, .int .u64 (P2).w.d], .agg [.int .u64 (P3).x.a, .int .u64 (P3).x.b, .int .u64 (P3).x.c, .int .u64 (P3).x.d, .int .u64 (P3).y.a, .int .u64 (P3).y.b, .int .u64 (P3).y.c, .int .u64 (P3).y.d, .int .u64 (P3).w.a, .int .u64 (P3).w.b, .int .u64 (P3).w.c, .int .u64 (P3).w.d]]) (by simp (disch := omega) [aRes, aResL, aRes1, idf_Wd'])).restr (fun i => decide (i < nx))) (⟨⟨P1, P2, P3, P1o, P2o, P3o, rfl⟩, by simp (disch := first | omega | (simp; done) | (simp; omega)) [hrestr_in, hrestr_out, hrestr_all hd, hupd_same], by first | omega | (simp at *; omega)⟩)
        · simp only [List.getElem?_toArray, List.getElem?_cons_zero, List.getElem?_cons_succ, Option.some.injEq] at ho
          subst ho
          refine AOPS.all (by simp (disch := first | omega | (simp only [List.length_append, List.length_cons, List.length_nil, List.length_set, List.length_replicate, Int.toNat_natCast]; omega)) [idf_Wd']; rfl) ?_
          refine AAny.step [0] (by kernel_rfl) (by simp) ?_
          intro i hi o ho
          simp only [List.mem_cons, List.not_mem_nil, or_false] at hi
          subst hi
          · simp only [List.getElem?_toArray, List.getElem?_cons_zero, List.getElem?_cons_succ, Option.some.injEq] at ho
            subst ho
            refine AOPS.all (by simp (disch := first | omega | (simp only [List.length_append, List.length_cons, List.length_nil, List.length_set, List.length_replicate, Int.toNat_natCast]; omega)) [idf_Wd']; rfl) ?_
            refine AAny.step [4] (by kernel_rfl) (by simp) ?_
            intro i hi o ho
            simp only [List.mem_cons, List.not_mem_nil, or_false] at hi
            subst hi
            · simp only [List.getElem?_toArray, List.getElem?_cons_zero, List.getElem?_cons_succ, Option.some.injEq] at ho
              subst ho
              refine AOPS.all (by simp (disch := first | omega | (simp only [List.length_append, List.length_cons, List.length_nil, List.length_set, List.length_replicate, Int.toNat_natCast]; omega)) [idf_Wd']; rfl) ?_
              refine AAny.step [5] (by kernel_rfl) (by simp) ?_
              intro i hi o ho
              simp only [List.mem_cons, List.not_mem_nil, or_false] at hi
              subst hi
              · simp only [List.getElem?_toArray, List.getElem?_cons_zero, List.getElem?_cons_succ, Option.some.injEq] at ho
                subst ho
                refine AOPS.all (by simp (disch := first | omega | (simp only [List.length_append, List.length_cons, List.length_nil, List.length_set, List.length_replicate, Int.toNat_natCast]; omega)) [idf_Wd']; rfl) ?_
                refine AAny.step [6] (by kernel_rfl) (by simp) ?_
                intro i hi o ho
                simp only [List.mem_cons, List.not_mem_nil, or_false] at hi
                subst hi
                · simp only [List.getElem?_toArray, List.getElem?_cons_zero, List.getElem?_cons_succ, Option.some.injEq] at ho
                  subst ho
                  refine AOPS.all (by simp (disch := first | omega | (simp only [List.length_append, List.length_cons, List.length_nil, List.length_set, List.length_replicate, Int.toNat_natCast]; omega)) [idf_Wd']; rfl) ?_
                  refine AAny.done (by kernel_rfl) ?_
                  refine hK12 _ ?_
                  refine AWP.ret ?_
                  exact hK _ _ _ _ _ trivial ((Fin.mk (r := .tup [.agg [.int .u64 (P1).x.a, .int .u64 (P1).x.b, .int .u64 (P1).x.c, .int .u64 (P1).x.d, .int .u64 (P1).y.a, .int .u64 (P1).y.b, .int .u64 (P1).y.c, .int .u64 (P1).y.d, .int .u64 (P1).w.a, .int .u64 (P1).w.b, .int .u64 (P1).w.c, .int .u64 (P1).w.d], .agg [.int .u64 (P2).x.a, .int .u64 (P2).x.b, .int .u64 (P2).x.c, .int .u64 (P2).x.d, .int .u64 (P2).y.a, .int .u64 (P2).y.b, .int .u64 (P2).y.c, .int .u64 (P2).y.d, .int .u64 (P2).w.a, .int .u64 (P2).w.b, .int .u64 (P2).w.c, .int .u64 (P2).w.d], .agg [.int .u64 (P3).x.a, .int .u64 (P3).x.b, .int .u64 (P3).x.c, .int .u64 (P3).x.d, .int .u64 (P3).y.a, .int .u64 (P3).y.b, .int .u64 (P3).y.c, .int .u64 (P3).y.d, .int .u64 (P3).w.a, .int .u64 (P3).w.b, .int .u64 (P3).w.c, .int .u64 (P3).w.d]]) (by simp (disch := omega) [aRes, aResL, aRes1, idf_Wd'])).restr (fun i => decide (i < nx))) (⟨⟨P1, P2, P3, P1o, P2o, P3o, rfl⟩, by simp (disch := first | omega | (simp; done) | (simp; omega)) [hrestr_in, hrestr_out, hrestr_all hd, hupd_same], by first | omega | (simp at *; omega)⟩)

theorem big_fc (l : List Int) : FC Try.prog 14 [Wd .u8 l] (.bool (decide (1048576 < (l.length : Int)))) := by
  refine FC.body Try.func14 rfl (by simp [idfL, idf, idfLL_iff, idf_Wd']) (by simp [idfL, idf, idfLL_iff, idf_Wd']) 6 rfl fun nx K hK => ?_
  refine AWP.seqk fun K1 hK1 => ?_
  refine AWP.region (AOPS.all (by simp (disch := first | omega | (simp only [List.length_append, List.length_cons, List.length_nil, List.length_set, List.length_replicate, Int.toNat_natCast]; omega)) [idf_Wd']; rfl) ?_)
  refine hK1 _ ?_
  refine AWP.seqk fun K2 hK2 => ?_
  refine AWP.region (AOPS.all (by simp (disch := first | omega | (simp only [List.length_append, List.length_cons, List.length_nil, List.length_set, List.length_replicate, Int.toNat_natCast]; omega)) [len_Wd (P := Try.prog) #[29] rfl elT29, idf_Wd']; rfl) ?_)
  refine hK2 _ ?_
  refine AWP.ret ?_
  exact hK _ _ _ _ trivial (Fin.mk (by simp (disch := first | omega | (simp only [List.length_append, List.length_cons, List.length_nil, List.length_set, List.length_replicate, Int.toNat_natCast]; omega)) [aRes, aResL, aRes1, idf_Wd']))

set_option maxHeartbeats 8000000 in
theorem fnTurns_fc (l : List Int) (dl : Dig 256 l) : FC Try.prog 4 [Wd .u8 l] (.bool true) := by
  refine FC.body Try.func4 rfl (by simp [idfL, idf, idfLL_iff, idf_Wd']) (by simp [idfL, idf, idfLL_iff, idf_Wd']) 73 rfl fun nx K hK => ?_
  refine AWP.seqk fun K1 hK1 => ?_
  refine AWP.region (AOPS.all (by simp (disch := first | omega | (simp only [List.length_append, List.length_cons, List.length_nil, List.length_set, List.length_replicate, Int.toNat_natCast]; omega)) [idf_Wd']; rfl) ?_)
  refine hK1 _ ?_
  refine AWP.seqk fun K2 hK2 => ?_
  refine AWP.seqk fun K3 hK3 => ?_
  refine AWP.region ?_
  refine AOPS.runk 1 (by simp (disch := first | omega | (simp only [List.length_append, List.length_cons, List.length_nil, List.length_set, List.length_replicate, Int.toNat_natCast]; omega)) [List.take_succ_cons, List.take_zero, idf_Wd']; rfl) ?_
  simp only [List.drop_succ_cons, List.drop_zero]
  refine AOPS.fcall (big_fc l) rfl rfl rfl hb14 (by simp (disch := first | omega | (simp only [List.length_append, List.length_cons, List.length_nil, List.length_set, List.length_replicate, Int.toNat_natCast]; omega)) [idf_Wd', idf_Wd']) (by simp (disch := first | omega | (simp only [List.length_append, List.length_cons, List.length_nil, List.length_set, List.length_replicate, Int.toNat_natCast]; omega))) (by simp) ?_
  simp only [puts_some, updo]
  refine AOPS.nil ?_
  refine hK3 _ ?_
  refine cond_ok (decide (1048576 < (l.length : Int))) (by simp (disch := first | omega | (simp only [List.length_append, List.length_cons, List.length_nil, List.length_set, List.length_replicate, Int.toNat_natCast]; omega))) (fun h8 => ?_) (fun h8 => ?_)
  · try simp only [decide_eq_true_eq, decide_eq_false_iff_not] at h8
    refine AWP.seqk fun K4 hK4 => ?_
    refine AWP.region (AOPS.all (by simp (disch := first | omega | (simp only [List.length_append, List.length_cons, List.length_nil, List.length_set, List.length_replicate, Int.toNat_natCast]; omega)) [idf_Wd']; rfl) ?_)
    refine hK4 _ ?_
    refine AWP.ret ?_
    exact hK _ _ _ _ trivial (Fin.mk (by simp (disch := first | omega | (simp only [List.length_append, List.length_cons, List.length_nil, List.length_set, List.length_replicate, Int.toNat_natCast]; omega)) [aRes, aResL, aRes1, idf_Wd']))
  · try simp only [decide_eq_true_eq, decide_eq_false_iff_not] at h8
    have hl : l.length ≤ 1048576 := by omega
    refine AWP.skip ?_
    refine hK2 _ ?_
    refine AWP.seqk fun K5 hK5 => ?_
    refine AWP.region ?_
    refine AOPS.runk 1 (by simp (disch := first | omega | (simp only [List.length_append, List.length_cons, List.length_nil, List.length_set, List.length_replicate, Int.toNat_natCast]; omega)) [List.take_succ_cons, List.take_zero, idf_Wd']; rfl) ?_
    simp only [List.drop_succ_cons, List.drop_zero]
    refine AOPS.old fun hold1 => ?_
    refine AOPS.acall (drawOrient_ac l _ _ dl hl hold1) rfl rfl rfl hb15 (by simp (disch := first | omega | (simp only [List.length_append, List.length_cons, List.length_nil, List.length_set, List.length_replicate, Int.toNat_natCast]; omega)) [idf_Wd', idf_Wd']) (by simp (disch := first | omega | (simp only [List.length_append, List.length_cons, List.length_nil, List.length_set, List.length_replicate, Int.toNat_natCast]; omega))) (by simp) ?_
    rintro _ _ nx1 ⟨⟨P, Q, S, Po, Qo, So, rfl⟩, rfl, hnx1⟩
    clear hold1
    have o1 := orientI_fc P Q S Po Qo So
    have o2 := orientS_fc P Q S Po Qo So
    have o3 := orientI_fc Q S P Qo So Po
    rw [orV_rot] at o3
    have o4 := orientI_fc S P Q So Po Qo
    rw [orV_rot Q S P, orV_rot] at o4
    have o5 := orientI_fc Q P S Qo Po So
    rw [orV_swap] at o5
    have o6 := orientI_fc P S Q Po So Qo
    rw [orV_swap2] at o6
    have o7 := orientI_fc P P S Po Po So
    rw [orV_same] at o7
    have o8 := orientI_fc P Q Q Po Qo Qo
    rw [orV_same2] at o8
    have hb := orV_b P Q S
    generalize orV P Q S = V at *
    have hn : IntKind.i64.wrap (- -V) = V := by rw [Int.neg_neg]; exact wrap_i64s (by omega) (by omega)
    simp only [puts_some, updo]
    refine AOPS.all (by simp (disch := first | omega | (simp only [List.length_append, List.length_cons, List.length_nil, List.length_set, List.length_replicate, Int.toNat_natCast]; omega)) [idf_Wd']; rfl) ?_
    refine hK5 _ ?_
    refine AWP.seqk fun K6 hK6 => ?_
    refine AWP.region ?_
    refine AOPS.runk 3 (by simp (disch := first | omega | (simp only [List.length_append, List.length_cons, List.length_nil, List.length_set, List.length_replicate, Int.toNat_natCast]; omega)) [List.take_succ_cons, List.take_zero, idf_Wd', Pt.av, Pt.cells]; rfl) ?_
    simp only [List.drop_succ_cons, List.drop_zero]
    refine AOPS.fcall (o1) rfl rfl rfl hb16 (by simp (disch := first | omega | (simp only [List.length_append, List.length_cons, List.length_nil, List.length_set, List.length_replicate, Int.toNat_natCast]; omega)) [idf_Wd', Pt.av, Pt.cells, idf_Wd']) (by simp (disch := first | omega | (simp only [List.length_append, List.length_cons, List.length_nil, List.length_set, List.length_replicate, Int.toNat_natCast]; omega)) [Pt.av, Pt.cells]) (by simp) ?_
    simp only [puts_some, updo]
    refine AOPS.all (by simp (disch := first | omega | (simp only [List.length_append, List.length_cons, List.length_nil, List.length_set, List.length_replicate, Int.toNat_natCast]; omega)) [idf_Wd', Pt.av, Pt.cells]; rfl) ?_
    refine hK6 _ ?_
    refine AWP.seqk fun K7 hK7 => ?_
    refine AWP.region ?_
    refine AOPS.runk 4 (by simp (disch := first | omega | (simp only [List.length_append, List.length_cons, List.length_nil, List.length_set, List.length_replicate, Int.toNat_natCast]; omega)) [List.take_succ_cons, List.take_zero, idf_Wd', Pt.av, Pt.cells, hn]; rfl) ?_
    simp only [List.drop_succ_cons, List.drop_zero]
    refine AOPS.fcall (o2) rfl rfl rfl hb17 (by simp (disch := first | omega | (simp only [List.length_append, List.length_cons, List.length_nil, List.length_set, List.length_replicate, Int.toNat_natCast]; omega)) [idf_Wd', Pt.av, Pt.cells, hn, idf_Wd']) (by simp (disch := first | omega | (simp only [List.length_append, List.length_cons, List.length_nil, List.length_set, List.length_replicate, Int.toNat_natCast]; omega)) [Pt.av, Pt.cells, hn]) (by simp) ?_
    simp only [puts_some, updo]
    refine AOPS.runk 6 (by simp (disch := first | omega | (simp only [List.length_append, List.length_cons, List.length_nil, List.length_set, List.length_replicate, Int.toNat_natCast]; omega)) [List.take_succ_cons, List.take_zero, idf_Wd', Pt.av, Pt.cells, hn]; rfl) ?_
    simp only [List.drop_succ_cons, List.drop_zero]
    refine AOPS.fcall (o3) rfl rfl rfl hb16 (by simp (disch := first | omega | (simp only [List.length_append, List.length_cons, List.length_nil, List.length_set, List.length_replicate, Int.toNat_natCast]; omega)) [idf_Wd', Pt.av, Pt.cells, hn, idf_Wd']) (by simp (disch := first | omega | (simp only [List.length_append, List.length_cons, List.length_nil, List.length_set, List.length_replicate, Int.toNat_natCast]; omega)) [Pt.av, Pt.cells, hn]) (by simp) ?_
    simp only [puts_some, updo]
    refine AOPS.runk 7 (by simp (disch := first | omega | (simp only [List.length_append, List.length_cons, List.length_nil, List.length_set, List.length_replicate, Int.toNat_natCast]; omega)) [List.take_succ_cons, List.take_zero, idf_Wd', Pt.av, Pt.cells, hn]; rfl) ?_
    simp only [List.drop_succ_cons, List.drop_zero]
    refine AOPS.fcall (o4) rfl rfl rfl hb16 (by simp (disch := first | omega | (simp only [List.length_append, List.length_cons, List.length_nil, List.length_set, List.length_replicate, Int.toNat_natCast]; omega)) [idf_Wd', Pt.av, Pt.cells, hn, idf_Wd']) (by simp (disch := first | omega | (simp only [List.length_append, List.length_cons, List.length_nil, List.length_set, List.length_replicate, Int.toNat_natCast]; omega)) [Pt.av, Pt.cells, hn]) (by simp) ?_
    simp only [puts_some, updo]
    refine AOPS.runk 7 (by simp (disch := first | omega | (simp only [List.length_append, List.length_cons, List.length_nil, List.length_set, List.length_replicate, Int.toNat_natCast]; omega)) [List.take_succ_cons, List.take_zero, idf_Wd', Pt.av, Pt.cells, hn]; rfl) ?_
    simp only [List.drop_succ_cons, List.drop_zero]
    refine AOPS.fcall (o5) rfl rfl rfl hb16 (by simp (disch := first | omega | (simp only [List.length_append, List.length_cons, List.length_nil, List.length_set, List.length_replicate, Int.toNat_natCast]; omega)) [idf_Wd', Pt.av, Pt.cells, hn, idf_Wd']) (by simp (disch := first | omega | (simp only [List.length_append, List.length_cons, List.length_nil, List.length_set, List.length_replicate, Int.toNat_natCast]; omega)) [Pt.av, Pt.cells, hn]) (by simp) ?_
    simp only [puts_some, updo]
    refine AOPS.runk 8 (by simp (disch := first | omega | (simp only [List.length_append, List.length_cons, List.length_nil, List.length_set, List.length_replicate, Int.toNat_natCast]; omega)) [List.take_succ_cons, List.take_zero, idf_Wd', Pt.av, Pt.cells, hn]; rfl) ?_
    simp only [List.drop_succ_cons, List.drop_zero]
    refine AOPS.fcall (o6) rfl rfl rfl hb16 (by simp (disch := first | omega | (simp only [List.length_append, List.length_cons, List.length_nil, List.length_set, List.length_replicate, Int.toNat_natCast]; omega)) [idf_Wd', Pt.av, Pt.cells, hn, idf_Wd']) (by simp (disch := first | omega | (simp only [List.length_append, List.length_cons, List.length_nil, List.length_set, List.length_replicate, Int.toNat_natCast]; omega)) [Pt.av, Pt.cells, hn]) (by simp) ?_
    simp only [puts_some, updo]
    refine AOPS.runk 7 (by simp (disch := first | omega | (simp only [List.length_append, List.length_cons, List.length_nil, List.length_set, List.length_replicate, Int.toNat_natCast]; omega)) [List.take_succ_cons, List.take_zero, idf_Wd', Pt.av, Pt.cells, hn]; rfl) ?_
    simp only [List.drop_succ_cons, List.drop_zero]
    refine AOPS.fcall (o7) rfl rfl rfl hb16 (by simp (disch := first | omega | (simp only [List.length_append, List.length_cons, List.length_nil, List.length_set, List.length_replicate, Int.toNat_natCast]; omega)) [idf_Wd', Pt.av, Pt.cells, hn, idf_Wd']) (by simp (disch := first | omega | (simp only [List.length_append, List.length_cons, List.length_nil, List.length_set, List.length_replicate, Int.toNat_natCast]; omega)) [Pt.av, Pt.cells, hn]) (by simp) ?_
    simp only [puts_some, updo]
    refine AOPS.runk 6 (by simp (disch := first | omega | (simp only [List.length_append, List.length_cons, List.length_nil, List.length_set, List.length_replicate, Int.toNat_natCast]; omega)) [List.take_succ_cons, List.take_zero, idf_Wd', Pt.av, Pt.cells, hn]; rfl) ?_
    simp only [List.drop_succ_cons, List.drop_zero]
    refine AOPS.fcall (o8) rfl rfl rfl hb16 (by simp (disch := first | omega | (simp only [List.length_append, List.length_cons, List.length_nil, List.length_set, List.length_replicate, Int.toNat_natCast]; omega)) [idf_Wd', Pt.av, Pt.cells, hn, idf_Wd']) (by simp (disch := first | omega | (simp only [List.length_append, List.length_cons, List.length_nil, List.length_set, List.length_replicate, Int.toNat_natCast]; omega)) [Pt.av, Pt.cells, hn]) (by simp) ?_
    simp only [puts_some, updo]
    refine AOPS.all (by simp (disch := first | omega | (simp only [List.length_append, List.length_cons, List.length_nil, List.length_set, List.length_replicate, Int.toNat_natCast]; omega)) [idf_Wd', Pt.av, Pt.cells, hn]; rfl) ?_
    refine hK7 _ ?_
    refine AWP.ret ?_
    exact hK _ _ _ _ trivial (Fin.mk (by simp (disch := first | omega | (simp only [List.length_append, List.length_cons, List.length_nil, List.length_set, List.length_replicate, Int.toNat_natCast]; omega)) [aRes, aResL, aRes1, idf_Wd']))

end Go.Proofs.Ytdcggmbnjonemaa
